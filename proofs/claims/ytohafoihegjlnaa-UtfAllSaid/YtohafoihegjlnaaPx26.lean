-- written by a print that this session turned (wip/tools/turnprint.py)
import Derived.Test.YtohafoihegjlnaaPx0
import Derived.Test.YtohafoihegjlnaaPx25
namespace Go.Proofs.Ytohafoihegjlnaa.P
open Go.RowKit Go.Proofs.YtohafoihegjlnaaW.PrintWords Go.Proofs.YtohafoihegjlnaaW.PrintLast Go.Proofs.YtohafoihegjlnaaW.PrintMore
attribute [local go_sem] max2_int min2_int max_two min_two max_three min_three max_four min_four   -- for this text's walks alone
set_option linter.unusedVariables false
set_option linter.unusedSimpArgs false

/-! ### rotulusref1_One: function 44 -/
mutual
def rotulusref1_One.l0 : Nat → ByteArray → List (S75) → Int → Int → Option (Int × Bool)
 | 0, _, _, _, _ => none
 | k + 1, x0, x4, x5, x6 => if x6 < (x4.length : Int) then (rotulusref1_One.l1 k x0 x4 x5 x6 0) else (some (x5, false))
def rotulusref1_One.l1 : Nat → ByteArray → List (S75) → Int → Int → Int → Option (Int × Bool)
 | 0, _, _, _, _, _ => none
 | k + 1, x0, x4, x5, x6, x7 => if 0 ≤ x6 then (if x6 < (x4.length : Int) then (if x7 < (((rd_T75 x4 x6).f0).length : Int) then (if x7 < (x0.size : Int) then (if 0 ≤ x7 then (if (bt x0 x7) ≥ (rd ((rd_T75 x4 x6).f0) x7) then (if x7 < (((rd_T75 x4 x6).f1).length : Int) then (if (bt x0 x7) ≤ (rd ((rd_T75 x4 x6).f1) x7) then (rotulusref1_One.l1 k x0 x4 x5 x6 (wrap64 (x7 + 1))) else (if x7 = (((rd_T75 x4 x6).f0).length : Int) then (some (x7, true)) else (rotulusref1_One.l0 k x0 x4 (mx x5 x7) (wrap64 (x6 + 1))))) else (none)) else (if x7 = (((rd_T75 x4 x6).f0).length : Int) then (some (x7, true)) else (rotulusref1_One.l0 k x0 x4 (mx x5 x7) (wrap64 (x6 + 1))))) else (none)) else (if x7 = (((rd_T75 x4 x6).f0).length : Int) then (some (x7, true)) else (rotulusref1_One.l0 k x0 x4 (mx x5 x7) (wrap64 (x6 + 1))))) else (if x7 = (((rd_T75 x4 x6).f0).length : Int) then (some (x7, true)) else (rotulusref1_One.l0 k x0 x4 (mx x5 x7) (wrap64 (x6 + 1))))) else (none)) else (none)
end
def rotulusref1_One.f (k : Nat) (a0 : ByteArray) : Option (Int × Bool) := (rotulusref1_forms.f).bind fun t383 => (rotulusref1_One.l0 k a0 t383 0 0)
theorem rotulusref1_One.mono_l : ∀ k, (∀ y0 y1 y2 y3, LeO (rotulusref1_One.l0 k y0 y1 y2 y3) (rotulusref1_One.l0 (k + 1) y0 y1 y2 y3)) ∧ (∀ y0 y1 y2 y3 y4, LeO (rotulusref1_One.l1 k y0 y1 y2 y3 y4) (rotulusref1_One.l1 (k + 1) y0 y1 y2 y3 y4))
 | 0 => ⟨fun _ _ _ _ r h => by simp [rotulusref1_One.l0] at h, fun _ _ _ _ _ r h => by simp [rotulusref1_One.l1] at h⟩
 | k + 1 => by
  obtain ⟨ih0, ih1⟩ := rotulusref1_One.mono_l k
  refine ⟨?_, ?_⟩
  ·intro y0 y1 y2 y3
   unfold rotulusref1_One.l0
   repeat' first
   | (with_reducible exact ih0 _ _ _ _)
   | (with_reducible exact ih1 _ _ _ _ _)
   | (with_reducible exact LeO.refl _)
   | (with_reducible exact LeO.none _)
   | (with_reducible refine LeO.ite ?_ ?_)
   | (with_reducible refine LeO.bind ?_ (fun _ => ?_))
   | exact ih0 _ _ _ _
   | exact ih1 _ _ _ _ _
   | exact LeO.none _
   | refine LeO.ite ?_ ?_
   | refine LeO.bind ?_ (fun _ => ?_)
  ·intro y0 y1 y2 y3 y4
   unfold rotulusref1_One.l1
   repeat' first
   | (with_reducible exact ih0 _ _ _ _)
   | (with_reducible exact ih1 _ _ _ _ _)
   | (with_reducible exact LeO.refl _)
   | (with_reducible exact LeO.none _)
   | (with_reducible refine LeO.ite ?_ ?_)
   | (with_reducible refine LeO.bind ?_ (fun _ => ?_))
   | exact ih0 _ _ _ _
   | exact ih1 _ _ _ _ _
   | exact LeO.none _
   | refine LeO.ite ?_ ?_
   | refine LeO.bind ?_ (fun _ => ?_)
theorem rotulusref1_One.mono : ∀ a0 k, LeO (rotulusref1_One.f k a0) (rotulusref1_One.f (k + 1) a0) := by
 intro a0 k
 obtain ⟨ih0, ih1⟩ := rotulusref1_One.mono_l k
 unfold rotulusref1_One.f
 repeat' first
   | (with_reducible exact ih0 _ _ _ _)
   | (with_reducible exact ih1 _ _ _ _ _)
   | (with_reducible exact LeO.refl _)
   | (with_reducible exact LeO.none _)
   | (with_reducible refine LeO.ite ?_ ?_)
   | (with_reducible refine LeO.bind ?_ (fun _ => ?_))
   | exact ih0 _ _ _ _
   | exact ih1 _ _ _ _ _
   | exact LeO.none _
   | refine LeO.ite ?_ ?_
   | refine LeO.bind ?_ (fun _ => ?_)
set_option maxHeartbeats 8000000 in
set_option maxRecDepth 100000 in
theorem rotulusref1_One.calls (k : Nat) (a0 : ByteArray) (r1 : Int) (r2 : Bool) (w : World) (h : rotulusref1_One.f k a0 = some (r1, r2)) :
  Calls Try.prog 44 #[.string a0] w fun e w' => e = .returned (.tuple #[.int .i64 r1, .bool r2]) ∧ Below w.heap.size w w' := by
 have HB := Aside0.mk (Below.refl w.heap.size w)
 have H : ((rotulusref1_forms.f).bind fun t383 => (rotulusref1_One.l0 k a0 t383 0 0)) = some (r1, r2) := h
 clear h
 replace H := Option.bind_eq_some_iff.mp H
 obtain ⟨t383, A20, H⟩ := H
 replace H : (rotulusref1_One.l0 k a0 t383 0 0) = some (r1, r2) := H
 have A2 := Aside0.mk A20
 clear A20
 have H' := Aside0.mk H
 clear H
 go_enter Try.func44, Try.ntmps44
 go_wp2_with (first | (go_at_call 53; (with_reducible refine (rotulusref1_forms.calls  t383 _ A2.out).mono ?_); rintro e w3 ⟨v384, rfl, ho0, hb⟩; have n0_ := Aside0.mk (Kd.N_lower (Kd.N_mono (ok' := fun k_ => True) ho0 (fun k_ hk_ => trivial)) (below_size (by repeat (first | (with_reducible first | exact HB.out | apply below_alloc | apply pw_below_drewN | apply below_drew1) | exact HB.out)))); have n1_ := Aside0.mk (below_step (by repeat (first | (with_reducible first | exact HB.out | apply below_alloc | apply pw_below_drewN | apply below_drew1) | exact HB.out)) hb); clear HB; have HO385 := n0_; have HB := n1_; clear n0_ n1_; (try clear hb); (try clear hb2); (try clear hk); (try clear hi); (try clear ho0)))
 repeat (go_quiet (first | (go_at_call 53; (with_reducible refine (rotulusref1_forms.calls  t383 _ A2.out).mono ?_); rintro e w3 ⟨v384, rfl, ho0, hb⟩; have n0_ := Aside0.mk (Kd.N_lower (Kd.N_mono (ok' := fun k_ => True) ho0 (fun k_ hk_ => trivial)) (below_size (by repeat (first | (with_reducible first | exact HB.out | apply below_alloc | apply pw_below_drewN | apply below_drew1) | exact HB.out)))); have n1_ := Aside0.mk (below_step (by repeat (first | (with_reducible first | exact HB.out | apply below_alloc | apply pw_below_drewN | apply below_drew1) | exact HB.out)) hb); clear HB; have HO385 := n0_; have HB := n1_; clear n0_ n1_; (try clear hb); (try clear hb2); (try clear hk); (try clear hi); (try clear ho0))); try go_wp2_with (first | (go_at_call 53; (with_reducible refine (rotulusref1_forms.calls  t383 _ A2.out).mono ?_); rintro e w3 ⟨v384, rfl, ho0, hb⟩; have n0_ := Aside0.mk (Kd.N_lower (Kd.N_mono (ok' := fun k_ => True) ho0 (fun k_ hk_ => trivial)) (below_size (by repeat (first | (with_reducible first | exact HB.out | apply below_alloc | apply pw_below_drewN | apply below_drew1) | exact HB.out)))); have n1_ := Aside0.mk (below_step (by repeat (first | (with_reducible first | exact HB.out | apply below_alloc | apply pw_below_drewN | apply below_drew1) | exact HB.out)) hb); clear HB; have HO385 := n0_; have HB := n1_; clear n0_ n1_; (try clear hb); (try clear hb2); (try clear hk); (try clear hi); (try clear ho0))))
 go_loopg [5, 6] k (fun kq v5 v6 w' => ∃ (x5_1 : Int) (x6_1 : Int), v5 = .int .i64 x5_1 ∧ v6 = .int .i64 x6_1 ∧ Aside0 (rotulusref1_One.l0 kq a0 t383 x5_1 x6_1 = some (r1, r2)) ∧ Aside0 (kq ≤ k) ∧ Aside0 (Kd.N k75 75 w' w.heap.size (fun _ => True) v384 t383) ∧ Aside0 (Below w.heap.size w w'))
 case atStart => exact ⟨(0), (0), (by first | rfl | (simp; done) | (simp [*]; done)), (by first | rfl | (simp; done) | (simp [*]; done)), H', ⟨Nat.le_refl _⟩, ⟨by (with_reducible repeat (first | apply Kd.N_alloc | apply Kd.N_drewN | apply Kd.N_drew)); exact HO385.out⟩, ⟨by repeat (first | (with_reducible first | exact HB.out | apply below_alloc | apply pw_below_drewN | apply below_drew1) | exact HB.out)⟩⟩
 case round =>
  clear H'
  try clear p2
  obtain ⟨x5_1, x6_1, rfl, rfl, HA, HK1, HO_4, HB⟩ := hrel
  cases gk with
  | zero => exact absurd HA.out (by simp [rotulusref1_One.l0])
  | succ k1 =>
   have H := HA.out
   clear HA
   simp only [rotulusref1_One.l0] at H
   by_cases c4 : x6_1 < (t383.length : Int)
   ·rw [if_pos c4] at H
    have c4b0 : decide (x6_1 < (t383.length : Int)) = true := decide_eq_true c4
    clear c4
    have H' := Aside0.mk H
    clear H
    obtain ⟨Ao5, co5, eo5⟩ := Kd.N_slice HO_4.out
    subst eo5
    go_wp2
    repeat (go_quiet (fail); try go_wp2)
    go_loopg [7] k1 (fun kq v7 w' => ∃ (x7_2 : Int), v7 = .int .i64 x7_2 ∧ Aside0 (rotulusref1_One.l1 kq a0 t383 x5_1 x6_1 x7_2 = some (r1, r2)) ∧ Aside0 (kq ≤ k1) ∧ Aside0 (Kd.N k75 75 w' w.heap.size (fun _ => True) (.slice Ao5 t383.length co5) t383) ∧ Aside0 (Below w.heap.size w w'))
    case atStart => exact ⟨(0), (by first | rfl | (simp; done) | (simp [*]; done)), H', ⟨Nat.le_refl _⟩, ⟨by (with_reducible repeat (first | apply Kd.N_alloc | apply Kd.N_drewN | apply Kd.N_drew)); exact HO_4.out⟩, ⟨by repeat (first | (with_reducible first | exact HB.out | apply below_alloc | apply pw_below_drewN | apply below_drew1) | exact HB.out)⟩⟩
    case round =>
     clear H'
     try clear p2
     try clear c4
     try clear c4b0
     try clear p2
     obtain ⟨x7_2, rfl, HA, HK2, HO_4, HB⟩ := hrel
     cases gk with
     | zero => exact absurd HA.out (by simp [rotulusref1_One.l1])
     | succ k2 =>
      have H := HA.out
      clear HA
      simp only [rotulusref1_One.l1] at H
      have c6 : 0 ≤ x6_1 := Decidable.byContradiction fun hc_ => absurd ((if_neg hc_).symm.trans H) (by simp)
      rw [if_pos c6] at H
      have c6b0 : decide (0 ≤ x6_1) = true := decide_eq_true c6
      clear c6
      have c7 : x6_1 < (t383.length : Int) := Decidable.byContradiction fun hc_ => absurd ((if_neg hc_).symm.trans H) (by simp)
      rw [if_pos c7] at H
      have c7b0 : decide (x6_1 < (t383.length : Int)) = true := decide_eq_true c7
      clear c7
      by_cases c8 : x7_2 < (((rd_T75 t383 x6_1).f0).length : Int)
      ·rw [if_pos c8] at H
       have c8b0 : decide (x7_2 < (((rd_T75 t383 x6_1).f0).length : Int)) = true := decide_eq_true c8
       clear c8
       by_cases c9 : x7_2 < (a0.size : Int)
       ·rw [if_pos c9] at H
        have c9b0 : decide (x7_2 < (a0.size : Int)) = true := decide_eq_true c9
        clear c9
        have c10 : 0 ≤ x7_2 := Decidable.byContradiction fun hc_ => absurd ((if_neg hc_).symm.trans H) (by simp)
        rw [if_pos c10] at H
        have c10b0 : decide (0 ≤ x7_2) = true := decide_eq_true c10
        clear c10
        by_cases c12 : (bt a0 x7_2) ≥ (rd ((rd_T75 t383 x6_1).f0) x7_2)
        ·rw [if_pos c12] at H
         have c12b0 : decide ((rd ((rd_T75 t383 x6_1).f0) x7_2) ≤ (bt a0 x7_2)) = true := decide_eq_true c12
         clear c12
         have c14 : x7_2 < (((rd_T75 t383 x6_1).f1).length : Int) := Decidable.byContradiction fun hc_ => absurd ((if_neg hc_).symm.trans H) (by simp)
         rw [if_pos c14] at H
         have c14b0 : decide (x7_2 < (((rd_T75 t383 x6_1).f1).length : Int)) = true := decide_eq_true c14
         clear c14
         by_cases c15 : (bt a0 x7_2) ≤ (rd ((rd_T75 t383 x6_1).f1) x7_2)
         ·rw [if_pos c15] at H
          have c15b0 : decide ((bt a0 x7_2) ≤ (rd ((rd_T75 t383 x6_1).f1) x7_2)) = true := decide_eq_true c15
          clear c15
          have H' := Aside0.mk H
          clear H
          have p386 : 0 ≤ (x6_1 : Int) := of_decide_eq_true (by first | (with_reducible assumption) | assumption)
          have q386 : x6_1 < (t383.length : Int) := of_decide_eq_true (by first | (with_reducible assumption) | assumption)
          obtain ⟨ad386, A386_0, c386_0, A386_1, c386_1, e386, hx386_0, hx386_1, hl386_0, hi386_0, hl386_1, hi386_1⟩ := at_T75 (Kd.N_reads' HO_4.out).2.2 x6_1 p386 q386
          cases e386
          obtain ⟨ce386, hce386, hMe386, hcc386⟩ := Kd.N_get HO_4.out z75 x6_1 p386 (by first | exact q386 | exact of_decide_eq_true (by first | (with_reducible assumption) | assumption) | (have e_ := (Kd.N_reads' HO_4.out).1; omega))
          obtain ⟨ua386_0, uc386_0, ua386_1, uc386_1, rfl, ul386_0, ge386_0, ul386_1, ge386_1⟩ := k75_openF hMe386
          have hv386_0 := hcc386 0 _ rfl
          rw [Nat.add_zero] at hv386_0
          replace hv386_0 := Option.some.inj (hv386_0.symm.trans hx386_0)
          injection hv386_0 with hva_ hvn_ hvc_
          rw [hva_] at ge386_0
          rw [hvc_] at ul386_0
          have HL386_0 := Aside0.mk (show Kd.V (Kd.int .u8) 5 _ w.heap.size _ _ ((rd_T75 t383 x6_1).f0) from Kd.V_mk ul386_0 ge386_0)
          clear hva_ hvn_ hvc_ ge386_0 ul386_0
          have hv386_1 := hcc386 1 _ rfl
          rw [add_field _ _ 1 (by omega)] at hv386_1
          replace hv386_1 := Option.some.inj (hv386_1.symm.trans hx386_1)
          injection hv386_1 with hva_ hvn_ hvc_
          rw [hva_] at ge386_1
          rw [hvc_] at ul386_1
          have HL386_1 := Aside0.mk (show Kd.V (Kd.int .u8) 5 _ w.heap.size _ _ ((rd_T75 t383 x6_1).f1) from Kd.V_mk ul386_1 ge386_1)
          clear hva_ hvn_ hvc_ ge386_1 ul386_1
          clear hcc386 hce386
          have HR386_0 := Aside0.mk hi386_0
          have HC386_0 := Aside0.mk hl386_0
          clear hi386_0 hl386_0
          have HR386_1 := Aside0.mk hi386_1
          have HC386_1 := Aside0.mk hl386_1
          clear hi386_1 hl386_1
          replace p386 := eq_true p386
          replace q386 := eq_true q386
          have p11 : 0 ≤ (x7_2 : Int) := of_decide_eq_true (by first | (with_reducible assumption) | assumption)
          have q11 : x7_2 < (a0.size : Int) := of_decide_eq_true (by first | (with_reducible assumption) | assumption)
          have hx11 := bt_at a0 x7_2
          replace p11 := eq_true p11
          replace q11 := eq_true q11
          have p387 : 0 ≤ (x6_1 : Int) := of_decide_eq_true (by first | (with_reducible assumption) | assumption)
          have q387 : x6_1 < (t383.length : Int) := of_decide_eq_true (by first | (with_reducible assumption) | assumption)
          obtain ⟨ad387, A387_0, c387_0, A387_1, c387_1, e387, hx387_0, hx387_1, hl387_0, hi387_0, hl387_1, hi387_1⟩ := at_T75 (Kd.N_reads' HO_4.out).2.2 x6_1 p387 q387
          obtain rfl : ad386 = ad387 := (by injection e387)
          obtain ⟨ce387, hce387, hMe387, hcc387⟩ := Kd.N_get HO_4.out z75 x6_1 p387 (by first | exact q387 | exact of_decide_eq_true (by first | (with_reducible assumption) | assumption) | (have e_ := (Kd.N_reads' HO_4.out).1; omega))
          obtain ⟨ua387_0, uc387_0, ua387_1, uc387_1, rfl, ul387_0, ge387_0, ul387_1, ge387_1⟩ := k75_openF hMe387
          have hv387_0 := hcc387 0 _ rfl
          rw [Nat.add_zero] at hv387_0
          replace hv387_0 := Option.some.inj (hv387_0.symm.trans hx387_0)
          injection hv387_0 with hva_ hvn_ hvc_
          rw [hva_] at ge387_0
          rw [hvc_] at ul387_0
          have HL387_0 := Aside0.mk (show Kd.V (Kd.int .u8) 5 _ w.heap.size _ _ ((rd_T75 t383 x6_1).f0) from Kd.V_mk ul387_0 ge387_0)
          clear hva_ hvn_ hvc_ ge387_0 ul387_0
          have hv387_1 := hcc387 1 _ rfl
          rw [add_field _ _ 1 (by omega)] at hv387_1
          replace hv387_1 := Option.some.inj (hv387_1.symm.trans hx387_1)
          injection hv387_1 with hva_ hvn_ hvc_
          rw [hva_] at ge387_1
          rw [hvc_] at ul387_1
          have HL387_1 := Aside0.mk (show Kd.V (Kd.int .u8) 5 _ w.heap.size _ _ ((rd_T75 t383 x6_1).f1) from Kd.V_mk ul387_1 ge387_1)
          clear hva_ hvn_ hvc_ ge387_1 ul387_1
          clear hcc387 hce387
          have HR387_0 := Aside0.mk hi387_0
          have HC387_0 := Aside0.mk hl387_0
          clear hi387_0 hl387_0
          have HR387_1 := Aside0.mk hi387_1
          have HC387_1 := Aside0.mk hl387_1
          clear hi387_1 hl387_1
          replace p387 := eq_true p387
          replace q387 := eq_true q387
          have ea_ := Option.some.inj (hx386_0.symm.trans hx387_0)
          injection ea_ with ea_ en_ ec_
          subst ea_
          subst ec_
          clear en_
          have ea_ := Option.some.inj (hx386_1.symm.trans hx387_1)
          injection ea_ with ea_ en_ ec_
          subst ea_
          subst ec_
          clear en_
          have p388 : 0 ≤ (x7_2 : Int) := of_decide_eq_true (by first | (with_reducible assumption) | assumption)
          have q388 : x7_2 < (((rd_T75 t383 x6_1).f0).length : Int) := of_decide_eq_true (by first | (with_reducible assumption) | assumption)
          obtain ⟨ad388, e388, hx388_0⟩ := Kd.at_int (by repeat (first | (with_reducible exact HR387_0.out) | (with_reducible refine Kd.C_alloc ?_ _) | (with_reducible refine Kd.C_drewN ?_ _) | (with_reducible refine Kd.C_drew ?_) | exact HR387_0.out)) x7_2 p388 q388
          cases e388
          replace p388 := eq_true p388
          replace q388 := eq_true q388
          have p13 : 0 ≤ (x7_2 : Int) := of_decide_eq_true (by first | (with_reducible assumption) | assumption)
          have q13 : x7_2 < (a0.size : Int) := of_decide_eq_true (by first | (with_reducible assumption) | assumption)
          have hx13 := bt_at a0 x7_2
          replace p13 := eq_true p13
          replace q13 := eq_true q13
          have p389 : 0 ≤ (x6_1 : Int) := of_decide_eq_true (by first | (with_reducible assumption) | assumption)
          have q389 : x6_1 < (t383.length : Int) := of_decide_eq_true (by first | (with_reducible assumption) | assumption)
          obtain ⟨ad389, A389_0, c389_0, A389_1, c389_1, e389, hx389_0, hx389_1, hl389_0, hi389_0, hl389_1, hi389_1⟩ := at_T75 (Kd.N_reads' HO_4.out).2.2 x6_1 p389 q389
          obtain rfl : ad386 = ad389 := (by injection e389)
          obtain ⟨ce389, hce389, hMe389, hcc389⟩ := Kd.N_get HO_4.out z75 x6_1 p389 (by first | exact q389 | exact of_decide_eq_true (by first | (with_reducible assumption) | assumption) | (have e_ := (Kd.N_reads' HO_4.out).1; omega))
          obtain ⟨ua389_0, uc389_0, ua389_1, uc389_1, rfl, ul389_0, ge389_0, ul389_1, ge389_1⟩ := k75_openF hMe389
          have hv389_0 := hcc389 0 _ rfl
          rw [Nat.add_zero] at hv389_0
          replace hv389_0 := Option.some.inj (hv389_0.symm.trans hx389_0)
          injection hv389_0 with hva_ hvn_ hvc_
          rw [hva_] at ge389_0
          rw [hvc_] at ul389_0
          have HL389_0 := Aside0.mk (show Kd.V (Kd.int .u8) 5 _ w.heap.size _ _ ((rd_T75 t383 x6_1).f0) from Kd.V_mk ul389_0 ge389_0)
          clear hva_ hvn_ hvc_ ge389_0 ul389_0
          have hv389_1 := hcc389 1 _ rfl
          rw [add_field _ _ 1 (by omega)] at hv389_1
          replace hv389_1 := Option.some.inj (hv389_1.symm.trans hx389_1)
          injection hv389_1 with hva_ hvn_ hvc_
          rw [hva_] at ge389_1
          rw [hvc_] at ul389_1
          have HL389_1 := Aside0.mk (show Kd.V (Kd.int .u8) 5 _ w.heap.size _ _ ((rd_T75 t383 x6_1).f1) from Kd.V_mk ul389_1 ge389_1)
          clear hva_ hvn_ hvc_ ge389_1 ul389_1
          clear hcc389 hce389
          have HR389_0 := Aside0.mk hi389_0
          have HC389_0 := Aside0.mk hl389_0
          clear hi389_0 hl389_0
          have HR389_1 := Aside0.mk hi389_1
          have HC389_1 := Aside0.mk hl389_1
          clear hi389_1 hl389_1
          replace p389 := eq_true p389
          replace q389 := eq_true q389
          have ea_ := Option.some.inj (hx386_0.symm.trans hx389_0)
          injection ea_ with ea_ en_ ec_
          subst ea_
          subst ec_
          clear en_
          have ea_ := Option.some.inj (hx386_1.symm.trans hx389_1)
          injection ea_ with ea_ en_ ec_
          subst ea_
          subst ec_
          clear en_
          have p390 : 0 ≤ (x7_2 : Int) := of_decide_eq_true (by first | (with_reducible assumption) | assumption)
          have q390 : x7_2 < (((rd_T75 t383 x6_1).f1).length : Int) := of_decide_eq_true (by first | (with_reducible assumption) | assumption)
          obtain ⟨ad390, e390, hx390_0⟩ := Kd.at_int (by repeat (first | (with_reducible exact HR389_1.out) | (with_reducible refine Kd.C_alloc ?_ _) | (with_reducible refine Kd.C_drewN ?_ _) | (with_reducible refine Kd.C_drew ?_) | exact HR389_1.out)) x7_2 p390 q390
          cases e390
          replace p390 := eq_true p390
          replace q390 := eq_true q390
          go_wp2
          repeat (go_quiet (fail); try go_wp2)
          go_roundg k2
          case measure => have := HK1.out; have := HK2.out; omega
          case rel => exact ⟨(wrap64 (x7_2 + 1)), (by first | rfl | (simp; done) | (simp [*]; done)), H', ⟨by have := HK1.out; have := HK2.out; omega⟩, ⟨by (with_reducible repeat (first | apply Kd.N_alloc | apply Kd.N_drewN | apply Kd.N_drew)); exact HO_4.out⟩, ⟨by repeat (first | (with_reducible first | exact HB.out | apply below_alloc | apply pw_below_drewN | apply below_drew1) | exact HB.out)⟩⟩
         ·rw [if_neg c15] at H
          have c15b0 : decide ((bt a0 x7_2) ≤ (rd ((rd_T75 t383 x6_1).f1) x7_2)) = false := decide_eq_false c15
          clear c15
          by_cases c16 : x7_2 = (((rd_T75 t383 x6_1).f0).length : Int)
          ·rw [if_pos c16] at H
           have c16b0 : (x7_2 == (((rd_T75 t383 x6_1).f0).length : Int)) = true := beq_iff_eq.mpr c16
           have c16b1 : (x7_2 != (((rd_T75 t383 x6_1).f0).length : Int)) = false := bne_eq_false_iff_eq.mpr c16
           clear c16
           simp only [Option.some.injEq, Prod.mk.injEq] at H
           obtain ⟨rfl, rfl⟩ := H
           have p386 : 0 ≤ (x6_1 : Int) := of_decide_eq_true (by first | (with_reducible assumption) | assumption)
           have q386 : x6_1 < (t383.length : Int) := of_decide_eq_true (by first | (with_reducible assumption) | assumption)
           obtain ⟨ad386, A386_0, c386_0, A386_1, c386_1, e386, hx386_0, hx386_1, hl386_0, hi386_0, hl386_1, hi386_1⟩ := at_T75 (Kd.N_reads' HO_4.out).2.2 x6_1 p386 q386
           cases e386
           obtain ⟨ce386, hce386, hMe386, hcc386⟩ := Kd.N_get HO_4.out z75 x6_1 p386 (by first | exact q386 | exact of_decide_eq_true (by first | (with_reducible assumption) | assumption) | (have e_ := (Kd.N_reads' HO_4.out).1; omega))
           obtain ⟨ua386_0, uc386_0, ua386_1, uc386_1, rfl, ul386_0, ge386_0, ul386_1, ge386_1⟩ := k75_openF hMe386
           have hv386_0 := hcc386 0 _ rfl
           rw [Nat.add_zero] at hv386_0
           replace hv386_0 := Option.some.inj (hv386_0.symm.trans hx386_0)
           injection hv386_0 with hva_ hvn_ hvc_
           rw [hva_] at ge386_0
           rw [hvc_] at ul386_0
           have HL386_0 := Aside0.mk (show Kd.V (Kd.int .u8) 5 _ w.heap.size _ _ ((rd_T75 t383 x6_1).f0) from Kd.V_mk ul386_0 ge386_0)
           clear hva_ hvn_ hvc_ ge386_0 ul386_0
           have hv386_1 := hcc386 1 _ rfl
           rw [add_field _ _ 1 (by omega)] at hv386_1
           replace hv386_1 := Option.some.inj (hv386_1.symm.trans hx386_1)
           injection hv386_1 with hva_ hvn_ hvc_
           rw [hva_] at ge386_1
           rw [hvc_] at ul386_1
           have HL386_1 := Aside0.mk (show Kd.V (Kd.int .u8) 5 _ w.heap.size _ _ ((rd_T75 t383 x6_1).f1) from Kd.V_mk ul386_1 ge386_1)
           clear hva_ hvn_ hvc_ ge386_1 ul386_1
           clear hcc386 hce386
           have HR386_0 := Aside0.mk hi386_0
           have HC386_0 := Aside0.mk hl386_0
           clear hi386_0 hl386_0
           have HR386_1 := Aside0.mk hi386_1
           have HC386_1 := Aside0.mk hl386_1
           clear hi386_1 hl386_1
           replace p386 := eq_true p386
           replace q386 := eq_true q386
           have p11 : 0 ≤ (x7_2 : Int) := of_decide_eq_true (by first | (with_reducible assumption) | assumption)
           have q11 : x7_2 < (a0.size : Int) := of_decide_eq_true (by first | (with_reducible assumption) | assumption)
           have hx11 := bt_at a0 x7_2
           replace p11 := eq_true p11
           replace q11 := eq_true q11
           have p387 : 0 ≤ (x6_1 : Int) := of_decide_eq_true (by first | (with_reducible assumption) | assumption)
           have q387 : x6_1 < (t383.length : Int) := of_decide_eq_true (by first | (with_reducible assumption) | assumption)
           obtain ⟨ad387, A387_0, c387_0, A387_1, c387_1, e387, hx387_0, hx387_1, hl387_0, hi387_0, hl387_1, hi387_1⟩ := at_T75 (Kd.N_reads' HO_4.out).2.2 x6_1 p387 q387
           obtain rfl : ad386 = ad387 := (by injection e387)
           obtain ⟨ce387, hce387, hMe387, hcc387⟩ := Kd.N_get HO_4.out z75 x6_1 p387 (by first | exact q387 | exact of_decide_eq_true (by first | (with_reducible assumption) | assumption) | (have e_ := (Kd.N_reads' HO_4.out).1; omega))
           obtain ⟨ua387_0, uc387_0, ua387_1, uc387_1, rfl, ul387_0, ge387_0, ul387_1, ge387_1⟩ := k75_openF hMe387
           have hv387_0 := hcc387 0 _ rfl
           rw [Nat.add_zero] at hv387_0
           replace hv387_0 := Option.some.inj (hv387_0.symm.trans hx387_0)
           injection hv387_0 with hva_ hvn_ hvc_
           rw [hva_] at ge387_0
           rw [hvc_] at ul387_0
           have HL387_0 := Aside0.mk (show Kd.V (Kd.int .u8) 5 _ w.heap.size _ _ ((rd_T75 t383 x6_1).f0) from Kd.V_mk ul387_0 ge387_0)
           clear hva_ hvn_ hvc_ ge387_0 ul387_0
           have hv387_1 := hcc387 1 _ rfl
           rw [add_field _ _ 1 (by omega)] at hv387_1
           replace hv387_1 := Option.some.inj (hv387_1.symm.trans hx387_1)
           injection hv387_1 with hva_ hvn_ hvc_
           rw [hva_] at ge387_1
           rw [hvc_] at ul387_1
           have HL387_1 := Aside0.mk (show Kd.V (Kd.int .u8) 5 _ w.heap.size _ _ ((rd_T75 t383 x6_1).f1) from Kd.V_mk ul387_1 ge387_1)
           clear hva_ hvn_ hvc_ ge387_1 ul387_1
           clear hcc387 hce387
           have HR387_0 := Aside0.mk hi387_0
           have HC387_0 := Aside0.mk hl387_0
           clear hi387_0 hl387_0
           have HR387_1 := Aside0.mk hi387_1
           have HC387_1 := Aside0.mk hl387_1
           clear hi387_1 hl387_1
           replace p387 := eq_true p387
           replace q387 := eq_true q387
           have ea_ := Option.some.inj (hx386_0.symm.trans hx387_0)
           injection ea_ with ea_ en_ ec_
           subst ea_
           subst ec_
           clear en_
           have ea_ := Option.some.inj (hx386_1.symm.trans hx387_1)
           injection ea_ with ea_ en_ ec_
           subst ea_
           subst ec_
           clear en_
           have p388 : 0 ≤ (x7_2 : Int) := of_decide_eq_true (by first | (with_reducible assumption) | assumption)
           have q388 : x7_2 < (((rd_T75 t383 x6_1).f0).length : Int) := of_decide_eq_true (by first | (with_reducible assumption) | assumption)
           obtain ⟨ad388, e388, hx388_0⟩ := Kd.at_int (by repeat (first | (with_reducible exact HR387_0.out) | (with_reducible refine Kd.C_alloc ?_ _) | (with_reducible refine Kd.C_drewN ?_ _) | (with_reducible refine Kd.C_drew ?_) | exact HR387_0.out)) x7_2 p388 q388
           cases e388
           replace p388 := eq_true p388
           replace q388 := eq_true q388
           have p13 : 0 ≤ (x7_2 : Int) := of_decide_eq_true (by first | (with_reducible assumption) | assumption)
           have q13 : x7_2 < (a0.size : Int) := of_decide_eq_true (by first | (with_reducible assumption) | assumption)
           have hx13 := bt_at a0 x7_2
           replace p13 := eq_true p13
           replace q13 := eq_true q13
           have p389 : 0 ≤ (x6_1 : Int) := of_decide_eq_true (by first | (with_reducible assumption) | assumption)
           have q389 : x6_1 < (t383.length : Int) := of_decide_eq_true (by first | (with_reducible assumption) | assumption)
           obtain ⟨ad389, A389_0, c389_0, A389_1, c389_1, e389, hx389_0, hx389_1, hl389_0, hi389_0, hl389_1, hi389_1⟩ := at_T75 (Kd.N_reads' HO_4.out).2.2 x6_1 p389 q389
           obtain rfl : ad386 = ad389 := (by injection e389)
           obtain ⟨ce389, hce389, hMe389, hcc389⟩ := Kd.N_get HO_4.out z75 x6_1 p389 (by first | exact q389 | exact of_decide_eq_true (by first | (with_reducible assumption) | assumption) | (have e_ := (Kd.N_reads' HO_4.out).1; omega))
           obtain ⟨ua389_0, uc389_0, ua389_1, uc389_1, rfl, ul389_0, ge389_0, ul389_1, ge389_1⟩ := k75_openF hMe389
           have hv389_0 := hcc389 0 _ rfl
           rw [Nat.add_zero] at hv389_0
           replace hv389_0 := Option.some.inj (hv389_0.symm.trans hx389_0)
           injection hv389_0 with hva_ hvn_ hvc_
           rw [hva_] at ge389_0
           rw [hvc_] at ul389_0
           have HL389_0 := Aside0.mk (show Kd.V (Kd.int .u8) 5 _ w.heap.size _ _ ((rd_T75 t383 x6_1).f0) from Kd.V_mk ul389_0 ge389_0)
           clear hva_ hvn_ hvc_ ge389_0 ul389_0
           have hv389_1 := hcc389 1 _ rfl
           rw [add_field _ _ 1 (by omega)] at hv389_1
           replace hv389_1 := Option.some.inj (hv389_1.symm.trans hx389_1)
           injection hv389_1 with hva_ hvn_ hvc_
           rw [hva_] at ge389_1
           rw [hvc_] at ul389_1
           have HL389_1 := Aside0.mk (show Kd.V (Kd.int .u8) 5 _ w.heap.size _ _ ((rd_T75 t383 x6_1).f1) from Kd.V_mk ul389_1 ge389_1)
           clear hva_ hvn_ hvc_ ge389_1 ul389_1
           clear hcc389 hce389
           have HR389_0 := Aside0.mk hi389_0
           have HC389_0 := Aside0.mk hl389_0
           clear hi389_0 hl389_0
           have HR389_1 := Aside0.mk hi389_1
           have HC389_1 := Aside0.mk hl389_1
           clear hi389_1 hl389_1
           replace p389 := eq_true p389
           replace q389 := eq_true q389
           have ea_ := Option.some.inj (hx386_0.symm.trans hx389_0)
           injection ea_ with ea_ en_ ec_
           subst ea_
           subst ec_
           clear en_
           have ea_ := Option.some.inj (hx386_1.symm.trans hx389_1)
           injection ea_ with ea_ en_ ec_
           subst ea_
           subst ec_
           clear en_
           have p390 : 0 ≤ (x7_2 : Int) := of_decide_eq_true (by first | (with_reducible assumption) | assumption)
           have q390 : x7_2 < (((rd_T75 t383 x6_1).f1).length : Int) := of_decide_eq_true (by first | (with_reducible assumption) | assumption)
           obtain ⟨ad390, e390, hx390_0⟩ := Kd.at_int (by repeat (first | (with_reducible exact HR389_1.out) | (with_reducible refine Kd.C_alloc ?_ _) | (with_reducible refine Kd.C_drewN ?_ _) | (with_reducible refine Kd.C_drew ?_) | exact HR389_1.out)) x7_2 p390 q390
           cases e390
           replace p390 := eq_true p390
           replace q390 := eq_true q390
           have p391 : 0 ≤ (x6_1 : Int) := of_decide_eq_true (by first | (with_reducible assumption) | assumption)
           have q391 : x6_1 < (t383.length : Int) := of_decide_eq_true (by first | (with_reducible assumption) | assumption)
           obtain ⟨ad391, A391_0, c391_0, A391_1, c391_1, e391, hx391_0, hx391_1, hl391_0, hi391_0, hl391_1, hi391_1⟩ := at_T75 (Kd.N_reads' HO_4.out).2.2 x6_1 p391 q391
           obtain rfl : ad386 = ad391 := (by injection e391)
           obtain ⟨ce391, hce391, hMe391, hcc391⟩ := Kd.N_get HO_4.out z75 x6_1 p391 (by first | exact q391 | exact of_decide_eq_true (by first | (with_reducible assumption) | assumption) | (have e_ := (Kd.N_reads' HO_4.out).1; omega))
           obtain ⟨ua391_0, uc391_0, ua391_1, uc391_1, rfl, ul391_0, ge391_0, ul391_1, ge391_1⟩ := k75_openF hMe391
           have hv391_0 := hcc391 0 _ rfl
           rw [Nat.add_zero] at hv391_0
           replace hv391_0 := Option.some.inj (hv391_0.symm.trans hx391_0)
           injection hv391_0 with hva_ hvn_ hvc_
           rw [hva_] at ge391_0
           rw [hvc_] at ul391_0
           have HL391_0 := Aside0.mk (show Kd.V (Kd.int .u8) 5 _ w.heap.size _ _ ((rd_T75 t383 x6_1).f0) from Kd.V_mk ul391_0 ge391_0)
           clear hva_ hvn_ hvc_ ge391_0 ul391_0
           have hv391_1 := hcc391 1 _ rfl
           rw [add_field _ _ 1 (by omega)] at hv391_1
           replace hv391_1 := Option.some.inj (hv391_1.symm.trans hx391_1)
           injection hv391_1 with hva_ hvn_ hvc_
           rw [hva_] at ge391_1
           rw [hvc_] at ul391_1
           have HL391_1 := Aside0.mk (show Kd.V (Kd.int .u8) 5 _ w.heap.size _ _ ((rd_T75 t383 x6_1).f1) from Kd.V_mk ul391_1 ge391_1)
           clear hva_ hvn_ hvc_ ge391_1 ul391_1
           clear hcc391 hce391
           have HR391_0 := Aside0.mk hi391_0
           have HC391_0 := Aside0.mk hl391_0
           clear hi391_0 hl391_0
           have HR391_1 := Aside0.mk hi391_1
           have HC391_1 := Aside0.mk hl391_1
           clear hi391_1 hl391_1
           replace p391 := eq_true p391
           replace q391 := eq_true q391
           have ea_ := Option.some.inj (hx386_0.symm.trans hx391_0)
           injection ea_ with ea_ en_ ec_
           subst ea_
           subst ec_
           clear en_
           have ea_ := Option.some.inj (hx386_1.symm.trans hx391_1)
           injection ea_ with ea_ en_ ec_
           subst ea_
           subst ec_
           clear en_
           go_wp2
           repeat (go_quiet (fail); try go_wp2)
           go_ret2
           exact ⟨by first | rfl | (simp [errW_none, errW_some] <;> rfl) | (simp [*, errW_none, errW_some] <;> rfl), by repeat (first | (with_reducible first | exact HB.out | apply below_alloc | apply pw_below_drewN | apply below_drew1) | exact HB.out)⟩
          ·rw [if_neg c16] at H
           have c16b0 : (x7_2 == (((rd_T75 t383 x6_1).f0).length : Int)) = false := beq_eq_false_iff_ne.mpr c16
           have c16b1 : (x7_2 != (((rd_T75 t383 x6_1).f0).length : Int)) = true := bne_iff_ne.mpr c16
           obtain ⟨ji17, hji17⟩ : ∃ j_ : Int, (mx x5_1 x7_2) = j_ := ⟨_, rfl⟩
           replace H : (rotulusref1_One.l0 k2 a0 t383 ji17 (wrap64 (x6_1 + 1))) = some (r1, r2) := by first | (rw [hji17] at H; exact H) | (simp only [hji17] at H ⊢; exact H)
           have hji17_ : (if x5_1 < x7_2 then x7_2 else x5_1) = ji17 := hji17
           have H' := Aside0.mk H
           clear H
           have p386 : 0 ≤ (x6_1 : Int) := of_decide_eq_true (by first | (with_reducible assumption) | assumption)
           have q386 : x6_1 < (t383.length : Int) := of_decide_eq_true (by first | (with_reducible assumption) | assumption)
           obtain ⟨ad386, A386_0, c386_0, A386_1, c386_1, e386, hx386_0, hx386_1, hl386_0, hi386_0, hl386_1, hi386_1⟩ := at_T75 (Kd.N_reads' HO_4.out).2.2 x6_1 p386 q386
           cases e386
           obtain ⟨ce386, hce386, hMe386, hcc386⟩ := Kd.N_get HO_4.out z75 x6_1 p386 (by first | exact q386 | exact of_decide_eq_true (by first | (with_reducible assumption) | assumption) | (have e_ := (Kd.N_reads' HO_4.out).1; omega))
           obtain ⟨ua386_0, uc386_0, ua386_1, uc386_1, rfl, ul386_0, ge386_0, ul386_1, ge386_1⟩ := k75_openF hMe386
           have hv386_0 := hcc386 0 _ rfl
           rw [Nat.add_zero] at hv386_0
           replace hv386_0 := Option.some.inj (hv386_0.symm.trans hx386_0)
           injection hv386_0 with hva_ hvn_ hvc_
           rw [hva_] at ge386_0
           rw [hvc_] at ul386_0
           have HL386_0 := Aside0.mk (show Kd.V (Kd.int .u8) 5 _ w.heap.size _ _ ((rd_T75 t383 x6_1).f0) from Kd.V_mk ul386_0 ge386_0)
           clear hva_ hvn_ hvc_ ge386_0 ul386_0
           have hv386_1 := hcc386 1 _ rfl
           rw [add_field _ _ 1 (by omega)] at hv386_1
           replace hv386_1 := Option.some.inj (hv386_1.symm.trans hx386_1)
           injection hv386_1 with hva_ hvn_ hvc_
           rw [hva_] at ge386_1
           rw [hvc_] at ul386_1
           have HL386_1 := Aside0.mk (show Kd.V (Kd.int .u8) 5 _ w.heap.size _ _ ((rd_T75 t383 x6_1).f1) from Kd.V_mk ul386_1 ge386_1)
           clear hva_ hvn_ hvc_ ge386_1 ul386_1
           clear hcc386 hce386
           have HR386_0 := Aside0.mk hi386_0
           have HC386_0 := Aside0.mk hl386_0
           clear hi386_0 hl386_0
           have HR386_1 := Aside0.mk hi386_1
           have HC386_1 := Aside0.mk hl386_1
           clear hi386_1 hl386_1
           replace p386 := eq_true p386
           replace q386 := eq_true q386
           have p11 : 0 ≤ (x7_2 : Int) := of_decide_eq_true (by first | (with_reducible assumption) | assumption)
           have q11 : x7_2 < (a0.size : Int) := of_decide_eq_true (by first | (with_reducible assumption) | assumption)
           have hx11 := bt_at a0 x7_2
           replace p11 := eq_true p11
           replace q11 := eq_true q11
           have p387 : 0 ≤ (x6_1 : Int) := of_decide_eq_true (by first | (with_reducible assumption) | assumption)
           have q387 : x6_1 < (t383.length : Int) := of_decide_eq_true (by first | (with_reducible assumption) | assumption)
           obtain ⟨ad387, A387_0, c387_0, A387_1, c387_1, e387, hx387_0, hx387_1, hl387_0, hi387_0, hl387_1, hi387_1⟩ := at_T75 (Kd.N_reads' HO_4.out).2.2 x6_1 p387 q387
           obtain rfl : ad386 = ad387 := (by injection e387)
           obtain ⟨ce387, hce387, hMe387, hcc387⟩ := Kd.N_get HO_4.out z75 x6_1 p387 (by first | exact q387 | exact of_decide_eq_true (by first | (with_reducible assumption) | assumption) | (have e_ := (Kd.N_reads' HO_4.out).1; omega))
           obtain ⟨ua387_0, uc387_0, ua387_1, uc387_1, rfl, ul387_0, ge387_0, ul387_1, ge387_1⟩ := k75_openF hMe387
           have hv387_0 := hcc387 0 _ rfl
           rw [Nat.add_zero] at hv387_0
           replace hv387_0 := Option.some.inj (hv387_0.symm.trans hx387_0)
           injection hv387_0 with hva_ hvn_ hvc_
           rw [hva_] at ge387_0
           rw [hvc_] at ul387_0
           have HL387_0 := Aside0.mk (show Kd.V (Kd.int .u8) 5 _ w.heap.size _ _ ((rd_T75 t383 x6_1).f0) from Kd.V_mk ul387_0 ge387_0)
           clear hva_ hvn_ hvc_ ge387_0 ul387_0
           have hv387_1 := hcc387 1 _ rfl
           rw [add_field _ _ 1 (by omega)] at hv387_1
           replace hv387_1 := Option.some.inj (hv387_1.symm.trans hx387_1)
           injection hv387_1 with hva_ hvn_ hvc_
           rw [hva_] at ge387_1
           rw [hvc_] at ul387_1
           have HL387_1 := Aside0.mk (show Kd.V (Kd.int .u8) 5 _ w.heap.size _ _ ((rd_T75 t383 x6_1).f1) from Kd.V_mk ul387_1 ge387_1)
           clear hva_ hvn_ hvc_ ge387_1 ul387_1
           clear hcc387 hce387
           have HR387_0 := Aside0.mk hi387_0
           have HC387_0 := Aside0.mk hl387_0
           clear hi387_0 hl387_0
           have HR387_1 := Aside0.mk hi387_1
           have HC387_1 := Aside0.mk hl387_1
           clear hi387_1 hl387_1
           replace p387 := eq_true p387
           replace q387 := eq_true q387
           have ea_ := Option.some.inj (hx386_0.symm.trans hx387_0)
           injection ea_ with ea_ en_ ec_
           subst ea_
           subst ec_
           clear en_
           have ea_ := Option.some.inj (hx386_1.symm.trans hx387_1)
           injection ea_ with ea_ en_ ec_
           subst ea_
           subst ec_
           clear en_
           have p388 : 0 ≤ (x7_2 : Int) := of_decide_eq_true (by first | (with_reducible assumption) | assumption)
           have q388 : x7_2 < (((rd_T75 t383 x6_1).f0).length : Int) := of_decide_eq_true (by first | (with_reducible assumption) | assumption)
           obtain ⟨ad388, e388, hx388_0⟩ := Kd.at_int (by repeat (first | (with_reducible exact HR387_0.out) | (with_reducible refine Kd.C_alloc ?_ _) | (with_reducible refine Kd.C_drewN ?_ _) | (with_reducible refine Kd.C_drew ?_) | exact HR387_0.out)) x7_2 p388 q388
           cases e388
           replace p388 := eq_true p388
           replace q388 := eq_true q388
           have p13 : 0 ≤ (x7_2 : Int) := of_decide_eq_true (by first | (with_reducible assumption) | assumption)
           have q13 : x7_2 < (a0.size : Int) := of_decide_eq_true (by first | (with_reducible assumption) | assumption)
           have hx13 := bt_at a0 x7_2
           replace p13 := eq_true p13
           replace q13 := eq_true q13
           have p389 : 0 ≤ (x6_1 : Int) := of_decide_eq_true (by first | (with_reducible assumption) | assumption)
           have q389 : x6_1 < (t383.length : Int) := of_decide_eq_true (by first | (with_reducible assumption) | assumption)
           obtain ⟨ad389, A389_0, c389_0, A389_1, c389_1, e389, hx389_0, hx389_1, hl389_0, hi389_0, hl389_1, hi389_1⟩ := at_T75 (Kd.N_reads' HO_4.out).2.2 x6_1 p389 q389
           obtain rfl : ad386 = ad389 := (by injection e389)
           obtain ⟨ce389, hce389, hMe389, hcc389⟩ := Kd.N_get HO_4.out z75 x6_1 p389 (by first | exact q389 | exact of_decide_eq_true (by first | (with_reducible assumption) | assumption) | (have e_ := (Kd.N_reads' HO_4.out).1; omega))
           obtain ⟨ua389_0, uc389_0, ua389_1, uc389_1, rfl, ul389_0, ge389_0, ul389_1, ge389_1⟩ := k75_openF hMe389
           have hv389_0 := hcc389 0 _ rfl
           rw [Nat.add_zero] at hv389_0
           replace hv389_0 := Option.some.inj (hv389_0.symm.trans hx389_0)
           injection hv389_0 with hva_ hvn_ hvc_
           rw [hva_] at ge389_0
           rw [hvc_] at ul389_0
           have HL389_0 := Aside0.mk (show Kd.V (Kd.int .u8) 5 _ w.heap.size _ _ ((rd_T75 t383 x6_1).f0) from Kd.V_mk ul389_0 ge389_0)
           clear hva_ hvn_ hvc_ ge389_0 ul389_0
           have hv389_1 := hcc389 1 _ rfl
           rw [add_field _ _ 1 (by omega)] at hv389_1
           replace hv389_1 := Option.some.inj (hv389_1.symm.trans hx389_1)
           injection hv389_1 with hva_ hvn_ hvc_
           rw [hva_] at ge389_1
           rw [hvc_] at ul389_1
           have HL389_1 := Aside0.mk (show Kd.V (Kd.int .u8) 5 _ w.heap.size _ _ ((rd_T75 t383 x6_1).f1) from Kd.V_mk ul389_1 ge389_1)
           clear hva_ hvn_ hvc_ ge389_1 ul389_1
           clear hcc389 hce389
           have HR389_0 := Aside0.mk hi389_0
           have HC389_0 := Aside0.mk hl389_0
           clear hi389_0 hl389_0
           have HR389_1 := Aside0.mk hi389_1
           have HC389_1 := Aside0.mk hl389_1
           clear hi389_1 hl389_1
           replace p389 := eq_true p389
           replace q389 := eq_true q389
           have ea_ := Option.some.inj (hx386_0.symm.trans hx389_0)
           injection ea_ with ea_ en_ ec_
           subst ea_
           subst ec_
           clear en_
           have ea_ := Option.some.inj (hx386_1.symm.trans hx389_1)
           injection ea_ with ea_ en_ ec_
           subst ea_
           subst ec_
           clear en_
           have p390 : 0 ≤ (x7_2 : Int) := of_decide_eq_true (by first | (with_reducible assumption) | assumption)
           have q390 : x7_2 < (((rd_T75 t383 x6_1).f1).length : Int) := of_decide_eq_true (by first | (with_reducible assumption) | assumption)
           obtain ⟨ad390, e390, hx390_0⟩ := Kd.at_int (by repeat (first | (with_reducible exact HR389_1.out) | (with_reducible refine Kd.C_alloc ?_ _) | (with_reducible refine Kd.C_drewN ?_ _) | (with_reducible refine Kd.C_drew ?_) | exact HR389_1.out)) x7_2 p390 q390
           cases e390
           replace p390 := eq_true p390
           replace q390 := eq_true q390
           have p391 : 0 ≤ (x6_1 : Int) := of_decide_eq_true (by first | (with_reducible assumption) | assumption)
           have q391 : x6_1 < (t383.length : Int) := of_decide_eq_true (by first | (with_reducible assumption) | assumption)
           obtain ⟨ad391, A391_0, c391_0, A391_1, c391_1, e391, hx391_0, hx391_1, hl391_0, hi391_0, hl391_1, hi391_1⟩ := at_T75 (Kd.N_reads' HO_4.out).2.2 x6_1 p391 q391
           obtain rfl : ad386 = ad391 := (by injection e391)
           obtain ⟨ce391, hce391, hMe391, hcc391⟩ := Kd.N_get HO_4.out z75 x6_1 p391 (by first | exact q391 | exact of_decide_eq_true (by first | (with_reducible assumption) | assumption) | (have e_ := (Kd.N_reads' HO_4.out).1; omega))
           obtain ⟨ua391_0, uc391_0, ua391_1, uc391_1, rfl, ul391_0, ge391_0, ul391_1, ge391_1⟩ := k75_openF hMe391
           have hv391_0 := hcc391 0 _ rfl
           rw [Nat.add_zero] at hv391_0
           replace hv391_0 := Option.some.inj (hv391_0.symm.trans hx391_0)
           injection hv391_0 with hva_ hvn_ hvc_
           rw [hva_] at ge391_0
           rw [hvc_] at ul391_0
           have HL391_0 := Aside0.mk (show Kd.V (Kd.int .u8) 5 _ w.heap.size _ _ ((rd_T75 t383 x6_1).f0) from Kd.V_mk ul391_0 ge391_0)
           clear hva_ hvn_ hvc_ ge391_0 ul391_0
           have hv391_1 := hcc391 1 _ rfl
           rw [add_field _ _ 1 (by omega)] at hv391_1
           replace hv391_1 := Option.some.inj (hv391_1.symm.trans hx391_1)
           injection hv391_1 with hva_ hvn_ hvc_
           rw [hva_] at ge391_1
           rw [hvc_] at ul391_1
           have HL391_1 := Aside0.mk (show Kd.V (Kd.int .u8) 5 _ w.heap.size _ _ ((rd_T75 t383 x6_1).f1) from Kd.V_mk ul391_1 ge391_1)
           clear hva_ hvn_ hvc_ ge391_1 ul391_1
           clear hcc391 hce391
           have HR391_0 := Aside0.mk hi391_0
           have HC391_0 := Aside0.mk hl391_0
           clear hi391_0 hl391_0
           have HR391_1 := Aside0.mk hi391_1
           have HC391_1 := Aside0.mk hl391_1
           clear hi391_1 hl391_1
           replace p391 := eq_true p391
           replace q391 := eq_true q391
           have ea_ := Option.some.inj (hx386_0.symm.trans hx391_0)
           injection ea_ with ea_ en_ ec_
           subst ea_
           subst ec_
           clear en_
           have ea_ := Option.some.inj (hx386_1.symm.trans hx391_1)
           injection ea_ with ea_ en_ ec_
           subst ea_
           subst ec_
           clear en_
           go_wp2
           repeat (go_quiet (fail); try go_wp2)
           go_roundg k2
           case measure => have := HK1.out; have := HK2.out; omega
           case rel => exact ⟨(ji17), (wrap64 (x6_1 + 1)), (by first | rfl | (simp; done) | (simp only [← hji17] <;> (first | rfl | simp)) | (simp [*]; done)), (by first | rfl | (simp; done) | (simp [*]; done)), H', ⟨by have := HK1.out; have := HK2.out; omega⟩, ⟨by (with_reducible repeat (first | apply Kd.N_alloc | apply Kd.N_drewN | apply Kd.N_drew)); exact HO_4.out⟩, ⟨by repeat (first | (with_reducible first | exact HB.out | apply below_alloc | apply pw_below_drewN | apply below_drew1) | exact HB.out)⟩⟩
        ·rw [if_neg c12] at H
         have c12b0 : decide ((rd ((rd_T75 t383 x6_1).f0) x7_2) ≤ (bt a0 x7_2)) = false := decide_eq_false c12
         clear c12
         by_cases c18 : x7_2 = (((rd_T75 t383 x6_1).f0).length : Int)
         ·rw [if_pos c18] at H
          have c18b0 : (x7_2 == (((rd_T75 t383 x6_1).f0).length : Int)) = true := beq_iff_eq.mpr c18
          have c18b1 : (x7_2 != (((rd_T75 t383 x6_1).f0).length : Int)) = false := bne_eq_false_iff_eq.mpr c18
          clear c18
          simp only [Option.some.injEq, Prod.mk.injEq] at H
          obtain ⟨rfl, rfl⟩ := H
          have p386 : 0 ≤ (x6_1 : Int) := of_decide_eq_true (by first | (with_reducible assumption) | assumption)
          have q386 : x6_1 < (t383.length : Int) := of_decide_eq_true (by first | (with_reducible assumption) | assumption)
          obtain ⟨ad386, A386_0, c386_0, A386_1, c386_1, e386, hx386_0, hx386_1, hl386_0, hi386_0, hl386_1, hi386_1⟩ := at_T75 (Kd.N_reads' HO_4.out).2.2 x6_1 p386 q386
          cases e386
          obtain ⟨ce386, hce386, hMe386, hcc386⟩ := Kd.N_get HO_4.out z75 x6_1 p386 (by first | exact q386 | exact of_decide_eq_true (by first | (with_reducible assumption) | assumption) | (have e_ := (Kd.N_reads' HO_4.out).1; omega))
          obtain ⟨ua386_0, uc386_0, ua386_1, uc386_1, rfl, ul386_0, ge386_0, ul386_1, ge386_1⟩ := k75_openF hMe386
          have hv386_0 := hcc386 0 _ rfl
          rw [Nat.add_zero] at hv386_0
          replace hv386_0 := Option.some.inj (hv386_0.symm.trans hx386_0)
          injection hv386_0 with hva_ hvn_ hvc_
          rw [hva_] at ge386_0
          rw [hvc_] at ul386_0
          have HL386_0 := Aside0.mk (show Kd.V (Kd.int .u8) 5 _ w.heap.size _ _ ((rd_T75 t383 x6_1).f0) from Kd.V_mk ul386_0 ge386_0)
          clear hva_ hvn_ hvc_ ge386_0 ul386_0
          have hv386_1 := hcc386 1 _ rfl
          rw [add_field _ _ 1 (by omega)] at hv386_1
          replace hv386_1 := Option.some.inj (hv386_1.symm.trans hx386_1)
          injection hv386_1 with hva_ hvn_ hvc_
          rw [hva_] at ge386_1
          rw [hvc_] at ul386_1
          have HL386_1 := Aside0.mk (show Kd.V (Kd.int .u8) 5 _ w.heap.size _ _ ((rd_T75 t383 x6_1).f1) from Kd.V_mk ul386_1 ge386_1)
          clear hva_ hvn_ hvc_ ge386_1 ul386_1
          clear hcc386 hce386
          have HR386_0 := Aside0.mk hi386_0
          have HC386_0 := Aside0.mk hl386_0
          clear hi386_0 hl386_0
          have HR386_1 := Aside0.mk hi386_1
          have HC386_1 := Aside0.mk hl386_1
          clear hi386_1 hl386_1
          replace p386 := eq_true p386
          replace q386 := eq_true q386
          have p11 : 0 ≤ (x7_2 : Int) := of_decide_eq_true (by first | (with_reducible assumption) | assumption)
          have q11 : x7_2 < (a0.size : Int) := of_decide_eq_true (by first | (with_reducible assumption) | assumption)
          have hx11 := bt_at a0 x7_2
          replace p11 := eq_true p11
          replace q11 := eq_true q11
          have p387 : 0 ≤ (x6_1 : Int) := of_decide_eq_true (by first | (with_reducible assumption) | assumption)
          have q387 : x6_1 < (t383.length : Int) := of_decide_eq_true (by first | (with_reducible assumption) | assumption)
          obtain ⟨ad387, A387_0, c387_0, A387_1, c387_1, e387, hx387_0, hx387_1, hl387_0, hi387_0, hl387_1, hi387_1⟩ := at_T75 (Kd.N_reads' HO_4.out).2.2 x6_1 p387 q387
          obtain rfl : ad386 = ad387 := (by injection e387)
          obtain ⟨ce387, hce387, hMe387, hcc387⟩ := Kd.N_get HO_4.out z75 x6_1 p387 (by first | exact q387 | exact of_decide_eq_true (by first | (with_reducible assumption) | assumption) | (have e_ := (Kd.N_reads' HO_4.out).1; omega))
          obtain ⟨ua387_0, uc387_0, ua387_1, uc387_1, rfl, ul387_0, ge387_0, ul387_1, ge387_1⟩ := k75_openF hMe387
          have hv387_0 := hcc387 0 _ rfl
          rw [Nat.add_zero] at hv387_0
          replace hv387_0 := Option.some.inj (hv387_0.symm.trans hx387_0)
          injection hv387_0 with hva_ hvn_ hvc_
          rw [hva_] at ge387_0
          rw [hvc_] at ul387_0
          have HL387_0 := Aside0.mk (show Kd.V (Kd.int .u8) 5 _ w.heap.size _ _ ((rd_T75 t383 x6_1).f0) from Kd.V_mk ul387_0 ge387_0)
          clear hva_ hvn_ hvc_ ge387_0 ul387_0
          have hv387_1 := hcc387 1 _ rfl
          rw [add_field _ _ 1 (by omega)] at hv387_1
          replace hv387_1 := Option.some.inj (hv387_1.symm.trans hx387_1)
          injection hv387_1 with hva_ hvn_ hvc_
          rw [hva_] at ge387_1
          rw [hvc_] at ul387_1
          have HL387_1 := Aside0.mk (show Kd.V (Kd.int .u8) 5 _ w.heap.size _ _ ((rd_T75 t383 x6_1).f1) from Kd.V_mk ul387_1 ge387_1)
          clear hva_ hvn_ hvc_ ge387_1 ul387_1
          clear hcc387 hce387
          have HR387_0 := Aside0.mk hi387_0
          have HC387_0 := Aside0.mk hl387_0
          clear hi387_0 hl387_0
          have HR387_1 := Aside0.mk hi387_1
          have HC387_1 := Aside0.mk hl387_1
          clear hi387_1 hl387_1
          replace p387 := eq_true p387
          replace q387 := eq_true q387
          have ea_ := Option.some.inj (hx386_0.symm.trans hx387_0)
          injection ea_ with ea_ en_ ec_
          subst ea_
          subst ec_
          clear en_
          have ea_ := Option.some.inj (hx386_1.symm.trans hx387_1)
          injection ea_ with ea_ en_ ec_
          subst ea_
          subst ec_
          clear en_
          have p388 : 0 ≤ (x7_2 : Int) := of_decide_eq_true (by first | (with_reducible assumption) | assumption)
          have q388 : x7_2 < (((rd_T75 t383 x6_1).f0).length : Int) := of_decide_eq_true (by first | (with_reducible assumption) | assumption)
          obtain ⟨ad388, e388, hx388_0⟩ := Kd.at_int (by repeat (first | (with_reducible exact HR387_0.out) | (with_reducible refine Kd.C_alloc ?_ _) | (with_reducible refine Kd.C_drewN ?_ _) | (with_reducible refine Kd.C_drew ?_) | exact HR387_0.out)) x7_2 p388 q388
          cases e388
          replace p388 := eq_true p388
          replace q388 := eq_true q388
          have p392 : 0 ≤ (x6_1 : Int) := of_decide_eq_true (by first | (with_reducible assumption) | assumption)
          have q392 : x6_1 < (t383.length : Int) := of_decide_eq_true (by first | (with_reducible assumption) | assumption)
          obtain ⟨ad392, A392_0, c392_0, A392_1, c392_1, e392, hx392_0, hx392_1, hl392_0, hi392_0, hl392_1, hi392_1⟩ := at_T75 (Kd.N_reads' HO_4.out).2.2 x6_1 p392 q392
          obtain rfl : ad386 = ad392 := (by injection e392)
          obtain ⟨ce392, hce392, hMe392, hcc392⟩ := Kd.N_get HO_4.out z75 x6_1 p392 (by first | exact q392 | exact of_decide_eq_true (by first | (with_reducible assumption) | assumption) | (have e_ := (Kd.N_reads' HO_4.out).1; omega))
          obtain ⟨ua392_0, uc392_0, ua392_1, uc392_1, rfl, ul392_0, ge392_0, ul392_1, ge392_1⟩ := k75_openF hMe392
          have hv392_0 := hcc392 0 _ rfl
          rw [Nat.add_zero] at hv392_0
          replace hv392_0 := Option.some.inj (hv392_0.symm.trans hx392_0)
          injection hv392_0 with hva_ hvn_ hvc_
          rw [hva_] at ge392_0
          rw [hvc_] at ul392_0
          have HL392_0 := Aside0.mk (show Kd.V (Kd.int .u8) 5 _ w.heap.size _ _ ((rd_T75 t383 x6_1).f0) from Kd.V_mk ul392_0 ge392_0)
          clear hva_ hvn_ hvc_ ge392_0 ul392_0
          have hv392_1 := hcc392 1 _ rfl
          rw [add_field _ _ 1 (by omega)] at hv392_1
          replace hv392_1 := Option.some.inj (hv392_1.symm.trans hx392_1)
          injection hv392_1 with hva_ hvn_ hvc_
          rw [hva_] at ge392_1
          rw [hvc_] at ul392_1
          have HL392_1 := Aside0.mk (show Kd.V (Kd.int .u8) 5 _ w.heap.size _ _ ((rd_T75 t383 x6_1).f1) from Kd.V_mk ul392_1 ge392_1)
          clear hva_ hvn_ hvc_ ge392_1 ul392_1
          clear hcc392 hce392
          have HR392_0 := Aside0.mk hi392_0
          have HC392_0 := Aside0.mk hl392_0
          clear hi392_0 hl392_0
          have HR392_1 := Aside0.mk hi392_1
          have HC392_1 := Aside0.mk hl392_1
          clear hi392_1 hl392_1
          replace p392 := eq_true p392
          replace q392 := eq_true q392
          have ea_ := Option.some.inj (hx386_0.symm.trans hx392_0)
          injection ea_ with ea_ en_ ec_
          subst ea_
          subst ec_
          clear en_
          have ea_ := Option.some.inj (hx386_1.symm.trans hx392_1)
          injection ea_ with ea_ en_ ec_
          subst ea_
          subst ec_
          clear en_
          go_wp2
          repeat (go_quiet (fail); try go_wp2)
          go_ret2
          exact ⟨by first | rfl | (simp [errW_none, errW_some] <;> rfl) | (simp [*, errW_none, errW_some] <;> rfl), by repeat (first | (with_reducible first | exact HB.out | apply below_alloc | apply pw_below_drewN | apply below_drew1) | exact HB.out)⟩
         ·rw [if_neg c18] at H
          have c18b0 : (x7_2 == (((rd_T75 t383 x6_1).f0).length : Int)) = false := beq_eq_false_iff_ne.mpr c18
          have c18b1 : (x7_2 != (((rd_T75 t383 x6_1).f0).length : Int)) = true := bne_iff_ne.mpr c18
          obtain ⟨ji19, hji19⟩ : ∃ j_ : Int, (mx x5_1 x7_2) = j_ := ⟨_, rfl⟩
          replace H : (rotulusref1_One.l0 k2 a0 t383 ji19 (wrap64 (x6_1 + 1))) = some (r1, r2) := by first | (rw [hji19] at H; exact H) | (simp only [hji19] at H ⊢; exact H)
          have hji19_ : (if x5_1 < x7_2 then x7_2 else x5_1) = ji19 := hji19
          have H' := Aside0.mk H
          clear H
          have p386 : 0 ≤ (x6_1 : Int) := of_decide_eq_true (by first | (with_reducible assumption) | assumption)
          have q386 : x6_1 < (t383.length : Int) := of_decide_eq_true (by first | (with_reducible assumption) | assumption)
          obtain ⟨ad386, A386_0, c386_0, A386_1, c386_1, e386, hx386_0, hx386_1, hl386_0, hi386_0, hl386_1, hi386_1⟩ := at_T75 (Kd.N_reads' HO_4.out).2.2 x6_1 p386 q386
          cases e386
          obtain ⟨ce386, hce386, hMe386, hcc386⟩ := Kd.N_get HO_4.out z75 x6_1 p386 (by first | exact q386 | exact of_decide_eq_true (by first | (with_reducible assumption) | assumption) | (have e_ := (Kd.N_reads' HO_4.out).1; omega))
          obtain ⟨ua386_0, uc386_0, ua386_1, uc386_1, rfl, ul386_0, ge386_0, ul386_1, ge386_1⟩ := k75_openF hMe386
          have hv386_0 := hcc386 0 _ rfl
          rw [Nat.add_zero] at hv386_0
          replace hv386_0 := Option.some.inj (hv386_0.symm.trans hx386_0)
          injection hv386_0 with hva_ hvn_ hvc_
          rw [hva_] at ge386_0
          rw [hvc_] at ul386_0
          have HL386_0 := Aside0.mk (show Kd.V (Kd.int .u8) 5 _ w.heap.size _ _ ((rd_T75 t383 x6_1).f0) from Kd.V_mk ul386_0 ge386_0)
          clear hva_ hvn_ hvc_ ge386_0 ul386_0
          have hv386_1 := hcc386 1 _ rfl
          rw [add_field _ _ 1 (by omega)] at hv386_1
          replace hv386_1 := Option.some.inj (hv386_1.symm.trans hx386_1)
          injection hv386_1 with hva_ hvn_ hvc_
          rw [hva_] at ge386_1
          rw [hvc_] at ul386_1
          have HL386_1 := Aside0.mk (show Kd.V (Kd.int .u8) 5 _ w.heap.size _ _ ((rd_T75 t383 x6_1).f1) from Kd.V_mk ul386_1 ge386_1)
          clear hva_ hvn_ hvc_ ge386_1 ul386_1
          clear hcc386 hce386
          have HR386_0 := Aside0.mk hi386_0
          have HC386_0 := Aside0.mk hl386_0
          clear hi386_0 hl386_0
          have HR386_1 := Aside0.mk hi386_1
          have HC386_1 := Aside0.mk hl386_1
          clear hi386_1 hl386_1
          replace p386 := eq_true p386
          replace q386 := eq_true q386
          have p11 : 0 ≤ (x7_2 : Int) := of_decide_eq_true (by first | (with_reducible assumption) | assumption)
          have q11 : x7_2 < (a0.size : Int) := of_decide_eq_true (by first | (with_reducible assumption) | assumption)
          have hx11 := bt_at a0 x7_2
          replace p11 := eq_true p11
          replace q11 := eq_true q11
          have p387 : 0 ≤ (x6_1 : Int) := of_decide_eq_true (by first | (with_reducible assumption) | assumption)
          have q387 : x6_1 < (t383.length : Int) := of_decide_eq_true (by first | (with_reducible assumption) | assumption)
          obtain ⟨ad387, A387_0, c387_0, A387_1, c387_1, e387, hx387_0, hx387_1, hl387_0, hi387_0, hl387_1, hi387_1⟩ := at_T75 (Kd.N_reads' HO_4.out).2.2 x6_1 p387 q387
          obtain rfl : ad386 = ad387 := (by injection e387)
          obtain ⟨ce387, hce387, hMe387, hcc387⟩ := Kd.N_get HO_4.out z75 x6_1 p387 (by first | exact q387 | exact of_decide_eq_true (by first | (with_reducible assumption) | assumption) | (have e_ := (Kd.N_reads' HO_4.out).1; omega))
          obtain ⟨ua387_0, uc387_0, ua387_1, uc387_1, rfl, ul387_0, ge387_0, ul387_1, ge387_1⟩ := k75_openF hMe387
          have hv387_0 := hcc387 0 _ rfl
          rw [Nat.add_zero] at hv387_0
          replace hv387_0 := Option.some.inj (hv387_0.symm.trans hx387_0)
          injection hv387_0 with hva_ hvn_ hvc_
          rw [hva_] at ge387_0
          rw [hvc_] at ul387_0
          have HL387_0 := Aside0.mk (show Kd.V (Kd.int .u8) 5 _ w.heap.size _ _ ((rd_T75 t383 x6_1).f0) from Kd.V_mk ul387_0 ge387_0)
          clear hva_ hvn_ hvc_ ge387_0 ul387_0
          have hv387_1 := hcc387 1 _ rfl
          rw [add_field _ _ 1 (by omega)] at hv387_1
          replace hv387_1 := Option.some.inj (hv387_1.symm.trans hx387_1)
          injection hv387_1 with hva_ hvn_ hvc_
          rw [hva_] at ge387_1
          rw [hvc_] at ul387_1
          have HL387_1 := Aside0.mk (show Kd.V (Kd.int .u8) 5 _ w.heap.size _ _ ((rd_T75 t383 x6_1).f1) from Kd.V_mk ul387_1 ge387_1)
          clear hva_ hvn_ hvc_ ge387_1 ul387_1
          clear hcc387 hce387
          have HR387_0 := Aside0.mk hi387_0
          have HC387_0 := Aside0.mk hl387_0
          clear hi387_0 hl387_0
          have HR387_1 := Aside0.mk hi387_1
          have HC387_1 := Aside0.mk hl387_1
          clear hi387_1 hl387_1
          replace p387 := eq_true p387
          replace q387 := eq_true q387
          have ea_ := Option.some.inj (hx386_0.symm.trans hx387_0)
          injection ea_ with ea_ en_ ec_
          subst ea_
          subst ec_
          clear en_
          have ea_ := Option.some.inj (hx386_1.symm.trans hx387_1)
          injection ea_ with ea_ en_ ec_
          subst ea_
          subst ec_
          clear en_
          have p388 : 0 ≤ (x7_2 : Int) := of_decide_eq_true (by first | (with_reducible assumption) | assumption)
          have q388 : x7_2 < (((rd_T75 t383 x6_1).f0).length : Int) := of_decide_eq_true (by first | (with_reducible assumption) | assumption)
          obtain ⟨ad388, e388, hx388_0⟩ := Kd.at_int (by repeat (first | (with_reducible exact HR387_0.out) | (with_reducible refine Kd.C_alloc ?_ _) | (with_reducible refine Kd.C_drewN ?_ _) | (with_reducible refine Kd.C_drew ?_) | exact HR387_0.out)) x7_2 p388 q388
          cases e388
          replace p388 := eq_true p388
          replace q388 := eq_true q388
          have p392 : 0 ≤ (x6_1 : Int) := of_decide_eq_true (by first | (with_reducible assumption) | assumption)
          have q392 : x6_1 < (t383.length : Int) := of_decide_eq_true (by first | (with_reducible assumption) | assumption)
          obtain ⟨ad392, A392_0, c392_0, A392_1, c392_1, e392, hx392_0, hx392_1, hl392_0, hi392_0, hl392_1, hi392_1⟩ := at_T75 (Kd.N_reads' HO_4.out).2.2 x6_1 p392 q392
          obtain rfl : ad386 = ad392 := (by injection e392)
          obtain ⟨ce392, hce392, hMe392, hcc392⟩ := Kd.N_get HO_4.out z75 x6_1 p392 (by first | exact q392 | exact of_decide_eq_true (by first | (with_reducible assumption) | assumption) | (have e_ := (Kd.N_reads' HO_4.out).1; omega))
          obtain ⟨ua392_0, uc392_0, ua392_1, uc392_1, rfl, ul392_0, ge392_0, ul392_1, ge392_1⟩ := k75_openF hMe392
          have hv392_0 := hcc392 0 _ rfl
          rw [Nat.add_zero] at hv392_0
          replace hv392_0 := Option.some.inj (hv392_0.symm.trans hx392_0)
          injection hv392_0 with hva_ hvn_ hvc_
          rw [hva_] at ge392_0
          rw [hvc_] at ul392_0
          have HL392_0 := Aside0.mk (show Kd.V (Kd.int .u8) 5 _ w.heap.size _ _ ((rd_T75 t383 x6_1).f0) from Kd.V_mk ul392_0 ge392_0)
          clear hva_ hvn_ hvc_ ge392_0 ul392_0
          have hv392_1 := hcc392 1 _ rfl
          rw [add_field _ _ 1 (by omega)] at hv392_1
          replace hv392_1 := Option.some.inj (hv392_1.symm.trans hx392_1)
          injection hv392_1 with hva_ hvn_ hvc_
          rw [hva_] at ge392_1
          rw [hvc_] at ul392_1
          have HL392_1 := Aside0.mk (show Kd.V (Kd.int .u8) 5 _ w.heap.size _ _ ((rd_T75 t383 x6_1).f1) from Kd.V_mk ul392_1 ge392_1)
          clear hva_ hvn_ hvc_ ge392_1 ul392_1
          clear hcc392 hce392
          have HR392_0 := Aside0.mk hi392_0
          have HC392_0 := Aside0.mk hl392_0
          clear hi392_0 hl392_0
          have HR392_1 := Aside0.mk hi392_1
          have HC392_1 := Aside0.mk hl392_1
          clear hi392_1 hl392_1
          replace p392 := eq_true p392
          replace q392 := eq_true q392
          have ea_ := Option.some.inj (hx386_0.symm.trans hx392_0)
          injection ea_ with ea_ en_ ec_
          subst ea_
          subst ec_
          clear en_
          have ea_ := Option.some.inj (hx386_1.symm.trans hx392_1)
          injection ea_ with ea_ en_ ec_
          subst ea_
          subst ec_
          clear en_
          go_wp2
          repeat (go_quiet (fail); try go_wp2)
          go_roundg k2
          case measure => have := HK1.out; have := HK2.out; omega
          case rel => exact ⟨(ji19), (wrap64 (x6_1 + 1)), (by first | rfl | (simp; done) | (simp only [← hji19] <;> (first | rfl | simp)) | (simp [*]; done)), (by first | rfl | (simp; done) | (simp [*]; done)), H', ⟨by have := HK1.out; have := HK2.out; omega⟩, ⟨by (with_reducible repeat (first | apply Kd.N_alloc | apply Kd.N_drewN | apply Kd.N_drew)); exact HO_4.out⟩, ⟨by repeat (first | (with_reducible first | exact HB.out | apply below_alloc | apply pw_below_drewN | apply below_drew1) | exact HB.out)⟩⟩
       ·rw [if_neg c9] at H
        have c9b0 : decide (x7_2 < (a0.size : Int)) = false := decide_eq_false c9
        clear c9
        by_cases c20 : x7_2 = (((rd_T75 t383 x6_1).f0).length : Int)
        ·rw [if_pos c20] at H
         have c20b0 : (x7_2 == (((rd_T75 t383 x6_1).f0).length : Int)) = true := beq_iff_eq.mpr c20
         have c20b1 : (x7_2 != (((rd_T75 t383 x6_1).f0).length : Int)) = false := bne_eq_false_iff_eq.mpr c20
         clear c20
         simp only [Option.some.injEq, Prod.mk.injEq] at H
         obtain ⟨rfl, rfl⟩ := H
         have p386 : 0 ≤ (x6_1 : Int) := of_decide_eq_true (by first | (with_reducible assumption) | assumption)
         have q386 : x6_1 < (t383.length : Int) := of_decide_eq_true (by first | (with_reducible assumption) | assumption)
         obtain ⟨ad386, A386_0, c386_0, A386_1, c386_1, e386, hx386_0, hx386_1, hl386_0, hi386_0, hl386_1, hi386_1⟩ := at_T75 (Kd.N_reads' HO_4.out).2.2 x6_1 p386 q386
         cases e386
         obtain ⟨ce386, hce386, hMe386, hcc386⟩ := Kd.N_get HO_4.out z75 x6_1 p386 (by first | exact q386 | exact of_decide_eq_true (by first | (with_reducible assumption) | assumption) | (have e_ := (Kd.N_reads' HO_4.out).1; omega))
         obtain ⟨ua386_0, uc386_0, ua386_1, uc386_1, rfl, ul386_0, ge386_0, ul386_1, ge386_1⟩ := k75_openF hMe386
         have hv386_0 := hcc386 0 _ rfl
         rw [Nat.add_zero] at hv386_0
         replace hv386_0 := Option.some.inj (hv386_0.symm.trans hx386_0)
         injection hv386_0 with hva_ hvn_ hvc_
         rw [hva_] at ge386_0
         rw [hvc_] at ul386_0
         have HL386_0 := Aside0.mk (show Kd.V (Kd.int .u8) 5 _ w.heap.size _ _ ((rd_T75 t383 x6_1).f0) from Kd.V_mk ul386_0 ge386_0)
         clear hva_ hvn_ hvc_ ge386_0 ul386_0
         have hv386_1 := hcc386 1 _ rfl
         rw [add_field _ _ 1 (by omega)] at hv386_1
         replace hv386_1 := Option.some.inj (hv386_1.symm.trans hx386_1)
         injection hv386_1 with hva_ hvn_ hvc_
         rw [hva_] at ge386_1
         rw [hvc_] at ul386_1
         have HL386_1 := Aside0.mk (show Kd.V (Kd.int .u8) 5 _ w.heap.size _ _ ((rd_T75 t383 x6_1).f1) from Kd.V_mk ul386_1 ge386_1)
         clear hva_ hvn_ hvc_ ge386_1 ul386_1
         clear hcc386 hce386
         have HR386_0 := Aside0.mk hi386_0
         have HC386_0 := Aside0.mk hl386_0
         clear hi386_0 hl386_0
         have HR386_1 := Aside0.mk hi386_1
         have HC386_1 := Aside0.mk hl386_1
         clear hi386_1 hl386_1
         replace p386 := eq_true p386
         replace q386 := eq_true q386
         have p393 : 0 ≤ (x6_1 : Int) := of_decide_eq_true (by first | (with_reducible assumption) | assumption)
         have q393 : x6_1 < (t383.length : Int) := of_decide_eq_true (by first | (with_reducible assumption) | assumption)
         obtain ⟨ad393, A393_0, c393_0, A393_1, c393_1, e393, hx393_0, hx393_1, hl393_0, hi393_0, hl393_1, hi393_1⟩ := at_T75 (Kd.N_reads' HO_4.out).2.2 x6_1 p393 q393
         obtain rfl : ad386 = ad393 := (by injection e393)
         obtain ⟨ce393, hce393, hMe393, hcc393⟩ := Kd.N_get HO_4.out z75 x6_1 p393 (by first | exact q393 | exact of_decide_eq_true (by first | (with_reducible assumption) | assumption) | (have e_ := (Kd.N_reads' HO_4.out).1; omega))
         obtain ⟨ua393_0, uc393_0, ua393_1, uc393_1, rfl, ul393_0, ge393_0, ul393_1, ge393_1⟩ := k75_openF hMe393
         have hv393_0 := hcc393 0 _ rfl
         rw [Nat.add_zero] at hv393_0
         replace hv393_0 := Option.some.inj (hv393_0.symm.trans hx393_0)
         injection hv393_0 with hva_ hvn_ hvc_
         rw [hva_] at ge393_0
         rw [hvc_] at ul393_0
         have HL393_0 := Aside0.mk (show Kd.V (Kd.int .u8) 5 _ w.heap.size _ _ ((rd_T75 t383 x6_1).f0) from Kd.V_mk ul393_0 ge393_0)
         clear hva_ hvn_ hvc_ ge393_0 ul393_0
         have hv393_1 := hcc393 1 _ rfl
         rw [add_field _ _ 1 (by omega)] at hv393_1
         replace hv393_1 := Option.some.inj (hv393_1.symm.trans hx393_1)
         injection hv393_1 with hva_ hvn_ hvc_
         rw [hva_] at ge393_1
         rw [hvc_] at ul393_1
         have HL393_1 := Aside0.mk (show Kd.V (Kd.int .u8) 5 _ w.heap.size _ _ ((rd_T75 t383 x6_1).f1) from Kd.V_mk ul393_1 ge393_1)
         clear hva_ hvn_ hvc_ ge393_1 ul393_1
         clear hcc393 hce393
         have HR393_0 := Aside0.mk hi393_0
         have HC393_0 := Aside0.mk hl393_0
         clear hi393_0 hl393_0
         have HR393_1 := Aside0.mk hi393_1
         have HC393_1 := Aside0.mk hl393_1
         clear hi393_1 hl393_1
         replace p393 := eq_true p393
         replace q393 := eq_true q393
         have ea_ := Option.some.inj (hx386_0.symm.trans hx393_0)
         injection ea_ with ea_ en_ ec_
         subst ea_
         subst ec_
         clear en_
         have ea_ := Option.some.inj (hx386_1.symm.trans hx393_1)
         injection ea_ with ea_ en_ ec_
         subst ea_
         subst ec_
         clear en_
         go_wp2
         repeat (go_quiet (fail); try go_wp2)
         go_ret2
         exact ⟨by first | rfl | (simp [errW_none, errW_some] <;> rfl) | (simp [*, errW_none, errW_some] <;> rfl), by repeat (first | (with_reducible first | exact HB.out | apply below_alloc | apply pw_below_drewN | apply below_drew1) | exact HB.out)⟩
        ·rw [if_neg c20] at H
         have c20b0 : (x7_2 == (((rd_T75 t383 x6_1).f0).length : Int)) = false := beq_eq_false_iff_ne.mpr c20
         have c20b1 : (x7_2 != (((rd_T75 t383 x6_1).f0).length : Int)) = true := bne_iff_ne.mpr c20
         obtain ⟨ji21, hji21⟩ : ∃ j_ : Int, (mx x5_1 x7_2) = j_ := ⟨_, rfl⟩
         replace H : (rotulusref1_One.l0 k2 a0 t383 ji21 (wrap64 (x6_1 + 1))) = some (r1, r2) := by first | (rw [hji21] at H; exact H) | (simp only [hji21] at H ⊢; exact H)
         have hji21_ : (if x5_1 < x7_2 then x7_2 else x5_1) = ji21 := hji21
         have H' := Aside0.mk H
         clear H
         have p386 : 0 ≤ (x6_1 : Int) := of_decide_eq_true (by first | (with_reducible assumption) | assumption)
         have q386 : x6_1 < (t383.length : Int) := of_decide_eq_true (by first | (with_reducible assumption) | assumption)
         obtain ⟨ad386, A386_0, c386_0, A386_1, c386_1, e386, hx386_0, hx386_1, hl386_0, hi386_0, hl386_1, hi386_1⟩ := at_T75 (Kd.N_reads' HO_4.out).2.2 x6_1 p386 q386
         cases e386
         obtain ⟨ce386, hce386, hMe386, hcc386⟩ := Kd.N_get HO_4.out z75 x6_1 p386 (by first | exact q386 | exact of_decide_eq_true (by first | (with_reducible assumption) | assumption) | (have e_ := (Kd.N_reads' HO_4.out).1; omega))
         obtain ⟨ua386_0, uc386_0, ua386_1, uc386_1, rfl, ul386_0, ge386_0, ul386_1, ge386_1⟩ := k75_openF hMe386
         have hv386_0 := hcc386 0 _ rfl
         rw [Nat.add_zero] at hv386_0
         replace hv386_0 := Option.some.inj (hv386_0.symm.trans hx386_0)
         injection hv386_0 with hva_ hvn_ hvc_
         rw [hva_] at ge386_0
         rw [hvc_] at ul386_0
         have HL386_0 := Aside0.mk (show Kd.V (Kd.int .u8) 5 _ w.heap.size _ _ ((rd_T75 t383 x6_1).f0) from Kd.V_mk ul386_0 ge386_0)
         clear hva_ hvn_ hvc_ ge386_0 ul386_0
         have hv386_1 := hcc386 1 _ rfl
         rw [add_field _ _ 1 (by omega)] at hv386_1
         replace hv386_1 := Option.some.inj (hv386_1.symm.trans hx386_1)
         injection hv386_1 with hva_ hvn_ hvc_
         rw [hva_] at ge386_1
         rw [hvc_] at ul386_1
         have HL386_1 := Aside0.mk (show Kd.V (Kd.int .u8) 5 _ w.heap.size _ _ ((rd_T75 t383 x6_1).f1) from Kd.V_mk ul386_1 ge386_1)
         clear hva_ hvn_ hvc_ ge386_1 ul386_1
         clear hcc386 hce386
         have HR386_0 := Aside0.mk hi386_0
         have HC386_0 := Aside0.mk hl386_0
         clear hi386_0 hl386_0
         have HR386_1 := Aside0.mk hi386_1
         have HC386_1 := Aside0.mk hl386_1
         clear hi386_1 hl386_1
         replace p386 := eq_true p386
         replace q386 := eq_true q386
         have p393 : 0 ≤ (x6_1 : Int) := of_decide_eq_true (by first | (with_reducible assumption) | assumption)
         have q393 : x6_1 < (t383.length : Int) := of_decide_eq_true (by first | (with_reducible assumption) | assumption)
         obtain ⟨ad393, A393_0, c393_0, A393_1, c393_1, e393, hx393_0, hx393_1, hl393_0, hi393_0, hl393_1, hi393_1⟩ := at_T75 (Kd.N_reads' HO_4.out).2.2 x6_1 p393 q393
         obtain rfl : ad386 = ad393 := (by injection e393)
         obtain ⟨ce393, hce393, hMe393, hcc393⟩ := Kd.N_get HO_4.out z75 x6_1 p393 (by first | exact q393 | exact of_decide_eq_true (by first | (with_reducible assumption) | assumption) | (have e_ := (Kd.N_reads' HO_4.out).1; omega))
         obtain ⟨ua393_0, uc393_0, ua393_1, uc393_1, rfl, ul393_0, ge393_0, ul393_1, ge393_1⟩ := k75_openF hMe393
         have hv393_0 := hcc393 0 _ rfl
         rw [Nat.add_zero] at hv393_0
         replace hv393_0 := Option.some.inj (hv393_0.symm.trans hx393_0)
         injection hv393_0 with hva_ hvn_ hvc_
         rw [hva_] at ge393_0
         rw [hvc_] at ul393_0
         have HL393_0 := Aside0.mk (show Kd.V (Kd.int .u8) 5 _ w.heap.size _ _ ((rd_T75 t383 x6_1).f0) from Kd.V_mk ul393_0 ge393_0)
         clear hva_ hvn_ hvc_ ge393_0 ul393_0
         have hv393_1 := hcc393 1 _ rfl
         rw [add_field _ _ 1 (by omega)] at hv393_1
         replace hv393_1 := Option.some.inj (hv393_1.symm.trans hx393_1)
         injection hv393_1 with hva_ hvn_ hvc_
         rw [hva_] at ge393_1
         rw [hvc_] at ul393_1
         have HL393_1 := Aside0.mk (show Kd.V (Kd.int .u8) 5 _ w.heap.size _ _ ((rd_T75 t383 x6_1).f1) from Kd.V_mk ul393_1 ge393_1)
         clear hva_ hvn_ hvc_ ge393_1 ul393_1
         clear hcc393 hce393
         have HR393_0 := Aside0.mk hi393_0
         have HC393_0 := Aside0.mk hl393_0
         clear hi393_0 hl393_0
         have HR393_1 := Aside0.mk hi393_1
         have HC393_1 := Aside0.mk hl393_1
         clear hi393_1 hl393_1
         replace p393 := eq_true p393
         replace q393 := eq_true q393
         have ea_ := Option.some.inj (hx386_0.symm.trans hx393_0)
         injection ea_ with ea_ en_ ec_
         subst ea_
         subst ec_
         clear en_
         have ea_ := Option.some.inj (hx386_1.symm.trans hx393_1)
         injection ea_ with ea_ en_ ec_
         subst ea_
         subst ec_
         clear en_
         go_wp2
         repeat (go_quiet (fail); try go_wp2)
         go_roundg k2
         case measure => have := HK1.out; have := HK2.out; omega
         case rel => exact ⟨(ji21), (wrap64 (x6_1 + 1)), (by first | rfl | (simp; done) | (simp only [← hji21] <;> (first | rfl | simp)) | (simp [*]; done)), (by first | rfl | (simp; done) | (simp [*]; done)), H', ⟨by have := HK1.out; have := HK2.out; omega⟩, ⟨by (with_reducible repeat (first | apply Kd.N_alloc | apply Kd.N_drewN | apply Kd.N_drew)); exact HO_4.out⟩, ⟨by repeat (first | (with_reducible first | exact HB.out | apply below_alloc | apply pw_below_drewN | apply below_drew1) | exact HB.out)⟩⟩
      ·rw [if_neg c8] at H
       have c8b0 : decide (x7_2 < (((rd_T75 t383 x6_1).f0).length : Int)) = false := decide_eq_false c8
       clear c8
       by_cases c22 : x7_2 = (((rd_T75 t383 x6_1).f0).length : Int)
       ·rw [if_pos c22] at H
        have c22b0 : (x7_2 == (((rd_T75 t383 x6_1).f0).length : Int)) = true := beq_iff_eq.mpr c22
        have c22b1 : (x7_2 != (((rd_T75 t383 x6_1).f0).length : Int)) = false := bne_eq_false_iff_eq.mpr c22
        clear c22
        simp only [Option.some.injEq, Prod.mk.injEq] at H
        obtain ⟨rfl, rfl⟩ := H
        have p386 : 0 ≤ (x6_1 : Int) := of_decide_eq_true (by first | (with_reducible assumption) | assumption)
        have q386 : x6_1 < (t383.length : Int) := of_decide_eq_true (by first | (with_reducible assumption) | assumption)
        obtain ⟨ad386, A386_0, c386_0, A386_1, c386_1, e386, hx386_0, hx386_1, hl386_0, hi386_0, hl386_1, hi386_1⟩ := at_T75 (Kd.N_reads' HO_4.out).2.2 x6_1 p386 q386
        cases e386
        obtain ⟨ce386, hce386, hMe386, hcc386⟩ := Kd.N_get HO_4.out z75 x6_1 p386 (by first | exact q386 | exact of_decide_eq_true (by first | (with_reducible assumption) | assumption) | (have e_ := (Kd.N_reads' HO_4.out).1; omega))
        obtain ⟨ua386_0, uc386_0, ua386_1, uc386_1, rfl, ul386_0, ge386_0, ul386_1, ge386_1⟩ := k75_openF hMe386
        have hv386_0 := hcc386 0 _ rfl
        rw [Nat.add_zero] at hv386_0
        replace hv386_0 := Option.some.inj (hv386_0.symm.trans hx386_0)
        injection hv386_0 with hva_ hvn_ hvc_
        rw [hva_] at ge386_0
        rw [hvc_] at ul386_0
        have HL386_0 := Aside0.mk (show Kd.V (Kd.int .u8) 5 _ w.heap.size _ _ ((rd_T75 t383 x6_1).f0) from Kd.V_mk ul386_0 ge386_0)
        clear hva_ hvn_ hvc_ ge386_0 ul386_0
        have hv386_1 := hcc386 1 _ rfl
        rw [add_field _ _ 1 (by omega)] at hv386_1
        replace hv386_1 := Option.some.inj (hv386_1.symm.trans hx386_1)
        injection hv386_1 with hva_ hvn_ hvc_
        rw [hva_] at ge386_1
        rw [hvc_] at ul386_1
        have HL386_1 := Aside0.mk (show Kd.V (Kd.int .u8) 5 _ w.heap.size _ _ ((rd_T75 t383 x6_1).f1) from Kd.V_mk ul386_1 ge386_1)
        clear hva_ hvn_ hvc_ ge386_1 ul386_1
        clear hcc386 hce386
        have HR386_0 := Aside0.mk hi386_0
        have HC386_0 := Aside0.mk hl386_0
        clear hi386_0 hl386_0
        have HR386_1 := Aside0.mk hi386_1
        have HC386_1 := Aside0.mk hl386_1
        clear hi386_1 hl386_1
        replace p386 := eq_true p386
        replace q386 := eq_true q386
        have p394 : 0 ≤ (x6_1 : Int) := of_decide_eq_true (by first | (with_reducible assumption) | assumption)
        have q394 : x6_1 < (t383.length : Int) := of_decide_eq_true (by first | (with_reducible assumption) | assumption)
        obtain ⟨ad394, A394_0, c394_0, A394_1, c394_1, e394, hx394_0, hx394_1, hl394_0, hi394_0, hl394_1, hi394_1⟩ := at_T75 (Kd.N_reads' HO_4.out).2.2 x6_1 p394 q394
        obtain rfl : ad386 = ad394 := (by injection e394)
        obtain ⟨ce394, hce394, hMe394, hcc394⟩ := Kd.N_get HO_4.out z75 x6_1 p394 (by first | exact q394 | exact of_decide_eq_true (by first | (with_reducible assumption) | assumption) | (have e_ := (Kd.N_reads' HO_4.out).1; omega))
        obtain ⟨ua394_0, uc394_0, ua394_1, uc394_1, rfl, ul394_0, ge394_0, ul394_1, ge394_1⟩ := k75_openF hMe394
        have hv394_0 := hcc394 0 _ rfl
        rw [Nat.add_zero] at hv394_0
        replace hv394_0 := Option.some.inj (hv394_0.symm.trans hx394_0)
        injection hv394_0 with hva_ hvn_ hvc_
        rw [hva_] at ge394_0
        rw [hvc_] at ul394_0
        have HL394_0 := Aside0.mk (show Kd.V (Kd.int .u8) 5 _ w.heap.size _ _ ((rd_T75 t383 x6_1).f0) from Kd.V_mk ul394_0 ge394_0)
        clear hva_ hvn_ hvc_ ge394_0 ul394_0
        have hv394_1 := hcc394 1 _ rfl
        rw [add_field _ _ 1 (by omega)] at hv394_1
        replace hv394_1 := Option.some.inj (hv394_1.symm.trans hx394_1)
        injection hv394_1 with hva_ hvn_ hvc_
        rw [hva_] at ge394_1
        rw [hvc_] at ul394_1
        have HL394_1 := Aside0.mk (show Kd.V (Kd.int .u8) 5 _ w.heap.size _ _ ((rd_T75 t383 x6_1).f1) from Kd.V_mk ul394_1 ge394_1)
        clear hva_ hvn_ hvc_ ge394_1 ul394_1
        clear hcc394 hce394
        have HR394_0 := Aside0.mk hi394_0
        have HC394_0 := Aside0.mk hl394_0
        clear hi394_0 hl394_0
        have HR394_1 := Aside0.mk hi394_1
        have HC394_1 := Aside0.mk hl394_1
        clear hi394_1 hl394_1
        replace p394 := eq_true p394
        replace q394 := eq_true q394
        have ea_ := Option.some.inj (hx386_0.symm.trans hx394_0)
        injection ea_ with ea_ en_ ec_
        subst ea_
        subst ec_
        clear en_
        have ea_ := Option.some.inj (hx386_1.symm.trans hx394_1)
        injection ea_ with ea_ en_ ec_
        subst ea_
        subst ec_
        clear en_
        go_wp2
        repeat (go_quiet (fail); try go_wp2)
        go_ret2
        exact ⟨by first | rfl | (simp [errW_none, errW_some] <;> rfl) | (simp [*, errW_none, errW_some] <;> rfl), by repeat (first | (with_reducible first | exact HB.out | apply below_alloc | apply pw_below_drewN | apply below_drew1) | exact HB.out)⟩
       ·rw [if_neg c22] at H
        have c22b0 : (x7_2 == (((rd_T75 t383 x6_1).f0).length : Int)) = false := beq_eq_false_iff_ne.mpr c22
        have c22b1 : (x7_2 != (((rd_T75 t383 x6_1).f0).length : Int)) = true := bne_iff_ne.mpr c22
        obtain ⟨ji23, hji23⟩ : ∃ j_ : Int, (mx x5_1 x7_2) = j_ := ⟨_, rfl⟩
        replace H : (rotulusref1_One.l0 k2 a0 t383 ji23 (wrap64 (x6_1 + 1))) = some (r1, r2) := by first | (rw [hji23] at H; exact H) | (simp only [hji23] at H ⊢; exact H)
        have hji23_ : (if x5_1 < x7_2 then x7_2 else x5_1) = ji23 := hji23
        have H' := Aside0.mk H
        clear H
        have p386 : 0 ≤ (x6_1 : Int) := of_decide_eq_true (by first | (with_reducible assumption) | assumption)
        have q386 : x6_1 < (t383.length : Int) := of_decide_eq_true (by first | (with_reducible assumption) | assumption)
        obtain ⟨ad386, A386_0, c386_0, A386_1, c386_1, e386, hx386_0, hx386_1, hl386_0, hi386_0, hl386_1, hi386_1⟩ := at_T75 (Kd.N_reads' HO_4.out).2.2 x6_1 p386 q386
        cases e386
        obtain ⟨ce386, hce386, hMe386, hcc386⟩ := Kd.N_get HO_4.out z75 x6_1 p386 (by first | exact q386 | exact of_decide_eq_true (by first | (with_reducible assumption) | assumption) | (have e_ := (Kd.N_reads' HO_4.out).1; omega))
        obtain ⟨ua386_0, uc386_0, ua386_1, uc386_1, rfl, ul386_0, ge386_0, ul386_1, ge386_1⟩ := k75_openF hMe386
        have hv386_0 := hcc386 0 _ rfl
        rw [Nat.add_zero] at hv386_0
        replace hv386_0 := Option.some.inj (hv386_0.symm.trans hx386_0)
        injection hv386_0 with hva_ hvn_ hvc_
        rw [hva_] at ge386_0
        rw [hvc_] at ul386_0
        have HL386_0 := Aside0.mk (show Kd.V (Kd.int .u8) 5 _ w.heap.size _ _ ((rd_T75 t383 x6_1).f0) from Kd.V_mk ul386_0 ge386_0)
        clear hva_ hvn_ hvc_ ge386_0 ul386_0
        have hv386_1 := hcc386 1 _ rfl
        rw [add_field _ _ 1 (by omega)] at hv386_1
        replace hv386_1 := Option.some.inj (hv386_1.symm.trans hx386_1)
        injection hv386_1 with hva_ hvn_ hvc_
        rw [hva_] at ge386_1
        rw [hvc_] at ul386_1
        have HL386_1 := Aside0.mk (show Kd.V (Kd.int .u8) 5 _ w.heap.size _ _ ((rd_T75 t383 x6_1).f1) from Kd.V_mk ul386_1 ge386_1)
        clear hva_ hvn_ hvc_ ge386_1 ul386_1
        clear hcc386 hce386
        have HR386_0 := Aside0.mk hi386_0
        have HC386_0 := Aside0.mk hl386_0
        clear hi386_0 hl386_0
        have HR386_1 := Aside0.mk hi386_1
        have HC386_1 := Aside0.mk hl386_1
        clear hi386_1 hl386_1
        replace p386 := eq_true p386
        replace q386 := eq_true q386
        have p394 : 0 ≤ (x6_1 : Int) := of_decide_eq_true (by first | (with_reducible assumption) | assumption)
        have q394 : x6_1 < (t383.length : Int) := of_decide_eq_true (by first | (with_reducible assumption) | assumption)
        obtain ⟨ad394, A394_0, c394_0, A394_1, c394_1, e394, hx394_0, hx394_1, hl394_0, hi394_0, hl394_1, hi394_1⟩ := at_T75 (Kd.N_reads' HO_4.out).2.2 x6_1 p394 q394
        obtain rfl : ad386 = ad394 := (by injection e394)
        obtain ⟨ce394, hce394, hMe394, hcc394⟩ := Kd.N_get HO_4.out z75 x6_1 p394 (by first | exact q394 | exact of_decide_eq_true (by first | (with_reducible assumption) | assumption) | (have e_ := (Kd.N_reads' HO_4.out).1; omega))
        obtain ⟨ua394_0, uc394_0, ua394_1, uc394_1, rfl, ul394_0, ge394_0, ul394_1, ge394_1⟩ := k75_openF hMe394
        have hv394_0 := hcc394 0 _ rfl
        rw [Nat.add_zero] at hv394_0
        replace hv394_0 := Option.some.inj (hv394_0.symm.trans hx394_0)
        injection hv394_0 with hva_ hvn_ hvc_
        rw [hva_] at ge394_0
        rw [hvc_] at ul394_0
        have HL394_0 := Aside0.mk (show Kd.V (Kd.int .u8) 5 _ w.heap.size _ _ ((rd_T75 t383 x6_1).f0) from Kd.V_mk ul394_0 ge394_0)
        clear hva_ hvn_ hvc_ ge394_0 ul394_0
        have hv394_1 := hcc394 1 _ rfl
        rw [add_field _ _ 1 (by omega)] at hv394_1
        replace hv394_1 := Option.some.inj (hv394_1.symm.trans hx394_1)
        injection hv394_1 with hva_ hvn_ hvc_
        rw [hva_] at ge394_1
        rw [hvc_] at ul394_1
        have HL394_1 := Aside0.mk (show Kd.V (Kd.int .u8) 5 _ w.heap.size _ _ ((rd_T75 t383 x6_1).f1) from Kd.V_mk ul394_1 ge394_1)
        clear hva_ hvn_ hvc_ ge394_1 ul394_1
        clear hcc394 hce394
        have HR394_0 := Aside0.mk hi394_0
        have HC394_0 := Aside0.mk hl394_0
        clear hi394_0 hl394_0
        have HR394_1 := Aside0.mk hi394_1
        have HC394_1 := Aside0.mk hl394_1
        clear hi394_1 hl394_1
        replace p394 := eq_true p394
        replace q394 := eq_true q394
        have ea_ := Option.some.inj (hx386_0.symm.trans hx394_0)
        injection ea_ with ea_ en_ ec_
        subst ea_
        subst ec_
        clear en_
        have ea_ := Option.some.inj (hx386_1.symm.trans hx394_1)
        injection ea_ with ea_ en_ ec_
        subst ea_
        subst ec_
        clear en_
        go_wp2
        repeat (go_quiet (fail); try go_wp2)
        go_roundg k2
        case measure => have := HK1.out; have := HK2.out; omega
        case rel => exact ⟨(ji23), (wrap64 (x6_1 + 1)), (by first | rfl | (simp; done) | (simp only [← hji23] <;> (first | rfl | simp)) | (simp [*]; done)), (by first | rfl | (simp; done) | (simp [*]; done)), H', ⟨by have := HK1.out; have := HK2.out; omega⟩, ⟨by (with_reducible repeat (first | apply Kd.N_alloc | apply Kd.N_drewN | apply Kd.N_drew)); exact HO_4.out⟩, ⟨by repeat (first | (with_reducible first | exact HB.out | apply below_alloc | apply pw_below_drewN | apply below_drew1) | exact HB.out)⟩⟩
   ·rw [if_neg c4] at H
    have c4b0 : decide (x6_1 < (t383.length : Int)) = false := decide_eq_false c4
    clear c4
    simp only [Option.some.injEq, Prod.mk.injEq] at H
    obtain ⟨rfl, rfl⟩ := H
    obtain ⟨Ao24, co24, eo24⟩ := Kd.N_slice HO_4.out
    subst eo24
    go_wp2
    repeat (go_quiet (fail); try go_wp2)
    go_ret2
    exact ⟨by first | rfl | (simp [errW_none, errW_some] <;> rfl) | (simp [*, errW_none, errW_some] <;> rfl), by repeat (first | (with_reducible first | exact HB.out | apply below_alloc | apply pw_below_drewN | apply below_drew1) | exact HB.out)⟩

end Go.Proofs.Ytohafoihegjlnaa.P
