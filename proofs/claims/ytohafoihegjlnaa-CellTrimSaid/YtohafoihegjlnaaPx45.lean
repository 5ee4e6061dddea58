-- written by a print that this session turned (wip/tools/turnprint.py)
import Derived.Test.YtohafoihegjlnaaPx0
import Derived.Test.YtohafoihegjlnaaPx13
import Derived.Test.YtohafoihegjlnaaPx15
import Derived.Test.YtohafoihegjlnaaPx23
import Derived.Test.YtohafoihegjlnaaPx38
namespace Go.Proofs.Ytohafoihegjlnaa.P
open Go.RowKit Go.Proofs.YtohafoihegjlnaaW.PrintWords Go.Proofs.YtohafoihegjlnaaW.PrintLast Go.Proofs.YtohafoihegjlnaaW.PrintMore
attribute [local go_sem] max2_int min2_int max_two min_two max_three min_three max_four min_four   -- for this text's walks alone
set_option linter.unusedVariables false
set_option linter.unusedSimpArgs false

/-! ### rotuluslaw1_CellTrim: function 15 -/
mutual
def rotuluslaw1_CellTrim.j0 : Nat → List (S49) → List (S49) → Bool → Option (Bool)
  | 0, _, _, _ => none
  | k + 1, x0, x4, x43 => if x43 = true then (some false) else (rotuluslaw1_CellTrim.l0 k x0 x4 (x4.length : Int))
def rotuluslaw1_CellTrim.l0 : Nat → List (S49) → List (S49) → Int → Option (Bool)
  | 0, _, _, _ => none
  | k + 1, x0, x4, x5 => if x5 < (x0.length : Int) then (if 0 ≤ x5 then ((cell_IsBlank.f ((rd_T49 x0 x5).f0) ((rd_T49 x0 x5).f1) ((rd_T49 x0 x5).f2)).bind fun t646 => (if t646 = true then (rotuluslaw1_CellTrim.l0 k x0 x4 (wrap64 (x5 + 1))) else (some false))) else (none)) else ((cell_Trim.f k x4).bind fun t647 => ((rotulusref1_EqCells.f k t647 x4).bind fun t650 => (some t650)))
end
def rotuluslaw1_CellTrim.f (k : Nat) (l0 : List (S49)) : Option (Bool) := (rotuluslaw1_begun.f k).bind fun t625 => (if t625 = true then (if 0 ≤ (mn (l0.length : Int) 40) then (if (mn (l0.length : Int) 40) ≤ (l0.length : Int) then ((some (l0.take ((mn (l0.length : Int) 40) : Int).toNat : List (S49))).bind fun y626 => ((cell_Trim.f k y626).bind fun t630 => (if (t630.length : Int) > (y626.length : Int) then (rotuluslaw1_CellTrim.j0 k y626 t630 true) else (if (t630.length : Int) > 0 then (if 0 ≤ (wrap64 ((t630.length : Int) - 1)) then (if (wrap64 ((t630.length : Int) - 1)) < (t630.length : Int) then ((cell_IsBlank.f ((rd_T49 t630 (wrap64 ((t630.length : Int) - 1))).f0) ((rd_T49 t630 (wrap64 ((t630.length : Int) - 1))).f1) ((rd_T49 t630 (wrap64 ((t630.length : Int) - 1))).f2)).bind fun t634 => (if t634 = true then (rotuluslaw1_CellTrim.j0 k y626 t630 true) else (if 0 ≤ (t630.length : Int) then (if (t630.length : Int) ≤ (y626.length : Int) then ((rotulusref1_EqCells.f k t630 (y626.take ((t630.length : Int) : Int).toNat)).bind fun t639 => (rotuluslaw1_CellTrim.j0 k y626 t630 (!t639))) else (none)) else (none)))) else (none)) else (none)) else (if 0 ≤ (t630.length : Int) then (if (t630.length : Int) ≤ (y626.length : Int) then ((rotulusref1_EqCells.f k t630 (y626.take ((t630.length : Int) : Int).toNat)).bind fun t644 => (rotuluslaw1_CellTrim.j0 k y626 t630 (!t644))) else (none)) else (none)))))) else (none)) else (none)) else (some false))
theorem rotuluslaw1_CellTrim.mono_l : ∀ k, (∀ y0 y1 y2, LeO (rotuluslaw1_CellTrim.j0 k y0 y1 y2) (rotuluslaw1_CellTrim.j0 (k + 1) y0 y1 y2)) ∧ (∀ y0 y1 y2, LeO (rotuluslaw1_CellTrim.l0 k y0 y1 y2) (rotuluslaw1_CellTrim.l0 (k + 1) y0 y1 y2))
  | 0 => ⟨fun _ _ _ r h => by simp [rotuluslaw1_CellTrim.j0] at h, fun _ _ _ r h => by simp [rotuluslaw1_CellTrim.l0] at h⟩
  | k + 1 => by
    obtain ⟨ih0, ih1⟩ := rotuluslaw1_CellTrim.mono_l k
    refine ⟨?_, ?_⟩
    · intro y0 y1 y2
      unfold rotuluslaw1_CellTrim.j0
      repeat' first
      | (with_reducible exact ih0 _ _ _)
      | (with_reducible exact ih1 _ _ _)
      | (with_reducible exact cell_Trim.mono _ _)
      | (with_reducible exact rotuluslaw1_begun.mono _)
      | (with_reducible exact rotulusref1_EqCells.mono _ _ _)
      | (with_reducible exact LeO.refl _)
      | (with_reducible exact LeO.none _)
      | (with_reducible refine LeO.ite ?_ ?_)
      | (with_reducible refine LeO.bind ?_ (fun _ => ?_))
      | exact ih0 _ _ _
      | exact ih1 _ _ _
      | exact cell_Trim.mono _ _
      | exact rotuluslaw1_begun.mono _
      | exact rotulusref1_EqCells.mono _ _ _
      | exact LeO.none _
      | refine LeO.ite ?_ ?_
      | refine LeO.bind ?_ (fun _ => ?_)
    · intro y0 y1 y2
      unfold rotuluslaw1_CellTrim.l0
      repeat' first
      | (with_reducible exact ih0 _ _ _)
      | (with_reducible exact ih1 _ _ _)
      | (with_reducible exact cell_Trim.mono _ _)
      | (with_reducible exact rotuluslaw1_begun.mono _)
      | (with_reducible exact rotulusref1_EqCells.mono _ _ _)
      | (with_reducible exact LeO.refl _)
      | (with_reducible exact LeO.none _)
      | (with_reducible refine LeO.ite ?_ ?_)
      | (with_reducible refine LeO.bind ?_ (fun _ => ?_))
      | exact ih0 _ _ _
      | exact ih1 _ _ _
      | exact cell_Trim.mono _ _
      | exact rotuluslaw1_begun.mono _
      | exact rotulusref1_EqCells.mono _ _ _
      | exact LeO.none _
      | refine LeO.ite ?_ ?_
      | refine LeO.bind ?_ (fun _ => ?_)
theorem rotuluslaw1_CellTrim.mono : ∀ a0 k, LeO (rotuluslaw1_CellTrim.f k a0) (rotuluslaw1_CellTrim.f (k + 1) a0) := by
  intro a0 k
  obtain ⟨ih0, ih1⟩ := rotuluslaw1_CellTrim.mono_l k
  unfold rotuluslaw1_CellTrim.f
  repeat' first
      | (with_reducible exact ih0 _ _ _)
      | (with_reducible exact ih1 _ _ _)
      | (with_reducible exact cell_Trim.mono _ _)
      | (with_reducible exact rotuluslaw1_begun.mono _)
      | (with_reducible exact rotulusref1_EqCells.mono _ _ _)
      | (with_reducible exact LeO.refl _)
      | (with_reducible exact LeO.none _)
      | (with_reducible refine LeO.ite ?_ ?_)
      | (with_reducible refine LeO.bind ?_ (fun _ => ?_))
      | exact ih0 _ _ _
      | exact ih1 _ _ _
      | exact cell_Trim.mono _ _
      | exact rotuluslaw1_begun.mono _
      | exact rotulusref1_EqCells.mono _ _ _
      | exact LeO.none _
      | refine LeO.ite ?_ ?_
      | refine LeO.bind ?_ (fun _ => ?_)
set_option maxHeartbeats 8000000 in
set_option maxRecDepth 100000 in
theorem rotuluslaw1_CellTrim.calls (k : Nat) (A0 : Option Addr) (c0 : Nat) (l0 : List (S49)) (r : Bool) (w : World) (hr0 : Kd.C k49 w A0 l0.length l0) (hc0 : l0.length ≤ c0) (h : rotuluslaw1_CellTrim.f k l0 = some r) :
    Calls Try.prog 15 #[.slice A0 l0.length c0] w fun e w' => e = .returned (.bool r) ∧ Below w.heap.size w w' := by
  have hu49 := Try.underlying49
  have HR0 := Aside0.mk hr0
  have HC0 := Aside0.mk hc0
  clear hr0 hc0
  have HB := Aside0.mk (Below.refl w.heap.size w)
  have H : ((rotuluslaw1_begun.f k).bind fun t625 => (if t625 = true then (if 0 ≤ (mn (l0.length : Int) 40) then (if (mn (l0.length : Int) 40) ≤ (l0.length : Int) then ((some (l0.take ((mn (l0.length : Int) 40) : Int).toNat : List (S49))).bind fun y626 => ((cell_Trim.f k y626).bind fun t630 => (if (t630.length : Int) > (y626.length : Int) then (rotuluslaw1_CellTrim.j0 k y626 t630 true) else (if (t630.length : Int) > 0 then (if 0 ≤ (wrap64 ((t630.length : Int) - 1)) then (if (wrap64 ((t630.length : Int) - 1)) < (t630.length : Int) then ((cell_IsBlank.f ((rd_T49 t630 (wrap64 ((t630.length : Int) - 1))).f0) ((rd_T49 t630 (wrap64 ((t630.length : Int) - 1))).f1) ((rd_T49 t630 (wrap64 ((t630.length : Int) - 1))).f2)).bind fun t634 => (if t634 = true then (rotuluslaw1_CellTrim.j0 k y626 t630 true) else (if 0 ≤ (t630.length : Int) then (if (t630.length : Int) ≤ (y626.length : Int) then ((rotulusref1_EqCells.f k t630 (y626.take ((t630.length : Int) : Int).toNat)).bind fun t639 => (rotuluslaw1_CellTrim.j0 k y626 t630 (!t639))) else (none)) else (none)))) else (none)) else (none)) else (if 0 ≤ (t630.length : Int) then (if (t630.length : Int) ≤ (y626.length : Int) then ((rotulusref1_EqCells.f k t630 (y626.take ((t630.length : Int) : Int).toNat)).bind fun t644 => (rotuluslaw1_CellTrim.j0 k y626 t630 (!t644))) else (none)) else (none)))))) else (none)) else (none)) else (some false))) = some r := h
  clear h
  replace H := Option.bind_eq_some_iff.mp H
  obtain ⟨t625, A20, H⟩ := H
  replace H : (if t625 = true then (if 0 ≤ (mn (l0.length : Int) 40) then (if (mn (l0.length : Int) 40) ≤ (l0.length : Int) then ((some (l0.take ((mn (l0.length : Int) 40) : Int).toNat : List (S49))).bind fun y626 => ((cell_Trim.f k y626).bind fun t630 => (if (t630.length : Int) > (y626.length : Int) then (rotuluslaw1_CellTrim.j0 k y626 t630 true) else (if (t630.length : Int) > 0 then (if 0 ≤ (wrap64 ((t630.length : Int) - 1)) then (if (wrap64 ((t630.length : Int) - 1)) < (t630.length : Int) then ((cell_IsBlank.f ((rd_T49 t630 (wrap64 ((t630.length : Int) - 1))).f0) ((rd_T49 t630 (wrap64 ((t630.length : Int) - 1))).f1) ((rd_T49 t630 (wrap64 ((t630.length : Int) - 1))).f2)).bind fun t634 => (if t634 = true then (rotuluslaw1_CellTrim.j0 k y626 t630 true) else (if 0 ≤ (t630.length : Int) then (if (t630.length : Int) ≤ (y626.length : Int) then ((rotulusref1_EqCells.f k t630 (y626.take ((t630.length : Int) : Int).toNat)).bind fun t639 => (rotuluslaw1_CellTrim.j0 k y626 t630 (!t639))) else (none)) else (none)))) else (none)) else (none)) else (if 0 ≤ (t630.length : Int) then (if (t630.length : Int) ≤ (y626.length : Int) then ((rotulusref1_EqCells.f k t630 (y626.take ((t630.length : Int) : Int).toNat)).bind fun t644 => (rotuluslaw1_CellTrim.j0 k y626 t630 (!t644))) else (none)) else (none)))))) else (none)) else (none)) else (some false)) = some r := H
  have A2 := Aside0.mk A20
  clear A20
  by_cases c3 : t625 = true
  · subst c3
    have H1 : (if 0 ≤ (mn (l0.length : Int) 40) then (if (mn (l0.length : Int) 40) ≤ (l0.length : Int) then ((some (l0.take ((mn (l0.length : Int) 40) : Int).toNat : List (S49))).bind fun y626 => ((cell_Trim.f k y626).bind fun t630 => (if (t630.length : Int) > (y626.length : Int) then (rotuluslaw1_CellTrim.j0 k y626 t630 true) else (if (t630.length : Int) > 0 then (if 0 ≤ (wrap64 ((t630.length : Int) - 1)) then (if (wrap64 ((t630.length : Int) - 1)) < (t630.length : Int) then ((cell_IsBlank.f ((rd_T49 t630 (wrap64 ((t630.length : Int) - 1))).f0) ((rd_T49 t630 (wrap64 ((t630.length : Int) - 1))).f1) ((rd_T49 t630 (wrap64 ((t630.length : Int) - 1))).f2)).bind fun t634 => (if t634 = true then (rotuluslaw1_CellTrim.j0 k y626 t630 true) else (if 0 ≤ (t630.length : Int) then (if (t630.length : Int) ≤ (y626.length : Int) then ((rotulusref1_EqCells.f k t630 (y626.take ((t630.length : Int) : Int).toNat)).bind fun t639 => (rotuluslaw1_CellTrim.j0 k y626 t630 (!t639))) else (none)) else (none)))) else (none)) else (none)) else (if 0 ≤ (t630.length : Int) then (if (t630.length : Int) ≤ (y626.length : Int) then ((rotulusref1_EqCells.f k t630 (y626.take ((t630.length : Int) : Int).toNat)).bind fun t644 => (rotuluslaw1_CellTrim.j0 k y626 t630 (!t644))) else (none)) else (none)))))) else (none)) else (none)) = some r := by rw [if_pos rfl] at H; exact H
    clear H
    have H := H1
    clear H1
    obtain ⟨ji4, hji4⟩ : ∃ j_ : Int, (mn (l0.length : Int) 40) = j_ := ⟨_, rfl⟩
    replace H : (if 0 ≤ (ji4) then (if (ji4) ≤ (l0.length : Int) then ((some (l0.take ((ji4) : Int).toNat : List (S49))).bind fun y626 => ((cell_Trim.f k y626).bind fun t630 => (if (t630.length : Int) > (y626.length : Int) then (rotuluslaw1_CellTrim.j0 k y626 t630 true) else (if (t630.length : Int) > 0 then (if 0 ≤ (wrap64 ((t630.length : Int) - 1)) then (if (wrap64 ((t630.length : Int) - 1)) < (t630.length : Int) then ((cell_IsBlank.f ((rd_T49 t630 (wrap64 ((t630.length : Int) - 1))).f0) ((rd_T49 t630 (wrap64 ((t630.length : Int) - 1))).f1) ((rd_T49 t630 (wrap64 ((t630.length : Int) - 1))).f2)).bind fun t634 => (if t634 = true then (rotuluslaw1_CellTrim.j0 k y626 t630 true) else (if 0 ≤ (t630.length : Int) then (if (t630.length : Int) ≤ (y626.length : Int) then ((rotulusref1_EqCells.f k t630 (y626.take ((t630.length : Int) : Int).toNat)).bind fun t639 => (rotuluslaw1_CellTrim.j0 k y626 t630 (!t639))) else (none)) else (none)))) else (none)) else (none)) else (if 0 ≤ (t630.length : Int) then (if (t630.length : Int) ≤ (y626.length : Int) then ((rotulusref1_EqCells.f k t630 (y626.take ((t630.length : Int) : Int).toNat)).bind fun t644 => (rotuluslaw1_CellTrim.j0 k y626 t630 (!t644))) else (none)) else (none)))))) else (none)) else (none)) = some r := by first | (rw [hji4] at H; exact H) | (simp only [hji4] at H ⊢; exact H)
    (try rw [hji4] at A2)
    (try (have hji4h : ji4 ≤ 40 := by (rw [← hji4]; unfold mn; (repeat' split) <;> omega)))
    (try (have hji4g : ji4 ≤ 64 := by omega))
    (try (have hji4l : 0 ≤ ji4 := by (rw [← hji4]; unfold mn; (repeat' split) <;> omega)))
    (try (have hji4m : 0 ≤ ji4 := by omega))
    have hji4_ : (if 40 < (l0.length : Int) then 40 else (l0.length : Int)) = ji4 := hji4
    have c5 : 0 ≤ (ji4) := Decidable.byContradiction fun hc_ => absurd ((if_neg hc_).symm.trans H) (by simp)
    rw [if_pos c5] at H
    have c5b0 := eq_true c5
    have c5b1 : decide (0 ≤ (ji4)) = true := decide_eq_true c5
    clear c5
    have c6 : (ji4) ≤ (l0.length : Int) := Decidable.byContradiction fun hc_ => absurd ((if_neg hc_).symm.trans H) (by simp)
    rw [if_pos c6] at H
    have c6b0 := eq_true c6
    have c6b1 : decide ((ji4) ≤ (l0.length : Int)) = true := decide_eq_true c6
    clear c6
    obtain ⟨y626, hy626⟩ : ∃ y_ : List (S49), y_ = (l0.take ((ji4) : Int).toNat) := ⟨_, rfl⟩
    replace H : ((cell_Trim.f k y626).bind fun t630 => (if (t630.length : Int) > (y626.length : Int) then (rotuluslaw1_CellTrim.j0 k y626 t630 true) else (if (t630.length : Int) > 0 then (if 0 ≤ (wrap64 ((t630.length : Int) - 1)) then (if (wrap64 ((t630.length : Int) - 1)) < (t630.length : Int) then ((cell_IsBlank.f ((rd_T49 t630 (wrap64 ((t630.length : Int) - 1))).f0) ((rd_T49 t630 (wrap64 ((t630.length : Int) - 1))).f1) ((rd_T49 t630 (wrap64 ((t630.length : Int) - 1))).f2)).bind fun t634 => (if t634 = true then (rotuluslaw1_CellTrim.j0 k y626 t630 true) else (if 0 ≤ (t630.length : Int) then (if (t630.length : Int) ≤ (y626.length : Int) then ((rotulusref1_EqCells.f k t630 (y626.take ((t630.length : Int) : Int).toNat)).bind fun t639 => (rotuluslaw1_CellTrim.j0 k y626 t630 (!t639))) else (none)) else (none)))) else (none)) else (none)) else (if 0 ≤ (t630.length : Int) then (if (t630.length : Int) ≤ (y626.length : Int) then ((rotulusref1_EqCells.f k t630 (y626.take ((t630.length : Int) : Int).toNat)).bind fun t644 => (rotuluslaw1_CellTrim.j0 k y626 t630 (!t644))) else (none)) else (none))))) = some r := by first | (rw [hy626]; with_reducible exact H) | (have H2_ := (Option.bind_some _ _).symm.trans H; rw [hy626]; with_reducible exact H2_) | (have H2_ := (Option.bind_some _ _).symm.trans H; with_reducible exact H2_) | with_reducible exact H | (rw [hy626]; exact H) | exact H
    have Ny626 := Aside0.mk hy626
    clear hy626
    replace H := Option.bind_eq_some_iff.mp H
    obtain ⟨t630, A70, H⟩ := H
    replace H : (if (t630.length : Int) > (y626.length : Int) then (rotuluslaw1_CellTrim.j0 k y626 t630 true) else (if (t630.length : Int) > 0 then (if 0 ≤ (wrap64 ((t630.length : Int) - 1)) then (if (wrap64 ((t630.length : Int) - 1)) < (t630.length : Int) then ((cell_IsBlank.f ((rd_T49 t630 (wrap64 ((t630.length : Int) - 1))).f0) ((rd_T49 t630 (wrap64 ((t630.length : Int) - 1))).f1) ((rd_T49 t630 (wrap64 ((t630.length : Int) - 1))).f2)).bind fun t634 => (if t634 = true then (rotuluslaw1_CellTrim.j0 k y626 t630 true) else (if 0 ≤ (t630.length : Int) then (if (t630.length : Int) ≤ (y626.length : Int) then ((rotulusref1_EqCells.f k t630 (y626.take ((t630.length : Int) : Int).toNat)).bind fun t639 => (rotuluslaw1_CellTrim.j0 k y626 t630 (!t639))) else (none)) else (none)))) else (none)) else (none)) else (if 0 ≤ (t630.length : Int) then (if (t630.length : Int) ≤ (y626.length : Int) then ((rotulusref1_EqCells.f k t630 (y626.take ((t630.length : Int) : Int).toNat)).bind fun t644 => (rotuluslaw1_CellTrim.j0 k y626 t630 (!t644))) else (none)) else (none)))) = some r := H
    have A7 := Aside0.mk A70
    clear A70
    have HC8 := Aside0.mk H
    clear H
    go_enter Try.func15, Try.ntmps15
    go_upto_region 6 with (first | ((with_reducible refine gate_callee (f := 19) rfl ?_); refine goesL_ (some 6) rfl rfl Try.func19 (by kernel_rfl) rfl #[] rfl (by (try simp only [List.map_toArray, List.map_cons, List.map_nil]); first | done | rfl | (simp only [List.length_drop, List.length_take]; rfl)) ?_; (with_reducible refine (rotuluslaw1_begun.calls k  true _ A2.out).mono ?_); rintro e w9 ⟨rfl, hb⟩; refine ⟨_, rfl, ?_⟩; have n0_ := Aside0.mk (below_step (by repeat (first | (with_reducible first | exact HB.out | apply below_alloc | apply pw_below_drewN | apply below_drew1) | exact HB.out)) hb); clear HB; have HB := n0_; clear n0_; (try clear hb); (try clear hb2); (try clear hk); (try clear hi); have q10 : ((ji4) : Int) ≤ ((l0.length : Int) : Int) := of_decide_eq_true (by first | (with_reducible assumption) | assumption); obtain ⟨i010, hi010, _, hsz10, _⟩ := info_parts info49; have hroom10 : l0.length ≤ c0 := HC0.out; have hC10 : Kd.C k49 _ A0 l0.length l0 := HR0.out; have hcut10 := cut_to (P := Try.prog) 46 49 .i64 Try.underlying46 hi010 A0 l0.length c0 (ji4) (of_decide_eq_true (by first | (with_reducible assumption) | assumption)) q10 hroom10; have hr10 := Kd.C_take (m := ((ji4) : Int).toNat) hC10 (by omega); have hy10 : y626.length = ((ji4) : Int).toNat := (by rw [Ny626.out, List.length_take]; omega); rw [← Ny626.out] at hr10; rw [← hy10] at hcut10; have HR629 := Aside0.mk hr10; have HC629 := Aside0.mk (show y626.length ≤ c0 from by omega); clear hr10 hC10 hroom10 hi010 hsz10; have KY10 := Aside0.mk hy10; clear hy10; replace q10 := eq_true q10) | ((with_reducible refine gate_callee (f := 33) rfl ?_); refine goesL_ (some 15) rfl rfl Try.func33 (by kernel_rfl) rfl #[.slice A0 y626.length c0] rfl (by (try simp only [List.map_toArray, List.map_cons, List.map_nil]); first | done | rfl | (simp only [List.length_drop, List.length_take]; rfl)) ?_; (with_reducible refine (cell_Trim.calls k _ _ y626 t630 _ ?side1 ?side2 A7.out).mono ?_); (case side1 => repeat (first | exact (Kd.C_below HR629.out HB.out) | (with_reducible refine Kd.C_alloc ?_ _) | (with_reducible refine Kd.C_drewN ?_ _) | (with_reducible refine Kd.C_drew ?_) | exact Kd.C_drewN (Kd.C_below HR629.out HB.out) _ | exact Kd.C_drew (Kd.C_below HR629.out HB.out) | exact Kd.C_alloc (Kd.C_below HR629.out HB.out) _)); (case side2 => exact HC629.out); rintro e w11 ⟨v631, rfl, ho0, hb⟩; refine ⟨_, rfl, ?_⟩; have n0_ := Aside0.mk (Kd.R_lower ho0 (below_size (by repeat (first | (with_reducible first | exact HB.out | apply below_alloc | apply pw_below_drewN | apply below_drew1) | exact HB.out)))); have n1_ := Aside0.mk (below_step (by repeat (first | (with_reducible first | exact HB.out | apply below_alloc | apply pw_below_drewN | apply below_drew1) | exact HB.out)) hb); clear HB; have HO632 := n0_; have HB := n1_; clear n0_ n1_; (try clear hb); (try clear hb2); (try clear hk); (try clear hi); (try clear ho0)))
    (try simp only [Act.put, List.setIfInBounds_toArray, List.set_cons_zero, List.set_cons_succ])
    go_cut [43] (fun v43 wc => ∃ (kq : Nat) (x43_7 : Bool), v43 = .bool x43_7 ∧ Aside0 (rotuluslaw1_CellTrim.j0 kq y626 t630 x43_7 = some r) ∧ Aside0 (kq ≤ k) ∧ Aside0 (Kd.R k49 49 wc w.heap.size (fun _ => True) v631 t630) ∧ Aside0 (Below w.heap.size w wc))
    case first =>
      have H := HC8.out
      clear HC8
      by_cases c12 : (t630.length : Int) > (y626.length : Int)
      · rw [if_pos c12] at H
        have c12b0 : decide ((y626.length : Int) < (t630.length : Int)) = true := decide_eq_true c12
        have c12b1 : decide (y626.length < t630.length) = true := decide_eq_true (Int.ofNat_lt.mp c12)
        clear c12
        (first | rw [c12b0] | (simp only [i64_w, i32_w]; rw [c12b0]) | skip)
        have H' := Aside0.mk H
        clear H
        obtain ⟨Ao13, co13, eo13⟩ := Kd.R_slice HO632.out
        subst eo13
        go_wp2
        go_meet
        case rel => exact ⟨_, (true), (by first | rfl | (simp; done) | (simp [*]; done)), H', ⟨by first | omega | exact Nat.le_refl _⟩, ⟨by (with_reducible repeat (first | apply Kd.R_alloc | apply Kd.R_drewN | apply Kd.R_drew)); exact HO632.out⟩, ⟨by repeat (first | (with_reducible first | exact HB.out | apply below_alloc | apply pw_below_drewN | apply below_drew1) | exact HB.out)⟩⟩
      · rw [if_neg c12] at H
        have c12b0 : decide ((y626.length : Int) < (t630.length : Int)) = false := decide_eq_false c12
        have c12b1 : decide (y626.length < t630.length) = false := decide_eq_false (fun h => c12 (Int.ofNat_lt.mpr h))
        clear c12
        (first | rw [c12b0] | (simp only [i64_w, i32_w]; rw [c12b0]) | skip)
        by_cases c14 : (t630.length : Int) > 0
        · rw [if_pos c14] at H
          have c14b0 : decide (0 < (t630.length : Int)) = true := decide_eq_true c14
          have c14b1 : decide (0 < t630.length) = true := decide_eq_true (by omega)
          clear c14
          obtain ⟨ji15, hji15⟩ : ∃ j_ : Int, (wrap64 ((t630.length : Int) - 1)) = j_ := ⟨_, rfl⟩
          replace H : (if 0 ≤ (ji15) then (if (ji15) < (t630.length : Int) then ((cell_IsBlank.f ((rd_T49 t630 (ji15)).f0) ((rd_T49 t630 (ji15)).f1) ((rd_T49 t630 (ji15)).f2)).bind fun t634 => (if t634 = true then (rotuluslaw1_CellTrim.j0 k y626 t630 true) else (if 0 ≤ (t630.length : Int) then (if (t630.length : Int) ≤ (y626.length : Int) then ((rotulusref1_EqCells.f k t630 (y626.take ((t630.length : Int) : Int).toNat)).bind fun t639 => (rotuluslaw1_CellTrim.j0 k y626 t630 (!t639))) else (none)) else (none)))) else (none)) else (none)) = some r := by first | (rw [hji15] at H; exact H) | (simp only [hji15] at H ⊢; exact H)
          have hji15w : (IntKind.i64.wrap ((t630.length : Int) - 1)) = ji15 := (i64_w _).trans hji15
          have c16 : 0 ≤ (ji15) := Decidable.byContradiction fun hc_ => absurd ((if_neg hc_).symm.trans H) (by simp)
          rw [if_pos c16] at H
          have c16b0 : decide (0 ≤ (ji15)) = true := decide_eq_true c16
          clear c16
          have c17 : (ji15) < (t630.length : Int) := Decidable.byContradiction fun hc_ => absurd ((if_neg hc_).symm.trans H) (by simp)
          rw [if_pos c17] at H
          have c17b0 : decide ((ji15) < (t630.length : Int)) = true := decide_eq_true c17
          clear c17
          replace H := Option.bind_eq_some_iff.mp H
          obtain ⟨t634, A180, H⟩ := H
          replace H : (if t634 = true then (rotuluslaw1_CellTrim.j0 k y626 t630 true) else (if 0 ≤ (t630.length : Int) then (if (t630.length : Int) ≤ (y626.length : Int) then ((rotulusref1_EqCells.f k t630 (y626.take ((t630.length : Int) : Int).toNat)).bind fun t639 => (rotuluslaw1_CellTrim.j0 k y626 t630 (!t639))) else (none)) else (none))) = some r := H
          have A18 := Aside0.mk A180
          clear A180
          by_cases c19 : t634 = true
          · subst c19
            have H1 : (rotuluslaw1_CellTrim.j0 k y626 t630 true) = some r := by rw [if_pos rfl] at H; exact H
            clear H
            have H := H1
            clear H1
            have H' := Aside0.mk H
            clear H
            obtain ⟨Ao20, co20, eo20⟩ := Kd.R_slice HO632.out
            subst eo20
            have p633 : 0 ≤ ((ji15) : Int) := of_decide_eq_true (by first | (with_reducible assumption) | assumption)
            have q633 : (ji15) < (t630.length : Int) := of_decide_eq_true (by first | (with_reducible assumption) | assumption)
            obtain ⟨ad633, e633, hx633_0, hx633_1, hx633_2⟩ := at_T49 (Kd.R_reads' HO632.out).2.2 (ji15) p633 q633
            cases e633
            replace p633 := eq_true p633
            replace q633 := eq_true q633
            go_wp2_with (first | (go_at_call 39; (with_reducible refine (cell_IsBlank.calls ((rd_T49 t630 (ji15)).f0) ((rd_T49 t630 (ji15)).f1) ((rd_T49 t630 (ji15)).f2) true _ A18.out).mono ?_); rintro e w21 ⟨rfl, hb⟩; have n0_ := Aside0.mk (Kd.R_below (by (with_reducible repeat (first | apply Kd.R_alloc | apply Kd.R_drewN | apply Kd.R_drew)); exact HO632.out) hb); have n1_ := Aside0.mk (below_step (by repeat (first | (with_reducible first | exact HB.out | apply below_alloc | apply pw_below_drewN | apply below_drew1) | exact HB.out)) hb); clear HO632; clear HB; have HO632 := n0_; have HB := n1_; clear n0_ n1_; (try clear hb); (try clear hb2); (try clear hk); (try clear hi)))
            go_meet
            case rel => exact ⟨_, (true), (by first | rfl | (simp; done) | (simp [*]; done)), H', ⟨by first | omega | exact Nat.le_refl _⟩, ⟨by (with_reducible repeat (first | apply Kd.R_alloc | apply Kd.R_drewN | apply Kd.R_drew)); exact HO632.out⟩, ⟨by repeat (first | (with_reducible first | exact HB.out | apply below_alloc | apply pw_below_drewN | apply below_drew1) | exact HB.out)⟩⟩
          · replace c19 := Bool.eq_false_iff.mpr c19
            subst c19
            have H1 : (if 0 ≤ (t630.length : Int) then (if (t630.length : Int) ≤ (y626.length : Int) then ((rotulusref1_EqCells.f k t630 (y626.take ((t630.length : Int) : Int).toNat)).bind fun t639 => (rotuluslaw1_CellTrim.j0 k y626 t630 (!t639))) else (none)) else (none)) = some r := by rw [if_neg (show ¬ (false = true) by decide)] at H; exact H
            clear H
            have H := H1
            clear H1
            have c22 : 0 ≤ (t630.length : Int) := Decidable.byContradiction fun hc_ => absurd ((if_neg hc_).symm.trans H) (by simp)
            rw [if_pos c22] at H
            have c22b0 := eq_true c22
            have c22b1 : decide (0 ≤ (t630.length : Int)) = true := decide_eq_true c22
            clear c22
            have c23 : (t630.length : Int) ≤ (y626.length : Int) := Decidable.byContradiction fun hc_ => absurd ((if_neg hc_).symm.trans H) (by simp)
            rw [if_pos c23] at H
            have c23b0 := eq_true c23
            have c23b1 : decide ((t630.length : Int) ≤ (y626.length : Int)) = true := decide_eq_true c23
            clear c23
            obtain ⟨y635, hy635⟩ : ∃ y_ : List (S49), y_ = (y626.take ((t630.length : Int) : Int).toNat) := ⟨_, rfl⟩
            replace H : ((rotulusref1_EqCells.f k t630 y635).bind fun t639 => (rotuluslaw1_CellTrim.j0 k y626 t630 (!t639))) = some r := by first | (rw [hy635]; with_reducible exact H) | (have H2_ := (Option.bind_some _ _).symm.trans H; rw [hy635]; with_reducible exact H2_) | (have H2_ := (Option.bind_some _ _).symm.trans H; with_reducible exact H2_) | with_reducible exact H | (rw [hy635]; exact H) | exact H
            have Ny635 := Aside0.mk hy635
            clear hy635
            replace H := Option.bind_eq_some_iff.mp H
            obtain ⟨t639, A240, H⟩ := H
            replace H : (rotuluslaw1_CellTrim.j0 k y626 t630 (!t639)) = some r := H
            have A24 := Aside0.mk A240
            clear A240
            have H' := Aside0.mk H
            clear H
            obtain ⟨Ao25, co25, eo25⟩ := Kd.R_slice HO632.out
            subst eo25
            have p633 : 0 ≤ ((ji15) : Int) := of_decide_eq_true (by first | (with_reducible assumption) | assumption)
            have q633 : (ji15) < (t630.length : Int) := of_decide_eq_true (by first | (with_reducible assumption) | assumption)
            obtain ⟨ad633, e633, hx633_0, hx633_1, hx633_2⟩ := at_T49 (Kd.R_reads' HO632.out).2.2 (ji15) p633 q633
            cases e633
            replace p633 := eq_true p633
            replace q633 := eq_true q633
            go_wp2_with (first | (go_at_call 39; (with_reducible refine (cell_IsBlank.calls ((rd_T49 t630 (ji15)).f0) ((rd_T49 t630 (ji15)).f1) ((rd_T49 t630 (ji15)).f2) false _ A18.out).mono ?_); rintro e w26 ⟨rfl, hb⟩; have n0_ := Aside0.mk (Kd.R_below (by (with_reducible repeat (first | apply Kd.R_alloc | apply Kd.R_drewN | apply Kd.R_drew)); exact HO632.out) hb); have n1_ := Aside0.mk (below_step (by repeat (first | (with_reducible first | exact HB.out | apply below_alloc | apply pw_below_drewN | apply below_drew1) | exact HB.out)) hb); clear HO632; clear HB; have HO632 := n0_; have HB := n1_; clear n0_ n1_; (try clear hb); (try clear hb2); (try clear hk); (try clear hi); have q27 : ((t630.length : Int) : Int) ≤ ((y626.length : Int) : Int) := of_decide_eq_true (by first | (with_reducible assumption) | assumption); obtain ⟨i027, hi027, _, hsz27, _⟩ := info_parts info49; have hroom27 : y626.length ≤ c0 := HC629.out; have hC27 : Kd.C k49 _ A0 y626.length y626 := HR629.out; have hcut27 := cut_to (P := Try.prog) 46 49 .i64 Try.underlying46 hi027 A0 y626.length c0 (t630.length : Int) (of_decide_eq_true (by first | (with_reducible assumption) | assumption)) q27 hroom27; have hr27 := Kd.C_take (m := ((t630.length : Int) : Int).toNat) hC27 (by omega); have hy27 : y635.length = ((t630.length : Int) : Int).toNat := (by rw [Ny635.out, List.length_take]; omega); rw [← Ny635.out] at hr27; rw [← hy27] at hcut27; have HR638 := Aside0.mk hr27; have HC638 := Aside0.mk (show y635.length ≤ c0 from by omega); clear hr27 hC27 hroom27 hi027 hsz27; have KY27 := Aside0.mk hy27; clear hy27; replace q27 := eq_true q27) | (go_at_call 34; (with_reducible refine (rotulusref1_EqCells.calls k _ _ t630 _ _ y635 t639 _ ?side1 ?side2 ?side3 ?side4 A24.out).mono ?_); (case side1 => repeat (first | exact (Kd.R_reads' HO632.out).2.2 | (with_reducible refine Kd.C_alloc ?_ _) | (with_reducible refine Kd.C_drewN ?_ _) | (with_reducible refine Kd.C_drew ?_) | exact Kd.C_drewN (Kd.R_reads' HO632.out).2.2 _ | exact Kd.C_drew (Kd.R_reads' HO632.out).2.2 | exact Kd.C_alloc (Kd.R_reads' HO632.out).2.2 _)); (case side2 => exact (Kd.R_reads' HO632.out).2.1); (case side3 => repeat (first | exact (Kd.C_below HR638.out HB.out) | (with_reducible refine Kd.C_alloc ?_ _) | (with_reducible refine Kd.C_drewN ?_ _) | (with_reducible refine Kd.C_drew ?_) | exact Kd.C_drewN (Kd.C_below HR638.out HB.out) _ | exact Kd.C_drew (Kd.C_below HR638.out HB.out) | exact Kd.C_alloc (Kd.C_below HR638.out HB.out) _)); (case side4 => exact HC638.out); rintro e w' ⟨rfl, ⟨nd, rfl⟩⟩))
            go_meet
            case rel => exact ⟨_, (!t639), (by first | rfl | (simp; done) | (simp [*]; done)), H', ⟨by first | omega | exact Nat.le_refl _⟩, ⟨by (with_reducible repeat (first | apply Kd.R_alloc | apply Kd.R_drewN | apply Kd.R_drew)); exact HO632.out⟩, ⟨by repeat (first | (with_reducible first | exact HB.out | apply below_alloc | apply pw_below_drewN | apply below_drew1) | exact HB.out)⟩⟩
        · rw [if_neg c14] at H
          have c14b0 : decide (0 < (t630.length : Int)) = false := decide_eq_false c14
          have c14b1 : decide (0 < t630.length) = false := decide_eq_false (by omega)
          clear c14
          have c28 : 0 ≤ (t630.length : Int) := Decidable.byContradiction fun hc_ => absurd ((if_neg hc_).symm.trans H) (by simp)
          rw [if_pos c28] at H
          have c28b0 := eq_true c28
          have c28b1 : decide (0 ≤ (t630.length : Int)) = true := decide_eq_true c28
          clear c28
          have c29 : (t630.length : Int) ≤ (y626.length : Int) := Decidable.byContradiction fun hc_ => absurd ((if_neg hc_).symm.trans H) (by simp)
          rw [if_pos c29] at H
          have c29b0 := eq_true c29
          have c29b1 : decide ((t630.length : Int) ≤ (y626.length : Int)) = true := decide_eq_true c29
          clear c29
          obtain ⟨y640, hy640⟩ : ∃ y_ : List (S49), y_ = (y626.take ((t630.length : Int) : Int).toNat) := ⟨_, rfl⟩
          replace H : ((rotulusref1_EqCells.f k t630 y640).bind fun t644 => (rotuluslaw1_CellTrim.j0 k y626 t630 (!t644))) = some r := by first | (rw [hy640]; with_reducible exact H) | (have H2_ := (Option.bind_some _ _).symm.trans H; rw [hy640]; with_reducible exact H2_) | (have H2_ := (Option.bind_some _ _).symm.trans H; with_reducible exact H2_) | with_reducible exact H | (rw [hy640]; exact H) | exact H
          have Ny640 := Aside0.mk hy640
          clear hy640
          replace H := Option.bind_eq_some_iff.mp H
          obtain ⟨t644, A300, H⟩ := H
          replace H : (rotuluslaw1_CellTrim.j0 k y626 t630 (!t644)) = some r := H
          have A30 := Aside0.mk A300
          clear A300
          have H' := Aside0.mk H
          clear H
          obtain ⟨Ao31, co31, eo31⟩ := Kd.R_slice HO632.out
          subst eo31
          have q32 : ((t630.length : Int) : Int) ≤ ((y626.length : Int) : Int) := of_decide_eq_true (by first | (with_reducible assumption) | assumption)
          obtain ⟨i032, hi032, _, hsz32, _⟩ := info_parts info49
          have hroom32 : y626.length ≤ c0 := HC629.out
          have hC32 : Kd.C k49 _ A0 y626.length y626 := HR629.out
          have hcut32 := cut_to (P := Try.prog) 46 49 .i64 Try.underlying46 hi032 A0 y626.length c0 (t630.length : Int) (of_decide_eq_true (by first | (with_reducible assumption) | assumption)) q32 hroom32
          have hr32 := Kd.C_take (m := ((t630.length : Int) : Int).toNat) hC32 (by omega)
          have hy32 : y640.length = ((t630.length : Int) : Int).toNat := (by rw [Ny640.out, List.length_take]; omega)
          rw [← Ny640.out] at hr32
          rw [← hy32] at hcut32
          have HR643 := Aside0.mk hr32
          have HC643 := Aside0.mk (show y640.length ≤ c0 from by omega)
          clear hr32 hC32 hroom32 hi032 hsz32
          have KY32 := Aside0.mk hy32
          clear hy32
          replace q32 := eq_true q32
          go_wp2_with (first | (go_at_call 34; (with_reducible refine (rotulusref1_EqCells.calls k _ _ t630 _ _ y640 t644 _ ?side1 ?side2 ?side3 ?side4 A30.out).mono ?_); (case side1 => repeat (first | exact (Kd.R_reads' HO632.out).2.2 | (with_reducible refine Kd.C_alloc ?_ _) | (with_reducible refine Kd.C_drewN ?_ _) | (with_reducible refine Kd.C_drew ?_) | exact Kd.C_drewN (Kd.R_reads' HO632.out).2.2 _ | exact Kd.C_drew (Kd.R_reads' HO632.out).2.2 | exact Kd.C_alloc (Kd.R_reads' HO632.out).2.2 _)); (case side2 => exact (Kd.R_reads' HO632.out).2.1); (case side3 => repeat (first | exact (Kd.C_below HR643.out HB.out) | (with_reducible refine Kd.C_alloc ?_ _) | (with_reducible refine Kd.C_drewN ?_ _) | (with_reducible refine Kd.C_drew ?_) | exact Kd.C_drewN (Kd.C_below HR643.out HB.out) _ | exact Kd.C_drew (Kd.C_below HR643.out HB.out) | exact Kd.C_alloc (Kd.C_below HR643.out HB.out) _)); (case side4 => exact HC643.out); rintro e w' ⟨rfl, ⟨nd, rfl⟩⟩))
          go_meet
          case rel => exact ⟨_, (!t644), (by first | rfl | (simp; done) | (simp [*]; done)), H', ⟨by first | omega | exact Nat.le_refl _⟩, ⟨by (with_reducible repeat (first | apply Kd.R_alloc | apply Kd.R_drewN | apply Kd.R_drew)); exact HO632.out⟩, ⟨by repeat (first | (with_reducible first | exact HB.out | apply below_alloc | apply pw_below_drewN | apply below_drew1) | exact HB.out)⟩⟩
    case rest =>
      clear HC8
      try clear c1
      try clear q1
      try clear c2
      try clear p2
      try clear q2
      try clear c3
      try clear q3
      try clear c5
      try clear c5b0
      try clear c5b1
      try clear c6
      try clear c6b0
      try clear c6b1
      try clear p6
      try clear q6
      try clear hx6
      try clear q10
      try clear c12
      try clear c12b0
      try clear c12b1
      try clear c14
      try clear c14b0
      try clear c14b1
      try clear c15
      try clear c16
      try clear c16b0
      try clear c17
      try clear c17b0
      try clear c19
      try clear c22
      try clear c22b0
      try clear c22b1
      try clear c23
      try clear c23b0
      try clear c23b1
      try clear q27
      try clear c28
      try clear c28b0
      try clear c28b1
      try clear c29
      try clear c29b0
      try clear c29b1
      try clear q32
      try clear hx633_0
      try clear hx633_1
      try clear hx633_2
      try clear p633
      try clear q10
      try clear q27
      try clear q32
      try clear q633
      obtain ⟨kq, x43_7, rfl, HA, HJ7, HO_4, HB⟩ := hcut
      cases kq with
      | zero => exact absurd HA.out (by simp [rotuluslaw1_CellTrim.j0])
      | succ kj7 =>
        have H := HA.out
        clear HA
        simp only [rotuluslaw1_CellTrim.j0] at H
        by_cases c33 : x43_7 = true
        · subst c33
          have H1 : (some false) = some r := by rw [if_pos rfl] at H; exact H
          clear H
          have H := H1
          clear H1
          obtain rfl := Option.some.inj H
          go_wp2
          go_ret
          exact ⟨by first | rfl | (simp [errW_none, errW_some] <;> rfl) | (simp only [← hji4]; first | rfl | (simp [errW_none, errW_some] <;> rfl)) | (simp [*, errW_none, errW_some] <;> rfl), by repeat (first | (with_reducible first | exact HB.out | apply below_alloc | apply pw_below_drewN | apply below_drew1) | exact HB.out)⟩
        · replace c33 := Bool.eq_false_iff.mpr c33
          subst c33
          have H1 : (rotuluslaw1_CellTrim.l0 kj7 y626 t630 (t630.length : Int)) = some r := by rw [if_neg (show ¬ (false = true) by decide)] at H; exact H
          clear H
          have H := H1
          clear H1
          have H' := Aside0.mk H
          clear H
          obtain ⟨Ao34, co34, eo34⟩ := Kd.R_slice HO_4.out
          subst eo34
          go_wp2
          go_loopg [5] kj7 (fun kq v5 w' => ∃ (x5_2 : Int), v5 = .int .i64 x5_2 ∧ Aside0 (rotuluslaw1_CellTrim.l0 kq y626 t630 x5_2 = some r) ∧ Aside0 (kq ≤ kj7) ∧ Aside0 (Kd.R k49 49 w' w.heap.size (fun _ => True) (.slice Ao34 t630.length co34) t630) ∧ Aside0 (Below w.heap.size w w'))
          case atStart => exact ⟨((t630.length : Int)), (by first | rfl | (simp; done) | (simp [*]; done)), H', ⟨Nat.le_refl _⟩, ⟨by (with_reducible repeat (first | apply Kd.R_alloc | apply Kd.R_drewN | apply Kd.R_drew)); exact HO_4.out⟩, ⟨by repeat (first | (with_reducible first | exact HB.out | apply below_alloc | apply pw_below_drewN | apply below_drew1) | exact HB.out)⟩⟩
          case round =>
            clear H'
            try clear c1
            try clear q1
            try clear c2
            try clear p2
            try clear q2
            try clear c3
            try clear q3
            try clear c5
            try clear c5b0
            try clear c5b1
            try clear c6
            try clear c6b0
            try clear c6b1
            try clear p6
            try clear q6
            try clear hx6
            try clear q10
            try clear c12
            try clear c12b0
            try clear c12b1
            try clear c14
            try clear c14b0
            try clear c14b1
            try clear c15
            try clear c16
            try clear c16b0
            try clear c17
            try clear c17b0
            try clear c19
            try clear c22
            try clear c22b0
            try clear c22b1
            try clear c23
            try clear c23b0
            try clear c23b1
            try clear q27
            try clear c28
            try clear c28b0
            try clear c28b1
            try clear c29
            try clear c29b0
            try clear c29b1
            try clear q32
            try clear c33
            try clear hx633_0
            try clear hx633_1
            try clear hx633_2
            try clear p2
            try clear p6
            try clear p633
            try clear q1
            try clear q10
            try clear q2
            try clear q27
            try clear q3
            try clear q32
            try clear q6
            try clear q633
            obtain ⟨x5_2, rfl, HA, HK2, HO_4, HB⟩ := hrel
            cases gk with
            | zero => exact absurd HA.out (by simp [rotuluslaw1_CellTrim.l0])
            | succ k2 =>
              have H := HA.out
              clear HA
              simp only [rotuluslaw1_CellTrim.l0] at H
              by_cases c35 : x5_2 < (y626.length : Int)
              · rw [if_pos c35] at H
                have c35b0 : decide (x5_2 < (y626.length : Int)) = true := decide_eq_true c35
                clear c35
                have c36 : 0 ≤ x5_2 := Decidable.byContradiction fun hc_ => absurd ((if_neg hc_).symm.trans H) (by simp)
                rw [if_pos c36] at H
                have c36b0 : decide (0 ≤ x5_2) = true := decide_eq_true c36
                clear c36
                replace H := Option.bind_eq_some_iff.mp H
                obtain ⟨t646, A370, H⟩ := H
                replace H : (if t646 = true then (rotuluslaw1_CellTrim.l0 k2 y626 t630 (wrap64 (x5_2 + 1))) else (some false)) = some r := H
                have A37 := Aside0.mk A370
                clear A370
                by_cases c38 : t646 = true
                · subst c38
                  have H1 : (rotuluslaw1_CellTrim.l0 k2 y626 t630 (wrap64 (x5_2 + 1))) = some r := by rw [if_pos rfl] at H; exact H
                  clear H
                  have H := H1
                  clear H1
                  have H' := Aside0.mk H
                  clear H
                  have p645 : 0 ≤ (x5_2 : Int) := of_decide_eq_true (by first | (with_reducible assumption) | assumption)
                  have q645 : x5_2 < (y626.length : Int) := of_decide_eq_true (by first | (with_reducible assumption) | assumption)
                  obtain ⟨ad645, e645, hx645_0, hx645_1, hx645_2⟩ := at_T49 HR629.out x5_2 p645 q645
                  cases e645
                  replace hx645_0 := (HB.out.cell (World.block_lt_of_cell? w _ hx645_0)).trans hx645_0
                  replace hx645_1 := (HB.out.cell (World.block_lt_of_cell? w _ hx645_1)).trans hx645_1
                  replace hx645_2 := (HB.out.cell (World.block_lt_of_cell? w _ hx645_2)).trans hx645_2
                  replace p645 := eq_true p645
                  replace q645 := eq_true q645
                  go_wp2_with (first | ((with_reducible refine gate_callee (f := 39) rfl ?_); refine goesL_ (some 56) rfl rfl Try.func39 (by kernel_rfl) rfl #[.agg #[.int .i32 ((rd_T49 y626 x5_2).f0), .int .i64 ((rd_T49 y626 x5_2).f1), .int .i64 ((rd_T49 y626 x5_2).f2)]] rfl (by (try simp only [List.map_toArray, List.map_cons, List.map_nil]); first | done | rfl | (simp only [List.length_drop, List.length_take]; rfl)) ?_; (with_reducible refine (cell_IsBlank.calls ((rd_T49 y626 x5_2).f0) ((rd_T49 y626 x5_2).f1) ((rd_T49 y626 x5_2).f2) true _ A37.out).mono ?_); rintro e w39 ⟨rfl, hb⟩; refine ⟨_, rfl, ?_⟩; have n0_ := Aside0.mk (Kd.R_below (by (with_reducible repeat (first | apply Kd.R_alloc | apply Kd.R_drewN | apply Kd.R_drew)); exact HO_4.out) hb); have n1_ := Aside0.mk (below_step (by repeat (first | (with_reducible first | exact HB.out | apply below_alloc | apply pw_below_drewN | apply below_drew1) | exact HB.out)) hb); clear HO_4; clear HB; have HO_4 := n0_; have HB := n1_; clear n0_ n1_; (try clear hb); (try clear hb2); (try clear hk); (try clear hi)))
                  go_roundg k2
                  case measure => have := HJ7.out; have := HK2.out; omega
                  case rel => exact ⟨(wrap64 (x5_2 + 1)), (by first | rfl | (simp; done) | (simp [*]; done)), H', ⟨by have := HJ7.out; have := HK2.out; omega⟩, ⟨by (with_reducible repeat (first | apply Kd.R_alloc | apply Kd.R_drewN | apply Kd.R_drew)); exact HO_4.out⟩, ⟨by repeat (first | (with_reducible first | exact HB.out | apply below_alloc | apply pw_below_drewN | apply below_drew1) | exact HB.out)⟩⟩
                · replace c38 := Bool.eq_false_iff.mpr c38
                  subst c38
                  have H1 : (some false) = some r := by rw [if_neg (show ¬ (false = true) by decide)] at H; exact H
                  clear H
                  have H := H1
                  clear H1
                  obtain rfl := Option.some.inj H
                  have p645 : 0 ≤ (x5_2 : Int) := of_decide_eq_true (by first | (with_reducible assumption) | assumption)
                  have q645 : x5_2 < (y626.length : Int) := of_decide_eq_true (by first | (with_reducible assumption) | assumption)
                  obtain ⟨ad645, e645, hx645_0, hx645_1, hx645_2⟩ := at_T49 HR629.out x5_2 p645 q645
                  cases e645
                  replace hx645_0 := (HB.out.cell (World.block_lt_of_cell? w _ hx645_0)).trans hx645_0
                  replace hx645_1 := (HB.out.cell (World.block_lt_of_cell? w _ hx645_1)).trans hx645_1
                  replace hx645_2 := (HB.out.cell (World.block_lt_of_cell? w _ hx645_2)).trans hx645_2
                  replace p645 := eq_true p645
                  replace q645 := eq_true q645
                  go_wp2_with (first | ((with_reducible refine gate_callee (f := 39) rfl ?_); refine goesL_ (some 56) rfl rfl Try.func39 (by kernel_rfl) rfl #[.agg #[.int .i32 ((rd_T49 y626 x5_2).f0), .int .i64 ((rd_T49 y626 x5_2).f1), .int .i64 ((rd_T49 y626 x5_2).f2)]] rfl (by (try simp only [List.map_toArray, List.map_cons, List.map_nil]); first | done | rfl | (simp only [List.length_drop, List.length_take]; rfl)) ?_; (with_reducible refine (cell_IsBlank.calls ((rd_T49 y626 x5_2).f0) ((rd_T49 y626 x5_2).f1) ((rd_T49 y626 x5_2).f2) false _ A37.out).mono ?_); rintro e w40 ⟨rfl, hb⟩; refine ⟨_, rfl, ?_⟩; have n0_ := Aside0.mk (Kd.R_below (by (with_reducible repeat (first | apply Kd.R_alloc | apply Kd.R_drewN | apply Kd.R_drew)); exact HO_4.out) hb); have n1_ := Aside0.mk (below_step (by repeat (first | (with_reducible first | exact HB.out | apply below_alloc | apply pw_below_drewN | apply below_drew1) | exact HB.out)) hb); clear HO_4; clear HB; have HO_4 := n0_; have HB := n1_; clear n0_ n1_; (try clear hb); (try clear hb2); (try clear hk); (try clear hi)))
                  go_ret
                  exact ⟨by first | rfl | (simp [errW_none, errW_some] <;> rfl) | (simp only [← hji4]; first | rfl | (simp [errW_none, errW_some] <;> rfl)) | (simp [*, errW_none, errW_some] <;> rfl), by repeat (first | (with_reducible first | exact HB.out | apply below_alloc | apply pw_below_drewN | apply below_drew1) | exact HB.out)⟩
              · rw [if_neg c35] at H
                have c35b0 : decide (x5_2 < (y626.length : Int)) = false := decide_eq_false c35
                clear c35
                replace H := Option.bind_eq_some_iff.mp H
                obtain ⟨t647, A410, H⟩ := H
                replace H : ((rotulusref1_EqCells.f k2 t647 t630).bind fun t650 => (some t650)) = some r := H
                have A41 := Aside0.mk A410
                clear A410
                replace H := Option.bind_eq_some_iff.mp H
                obtain ⟨t650, A420, H⟩ := H
                replace H : (some t650) = some r := H
                have A42 := Aside0.mk A420
                clear A420
                obtain rfl := Option.some.inj H
                go_wp2_with (first | ((with_reducible refine gate_callee (f := 33) rfl ?_); refine goesL_ (some 59) rfl rfl Try.func33 (by kernel_rfl) rfl #[.slice Ao34 t630.length co34] rfl (by (try simp only [List.map_toArray, List.map_cons, List.map_nil]); first | done | rfl | (simp only [List.length_drop, List.length_take]; rfl)) ?_; (with_reducible refine (cell_Trim.calls k2 _ _ t630 t647 _ ?side1 ?side2 A41.out).mono ?_); (case side1 => repeat (first | exact (Kd.R_reads' HO_4.out).2.2 | (with_reducible refine Kd.C_alloc ?_ _) | (with_reducible refine Kd.C_drewN ?_ _) | (with_reducible refine Kd.C_drew ?_) | exact Kd.C_drewN (Kd.R_reads' HO_4.out).2.2 _ | exact Kd.C_drew (Kd.R_reads' HO_4.out).2.2 | exact Kd.C_alloc (Kd.R_reads' HO_4.out).2.2 _)); (case side2 => exact (Kd.R_reads' HO_4.out).2.1); rintro e w43 ⟨v648, rfl, ho0, hb⟩; refine ⟨_, rfl, ?_⟩; have n0_ := Aside0.mk (Kd.R_elder' (by (with_reducible repeat (first | apply Kd.R_alloc | apply Kd.R_drewN | apply Kd.R_drew)); exact HO_4.out) (Kd.R_base ho0) hb); have n1_ := Aside0.mk (Kd.R_lower (Kd.R_new' ho0 (Kd.R_lt (by (with_reducible repeat (first | apply Kd.R_alloc | apply Kd.R_drewN | apply Kd.R_drew)); exact HO_4.out))) (below_size (by repeat (first | (with_reducible first | exact HB.out | apply below_alloc | apply pw_below_drewN | apply below_drew1) | exact HB.out)))); have n2_ := Aside0.mk (below_step (by repeat (first | (with_reducible first | exact HB.out | apply below_alloc | apply pw_below_drewN | apply below_drew1) | exact HB.out)) hb); clear HO_4; clear HB; have HO_4 := n0_; have HO649 := n1_; have HB := n2_; clear n0_ n1_ n2_; (try clear hb); (try clear hb2); (try clear hk); (try clear hi); (try clear ho0); obtain ⟨Ao44, co44, eo44⟩ := Kd.R_slice HO649.out; subst eo44) | ((with_reducible refine gate_callee (f := 34) rfl ?_); refine goesL_ (some 61) rfl rfl Try.func34 (by kernel_rfl) rfl #[.slice Ao44 t647.length co44, .slice Ao34 t630.length co34] rfl (by (try simp only [List.map_toArray, List.map_cons, List.map_nil]); first | done | rfl | (simp only [List.length_drop, List.length_take]; rfl)) ?_; (with_reducible refine (rotulusref1_EqCells.calls k2 _ _ t647 _ _ t630 t650 _ ?side1 ?side2 ?side3 ?side4 A42.out).mono ?_); (case side1 => repeat (first | exact (Kd.R_reads' HO649.out).2.2 | (with_reducible refine Kd.C_alloc ?_ _) | (with_reducible refine Kd.C_drewN ?_ _) | (with_reducible refine Kd.C_drew ?_) | exact Kd.C_drewN (Kd.R_reads' HO649.out).2.2 _ | exact Kd.C_drew (Kd.R_reads' HO649.out).2.2 | exact Kd.C_alloc (Kd.R_reads' HO649.out).2.2 _)); (case side2 => exact (Kd.R_reads' HO649.out).2.1); (case side3 => repeat (first | exact (Kd.R_reads' HO_4.out).2.2 | (with_reducible refine Kd.C_alloc ?_ _) | (with_reducible refine Kd.C_drewN ?_ _) | (with_reducible refine Kd.C_drew ?_) | exact Kd.C_drewN (Kd.R_reads' HO_4.out).2.2 _ | exact Kd.C_drew (Kd.R_reads' HO_4.out).2.2 | exact Kd.C_alloc (Kd.R_reads' HO_4.out).2.2 _)); (case side4 => exact (Kd.R_reads' HO_4.out).2.1); rintro e w' ⟨rfl, ⟨nd, rfl⟩⟩; refine ⟨_, rfl, ?_⟩))
                go_ret
                exact ⟨by first | rfl | (simp [errW_none, errW_some] <;> rfl) | (simp only [← hji4]; first | rfl | (simp [errW_none, errW_some] <;> rfl)) | (simp [*, errW_none, errW_some] <;> rfl), by repeat (first | (with_reducible first | exact HB.out | apply below_alloc | apply pw_below_drewN | apply below_drew1) | exact HB.out)⟩
  · replace c3 := Bool.eq_false_iff.mpr c3
    subst c3
    have H1 : (some false) = some r := by rw [if_neg (show ¬ (false = true) by decide)] at H; exact H
    clear H
    have H := H1
    clear H1
    obtain rfl := Option.some.inj H
    go_enter Try.func15, Try.ntmps15
    go_wp2_with (first | ((with_reducible refine gate_callee (f := 19) rfl ?_); refine goesL_ (some 6) rfl rfl Try.func19 (by kernel_rfl) rfl #[] rfl (by (try simp only [List.map_toArray, List.map_cons, List.map_nil]); first | done | rfl | (simp only [List.length_drop, List.length_take]; rfl)) ?_; (with_reducible refine (rotuluslaw1_begun.calls k  false _ A2.out).mono ?_); rintro e w45 ⟨rfl, hb⟩; refine ⟨_, rfl, ?_⟩; have n0_ := Aside0.mk (below_step (by repeat (first | (with_reducible first | exact HB.out | apply below_alloc | apply pw_below_drewN | apply below_drew1) | exact HB.out)) hb); clear HB; have HB := n0_; clear n0_; (try clear hb); (try clear hb2); (try clear hk); (try clear hi)))
    go_ret
    exact ⟨by first | rfl | (simp [errW_none, errW_some] <;> rfl) | (simp [*, errW_none, errW_some] <;> rfl), by repeat (first | (with_reducible first | exact HB.out | apply below_alloc | apply pw_below_drewN | apply below_drew1) | exact HB.out)⟩

end Go.Proofs.Ytohafoihegjlnaa.P
