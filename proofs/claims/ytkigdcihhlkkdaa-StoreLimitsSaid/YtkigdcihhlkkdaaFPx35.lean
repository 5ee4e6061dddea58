-- written by a print that this session turned (wip/tools/turnprint.py)
import Derived.Test.YtkigdcihhlkkdaaFPx0
import Derived.Test.YtkigdcihhlkkdaaFPx32
import Derived.Test.YtkigdcihhlkkdaaFPx34
namespace Go.Proofs.Ytkigdcihhlkkdaa.P
open Go.RowKit Go.Proofs.YtkigdcihhlkkdaaW.PrintWords Go.Proofs.YtkigdcihhlkkdaaW.PrintLast Go.Proofs.YtkigdcihhlkkdaaW.PrintMore
attribute [local go_sem] max2_int min2_int max_two min_two max_three min_three max_four min_four   -- for this text's walks alone
set_option linter.unusedVariables false
set_option linter.unusedSimpArgs false
def cell_Trim.l0 : Nat → List (S45) → Int → Option ((List (S45)))
  | 0, _, _ => none
  | k + 1, x0, x3 => if x3 > 0 then (if 0 ≤ (wrap64 (x3 - 1)) then (if (wrap64 (x3 - 1)) < (x0.length : Int) then ((cell_IsBlank.f ((rd_T45 x0 (wrap64 (x3 - 1))).f0) ((rd_T45 x0 (wrap64 (x3 - 1))).f1) ((rd_T45 x0 (wrap64 (x3 - 1))).f2)).bind fun t363 => (if t363 = true then (cell_Trim.l0 k x0 (wrap64 (x3 - 1))) else (if 0 ≤ x3 then (if x3 ≤ (x0.length : Int) then ((api_Cell_88.f (x0.take (x3 : Int).toNat)).bind fun t368 => (some t368)) else (none)) else (none)))) else (none)) else (none)) else (if 0 ≤ x3 then (if x3 ≤ (x0.length : Int) then ((api_Cell_88.f (x0.take (x3 : Int).toNat)).bind fun t375 => (some t375)) else (none)) else (none))
def cell_Trim.f (k : Nat) (l0 : List (S45)) : Option ((List (S45))) := cell_Trim.l0 k l0 (l0.length : Int)
theorem cell_Trim.mono_l : ∀ k, (∀ y0 y1, LeO (cell_Trim.l0 k y0 y1) (cell_Trim.l0 (k + 1) y0 y1))
  | 0 => fun _ _ r h => by simp [cell_Trim.l0] at h
  | k + 1 => by
    have ih0 := cell_Trim.mono_l k
    · intro y0 y1
      unfold cell_Trim.l0
      repeat' first
      | (with_reducible exact ih0 _ _)
      | (with_reducible exact LeO.refl _)
      | (with_reducible exact LeO.none _)
      | (with_reducible refine LeO.ite ?_ ?_)
      | (with_reducible refine LeO.bind ?_ (fun _ => ?_))
      | exact ih0 _ _
      | exact LeO.none _
      | refine LeO.ite ?_ ?_
      | refine LeO.bind ?_ (fun _ => ?_)
theorem cell_Trim.mono : ∀ a0 k, LeO (cell_Trim.f k a0) (cell_Trim.f (k + 1) a0) := by
  intro a0 k
  have ih0 := cell_Trim.mono_l k
  unfold cell_Trim.f
  repeat' first
      | (with_reducible exact ih0 _ _)
      | (with_reducible exact LeO.refl _)
      | (with_reducible exact LeO.none _)
      | (with_reducible refine LeO.ite ?_ ?_)
      | (with_reducible refine LeO.bind ?_ (fun _ => ?_))
      | exact ih0 _ _
      | exact LeO.none _
      | refine LeO.ite ?_ ?_
      | refine LeO.bind ?_ (fun _ => ?_)
set_option maxHeartbeats 8000000 in
set_option maxRecDepth 100000 in
theorem cell_Trim.calls (k : Nat) (A0 : Option Addr) (c0 : Nat) (l0 : List (S45)) (r : List (S45)) (w : World) (hr0 : Kd.C k45 w A0 l0.length l0) (hc0 : l0.length ≤ c0) (h : cell_Trim.f k l0 = some r) :
    Calls Try.prog 79 #[.slice A0 l0.length c0] w fun e w' => ∃ v0_ : Value, e = .returned (v0_) ∧ Kd.R k45 45 w' w.heap.size (fun _ => True) v0_ r ∧ Below w.heap.size w w' := by
  have hu45 := Try.underlying45
  have HR0 := Aside0.mk hr0
  have HC0 := Aside0.mk hc0
  clear hr0 hc0
  have HB := Aside0.mk (Below.refl w.heap.size w)
  have H : (cell_Trim.l0 k l0 (l0.length : Int)) = some r := h
  clear h
  have H' := Aside0.mk H
  clear H
  go_enter Try.func79, Try.ntmps79
  go_wp2
  go_loopg [3] k (fun kq v3 w' => ∃ (x3_1 : Int), v3 = .int .i64 x3_1 ∧ Aside0 (cell_Trim.l0 kq l0 x3_1 = some r) ∧ Aside0 (kq ≤ k) ∧ Aside0 (Below w.heap.size w w'))
  case atStart => exact ⟨((l0.length : Int)), (by first | rfl | (simp; done) | (simp [*]; done)), H', ⟨Nat.le_refl _⟩, ⟨by repeat (first | (with_reducible first | exact HB.out | apply below_alloc | apply pw_below_drewN | apply below_drew1) | exact HB.out)⟩⟩
  case round =>
    clear H'
    obtain ⟨x3_1, rfl, HA, HK1, HB⟩ := hrel
    cases gk with
    | zero => exact absurd HA.out (by simp [cell_Trim.l0])
    | succ k1 =>
      have H := HA.out
      clear HA
      simp only [cell_Trim.l0] at H
      by_cases c2 : x3_1 > 0
      · rw [if_pos c2] at H
        have c2b0 : decide (0 < x3_1) = true := decide_eq_true c2
        clear c2
        obtain ⟨ji3, hji3⟩ : ∃ j_ : Int, (wrap64 (x3_1 - 1)) = j_ := ⟨_, rfl⟩
        replace H : (if 0 ≤ (ji3) then (if (ji3) < (l0.length : Int) then ((cell_IsBlank.f ((rd_T45 l0 (ji3)).f0) ((rd_T45 l0 (ji3)).f1) ((rd_T45 l0 (ji3)).f2)).bind fun t363 => (if t363 = true then (cell_Trim.l0 k1 l0 ji3) else (if 0 ≤ x3_1 then (if x3_1 ≤ (l0.length : Int) then ((api_Cell_88.f (l0.take (x3_1 : Int).toNat)).bind fun t368 => (some t368)) else (none)) else (none)))) else (none)) else (none)) = some r := by first | (rw [hji3] at H; exact H) | (simp only [hji3] at H ⊢; exact H)
        have hji3w : (IntKind.i64.wrap (x3_1 - 1)) = ji3 := (i64_w _).trans hji3
        have c4 : 0 ≤ (ji3) := Decidable.byContradiction fun hc_ => absurd ((if_neg hc_).symm.trans H) (by simp)
        rw [if_pos c4] at H
        have c4b0 : decide (0 ≤ (ji3)) = true := decide_eq_true c4
        clear c4
        have c5 : (ji3) < (l0.length : Int) := Decidable.byContradiction fun hc_ => absurd ((if_neg hc_).symm.trans H) (by simp)
        rw [if_pos c5] at H
        have c5b0 : decide ((ji3) < (l0.length : Int)) = true := decide_eq_true c5
        clear c5
        replace H := Option.bind_eq_some_iff.mp H
        obtain ⟨t363, A60, H⟩ := H
        replace H : (if t363 = true then (cell_Trim.l0 k1 l0 ji3) else (if 0 ≤ x3_1 then (if x3_1 ≤ (l0.length : Int) then ((api_Cell_88.f (l0.take (x3_1 : Int).toNat)).bind fun t368 => (some t368)) else (none)) else (none))) = some r := H
        have A6 := Aside0.mk A60
        clear A60
        by_cases c7 : t363 = true
        · subst c7
          have H1 : (cell_Trim.l0 k1 l0 ji3) = some r := by rw [if_pos rfl] at H; exact H
          clear H
          have H := H1
          clear H1
          have H' := Aside0.mk H
          clear H
          have p362 : 0 ≤ ((ji3) : Int) := of_decide_eq_true (by first | (with_reducible assumption) | assumption)
          have q362 : (ji3) < (l0.length : Int) := of_decide_eq_true (by first | (with_reducible assumption) | assumption)
          obtain ⟨ad362, e362, hx362_0, hx362_1, hx362_2⟩ := at_T45 HR0.out (ji3) p362 q362
          cases e362
          replace hx362_0 := (HB.out.cell (World.block_lt_of_cell? w _ hx362_0)).trans hx362_0
          replace hx362_1 := (HB.out.cell (World.block_lt_of_cell? w _ hx362_1)).trans hx362_1
          replace hx362_2 := (HB.out.cell (World.block_lt_of_cell? w _ hx362_2)).trans hx362_2
          replace p362 := eq_true p362
          replace q362 := eq_true q362
          go_wp2_with (first | (go_at_call 75; (with_reducible refine (cell_IsBlank.calls ((rd_T45 l0 (ji3)).f0) ((rd_T45 l0 (ji3)).f1) ((rd_T45 l0 (ji3)).f2) true _ A6.out).mono ?_); rintro e w8 ⟨rfl, hb⟩; have n0_ := Aside0.mk (below_step (by repeat (first | (with_reducible first | exact HB.out | apply below_alloc | apply pw_below_drewN | apply below_drew1) | exact HB.out)) hb); clear HB; have HB := n0_; clear n0_; (try clear hb); (try clear hb2); (try clear hk); (try clear hi)))
          go_roundg k1
          case measure => have := HK1.out; omega
          case rel => exact ⟨(ji3), (by first | rfl | (simp; done) | (simp only [← hji3] <;> (first | rfl | simp)) | (simp [*]; done)), H', ⟨by have := HK1.out; omega⟩, ⟨by repeat (first | (with_reducible first | exact HB.out | apply below_alloc | apply pw_below_drewN | apply below_drew1) | exact HB.out)⟩⟩
        · replace c7 := Bool.eq_false_iff.mpr c7
          subst c7
          have H1 : (if 0 ≤ x3_1 then (if x3_1 ≤ (l0.length : Int) then ((api_Cell_88.f (l0.take (x3_1 : Int).toNat)).bind fun t368 => (some t368)) else (none)) else (none)) = some r := by rw [if_neg (show ¬ (false = true) by decide)] at H; exact H
          clear H
          have H := H1
          clear H1
          have c9 : 0 ≤ x3_1 := Decidable.byContradiction fun hc_ => absurd ((if_neg hc_).symm.trans H) (by simp)
          rw [if_pos c9] at H
          have c9b0 := eq_true c9
          have c9b1 : decide (0 ≤ x3_1) = true := decide_eq_true c9
          clear c9
          have c10 : x3_1 ≤ (l0.length : Int) := Decidable.byContradiction fun hc_ => absurd ((if_neg hc_).symm.trans H) (by simp)
          rw [if_pos c10] at H
          have c10b0 := eq_true c10
          have c10b1 : decide (x3_1 ≤ (l0.length : Int)) = true := decide_eq_true c10
          clear c10
          obtain ⟨y364, hy364⟩ : ∃ y_ : List (S45), y_ = (l0.take (x3_1 : Int).toNat) := ⟨_, rfl⟩
          replace H : ((api_Cell_88.f y364).bind fun t368 => (some t368)) = some r := by first | (rw [hy364]; with_reducible exact H) | (have H2_ := (Option.bind_some _ _).symm.trans H; rw [hy364]; with_reducible exact H2_) | (have H2_ := (Option.bind_some _ _).symm.trans H; with_reducible exact H2_) | with_reducible exact H | (rw [hy364]; exact H) | exact H
          have Ny364 := Aside0.mk hy364
          clear hy364
          replace H := Option.bind_eq_some_iff.mp H
          obtain ⟨t368, A110, H⟩ := H
          replace H : (some t368) = some r := H
          have A11 := Aside0.mk A110
          clear A110
          obtain rfl := Option.some.inj H
          have p362 : 0 ≤ ((ji3) : Int) := of_decide_eq_true (by first | (with_reducible assumption) | assumption)
          have q362 : (ji3) < (l0.length : Int) := of_decide_eq_true (by first | (with_reducible assumption) | assumption)
          obtain ⟨ad362, e362, hx362_0, hx362_1, hx362_2⟩ := at_T45 HR0.out (ji3) p362 q362
          cases e362
          replace hx362_0 := (HB.out.cell (World.block_lt_of_cell? w _ hx362_0)).trans hx362_0
          replace hx362_1 := (HB.out.cell (World.block_lt_of_cell? w _ hx362_1)).trans hx362_1
          replace hx362_2 := (HB.out.cell (World.block_lt_of_cell? w _ hx362_2)).trans hx362_2
          replace p362 := eq_true p362
          replace q362 := eq_true q362
          go_wp2_with (first | (go_at_call 75; (with_reducible refine (cell_IsBlank.calls ((rd_T45 l0 (ji3)).f0) ((rd_T45 l0 (ji3)).f1) ((rd_T45 l0 (ji3)).f2) false _ A6.out).mono ?_); rintro e w12 ⟨rfl, hb⟩; have n0_ := Aside0.mk (below_step (by repeat (first | (with_reducible first | exact HB.out | apply below_alloc | apply pw_below_drewN | apply below_drew1) | exact HB.out)) hb); clear HB; have HB := n0_; clear n0_; (try clear hb); (try clear hb2); (try clear hk); (try clear hi); have q13 : (x3_1 : Int) ≤ ((l0.length : Int) : Int) := of_decide_eq_true (by first | (with_reducible assumption) | assumption); obtain ⟨i013, hi013, _, hsz13, _⟩ := info_parts info45; have hroom13 : l0.length ≤ c0 := HC0.out; have hC13 : Kd.C k45 _ (some ad362) l0.length l0 := HR0.out; have hcut13 := cut_to (P := Try.prog) 29 45 .i64 Try.underlying29 hi013 (some ad362) l0.length c0 x3_1 (of_decide_eq_true (by first | (with_reducible assumption) | assumption)) q13 hroom13; have hr13 := Kd.C_take (m := (x3_1 : Int).toNat) hC13 (by omega); have hy13 : y364.length = (x3_1 : Int).toNat := (by rw [Ny364.out, List.length_take]; omega); rw [← Ny364.out] at hr13; rw [← hy13] at hcut13; have HR367 := Aside0.mk hr13; have HC367 := Aside0.mk (show y364.length ≤ c0 from by omega); clear hr13 hC13 hroom13 hi013 hsz13; have KY13 := Aside0.mk hy13; clear hy13; replace q13 := eq_true q13) | ((with_reducible refine gate_callee (f := 88) rfl ?_); refine goesL_ (some 21) rfl rfl Try.func88 (by kernel_rfl) rfl #[.slice (some ad362) y364.length c0] rfl (by (try simp only [List.map_toArray, List.map_cons, List.map_nil]); first | done | rfl | (simp only [List.length_drop, List.length_take]; rfl)) ?_; (with_reducible refine (api_Cell_88.calls _ _ y364 t368 _ ?side1 ?side2 A11.out).mono ?_); (case side1 => repeat (first | exact (Kd.C_below HR367.out HB.out) | (with_reducible refine Kd.C_alloc ?_ _) | (with_reducible refine Kd.C_drewN ?_ _) | (with_reducible refine Kd.C_drew ?_) | exact Kd.C_drewN (Kd.C_below HR367.out HB.out) _ | exact Kd.C_drew (Kd.C_below HR367.out HB.out) | exact Kd.C_alloc (Kd.C_below HR367.out HB.out) _)); (case side2 => exact HC367.out); rintro e w14 ⟨v369, rfl, ho0, hb⟩; refine ⟨_, rfl, ?_⟩; have n0_ := Aside0.mk (Kd.R_lower ho0 (below_size (by repeat (first | (with_reducible first | exact HB.out | apply below_alloc | apply pw_below_drewN | apply below_drew1) | exact HB.out)))); have n1_ := Aside0.mk (below_step (by repeat (first | (with_reducible first | exact HB.out | apply below_alloc | apply pw_below_drewN | apply below_drew1) | exact HB.out)) hb); clear HB; have HO370 := n0_; have HB := n1_; clear n0_ n1_; (try clear hb); (try clear hb2); (try clear hk); (try clear hi); (try clear ho0)))
          go_ret
          exact ⟨_, by first | rfl | (simp [errW_none, errW_some] <;> rfl) | (simp only [← hji3]; first | rfl | (simp [errW_none, errW_some] <;> rfl)) | (simp [*, errW_none, errW_some] <;> rfl), by (with_reducible repeat (first | apply Kd.R_alloc | apply Kd.R_drewN | apply Kd.R_drew)); exact HO370.out, by repeat (first | (with_reducible first | exact HB.out | apply below_alloc | apply pw_below_drewN | apply below_drew1) | exact HB.out)⟩
      · rw [if_neg c2] at H
        have c2b0 : decide (0 < x3_1) = false := decide_eq_false c2
        clear c2
        have c15 : 0 ≤ x3_1 := Decidable.byContradiction fun hc_ => absurd ((if_neg hc_).symm.trans H) (by simp)
        rw [if_pos c15] at H
        have c15b0 := eq_true c15
        have c15b1 : decide (0 ≤ x3_1) = true := decide_eq_true c15
        clear c15
        have c16 : x3_1 ≤ (l0.length : Int) := Decidable.byContradiction fun hc_ => absurd ((if_neg hc_).symm.trans H) (by simp)
        rw [if_pos c16] at H
        have c16b0 := eq_true c16
        have c16b1 : decide (x3_1 ≤ (l0.length : Int)) = true := decide_eq_true c16
        clear c16
        obtain ⟨y371, hy371⟩ : ∃ y_ : List (S45), y_ = (l0.take (x3_1 : Int).toNat) := ⟨_, rfl⟩
        replace H : ((api_Cell_88.f y371).bind fun t375 => (some t375)) = some r := by first | (rw [hy371]; with_reducible exact H) | (have H2_ := (Option.bind_some _ _).symm.trans H; rw [hy371]; with_reducible exact H2_) | (have H2_ := (Option.bind_some _ _).symm.trans H; with_reducible exact H2_) | with_reducible exact H | (rw [hy371]; exact H) | exact H
        have Ny371 := Aside0.mk hy371
        clear hy371
        replace H := Option.bind_eq_some_iff.mp H
        obtain ⟨t375, A170, H⟩ := H
        replace H : (some t375) = some r := H
        have A17 := Aside0.mk A170
        clear A170
        obtain rfl := Option.some.inj H
        have q18 : (x3_1 : Int) ≤ ((l0.length : Int) : Int) := of_decide_eq_true (by first | (with_reducible assumption) | assumption)
        obtain ⟨i018, hi018, _, hsz18, _⟩ := info_parts info45
        have hroom18 : l0.length ≤ c0 := HC0.out
        have hC18 : Kd.C k45 _ A0 l0.length l0 := HR0.out
        have hcut18 := cut_to (P := Try.prog) 29 45 .i64 Try.underlying29 hi018 A0 l0.length c0 x3_1 (of_decide_eq_true (by first | (with_reducible assumption) | assumption)) q18 hroom18
        have hr18 := Kd.C_take (m := (x3_1 : Int).toNat) hC18 (by omega)
        have hy18 : y371.length = (x3_1 : Int).toNat := (by rw [Ny371.out, List.length_take]; omega)
        rw [← Ny371.out] at hr18
        rw [← hy18] at hcut18
        have HR374 := Aside0.mk hr18
        have HC374 := Aside0.mk (show y371.length ≤ c0 from by omega)
        clear hr18 hC18 hroom18 hi018 hsz18
        have KY18 := Aside0.mk hy18
        clear hy18
        replace q18 := eq_true q18
        go_wp2_with (first | ((with_reducible refine gate_callee (f := 88) rfl ?_); refine goesL_ (some 21) rfl rfl Try.func88 (by kernel_rfl) rfl #[.slice A0 y371.length c0] rfl (by (try simp only [List.map_toArray, List.map_cons, List.map_nil]); first | done | rfl | (simp only [List.length_drop, List.length_take]; rfl)) ?_; (with_reducible refine (api_Cell_88.calls _ _ y371 t375 _ ?side1 ?side2 A17.out).mono ?_); (case side1 => repeat (first | exact (Kd.C_below HR374.out HB.out) | (with_reducible refine Kd.C_alloc ?_ _) | (with_reducible refine Kd.C_drewN ?_ _) | (with_reducible refine Kd.C_drew ?_) | exact Kd.C_drewN (Kd.C_below HR374.out HB.out) _ | exact Kd.C_drew (Kd.C_below HR374.out HB.out) | exact Kd.C_alloc (Kd.C_below HR374.out HB.out) _)); (case side2 => exact HC374.out); rintro e w19 ⟨v376, rfl, ho0, hb⟩; refine ⟨_, rfl, ?_⟩; have n0_ := Aside0.mk (Kd.R_lower ho0 (below_size (by repeat (first | (with_reducible first | exact HB.out | apply below_alloc | apply pw_below_drewN | apply below_drew1) | exact HB.out)))); have n1_ := Aside0.mk (below_step (by repeat (first | (with_reducible first | exact HB.out | apply below_alloc | apply pw_below_drewN | apply below_drew1) | exact HB.out)) hb); clear HB; have HO377 := n0_; have HB := n1_; clear n0_ n1_; (try clear hb); (try clear hb2); (try clear hk); (try clear hi); (try clear ho0)))
        go_ret
        exact ⟨_, by first | rfl | (simp [errW_none, errW_some] <;> rfl) | (simp [*, errW_none, errW_some] <;> rfl), by (with_reducible repeat (first | apply Kd.R_alloc | apply Kd.R_drewN | apply Kd.R_drew)); exact HO377.out, by repeat (first | (with_reducible first | exact HB.out | apply below_alloc | apply pw_below_drewN | apply below_drew1) | exact HB.out)⟩
end Go.Proofs.Ytkigdcihhlkkdaa.P
