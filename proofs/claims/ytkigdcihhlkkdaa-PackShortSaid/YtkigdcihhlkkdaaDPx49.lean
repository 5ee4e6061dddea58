-- written by a print that this session turned (wip/tools/turnprint.py)
import Derived.Test.YtkigdcihhlkkdaaDPx0
import Derived.Test.YtkigdcihhlkkdaaDPx45
namespace Go.Proofs.Ytkigdcihhlkkdaa.P
open Go.RowKit Go.Proofs.YtkigdcihhlkkdaaW.PrintWords Go.Proofs.YtkigdcihhlkkdaaW.PrintLast Go.Proofs.YtkigdcihhlkkdaaW.PrintMore
attribute [local go_sem] max2_int min2_int max_two min_two max_three min_three max_four min_four   -- for this text's walks alone
set_option linter.unusedVariables false
set_option linter.unusedSimpArgs false
def rotulusref1_Cells.j0 : Nat → Int → Int → Int → Bool → Option ((List (S45)))
  | 0, _, _, _, _ => none
  | k + 1, x0, x1, x5, x17 => if x17 = true then (some ([] : List (S45))) else (if x5 = 1 then (some (([(⟨x0, 1, x1⟩ : S45)] : List (S45)))) else (some (([(⟨x0, 2, x1⟩ : S45), (⟨0, 0, x1⟩ : S45)] : List (S45)))))
def rotulusref1_Cells.f (k : Nat) (a0 : Int) (a1 : Int) : Option ((List (S45))) := (rotulusref1_Width.f a0).bind fun t527 => (if t527 = 0 then (rotulusref1_Cells.j0 k a0 a1 t527 true) else (if a1 < 0 then (rotulusref1_Cells.j0 k a0 a1 t527 true) else (rotulusref1_Cells.j0 k a0 a1 t527 (decide (a1 > 255)))))
theorem rotulusref1_Cells.mono_l : ∀ k, (∀ y0 y1 y2 y3, LeO (rotulusref1_Cells.j0 k y0 y1 y2 y3) (rotulusref1_Cells.j0 (k + 1) y0 y1 y2 y3))
  | 0 => fun _ _ _ _ r h => by simp [rotulusref1_Cells.j0] at h
  | k + 1 => by
    have ih0 := rotulusref1_Cells.mono_l k
    · intro y0 y1 y2 y3
      unfold rotulusref1_Cells.j0
      repeat' first
      | (with_reducible exact ih0 _ _ _ _)
      | (with_reducible exact LeO.refl _)
      | (with_reducible exact LeO.none _)
      | (with_reducible refine LeO.ite ?_ ?_)
      | (with_reducible refine LeO.bind ?_ (fun _ => ?_))
      | exact ih0 _ _ _ _
      | exact LeO.none _
      | refine LeO.ite ?_ ?_
      | refine LeO.bind ?_ (fun _ => ?_)
theorem rotulusref1_Cells.mono : ∀ a0 a1 k, LeO (rotulusref1_Cells.f k a0 a1) (rotulusref1_Cells.f (k + 1) a0 a1) := by
  intro a0 a1 k
  have ih0 := rotulusref1_Cells.mono_l k
  unfold rotulusref1_Cells.f
  repeat' first
      | (with_reducible exact ih0 _ _ _ _)
      | (with_reducible exact LeO.refl _)
      | (with_reducible exact LeO.none _)
      | (with_reducible refine LeO.ite ?_ ?_)
      | (with_reducible refine LeO.bind ?_ (fun _ => ?_))
      | exact ih0 _ _ _ _
      | exact LeO.none _
      | refine LeO.ite ?_ ?_
      | refine LeO.bind ?_ (fun _ => ?_)
set_option maxHeartbeats 8000000 in
set_option maxRecDepth 100000 in
theorem rotulusref1_Cells.calls (k : Nat) (a0 : Int) (a1 : Int) (r : List (S45)) (w : World) (h : rotulusref1_Cells.f k a0 a1 = some r) :
    Calls Try.prog 32 #[.int .i32 a0, .int .i64 a1] w fun e w' => ∃ v0_ : Value, e = .returned (v0_) ∧ Kd.R k45 45 w' w.heap.size (fun _ => True) v0_ r ∧ Below w.heap.size w w' := by
  have hu45 := Try.underlying45
  have HB := Aside0.mk (Below.refl w.heap.size w)
  have H : ((rotulusref1_Width.f a0).bind fun t527 => (if t527 = 0 then (rotulusref1_Cells.j0 k a0 a1 t527 true) else (if a1 < 0 then (rotulusref1_Cells.j0 k a0 a1 t527 true) else (rotulusref1_Cells.j0 k a0 a1 t527 (decide (a1 > 255)))))) = some r := h
  clear h
  replace H := Option.bind_eq_some_iff.mp H
  obtain ⟨t527, A30, H⟩ := H
  replace H : (if t527 = 0 then (rotulusref1_Cells.j0 k a0 a1 t527 true) else (if a1 < 0 then (rotulusref1_Cells.j0 k a0 a1 t527 true) else (rotulusref1_Cells.j0 k a0 a1 t527 (decide (a1 > 255))))) = some r := H
  have A3 := Aside0.mk A30
  clear A30
  have HC4 := Aside0.mk H
  clear H
  go_enter Try.func32, Try.ntmps32
  go_upto_region 2 with (first | ((with_reducible refine gate_callee (f := 59) rfl ?_); refine goesL_ (some 7) rfl rfl Try.func59 (by kernel_rfl) rfl #[.int .i32 a0] rfl (by (try simp only [List.map_toArray, List.map_cons, List.map_nil]); first | done | rfl | (simp only [List.length_drop, List.length_take]; rfl)) ?_; (with_reducible refine (rotulusref1_Width.calls a0 t527 _ A3.out).mono ?_); rintro e w5 ⟨rfl, hb⟩; refine ⟨_, rfl, ?_⟩; have n0_ := Aside0.mk (below_step (by repeat (first | (with_reducible first | exact HB.out | apply below_alloc | apply pw_below_drewN | apply below_drew1) | exact HB.out)) hb); clear HB; have HB := n0_; clear n0_; (try clear hb); (try clear hb2); (try clear hk); (try clear hi)))
  (try simp only [Act.put, List.setIfInBounds_toArray, List.set_cons_zero, List.set_cons_succ])
  go_cut [17] (fun v17 wc => ∃ (kq : Nat) (x17_3 : Bool), v17 = .bool x17_3 ∧ Aside0 (rotulusref1_Cells.j0 kq a0 a1 t527 x17_3 = some r) ∧ Aside0 (kq ≤ k) ∧ Aside0 (Below w.heap.size w wc))
  case first =>
    have H := HC4.out
    clear HC4
    by_cases c6 : t527 = 0
    · rw [if_pos c6] at H
      have c6b0 : (t527 == 0) = true := beq_iff_eq.mpr c6
      have c6b1 : (t527 != 0) = false := bne_eq_false_iff_eq.mpr c6
      clear c6
      (first | rw [c6b0] | (simp only [i64_w, i32_w]; rw [c6b0]) | skip)
      have H' := Aside0.mk H
      clear H
      go_wp2
      go_meet
      case rel => exact ⟨_, (true), (by first | rfl | (simp; done) | (simp [*]; done)), H', ⟨by first | omega | exact Nat.le_refl _⟩, ⟨by repeat (first | (with_reducible first | exact HB.out | apply below_alloc | apply pw_below_drewN | apply below_drew1) | exact HB.out)⟩⟩
    · rw [if_neg c6] at H
      have c6b0 : (t527 == 0) = false := beq_eq_false_iff_ne.mpr c6
      have c6b1 : (t527 != 0) = true := bne_iff_ne.mpr c6
      (first | rw [c6b0] | (simp only [i64_w, i32_w]; rw [c6b0]) | skip)
      by_cases c7 : a1 < 0
      · rw [if_pos c7] at H
        have c7b0 : decide (a1 < 0) = true := decide_eq_true c7
        clear c7
        have H' := Aside0.mk H
        clear H
        go_wp2
        go_meet
        case rel => exact ⟨_, (true), (by first | rfl | (simp; done) | (simp [*]; done)), H', ⟨by first | omega | exact Nat.le_refl _⟩, ⟨by repeat (first | (with_reducible first | exact HB.out | apply below_alloc | apply pw_below_drewN | apply below_drew1) | exact HB.out)⟩⟩
      · rw [if_neg c7] at H
        have c7b0 : decide (a1 < 0) = false := decide_eq_false c7
        clear c7
        have H' := Aside0.mk H
        clear H
        go_wp2
        go_meet
        case rel => exact ⟨_, (decide (a1 > 255)), (by first | rfl | (simp; done) | (simp [*]; done)), H', ⟨by first | omega | exact Nat.le_refl _⟩, ⟨by repeat (first | (with_reducible first | exact HB.out | apply below_alloc | apply pw_below_drewN | apply below_drew1) | exact HB.out)⟩⟩
  case rest =>
    clear HC4
    try clear p2
    try clear c3
    try clear c5
    try clear c6
    try clear c6b0
    try clear c6b1
    try clear c7
    try clear c7b0
    obtain ⟨kq, x17_3, rfl, HA, HJ3, HB⟩ := hcut
    cases kq with
    | zero => exact absurd HA.out (by simp [rotulusref1_Cells.j0])
    | succ kj3 =>
      have H := HA.out
      clear HA
      simp only [rotulusref1_Cells.j0] at H
      by_cases c8 : x17_3 = true
      · subst c8
        have H1 : (some ([] : List (S45))) = some r := by rw [if_pos rfl] at H; exact H
        clear H
        have H := H1
        clear H1
        obtain rfl := Option.some.inj H
        go_wp2
        go_ret
        exact ⟨_, by first | rfl | (simp [errW_none, errW_some] <;> rfl) | (simp [*, errW_none, errW_some] <;> rfl), by first | exact Kd.R_nil _ _ _ _ _ | exact Kd.N_nil _ _ _ _ _ | exact Kd.V_nil _ _ _ _ _ | exact Kd.Q_nil _ _ _ _ _ | exact Kd.S_nil _ _ _ _ _, by repeat (first | (with_reducible first | exact HB.out | apply below_alloc | apply pw_below_drewN | apply below_drew1) | exact HB.out)⟩
      · replace c8 := Bool.eq_false_iff.mpr c8
        subst c8
        have H1 : (if t527 = 1 then (some (([(⟨a0, 1, a1⟩ : S45)] : List (S45)))) else (some (([(⟨a0, 2, a1⟩ : S45), (⟨0, 0, a1⟩ : S45)] : List (S45))))) = some r := by rw [if_neg (show ¬ (false = true) by decide)] at H; exact H
        clear H
        have H := H1
        clear H1
        by_cases c9 : t527 = 1
        · rw [if_pos c9] at H
          have c9b0 : (t527 == 1) = true := beq_iff_eq.mpr c9
          have c9b1 : (t527 != 1) = false := bne_eq_false_iff_eq.mpr c9
          clear c9
          obtain ⟨y528, hy528⟩ : ∃ y_ : List (S45), y_ = (([(⟨a0, 1, a1⟩ : S45)] : List (S45))) := ⟨_, rfl⟩
          replace H : (some y528) = some r := by first | (rw [hy528]; with_reducible exact H) | (have H2_ := (Option.bind_some _ _).symm.trans H; rw [hy528]; with_reducible exact H2_) | (have H2_ := (Option.bind_some _ _).symm.trans H; with_reducible exact H2_) | with_reducible exact H | (rw [hy528]; exact H) | exact H
          have Ny528 := Aside0.mk hy528
          clear hy528
          obtain rfl := Option.some.inj H
          go_wp2_with (first | ((with_reducible refine gate_dst (N := 23) rfl ?_); refine Kd.R_lit k45 _ 45 ?hg (N := 23) ?hd (xs := ([(⟨a0, 1, a1⟩ : S45)] : List (S45))) (inner := [.int .i32 a0, .int .i64 1, .int .i64 a1]) (ok := fun _ => True) (okp := fun _ => True) ?hr ?hp (fun _ hk => hk) trivial (Below.refl _ _) (Nat.le_refl _) (by simp) ?_; (case hd => rfl); (case hg => rfl); (case hr => first | (go_simp; done) | (go_simp; rfl)); (case hp => exact (Reps.c3 (show Kd.M k45 _ _ _ (⟨a0, 1, a1⟩ : S45) [.int .i32 a0, .int .i64 1, .int .i64 a1] from (k45_mkM _ _ _ (⟨a0, 1, a1⟩ : S45) )) (Reps.none _ _))); intro v529 w10 ho11 hb hg_ hnew_; clear hg_ hnew_; (first | rw [← Ny528.out] at ho11 | (simp only [Int.reduceToNat] at ho11; rw [← Ny528.out] at ho11)); have n0_ := Aside0.mk (Kd.R_lower ho11 (below_size (by repeat (first | (with_reducible first | exact HB.out | apply below_alloc | apply pw_below_drewN | apply below_drew1) | exact HB.out)))); have n1_ := Aside0.mk (below_step (by repeat (first | (with_reducible first | exact HB.out | apply below_alloc | apply pw_below_drewN | apply below_drew1) | exact HB.out)) hb); clear HB; have HO530 := n0_; have HB := n1_; clear n0_ n1_; clear hb ho11))
          go_ret
          exact ⟨_, by first | rfl | (simp [errW_none, errW_some] <;> rfl) | (simp [*, errW_none, errW_some] <;> rfl), by (with_reducible repeat (first | apply Kd.R_alloc | apply Kd.R_drewN | apply Kd.R_drew)); exact HO530.out, by repeat (first | (with_reducible first | exact HB.out | apply below_alloc | apply pw_below_drewN | apply below_drew1) | exact HB.out)⟩
        · rw [if_neg c9] at H
          have c9b0 : (t527 == 1) = false := beq_eq_false_iff_ne.mpr c9
          have c9b1 : (t527 != 1) = true := bne_iff_ne.mpr c9
          obtain ⟨y531, hy531⟩ : ∃ y_ : List (S45), y_ = (([(⟨a0, 2, a1⟩ : S45), (⟨0, 0, a1⟩ : S45)] : List (S45))) := ⟨_, rfl⟩
          replace H : (some y531) = some r := by first | (rw [hy531]; with_reducible exact H) | (have H2_ := (Option.bind_some _ _).symm.trans H; rw [hy531]; with_reducible exact H2_) | (have H2_ := (Option.bind_some _ _).symm.trans H; with_reducible exact H2_) | with_reducible exact H | (rw [hy531]; exact H) | exact H
          have Ny531 := Aside0.mk hy531
          clear hy531
          obtain rfl := Option.some.inj H
          go_wp2_with (first | ((with_reducible refine gate_dst (N := 29) rfl ?_); refine Kd.R_lit k45 _ 45 ?hg (N := 29) ?hd (xs := ([(⟨a0, 2, a1⟩ : S45), (⟨0, 0, a1⟩ : S45)] : List (S45))) (inner := [.int .i32 a0, .int .i64 2, .int .i64 a1, .int .i32 0, .int .i64 0, .int .i64 a1]) (ok := fun _ => True) (okp := fun _ => True) ?hr ?hp (fun _ hk => hk) trivial (Below.refl _ _) (Nat.le_refl _) (by simp) ?_; (case hd => rfl); (case hg => rfl); (case hr => first | (go_simp; done) | (go_simp; rfl)); (case hp => exact (Reps.c3 (show Kd.M k45 _ _ _ (⟨a0, 2, a1⟩ : S45) [.int .i32 a0, .int .i64 2, .int .i64 a1] from (k45_mkM _ _ _ (⟨a0, 2, a1⟩ : S45) )) (Reps.c3 (show Kd.M k45 _ _ _ (⟨0, 0, a1⟩ : S45) [.int .i32 0, .int .i64 0, .int .i64 a1] from (k45_mkM _ _ _ (⟨0, 0, a1⟩ : S45) )) (Reps.none _ _)))); intro v532 w12 ho13 hb hg_ hnew_; clear hg_ hnew_; (first | rw [← Ny531.out] at ho13 | (simp only [Int.reduceToNat] at ho13; rw [← Ny531.out] at ho13)); have n0_ := Aside0.mk (Kd.R_lower ho13 (below_size (by repeat (first | (with_reducible first | exact HB.out | apply below_alloc | apply pw_below_drewN | apply below_drew1) | exact HB.out)))); have n1_ := Aside0.mk (below_step (by repeat (first | (with_reducible first | exact HB.out | apply below_alloc | apply pw_below_drewN | apply below_drew1) | exact HB.out)) hb); clear HB; have HO533 := n0_; have HB := n1_; clear n0_ n1_; clear hb ho13))
          go_ret
          exact ⟨_, by first | rfl | (simp [errW_none, errW_some] <;> rfl) | (simp [*, errW_none, errW_some] <;> rfl), by (with_reducible repeat (first | apply Kd.R_alloc | apply Kd.R_drewN | apply Kd.R_drew)); exact HO533.out, by repeat (first | (with_reducible first | exact HB.out | apply below_alloc | apply pw_below_drewN | apply below_drew1) | exact HB.out)⟩
end Go.Proofs.Ytkigdcihhlkkdaa.P
