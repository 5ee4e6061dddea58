-- written by a print that this session turned (wip/tools/turnprint.py)
import Derived.Test.YtohafoihegjlnaaPx0
import Derived.Test.YtohafoihegjlnaaPx11
import Derived.Test.YtohafoihegjlnaaPx23
import Derived.Test.YtohafoihegjlnaaPx36
namespace Go.Proofs.Ytohafoihegjlnaa.P
open Go.RowKit Go.Proofs.YtohafoihegjlnaaW.PrintWords Go.Proofs.YtohafoihegjlnaaW.PrintLast Go.Proofs.YtohafoihegjlnaaW.PrintMore
attribute [local go_sem] max2_int min2_int max_two min_two max_three min_three max_four min_four   -- for this text's walks alone
set_option linter.unusedVariables false
set_option linter.unusedSimpArgs false

/-! ### rotuluslaw1_WidthEdges: function 8 -/
def rotuluslaw1_WidthEdges.f (k : Nat) (a0 : Int) (a1 : Int) : Option (Bool) := (rotuluslaw1_begun.f k).bind fun t512 => (if t512 = true then ((some (([31, 127, 159, 768, 879, 4352, 4447, 8203, 8207, 11904, 12350, 12353, 13311, 13312, 19903, 19968, 40959, 40960, 42191, 44032, 55203, 55296, 57343, 63744, 64255, 65024, 65039, 65072, 65135, 65280, 65376, 65504, 65510, 127744, 128591, 129280, 129535, 131072, 262141, 1114111] : List Int) : List Int)).bind fun y513 => (if (y513.length : Int) = 0 then (none) else (if 0 ≤ (Int.tmod (wrap64 ((Int.tmod a0 (y513.length : Int)) + (y513.length : Int))) (y513.length : Int)) then (if (Int.tmod (wrap64 ((Int.tmod a0 (y513.length : Int)) + (y513.length : Int))) (y513.length : Int)) < (y513.length : Int) then ((width_Of.f (wrap32 ((rd y513 (Int.tmod (wrap64 ((Int.tmod a0 (y513.length : Int)) + (y513.length : Int))) (y513.length : Int))) + (wrap32 (Int.tmod a1 2))))).bind fun t517 => ((rotulusref1_Width.f (wrap32 ((rd y513 (Int.tmod (wrap64 ((Int.tmod a0 (y513.length : Int)) + (y513.length : Int))) (y513.length : Int))) + (wrap32 (Int.tmod a1 2))))).bind fun t518 => (some (t517 == t518)))) else (none)) else (none)))) else (some false))
theorem rotuluslaw1_WidthEdges.mono : ∀ a0 a1 k, LeO (rotuluslaw1_WidthEdges.f k a0 a1) (rotuluslaw1_WidthEdges.f (k + 1) a0 a1) := by
  intro a0 a1 k
  unfold rotuluslaw1_WidthEdges.f
  repeat' first
      | (with_reducible exact rotuluslaw1_begun.mono _)
      | (with_reducible exact LeO.refl _)
      | (with_reducible exact LeO.none _)
      | (with_reducible refine LeO.ite ?_ ?_)
      | (with_reducible refine LeO.bind ?_ (fun _ => ?_))
      | exact rotuluslaw1_begun.mono _
      | exact LeO.none _
      | refine LeO.ite ?_ ?_
      | refine LeO.bind ?_ (fun _ => ?_)
set_option maxHeartbeats 8000000 in
set_option maxRecDepth 100000 in
theorem rotuluslaw1_WidthEdges.calls (k : Nat) (a0 : Int) (a1 : Int) (r : Bool) (w : World) (h : rotuluslaw1_WidthEdges.f k a0 a1 = some r) :
    Calls Try.prog 8 #[.int .i64 a0, .int .i64 a1] w fun e w' => e = .returned (.bool r) ∧ Below w.heap.size w w' := by
  have HB := Aside0.mk (Below.refl w.heap.size w)
  have H : ((rotuluslaw1_begun.f k).bind fun t512 => (if t512 = true then ((some (([31, 127, 159, 768, 879, 4352, 4447, 8203, 8207, 11904, 12350, 12353, 13311, 13312, 19903, 19968, 40959, 40960, 42191, 44032, 55203, 55296, 57343, 63744, 64255, 65024, 65039, 65072, 65135, 65280, 65376, 65504, 65510, 127744, 128591, 129280, 129535, 131072, 262141, 1114111] : List Int) : List Int)).bind fun y513 => (if (y513.length : Int) = 0 then (none) else (if 0 ≤ (Int.tmod (wrap64 ((Int.tmod a0 (y513.length : Int)) + (y513.length : Int))) (y513.length : Int)) then (if (Int.tmod (wrap64 ((Int.tmod a0 (y513.length : Int)) + (y513.length : Int))) (y513.length : Int)) < (y513.length : Int) then ((width_Of.f (wrap32 ((rd y513 (Int.tmod (wrap64 ((Int.tmod a0 (y513.length : Int)) + (y513.length : Int))) (y513.length : Int))) + (wrap32 (Int.tmod a1 2))))).bind fun t517 => ((rotulusref1_Width.f (wrap32 ((rd y513 (Int.tmod (wrap64 ((Int.tmod a0 (y513.length : Int)) + (y513.length : Int))) (y513.length : Int))) + (wrap32 (Int.tmod a1 2))))).bind fun t518 => (some (t517 == t518)))) else (none)) else (none)))) else (some false))) = some r := h
  clear h
  replace H := Option.bind_eq_some_iff.mp H
  obtain ⟨t512, A30, H⟩ := H
  replace H : (if t512 = true then ((some (([31, 127, 159, 768, 879, 4352, 4447, 8203, 8207, 11904, 12350, 12353, 13311, 13312, 19903, 19968, 40959, 40960, 42191, 44032, 55203, 55296, 57343, 63744, 64255, 65024, 65039, 65072, 65135, 65280, 65376, 65504, 65510, 127744, 128591, 129280, 129535, 131072, 262141, 1114111] : List Int) : List Int)).bind fun y513 => (if (y513.length : Int) = 0 then (none) else (if 0 ≤ (Int.tmod (wrap64 ((Int.tmod a0 (y513.length : Int)) + (y513.length : Int))) (y513.length : Int)) then (if (Int.tmod (wrap64 ((Int.tmod a0 (y513.length : Int)) + (y513.length : Int))) (y513.length : Int)) < (y513.length : Int) then ((width_Of.f (wrap32 ((rd y513 (Int.tmod (wrap64 ((Int.tmod a0 (y513.length : Int)) + (y513.length : Int))) (y513.length : Int))) + (wrap32 (Int.tmod a1 2))))).bind fun t517 => ((rotulusref1_Width.f (wrap32 ((rd y513 (Int.tmod (wrap64 ((Int.tmod a0 (y513.length : Int)) + (y513.length : Int))) (y513.length : Int))) + (wrap32 (Int.tmod a1 2))))).bind fun t518 => (some (t517 == t518)))) else (none)) else (none)))) else (some false)) = some r := H
  have A3 := Aside0.mk A30
  clear A30
  by_cases c4 : t512 = true
  · subst c4
    have H1 : ((some (([31, 127, 159, 768, 879, 4352, 4447, 8203, 8207, 11904, 12350, 12353, 13311, 13312, 19903, 19968, 40959, 40960, 42191, 44032, 55203, 55296, 57343, 63744, 64255, 65024, 65039, 65072, 65135, 65280, 65376, 65504, 65510, 127744, 128591, 129280, 129535, 131072, 262141, 1114111] : List Int) : List Int)).bind fun y513 => (if (y513.length : Int) = 0 then (none) else (if 0 ≤ (Int.tmod (wrap64 ((Int.tmod a0 (y513.length : Int)) + (y513.length : Int))) (y513.length : Int)) then (if (Int.tmod (wrap64 ((Int.tmod a0 (y513.length : Int)) + (y513.length : Int))) (y513.length : Int)) < (y513.length : Int) then ((width_Of.f (wrap32 ((rd y513 (Int.tmod (wrap64 ((Int.tmod a0 (y513.length : Int)) + (y513.length : Int))) (y513.length : Int))) + (wrap32 (Int.tmod a1 2))))).bind fun t517 => ((rotulusref1_Width.f (wrap32 ((rd y513 (Int.tmod (wrap64 ((Int.tmod a0 (y513.length : Int)) + (y513.length : Int))) (y513.length : Int))) + (wrap32 (Int.tmod a1 2))))).bind fun t518 => (some (t517 == t518)))) else (none)) else (none)))) = some r := by rw [if_pos rfl] at H; exact H
    clear H
    have H := H1
    clear H1
    obtain ⟨y513, hy513⟩ : ∃ y_ : List Int, y_ = (([31, 127, 159, 768, 879, 4352, 4447, 8203, 8207, 11904, 12350, 12353, 13311, 13312, 19903, 19968, 40959, 40960, 42191, 44032, 55203, 55296, 57343, 63744, 64255, 65024, 65039, 65072, 65135, 65280, 65376, 65504, 65510, 127744, 128591, 129280, 129535, 131072, 262141, 1114111] : List Int)) := ⟨_, rfl⟩
    replace H : (if (y513.length : Int) = 0 then (none) else (if 0 ≤ (Int.tmod (wrap64 ((Int.tmod a0 (y513.length : Int)) + (y513.length : Int))) (y513.length : Int)) then (if (Int.tmod (wrap64 ((Int.tmod a0 (y513.length : Int)) + (y513.length : Int))) (y513.length : Int)) < (y513.length : Int) then ((width_Of.f (wrap32 ((rd y513 (Int.tmod (wrap64 ((Int.tmod a0 (y513.length : Int)) + (y513.length : Int))) (y513.length : Int))) + (wrap32 (Int.tmod a1 2))))).bind fun t517 => ((rotulusref1_Width.f (wrap32 ((rd y513 (Int.tmod (wrap64 ((Int.tmod a0 (y513.length : Int)) + (y513.length : Int))) (y513.length : Int))) + (wrap32 (Int.tmod a1 2))))).bind fun t518 => (some (t517 == t518)))) else (none)) else (none))) = some r := by first | (rw [hy513]; with_reducible exact H) | (have H2_ := (Option.bind_some _ _).symm.trans H; rw [hy513]; with_reducible exact H2_) | (have H2_ := (Option.bind_some _ _).symm.trans H; with_reducible exact H2_) | with_reducible exact H | (rw [hy513]; exact H) | exact H
    have Ny513 := Aside0.mk hy513
    clear hy513
    by_cases c5 : (y513.length : Int) = 0
    · rw [if_pos c5] at H
      exact absurd H (by simp)
    · rw [if_neg c5] at H
      have c5b0 : ((y513.length : Int) == 0) = false := beq_eq_false_iff_ne.mpr c5
      have c5b1 : ((y513.length : Int) != 0) = true := bne_iff_ne.mpr c5
      have c5b2 : ¬ (y513 = []) := fun h_ => c5 (by rw [h_]; rfl)
      obtain ⟨ji6, hji6⟩ : ∃ j_ : Int, (Int.tmod (wrap64 ((Int.tmod a0 (y513.length : Int)) + (y513.length : Int))) (y513.length : Int)) = j_ := ⟨_, rfl⟩
      replace H : (if 0 ≤ (ji6) then (if (ji6) < (y513.length : Int) then ((width_Of.f (wrap32 ((rd y513 (ji6)) + (wrap32 (Int.tmod a1 2))))).bind fun t517 => ((rotulusref1_Width.f (wrap32 ((rd y513 (ji6)) + (wrap32 (Int.tmod a1 2))))).bind fun t518 => (some (t517 == t518)))) else (none)) else (none)) = some r := by first | (rw [hji6] at H; exact H) | (simp only [hji6] at H ⊢; exact H)
      (try rw [hji6] at A3)
      have c7 : 0 ≤ (ji6) := Decidable.byContradiction fun hc_ => absurd ((if_neg hc_).symm.trans H) (by simp)
      rw [if_pos c7] at H
      have c7b0 : decide (0 ≤ (ji6)) = true := decide_eq_true c7
      clear c7
      have c8 : (ji6) < (y513.length : Int) := Decidable.byContradiction fun hc_ => absurd ((if_neg hc_).symm.trans H) (by simp)
      rw [if_pos c8] at H
      have c8b0 : decide ((ji6) < (y513.length : Int)) = true := decide_eq_true c8
      clear c8
      replace H := Option.bind_eq_some_iff.mp H
      obtain ⟨t517, A90, H⟩ := H
      replace H : ((rotulusref1_Width.f (wrap32 ((rd y513 (ji6)) + (wrap32 (Int.tmod a1 2))))).bind fun t518 => (some (t517 == t518))) = some r := H
      have A9 := Aside0.mk A90
      clear A90
      replace H := Option.bind_eq_some_iff.mp H
      obtain ⟨t518, A100, H⟩ := H
      replace H : (some (t517 == t518)) = some r := H
      have A10 := Aside0.mk A100
      clear A100
      obtain rfl := Option.some.inj H
      go_enter Try.func8, Try.ntmps8
      go_wp2_with (first | ((with_reducible refine gate_callee (f := 19) rfl ?_); refine goesL_ (some 8) rfl rfl Try.func19 (by kernel_rfl) rfl #[] rfl (by (try simp only [List.map_toArray, List.map_cons, List.map_nil]); first | done | rfl | (simp only [List.length_drop, List.length_take]; rfl)) ?_; (with_reducible refine (rotuluslaw1_begun.calls k  true _ A3.out).mono ?_); rintro e w11 ⟨rfl, hb⟩; refine ⟨_, rfl, ?_⟩; have n0_ := Aside0.mk (below_step (by repeat (first | (with_reducible first | exact HB.out | apply below_alloc | apply pw_below_drewN | apply below_drew1) | exact HB.out)) hb); clear HB; have HB := n0_; clear n0_; (try clear hb); (try clear hb2); (try clear hk); (try clear hi)) | ((with_reducible refine gate_dst (N := 11) rfl ?_); refine Kd.R_lit (Kd.int .i32) _ 21 ?hg (N := 11) ?hd (xs := ([31, 127, 159, 768, 879, 4352, 4447, 8203, 8207, 11904, 12350, 12353, 13311, 13312, 19903, 19968, 40959, 40960, 42191, 44032, 55203, 55296, 57343, 63744, 64255, 65024, 65039, 65072, 65135, 65280, 65376, 65504, 65510, 127744, 128591, 129280, 129535, 131072, 262141, 1114111] : List Int)) (inner := [.int .i32 31, .int .i32 127, .int .i32 159, .int .i32 768, .int .i32 879, .int .i32 4352, .int .i32 4447, .int .i32 8203, .int .i32 8207, .int .i32 11904, .int .i32 12350, .int .i32 12353, .int .i32 13311, .int .i32 13312, .int .i32 19903, .int .i32 19968, .int .i32 40959, .int .i32 40960, .int .i32 42191, .int .i32 44032, .int .i32 55203, .int .i32 55296, .int .i32 57343, .int .i32 63744, .int .i32 64255, .int .i32 65024, .int .i32 65039, .int .i32 65072, .int .i32 65135, .int .i32 65280, .int .i32 65376, .int .i32 65504, .int .i32 65510, .int .i32 127744, .int .i32 128591, .int .i32 129280, .int .i32 129535, .int .i32 131072, .int .i32 262141, .int .i32 1114111]) (ok := fun _ => True) (okp := fun _ => True) ?hr ?hp (fun _ hk => hk) trivial (Below.refl _ _) (Nat.le_refl _) (by simp) ?_; (case hd => rfl); (case hg => rfl); (case hr => first | (go_simp; done) | (go_simp; rfl)); (case hp => exact (Reps.one (show Kd.M (Kd.int .i32) _ _ _ 31 [.int .i32 31] from rfl) (Reps.one (show Kd.M (Kd.int .i32) _ _ _ 127 [.int .i32 127] from rfl) (Reps.one (show Kd.M (Kd.int .i32) _ _ _ 159 [.int .i32 159] from rfl) (Reps.one (show Kd.M (Kd.int .i32) _ _ _ 768 [.int .i32 768] from rfl) (Reps.one (show Kd.M (Kd.int .i32) _ _ _ 879 [.int .i32 879] from rfl) (Reps.one (show Kd.M (Kd.int .i32) _ _ _ 4352 [.int .i32 4352] from rfl) (Reps.one (show Kd.M (Kd.int .i32) _ _ _ 4447 [.int .i32 4447] from rfl) (Reps.one (show Kd.M (Kd.int .i32) _ _ _ 8203 [.int .i32 8203] from rfl) (Reps.one (show Kd.M (Kd.int .i32) _ _ _ 8207 [.int .i32 8207] from rfl) (Reps.one (show Kd.M (Kd.int .i32) _ _ _ 11904 [.int .i32 11904] from rfl) (Reps.one (show Kd.M (Kd.int .i32) _ _ _ 12350 [.int .i32 12350] from rfl) (Reps.one (show Kd.M (Kd.int .i32) _ _ _ 12353 [.int .i32 12353] from rfl) (Reps.one (show Kd.M (Kd.int .i32) _ _ _ 13311 [.int .i32 13311] from rfl) (Reps.one (show Kd.M (Kd.int .i32) _ _ _ 13312 [.int .i32 13312] from rfl) (Reps.one (show Kd.M (Kd.int .i32) _ _ _ 19903 [.int .i32 19903] from rfl) (Reps.one (show Kd.M (Kd.int .i32) _ _ _ 19968 [.int .i32 19968] from rfl) (Reps.one (show Kd.M (Kd.int .i32) _ _ _ 40959 [.int .i32 40959] from rfl) (Reps.one (show Kd.M (Kd.int .i32) _ _ _ 40960 [.int .i32 40960] from rfl) (Reps.one (show Kd.M (Kd.int .i32) _ _ _ 42191 [.int .i32 42191] from rfl) (Reps.one (show Kd.M (Kd.int .i32) _ _ _ 44032 [.int .i32 44032] from rfl) (Reps.one (show Kd.M (Kd.int .i32) _ _ _ 55203 [.int .i32 55203] from rfl) (Reps.one (show Kd.M (Kd.int .i32) _ _ _ 55296 [.int .i32 55296] from rfl) (Reps.one (show Kd.M (Kd.int .i32) _ _ _ 57343 [.int .i32 57343] from rfl) (Reps.one (show Kd.M (Kd.int .i32) _ _ _ 63744 [.int .i32 63744] from rfl) (Reps.one (show Kd.M (Kd.int .i32) _ _ _ 64255 [.int .i32 64255] from rfl) (Reps.one (show Kd.M (Kd.int .i32) _ _ _ 65024 [.int .i32 65024] from rfl) (Reps.one (show Kd.M (Kd.int .i32) _ _ _ 65039 [.int .i32 65039] from rfl) (Reps.one (show Kd.M (Kd.int .i32) _ _ _ 65072 [.int .i32 65072] from rfl) (Reps.one (show Kd.M (Kd.int .i32) _ _ _ 65135 [.int .i32 65135] from rfl) (Reps.one (show Kd.M (Kd.int .i32) _ _ _ 65280 [.int .i32 65280] from rfl) (Reps.one (show Kd.M (Kd.int .i32) _ _ _ 65376 [.int .i32 65376] from rfl) (Reps.one (show Kd.M (Kd.int .i32) _ _ _ 65504 [.int .i32 65504] from rfl) (Reps.one (show Kd.M (Kd.int .i32) _ _ _ 65510 [.int .i32 65510] from rfl) (Reps.one (show Kd.M (Kd.int .i32) _ _ _ 127744 [.int .i32 127744] from rfl) (Reps.one (show Kd.M (Kd.int .i32) _ _ _ 128591 [.int .i32 128591] from rfl) (Reps.one (show Kd.M (Kd.int .i32) _ _ _ 129280 [.int .i32 129280] from rfl) (Reps.one (show Kd.M (Kd.int .i32) _ _ _ 129535 [.int .i32 129535] from rfl) (Reps.one (show Kd.M (Kd.int .i32) _ _ _ 131072 [.int .i32 131072] from rfl) (Reps.one (show Kd.M (Kd.int .i32) _ _ _ 262141 [.int .i32 262141] from rfl) (Reps.one (show Kd.M (Kd.int .i32) _ _ _ 1114111 [.int .i32 1114111] from rfl) (Reps.none _ _)))))))))))))))))))))))))))))))))))))))))); intro v514 w12 ho13 hb hg_ hnew_; clear hg_ hnew_; (first | rw [← Ny513.out] at ho13 | (simp only [Int.reduceToNat] at ho13; rw [← Ny513.out] at ho13)); have n0_ := Aside0.mk (Kd.R_lower ho13 (below_size (by repeat (first | (with_reducible first | exact HB.out | apply below_alloc | apply pw_below_drewN | apply below_drew1) | exact HB.out)))); have n1_ := Aside0.mk (below_step (by repeat (first | (with_reducible first | exact HB.out | apply below_alloc | apply pw_below_drewN | apply below_drew1) | exact HB.out)) hb); clear HB; have HO515 := n0_; have HB := n1_; clear n0_ n1_; clear hb ho13; obtain ⟨Ao14, co14, eo14⟩ := Kd.R_slice HO515.out; subst eo14; have p516 : 0 ≤ ((ji6) : Int) := of_decide_eq_true (by first | (with_reducible assumption) | assumption); have q516 : (ji6) < (y513.length : Int) := of_decide_eq_true (by first | (with_reducible assumption) | assumption); obtain ⟨ad516, e516, hx516_0⟩ := Kd.at_int (Kd.R_reads' HO515.out).2.2 (ji6) p516 q516; cases e516; replace p516 := eq_true p516; replace q516 := eq_true q516) | ((with_reducible refine gate_callee (f := 31) rfl ?_); refine goesL_ (some 30) rfl rfl Try.func31 (by kernel_rfl) rfl #[.int .i32 (wrap32 ((rd y513 (ji6)) + (wrap32 (Int.tmod a1 2))))] rfl (by (try simp only [List.map_toArray, List.map_cons, List.map_nil]); first | done | (simp only [hji6]; rfl) | rfl | (simp only [List.length_drop, List.length_take]; rfl)) ?_; (with_reducible refine (width_Of.calls (wrap32 ((rd y513 (ji6)) + (wrap32 (Int.tmod a1 2)))) t517 _ A9.out).mono ?_); rintro e w' ⟨rfl, ⟨nd, rfl⟩⟩; refine ⟨_, rfl, ?_⟩) | ((with_reducible refine gate_callee (f := 32) rfl ?_); refine goesL_ (some 32) rfl rfl Try.func32 (by kernel_rfl) rfl #[.int .i32 (wrap32 ((rd y513 (ji6)) + (wrap32 (Int.tmod a1 2))))] rfl (by (try simp only [List.map_toArray, List.map_cons, List.map_nil]); first | done | (simp only [hji6]; rfl) | rfl | (simp only [List.length_drop, List.length_take]; rfl)) ?_; (with_reducible refine (rotulusref1_Width.calls (wrap32 ((rd y513 (ji6)) + (wrap32 (Int.tmod a1 2)))) t518 _ A10.out).mono ?_); rintro e w15 ⟨rfl, hb⟩; refine ⟨_, rfl, ?_⟩; have n0_ := Aside0.mk (Kd.R_below (by (with_reducible repeat (first | apply Kd.R_alloc | apply Kd.R_drewN | apply Kd.R_drew)); exact HO515.out) hb); have n1_ := Aside0.mk (below_step (by repeat (first | (with_reducible first | exact HB.out | apply below_alloc | apply pw_below_drewN | apply below_drew1) | exact HB.out)) hb); clear HO515; clear HB; have HO515 := n0_; have HB := n1_; clear n0_ n1_; (try clear hb); (try clear hb2); (try clear hk); (try clear hi)))
      go_ret
      exact ⟨by first | rfl | (simp [errW_none, errW_some] <;> rfl) | (simp only [← hji6]; first | rfl | (simp [errW_none, errW_some] <;> rfl)) | (simp [*, errW_none, errW_some] <;> rfl), by repeat (first | (with_reducible first | exact HB.out | apply below_alloc | apply pw_below_drewN | apply below_drew1) | exact HB.out)⟩
  · replace c4 := Bool.eq_false_iff.mpr c4
    subst c4
    have H1 : (some false) = some r := by rw [if_neg (show ¬ (false = true) by decide)] at H; exact H
    clear H
    have H := H1
    clear H1
    obtain rfl := Option.some.inj H
    go_enter Try.func8, Try.ntmps8
    go_wp2_with (first | ((with_reducible refine gate_callee (f := 19) rfl ?_); refine goesL_ (some 8) rfl rfl Try.func19 (by kernel_rfl) rfl #[] rfl (by (try simp only [List.map_toArray, List.map_cons, List.map_nil]); first | done | rfl | (simp only [List.length_drop, List.length_take]; rfl)) ?_; (with_reducible refine (rotuluslaw1_begun.calls k  false _ A3.out).mono ?_); rintro e w16 ⟨rfl, hb⟩; refine ⟨_, rfl, ?_⟩; have n0_ := Aside0.mk (below_step (by repeat (first | (with_reducible first | exact HB.out | apply below_alloc | apply pw_below_drewN | apply below_drew1) | exact HB.out)) hb); clear HB; have HB := n0_; clear n0_; (try clear hb); (try clear hb2); (try clear hk); (try clear hi)))
    go_ret
    exact ⟨by first | rfl | (simp [errW_none, errW_some] <;> rfl) | (simp [*, errW_none, errW_some] <;> rfl), by repeat (first | (with_reducible first | exact HB.out | apply below_alloc | apply pw_below_drewN | apply below_drew1) | exact HB.out)⟩

/-- THE ONE PURE STATEMENT of rotuluslaw1_WidthEdges: yours. -/
def rotuluslaw1_WidthEdges.Pure : Prop := ∀ (a0 : Int) (a1 : Int), (Lit.int .i64 a0).wf = true → (Lit.int .i64 a1).wf = true → ∃ k, rotuluslaw1_WidthEdges.f k a0 a1 = some true
theorem rotuluslaw1_WidthEdges.walk (P : rotuluslaw1_WidthEdges.Pure) (a0 : Int) (a1 : Int) (w : World) (w0 : (Lit.int .i64 a0).wf = true) (w1 : (Lit.int .i64 a1).wf = true) :
    Calls Try.prog 8 #[.int .i64 a0, .int .i64 a1] w fun e w' => e = .returned (.bool true) ∧ Below w.heap.size w w' := by
  obtain ⟨k, h⟩ := P a0 a1 w0 w1
  refine (rotuluslaw1_WidthEdges.calls k a0 a1 true w h).mono ?_
  rintro e w' ⟨rfl, hd⟩
  exact ⟨rfl, hd⟩

end Go.Proofs.Ytohafoihegjlnaa.P
