-- written by a print that this session turned (wip/tools/turnprint.py)
import Derived.Test.YtohafoihegjlnaaPx0
import Derived.Test.YtohafoihegjlnaaPx15
import Derived.Test.YtohafoihegjlnaaPx23
import Derived.Test.YtohafoihegjlnaaPx38
namespace Go.Proofs.Ytohafoihegjlnaa.P
open Go.RowKit Go.Proofs.YtohafoihegjlnaaW.PrintWords Go.Proofs.YtohafoihegjlnaaW.PrintLast Go.Proofs.YtohafoihegjlnaaW.PrintMore
attribute [local go_sem] max2_int min2_int max_two min_two max_three min_three max_four min_four   -- for this text's walks alone
set_option linter.unusedVariables false
set_option linter.unusedSimpArgs false

/-! ### rotuluslaw1_CellOwn: function 9 -/
def rotuluslaw1_CellOwn.l0 : Nat → List (S49) → List (S49) → List (S49) → Int → Int → Option (Bool)
  | 0, _, _, _, _, _ => none
  | k + 1, x0, x4, x5, x21, x22 => if x22 < x21 then (if 0 ≤ x22 then (if x22 < (x5.length : Int) then (rotuluslaw1_CellOwn.l0 k x0 x4 (x5.set (x22 : Int).toNat (⟨(rd_T49 x5 x22).f0, (rd_T49 x5 x22).f1, 99⟩ : S49)) x21 (wrap64 (x22 + 1))) else (none)) else (none)) else ((rotulusref1_EqCells.f k x0 x4).bind fun t536 => (if t536 = true then (some (decide ((x5.length : Int) ≤ (x0.length : Int)))) else (some false)))
def rotuluslaw1_CellOwn.f (k : Nat) (l0 : List (S49)) : Option (Bool) := (rotuluslaw1_begun.f k).bind fun t521 => (if t521 = true then (if 0 ≤ (mn (l0.length : Int) 20) then (if (mn (l0.length : Int) 20) ≤ (l0.length : Int) then ((some (l0.take ((mn (l0.length : Int) 20) : Int).toNat : List (S49))).bind fun y522 => (if ([] : List (S49)).length + y522.length < 5864062014805 then ((some (([] : List (S49)) ++ y522 : List (S49))).bind fun y526 => (if ([] : List (S49)).length + y526.length < 5864062014805 then ((cell_Trim.f k y526).bind fun t532 => (rotuluslaw1_CellOwn.l0 k y526 (([] : List (S49)) ++ y526) t532 (t532.length : Int) 0)) else (none))) else (none))) else (none)) else (none)) else (some false))
theorem rotuluslaw1_CellOwn.mono_l : ∀ k, (∀ y0 y1 y2 y3 y4, LeO (rotuluslaw1_CellOwn.l0 k y0 y1 y2 y3 y4) (rotuluslaw1_CellOwn.l0 (k + 1) y0 y1 y2 y3 y4))
  | 0 => fun _ _ _ _ _ r h => by simp [rotuluslaw1_CellOwn.l0] at h
  | k + 1 => by
    have ih0 := rotuluslaw1_CellOwn.mono_l k
    · intro y0 y1 y2 y3 y4
      unfold rotuluslaw1_CellOwn.l0
      repeat' first
      | (with_reducible exact ih0 _ _ _ _ _)
      | (with_reducible exact cell_Trim.mono _ _)
      | (with_reducible exact rotuluslaw1_begun.mono _)
      | (with_reducible exact rotulusref1_EqCells.mono _ _ _)
      | (with_reducible exact LeO.refl _)
      | (with_reducible exact LeO.none _)
      | (with_reducible refine LeO.ite ?_ ?_)
      | (with_reducible refine LeO.bind ?_ (fun _ => ?_))
      | exact ih0 _ _ _ _ _
      | exact cell_Trim.mono _ _
      | exact rotuluslaw1_begun.mono _
      | exact rotulusref1_EqCells.mono _ _ _
      | exact LeO.none _
      | refine LeO.ite ?_ ?_
      | refine LeO.bind ?_ (fun _ => ?_)
theorem rotuluslaw1_CellOwn.mono : ∀ a0 k, LeO (rotuluslaw1_CellOwn.f k a0) (rotuluslaw1_CellOwn.f (k + 1) a0) := by
  intro a0 k
  have ih0 := rotuluslaw1_CellOwn.mono_l k
  unfold rotuluslaw1_CellOwn.f
  repeat' first
      | (with_reducible exact ih0 _ _ _ _ _)
      | (with_reducible exact cell_Trim.mono _ _)
      | (with_reducible exact rotuluslaw1_begun.mono _)
      | (with_reducible exact rotulusref1_EqCells.mono _ _ _)
      | (with_reducible exact LeO.refl _)
      | (with_reducible exact LeO.none _)
      | (with_reducible refine LeO.ite ?_ ?_)
      | (with_reducible refine LeO.bind ?_ (fun _ => ?_))
      | exact ih0 _ _ _ _ _
      | exact cell_Trim.mono _ _
      | exact rotuluslaw1_begun.mono _
      | exact rotulusref1_EqCells.mono _ _ _
      | exact LeO.none _
      | refine LeO.ite ?_ ?_
      | refine LeO.bind ?_ (fun _ => ?_)
set_option maxHeartbeats 8000000 in
set_option maxRecDepth 100000 in
theorem rotuluslaw1_CellOwn.calls (k : Nat) (A0 : Option Addr) (c0 : Nat) (l0 : List (S49)) (r : Bool) (w : World) (hr0 : Kd.C k49 w A0 l0.length l0) (hc0 : l0.length ≤ c0) (h : rotuluslaw1_CellOwn.f k l0 = some r) :
    Calls Try.prog 9 #[.slice A0 l0.length c0] w fun e w' => e = .returned (.bool r) ∧ Below w.heap.size w w' := by
  have HR0 := Aside0.mk hr0
  have HC0 := Aside0.mk hc0
  clear hr0 hc0
  have HB := Aside0.mk (Below.refl w.heap.size w)
  have H : ((rotuluslaw1_begun.f k).bind fun t521 => (if t521 = true then (if 0 ≤ (mn (l0.length : Int) 20) then (if (mn (l0.length : Int) 20) ≤ (l0.length : Int) then ((some (l0.take ((mn (l0.length : Int) 20) : Int).toNat : List (S49))).bind fun y522 => (if ([] : List (S49)).length + y522.length < 5864062014805 then ((some (([] : List (S49)) ++ y522 : List (S49))).bind fun y526 => (if ([] : List (S49)).length + y526.length < 5864062014805 then ((cell_Trim.f k y526).bind fun t532 => (rotuluslaw1_CellOwn.l0 k y526 (([] : List (S49)) ++ y526) t532 (t532.length : Int) 0)) else (none))) else (none))) else (none)) else (none)) else (some false))) = some r := h
  clear h
  replace H := Option.bind_eq_some_iff.mp H
  obtain ⟨t521, A20, H⟩ := H
  replace H : (if t521 = true then (if 0 ≤ (mn (l0.length : Int) 20) then (if (mn (l0.length : Int) 20) ≤ (l0.length : Int) then ((some (l0.take ((mn (l0.length : Int) 20) : Int).toNat : List (S49))).bind fun y522 => (if ([] : List (S49)).length + y522.length < 5864062014805 then ((some (([] : List (S49)) ++ y522 : List (S49))).bind fun y526 => (if ([] : List (S49)).length + y526.length < 5864062014805 then ((cell_Trim.f k y526).bind fun t532 => (rotuluslaw1_CellOwn.l0 k y526 (([] : List (S49)) ++ y526) t532 (t532.length : Int) 0)) else (none))) else (none))) else (none)) else (none)) else (some false)) = some r := H
  have A2 := Aside0.mk A20
  clear A20
  by_cases c3 : t521 = true
  · subst c3
    have H1 : (if 0 ≤ (mn (l0.length : Int) 20) then (if (mn (l0.length : Int) 20) ≤ (l0.length : Int) then ((some (l0.take ((mn (l0.length : Int) 20) : Int).toNat : List (S49))).bind fun y522 => (if ([] : List (S49)).length + y522.length < 5864062014805 then ((some (([] : List (S49)) ++ y522 : List (S49))).bind fun y526 => (if ([] : List (S49)).length + y526.length < 5864062014805 then ((cell_Trim.f k y526).bind fun t532 => (rotuluslaw1_CellOwn.l0 k y526 (([] : List (S49)) ++ y526) t532 (t532.length : Int) 0)) else (none))) else (none))) else (none)) else (none)) = some r := by rw [if_pos rfl] at H; exact H
    clear H
    have H := H1
    clear H1
    obtain ⟨ji4, hji4⟩ : ∃ j_ : Int, (mn (l0.length : Int) 20) = j_ := ⟨_, rfl⟩
    replace H : (if 0 ≤ (ji4) then (if (ji4) ≤ (l0.length : Int) then ((some (l0.take ((ji4) : Int).toNat : List (S49))).bind fun y522 => (if ([] : List (S49)).length + y522.length < 5864062014805 then ((some (([] : List (S49)) ++ y522 : List (S49))).bind fun y526 => (if ([] : List (S49)).length + y526.length < 5864062014805 then ((cell_Trim.f k y526).bind fun t532 => (rotuluslaw1_CellOwn.l0 k y526 (([] : List (S49)) ++ y526) t532 (t532.length : Int) 0)) else (none))) else (none))) else (none)) else (none)) = some r := by first | (rw [hji4] at H; exact H) | (simp only [hji4] at H ⊢; exact H)
    (try rw [hji4] at A2)
    (try (have hji4h : ji4 ≤ 20 := by (rw [← hji4]; unfold mn; (repeat' split) <;> omega)))
    (try (have hji4g : ji4 ≤ 64 := by omega))
    (try (have hji4l : 0 ≤ ji4 := by (rw [← hji4]; unfold mn; (repeat' split) <;> omega)))
    (try (have hji4m : 0 ≤ ji4 := by omega))
    have hji4_ : (if 20 < (l0.length : Int) then 20 else (l0.length : Int)) = ji4 := hji4
    have c5 : 0 ≤ (ji4) := Decidable.byContradiction fun hc_ => absurd ((if_neg hc_).symm.trans H) (by simp)
    rw [if_pos c5] at H
    have c5b0 := eq_true c5
    have c5b1 : decide (0 ≤ (ji4)) = true := decide_eq_true c5
    clear c5
    have c6 : (ji4) ≤ (l0.length : Int) := Decidable.byContradiction fun hc_ => absurd ((if_neg hc_).symm.trans H) (by simp)
    rw [if_pos c6] at H
    have c6b0 := eq_true c6
    have c6b1 : decide ((ji4) ≤ (l0.length : Int)) = true := decide_eq_true c6
    clear c6
    obtain ⟨y522, hy522⟩ : ∃ y_ : List (S49), y_ = (l0.take ((ji4) : Int).toNat) := ⟨_, rfl⟩
    replace H : (if ([] : List (S49)).length + y522.length < 5864062014805 then ((some (([] : List (S49)) ++ y522 : List (S49))).bind fun y526 => (if ([] : List (S49)).length + y526.length < 5864062014805 then ((cell_Trim.f k y526).bind fun t532 => (rotuluslaw1_CellOwn.l0 k y526 (([] : List (S49)) ++ y526) t532 (t532.length : Int) 0)) else (none))) else (none)) = some r := by first | (rw [hy522]; with_reducible exact H) | (have H2_ := (Option.bind_some _ _).symm.trans H; rw [hy522]; with_reducible exact H2_) | (have H2_ := (Option.bind_some _ _).symm.trans H; with_reducible exact H2_) | with_reducible exact H | (rw [hy522]; exact H) | exact H
    have Ny522 := Aside0.mk hy522
    clear hy522
    have c7 : ([] : List (S49)).length + y522.length < 5864062014805 := Decidable.byContradiction fun hc_ => absurd ((if_neg hc_).symm.trans H) (by simp)
    rw [if_pos c7] at H
    have LMc7 := Aside0.mk c7
    clear c7
    obtain ⟨y526, hy526⟩ : ∃ y_ : List (S49), y_ = (([] : List (S49)) ++ y522) := ⟨_, rfl⟩
    replace H : (if ([] : List (S49)).length + y526.length < 5864062014805 then ((cell_Trim.f k y526).bind fun t532 => (rotuluslaw1_CellOwn.l0 k y526 (([] : List (S49)) ++ y526) t532 (t532.length : Int) 0)) else (none)) = some r := by first | (rw [hy526]; with_reducible exact H) | (have H2_ := (Option.bind_some _ _).symm.trans H; rw [hy526]; with_reducible exact H2_) | (have H2_ := (Option.bind_some _ _).symm.trans H; with_reducible exact H2_) | with_reducible exact H | (rw [hy526]; exact H) | exact H
    have Ny526 := Aside0.mk hy526
    clear hy526
    have c8 : ([] : List (S49)).length + y526.length < 5864062014805 := Decidable.byContradiction fun hc_ => absurd ((if_neg hc_).symm.trans H) (by simp)
    rw [if_pos c8] at H
    have LMc8 := Aside0.mk c8
    clear c8
    obtain ⟨y529, hy529⟩ : ∃ y_ : List (S49), y_ = (([] : List (S49)) ++ y526) := ⟨_, rfl⟩
    replace H : ((cell_Trim.f k y526).bind fun t532 => (rotuluslaw1_CellOwn.l0 k y526 y529 t532 (t532.length : Int) 0)) = some r := by first | (rw [hy529]; with_reducible exact H) | (have H2_ := (Option.bind_some _ _).symm.trans H; rw [hy529]; with_reducible exact H2_) | (have H2_ := (Option.bind_some _ _).symm.trans H; with_reducible exact H2_) | with_reducible exact H | (rw [hy529]; exact H) | exact H
    have Ny529 := Aside0.mk hy529
    clear hy529
    replace H := Option.bind_eq_some_iff.mp H
    obtain ⟨t532, A90, H⟩ := H
    replace H : (rotuluslaw1_CellOwn.l0 k y526 y529 t532 (t532.length : Int) 0) = some r := H
    have A9 := Aside0.mk A90
    clear A90
    have H' := Aside0.mk H
    clear H
    go_enter Try.func9, Try.ntmps9
    go_wp2_with (first | ((with_reducible refine gate_callee (f := 19) rfl ?_); refine goesL_ (some 7) rfl rfl Try.func19 (by kernel_rfl) rfl #[] rfl (by (try simp only [List.map_toArray, List.map_cons, List.map_nil]); first | done | rfl | (simp only [List.length_drop, List.length_take]; rfl)) ?_; (with_reducible refine (rotuluslaw1_begun.calls k  true _ A2.out).mono ?_); rintro e w10 ⟨rfl, hb⟩; refine ⟨_, rfl, ?_⟩; have n0_ := Aside0.mk (below_step (by repeat (first | (with_reducible first | exact HB.out | apply below_alloc | apply pw_below_drewN | apply below_drew1) | exact HB.out)) hb); clear HB; have HB := n0_; clear n0_; (try clear hb); (try clear hb2); (try clear hk); (try clear hi); have q11 : ((ji4) : Int) ≤ ((l0.length : Int) : Int) := of_decide_eq_true (by first | (with_reducible assumption) | assumption); obtain ⟨i011, hi011, _, hsz11, _⟩ := info_parts info49; have hroom11 : l0.length ≤ c0 := HC0.out; have hC11 : Kd.C k49 _ A0 l0.length l0 := HR0.out; have hcut11 := cut_to (P := Try.prog) 46 49 .i64 Try.underlying46 hi011 A0 l0.length c0 (ji4) (of_decide_eq_true (by first | (with_reducible assumption) | assumption)) q11 hroom11; have hr11 := Kd.C_take (m := ((ji4) : Int).toNat) hC11 (by omega); have hy11 : y522.length = ((ji4) : Int).toNat := (by rw [Ny522.out, List.length_take]; omega); rw [← Ny522.out] at hr11; rw [← hy11] at hcut11; have HR525 := Aside0.mk hr11; have HC525 := Aside0.mk (show y522.length ≤ c0 from by omega); clear hr11 hC11 hroom11 hi011 hsz11; have KY11 := Aside0.mk hy11; clear hy11; replace q11 := eq_true q11) | ((with_reducible refine gate_builtin (b := .append) (xs := #[.const (.slice none 0 0), .tmp 14]) rfl ?_); (try (refine gate_guard (by rfl) ?_; dsimp only)); at_builtin; refine Kd.R_append_rows k49 (w0 := w) w.heap.size rfl (.const (.slice none 0 0)) (.tmp 14) 46 49 (.agg #[(.int .i32 0), (.int .i64 0), (.int .i64 0)]) 24 rfl Try.underlying46 info49 rfl (by decide) (by omega) (.slice none 0 0) ([] : List (S49)) y522 _ _ _ (fun _ => True) (fun _ => False) rfl rfl ?aO ?aR (fun _ _ h => h) (fun _ h => h.elim) ?aF ?aB ?aS ?aL ?_; (case aR => repeat (first | exact (Kd.C_below HR525.out HB.out) | (with_reducible refine Kd.C_alloc ?_ _) | (with_reducible refine Kd.C_drewN ?_ _) | (with_reducible refine Kd.C_drew ?_) | exact Kd.C_drewN (Kd.C_below HR525.out HB.out) _ | exact Kd.C_drew (Kd.C_below HR525.out HB.out) | exact Kd.C_alloc (Kd.C_below HR525.out HB.out) _)); (case aB => exact (by repeat (first | (with_reducible first | exact HB.out | apply below_alloc | apply pw_below_drewN | apply below_drew1) | exact HB.out))); (case aF => exact (fun _ _ => trivial)); (case aO => exact ((Kd.R_nil _ _ _ _ (fun _ => True)))); (case aS => exact (below_size (by repeat (first | (with_reducible first | exact HB.out | apply below_alloc | apply pw_below_drewN | apply below_drew1) | exact HB.out)))); (case aL => have := LMc7.out; omega); intro v527 w12 ho hb hg hat; rw [← Ny526.out] at ho; have n0_ := Aside0.mk (hb); have n1_ := Aside0.mk (ho); clear HB; have HB := n0_; have HO528 := n1_; clear n0_ n1_; clear ho hb hg hat; obtain ⟨Ao14, co14, eo14⟩ := Kd.R_slice HO528.out; subst eo14) | ((with_reducible refine gate_builtin (b := .append) (xs := #[.const (.slice none 0 0), .tmp 16]) rfl ?_); (try (refine gate_guard (by rfl) ?_; dsimp only)); at_builtin; refine Kd.R_append_rows k49 (w0 := w) w.heap.size rfl (.const (.slice none 0 0)) (.tmp 16) 46 49 (.agg #[(.int .i32 0), (.int .i64 0), (.int .i64 0)]) 24 rfl Try.underlying46 info49 rfl (by decide) (by omega) (.slice none 0 0) ([] : List (S49)) y526 _ _ _ (fun k_ => some k_ ≠ (.slice Ao14 y526.length co14 : Value).ownBlock) (fun _ => False) rfl rfl ?aO ?aR (fun _ _ h => h) (fun _ h => h.elim) ?aF ?aB ?aS ?aL ?_; (case aR => repeat (first | exact (Kd.R_reads' HO528.out).2.2 | (with_reducible refine Kd.C_alloc ?_ _) | (with_reducible refine Kd.C_drewN ?_ _) | (with_reducible refine Kd.C_drew ?_) | exact Kd.C_drewN (Kd.R_reads' HO528.out).2.2 _ | exact Kd.C_drew (Kd.R_reads' HO528.out).2.2 | exact Kd.C_alloc (Kd.R_reads' HO528.out).2.2 _)); (case aB => exact (by repeat (first | (with_reducible first | exact HB.out | apply below_alloc | apply pw_below_drewN | apply below_drew1) | exact HB.out))); (case aF => exact (fun k_ hk => Kd.fresh' (Kd.R_lt (by (with_reducible repeat (first | apply Kd.R_alloc | apply Kd.R_drewN | apply Kd.R_drew)); exact HO528.out)) k_ hk)); (case aO => exact ((Kd.R_nil _ _ _ _ (fun k_ => some k_ ≠ (.slice Ao14 y526.length co14 : Value).ownBlock)))); (case aS => exact (below_size (by repeat (first | (with_reducible first | exact HB.out | apply below_alloc | apply pw_below_drewN | apply below_drew1) | exact HB.out)))); (case aL => have := LMc8.out; omega); intro v530 w13 ho hb hg hat; rw [← Ny529.out] at ho; have n0_ := Aside0.mk (Kd.R_after (Kd.R_apart_nil (by (with_reducible repeat (first | apply Kd.R_alloc | apply Kd.R_drewN | apply Kd.R_drew)); exact HO528.out)) hg hat); have n1_ := Aside0.mk (hb); have n2_ := Aside0.mk (ho); clear HO528; clear HB; have HO528 := n0_; have HB := n1_; have HO531 := n2_; clear n0_ n1_ n2_; clear ho hb hg hat) | ((with_reducible refine gate_callee (f := 33) rfl ?_); refine goesL_ (some 19) rfl rfl Try.func33 (by kernel_rfl) rfl #[.slice Ao14 y526.length co14] rfl (by (try simp only [List.map_toArray, List.map_cons, List.map_nil]); first | done | rfl | (simp only [List.length_drop, List.length_take]; rfl)) ?_; (with_reducible refine (cell_Trim.calls k _ _ y526 t532 _ ?side1 ?side2 A9.out).mono ?_); (case side1 => repeat (first | exact (Kd.R_reads' HO528.out).2.2 | (with_reducible refine Kd.C_alloc ?_ _) | (with_reducible refine Kd.C_drewN ?_ _) | (with_reducible refine Kd.C_drew ?_) | exact Kd.C_drewN (Kd.R_reads' HO528.out).2.2 _ | exact Kd.C_drew (Kd.R_reads' HO528.out).2.2 | exact Kd.C_alloc (Kd.R_reads' HO528.out).2.2 _)); (case side2 => exact (Kd.R_reads' HO528.out).2.1); rintro e w15 ⟨v533, rfl, ho0, hb⟩; refine ⟨_, rfl, ?_⟩; have n0_ := Aside0.mk (Kd.R_elder' (by (with_reducible repeat (first | apply Kd.R_alloc | apply Kd.R_drewN | apply Kd.R_drew)); exact HO528.out) (Kd.R_base ho0) hb); have n1_ := Aside0.mk (Kd.R_elder' (by (with_reducible repeat (first | apply Kd.R_alloc | apply Kd.R_drewN | apply Kd.R_drew)); exact HO531.out) (Kd.R_base ho0) hb); have n2_ := Aside0.mk (Kd.R_lower (Kd.R_new' (Kd.R_new' ho0 (Kd.R_lt (by (with_reducible repeat (first | apply Kd.R_alloc | apply Kd.R_drewN | apply Kd.R_drew)); exact HO528.out))) (Kd.R_lt (by (with_reducible repeat (first | apply Kd.R_alloc | apply Kd.R_drewN | apply Kd.R_drew)); exact HO531.out))) (below_size (by repeat (first | (with_reducible first | exact HB.out | apply below_alloc | apply pw_below_drewN | apply below_drew1) | exact HB.out)))); have n3_ := Aside0.mk (below_step (by repeat (first | (with_reducible first | exact HB.out | apply below_alloc | apply pw_below_drewN | apply below_drew1) | exact HB.out)) hb); clear HO528; clear HO531; clear HB; have HO528 := n0_; have HO531 := n1_; have HO534 := n2_; have HB := n3_; clear n0_ n1_ n2_ n3_; (try clear hb); (try clear hb2); (try clear hk); (try clear hi); (try clear ho0); obtain ⟨Ao16, co16, eo16⟩ := Kd.R_slice HO534.out; subst eo16))
    go_loopg [22] k (fun kq v22 w' => ∃ (x5_1 : List (S49)) (x22_1 : Int), v22 = .int .i64 x22_1 ∧ Aside0 (rotuluslaw1_CellOwn.l0 kq y526 y529 x5_1 (t532.length : Int) x22_1 = some r) ∧ Aside0 (kq ≤ k) ∧ Aside0 (Kd.R k49 49 w' w.heap.size (fun k_ => some k_ ≠ (v530 : Value).ownBlock ∧ some k_ ≠ ((.slice Ao16 t532.length co16) : Value).ownBlock) (.slice Ao14 y526.length co14) y526) ∧ Aside0 (Kd.R k49 49 w' w.heap.size (fun k_ => some k_ ≠ ((.slice Ao14 y526.length co14) : Value).ownBlock ∧ some k_ ≠ ((.slice Ao16 t532.length co16) : Value).ownBlock) v530 y529) ∧ Aside0 (Kd.R k49 49 w' w.heap.size (fun k_ => some k_ ≠ ((.slice Ao14 y526.length co14) : Value).ownBlock ∧ some k_ ≠ (v530 : Value).ownBlock) (.slice Ao16 t532.length co16) x5_1) ∧ Aside0 (Below w.heap.size w w'))
    case atStart => exact ⟨(t532), (0), (by first | rfl | (simp; done) | (simp [*]; done)), H', ⟨Nat.le_refl _⟩, ⟨by (with_reducible repeat (first | apply Kd.R_alloc | apply Kd.R_drewN | apply Kd.R_drew)); exact Kd.R_mono HO528.out (fun _ hk => ⟨hk.1.2, hk.2⟩)⟩, ⟨by (with_reducible repeat (first | apply Kd.R_alloc | apply Kd.R_drewN | apply Kd.R_drew)); exact HO531.out⟩, ⟨by (with_reducible repeat (first | apply Kd.R_alloc | apply Kd.R_drewN | apply Kd.R_drew)); exact Kd.R_mono HO534.out (fun _ hk => ⟨hk.1.2, hk.2⟩)⟩, ⟨by repeat (first | (with_reducible first | exact HB.out | apply below_alloc | apply pw_below_drewN | apply below_drew1) | exact HB.out)⟩⟩
    case round =>
      clear H'
      try clear c1
      try clear q1
      try clear p2
      try clear c3
      try clear c5
      try clear c5b0
      try clear c5b1
      try clear c6
      try clear c6b0
      try clear c6b1
      try clear c7
      try clear c8
      try clear c9
      try clear q11
      try clear q11
      obtain ⟨x5_1, x22_1, rfl, HA, HK1, HO_0, HO_4, HO_5, HB⟩ := hrel
      have hl5_1 := (Kd.R_reads' HO_5.out).1
      rw [hl5_1] at HO_5
      (try simp only [hl5_1])
      (try simp only [hl5_1] at HO_0)
      (try simp only [hl5_1] at HO_4)
      cases gk with
      | zero => exact absurd HA.out (by simp [rotuluslaw1_CellOwn.l0])
      | succ k1 =>
        have H := HA.out
        clear HA
        simp only [rotuluslaw1_CellOwn.l0] at H
        by_cases c17 : x22_1 < (t532.length : Int)
        · rw [if_pos c17] at H
          have c17b0 : decide (x22_1 < (t532.length : Int)) = true := decide_eq_true c17
          clear c17
          have c18 : 0 ≤ x22_1 := Decidable.byContradiction fun hc_ => absurd ((if_neg hc_).symm.trans H) (by simp)
          rw [if_pos c18] at H
          have c18b0 : decide (0 ≤ x22_1) = true := decide_eq_true c18
          clear c18
          have c19 : x22_1 < (x5_1.length : Int) := Decidable.byContradiction fun hc_ => absurd ((if_neg hc_).symm.trans H) (by simp)
          rw [if_pos c19] at H
          have c19b0 : decide (x22_1 < (x5_1.length : Int)) = true := decide_eq_true c19
          clear c19
          obtain ⟨y535, hy535⟩ : ∃ y_ : List (S49), y_ = (x5_1.set (x22_1 : Int).toNat (⟨(rd_T49 x5_1 x22_1).f0, (rd_T49 x5_1 x22_1).f1, 99⟩ : S49)) := ⟨_, rfl⟩
          replace H : (rotuluslaw1_CellOwn.l0 k1 y526 y529 y535 (t532.length : Int) (wrap64 (x22_1 + 1))) = some r := by first | (rw [hy535]; with_reducible exact H) | (have H2_ := (Option.bind_some _ _).symm.trans H; rw [hy535]; with_reducible exact H2_) | (have H2_ := (Option.bind_some _ _).symm.trans H; with_reducible exact H2_) | with_reducible exact H | (rw [hy535]; exact H) | exact H
          have Ny535 := Aside0.mk hy535
          clear hy535
          have H' := Aside0.mk H
          clear H
          have p20 : 0 ≤ (x22_1 : Int) := of_decide_eq_true (by first | (with_reducible assumption) | assumption)
          have q20 : (x22_1 : Int) < ((x5_1.length : Int) : Int) := of_decide_eq_true (by first | (with_reducible assumption) | assumption)
          obtain ⟨go20, co20, eo20, gb20, gl20, cl20, HG20⟩ := Kd.R_form HO_5.out (by omega)
          (first | cases eo20 | (injection eo20 with ea_ en_ ec_; (first | subst ea_ | (injection ea_ with ea_; subst ea_)); subst ec_; clear en_))
          have GB20 := Aside0.mk gb20
          have GG20 := Aside0.mk HG20
          clear gb20 gl20 HG20
          obtain ⟨ce20, hcl20, hM20, hcc20, hfr20⟩ := Kd.R_elem HO_5.out z49 (x22_1 : Int) p20 q20
          obtain rfl := k49_openM hM20
          have hx20_0 : wr.cell? ⟨go20, (x22_1 : Int).toNat * 3, none⟩ = some (.int .i32 ((rd_T49 x5_1 x22_1).f0)) := hcc20 0 _ rfl
          have hx20_1 : wr.cell? ⟨go20, (x22_1 : Int).toNat * 3 + 1, none⟩ = some (.int .i64 ((rd_T49 x5_1 x22_1).f1)) := hcc20 1 _ rfl
          have hx20_2 : wr.cell? ⟨go20, (x22_1 : Int).toNat * 3 + 2, none⟩ = some (.int .i64 ((rd_T49 x5_1 x22_1).f2)) := hcc20 2 _ rfl
          have hf20_0 : wr.frozen? ⟨go20, (x22_1 : Int).toNat * 3, none⟩ = false := hfr20 0
          have hf20_1 : wr.frozen? ⟨go20, (x22_1 : Int).toNat * 3 + 1, none⟩ = false := hfr20 1
          have hf20_2 : wr.frozen? ⟨go20, (x22_1 : Int).toNat * 3 + 2, none⟩ = false := hfr20 2
          clear hcl20 hcc20 hfr20 hM20
          replace p20 := eq_true p20
          replace q20 := eq_true q20
          have HX21 := Aside0.mk (show Kd.R k49 49 wr w.heap.size (fun k_ => some k_ ≠ (.slice Ao14 y526.length co14 : Value).ownBlock ∧ some k_ ≠ (v530 : Value).ownBlock) (.slice (some ⟨go20, 0, none⟩) x5_1.length co16) x5_1 from (by (with_reducible repeat (first | apply Kd.R_alloc | apply Kd.R_drewN | apply Kd.R_drew)); exact HO_5.out))
          obtain ⟨ce21, hcl21, hM21, hcc21, hfr21⟩ := Kd.R_elem HX21.out z49 (x22_1 : Int) (of_decide_eq_true (by first | (with_reducible assumption) | assumption)) (by have h_ : (x22_1 : Int) < ((x5_1.length : Int) : Int) := of_decide_eq_true (by first | (with_reducible assumption) | assumption); first | exact h_ | (have e_ := (Kd.R_reads' HO_5.out).1; omega) | simpa using h_)
          obtain rfl := k49_openM hM21
          have HP21 := Kd.R_seg HX21.out (x22_1 : Int) (of_decide_eq_true (by first | (with_reducible assumption) | assumption)) (by have h_ : (x22_1 : Int) < ((x5_1.length : Int) : Int) := of_decide_eq_true (by first | (with_reducible assumption) | assumption); first | exact h_ | (have e_ := (Kd.R_reads' HO_5.out).1; omega) | simpa using h_) (seg := [.int .i64 99]) (j := 2) hcl21 hcc21 (show 3 ≤ 3 from by decide) (x' := (⟨(rd_T49 x5_1 x22_1).f0, (rd_T49 x5_1 x22_1).f1, 99⟩ : S49)) (k49_mkM _ _ _ (⟨(rd_T49 x5_1 x22_1).f0, (rd_T49 x5_1 x22_1).f1, 99⟩ : S49) ) (fun _ hk => hk)
          have hx21_2 := hcc21 2 _ rfl
          (try simp only [show (k49).sz = 3 from rfl, Nat.mul_one, Nat.add_zero] at hx21_2)
          have hf21_2 := hfr21 2
          (try simp only [show (k49).sz = 3 from rfl, Nat.mul_one, Nat.add_zero] at hf21_2)
          clear hcl21 hcc21 hfr21 hM21
          go_wp2_with (first | ((with_reducible refine gate_store (t := 3) (p := 28) rfl ?_); refine store_event (t := 3) (p := 28) (v := ?vo_w22) (w1 := (wr.setCell ⟨go20, (x22_1 : Int).toNat * 3 + 2, none⟩ (.int .i64 99))) ?hg ?ho ?hn ?hr ?_; (case ho => rfl); (case hg => rfl); (case hn => rfl); (case hr => first | (go_simp; done) | (go_simp; rfl)); intro w22 hw; have hg : wr.grownBy w22 (some go20) := (by rw [hw]; exact HP21.2); have hp_ : Kd.R k49 49 w22 w.heap.size (fun k_ => some k_ ≠ (.slice Ao14 y526.length co14 : Value).ownBlock ∧ some k_ ≠ (v530 : Value).ownBlock) (.slice (some ⟨go20, 0, none⟩) x5_1.length co16) y535 := (by rw [hw, Ny535.out]; exact HP21.1); clear HP21; have n0_ := Aside0.mk (Kd.R_after (v := (.slice (some ⟨go20, 0, none⟩) x5_1.length co16)) (v1 := (.slice (some ⟨go20, 0, none⟩) x5_1.length co16)) (ok := (fun k_ => some k_ ≠ (v530 : Value).ownBlock)) (by (with_reducible repeat (first | apply Kd.R_alloc | apply Kd.R_drewN | apply Kd.R_drew)); exact HO_0.out) hg (.inl rfl)); have n1_ := Aside0.mk (Kd.R_after (v := (.slice (some ⟨go20, 0, none⟩) x5_1.length co16)) (v1 := (.slice (some ⟨go20, 0, none⟩) x5_1.length co16)) (ok := (fun k_ => some k_ ≠ (.slice Ao14 y526.length co14 : Value).ownBlock)) (by (with_reducible repeat (first | apply Kd.R_alloc | apply Kd.R_drewN | apply Kd.R_drew)); exact HO_4.out) hg (.inl rfl)); have n2_ := Aside0.mk (hp_); have n3_ := Aside0.mk ((by rw [hw]; exact below_set (HB.out) GB20.out : Below w.heap.size w w22)); clear HO_0; clear HO_4; clear HO_5; clear HB; have HO_0 := n0_; have HO_4 := n1_; have HO_5 := n2_; have HB := n3_; clear n0_ n1_ n2_ n3_; clear hg hw hp_))
          (try simp only [← hl5_1])
          go_roundg k1
          case measure => have := HK1.out; omega
          case rel => exact ⟨(y535), (wrap64 (x22_1 + 1)), (by first | rfl | (simp; done) | (simp [*]; done)), H', ⟨by have := HK1.out; omega⟩, ⟨by (try simp only [hl5_1]); (with_reducible repeat (first | apply Kd.R_alloc | apply Kd.R_drewN | apply Kd.R_drew)); exact HO_0.out⟩, ⟨by (try simp only [hl5_1]); (with_reducible repeat (first | apply Kd.R_alloc | apply Kd.R_drewN | apply Kd.R_drew)); exact HO_4.out⟩, ⟨by (try simp only [hl5_1]); (with_reducible repeat (first | apply Kd.R_alloc | apply Kd.R_drewN | apply Kd.R_drew)); exact HO_5.out⟩, ⟨by repeat (first | (with_reducible first | exact HB.out | apply below_alloc | apply pw_below_drewN | apply below_drew1) | exact HB.out)⟩⟩
        · rw [if_neg c17] at H
          have c17b0 : decide (x22_1 < (t532.length : Int)) = false := decide_eq_false c17
          have c17b1 : decide (x22_1 < (x5_1.length : Int)) = false := by rw [← hl5_1]; exact c17b0
          clear c17
          replace H := Option.bind_eq_some_iff.mp H
          obtain ⟨t536, A230, H⟩ := H
          replace H : (if t536 = true then (some (decide ((x5_1.length : Int) ≤ (y526.length : Int)))) else (some false)) = some r := H
          have A23 := Aside0.mk A230
          clear A230
          by_cases c24 : t536 = true
          · subst c24
            have H1 : (some (decide ((x5_1.length : Int) ≤ (y526.length : Int)))) = some r := by rw [if_pos rfl] at H; exact H
            clear H
            have H := H1
            clear H1
            obtain rfl := Option.some.inj H
            obtain ⟨Ao25, co25, eo25⟩ := Kd.R_slice HO_4.out
            subst eo25
            go_wp2_with (first | ((with_reducible refine gate_callee (f := 34) rfl ?_); refine goesL_ (some 32) rfl rfl Try.func34 (by kernel_rfl) rfl #[.slice Ao14 y526.length co14, .slice Ao25 y529.length co25] rfl (by (try simp only [List.map_toArray, List.map_cons, List.map_nil]); first | done | rfl | (simp only [List.length_drop, List.length_take]; rfl)) ?_; (with_reducible refine (rotulusref1_EqCells.calls k1 _ _ y526 _ _ y529 true _ ?side1 ?side2 ?side3 ?side4 A23.out).mono ?_); (case side1 => repeat (first | exact (Kd.R_reads' HO_0.out).2.2 | (with_reducible refine Kd.C_alloc ?_ _) | (with_reducible refine Kd.C_drewN ?_ _) | (with_reducible refine Kd.C_drew ?_) | exact Kd.C_drewN (Kd.R_reads' HO_0.out).2.2 _ | exact Kd.C_drew (Kd.R_reads' HO_0.out).2.2 | exact Kd.C_alloc (Kd.R_reads' HO_0.out).2.2 _)); (case side2 => exact (Kd.R_reads' HO_0.out).2.1); (case side3 => repeat (first | exact (Kd.R_reads' HO_4.out).2.2 | (with_reducible refine Kd.C_alloc ?_ _) | (with_reducible refine Kd.C_drewN ?_ _) | (with_reducible refine Kd.C_drew ?_) | exact Kd.C_drewN (Kd.R_reads' HO_4.out).2.2 _ | exact Kd.C_drew (Kd.R_reads' HO_4.out).2.2 | exact Kd.C_alloc (Kd.R_reads' HO_4.out).2.2 _)); (case side4 => exact (Kd.R_reads' HO_4.out).2.1); rintro e w' ⟨rfl, ⟨nd, rfl⟩⟩; refine ⟨_, rfl, ?_⟩))
            go_ret
            exact ⟨by first | rfl | (simp [errW_none, errW_some] <;> rfl) | (simp only [← hji4]; first | rfl | (simp [errW_none, errW_some] <;> rfl)) | (simp [*, errW_none, errW_some] <;> rfl), by repeat (first | (with_reducible first | exact HB.out | apply below_alloc | apply pw_below_drewN | apply below_drew1) | exact HB.out)⟩
          · replace c24 := Bool.eq_false_iff.mpr c24
            subst c24
            have H1 : (some false) = some r := by rw [if_neg (show ¬ (false = true) by decide)] at H; exact H
            clear H
            have H := H1
            clear H1
            obtain rfl := Option.some.inj H
            obtain ⟨Ao26, co26, eo26⟩ := Kd.R_slice HO_4.out
            subst eo26
            go_wp2_with (first | ((with_reducible refine gate_callee (f := 34) rfl ?_); refine goesL_ (some 32) rfl rfl Try.func34 (by kernel_rfl) rfl #[.slice Ao14 y526.length co14, .slice Ao26 y529.length co26] rfl (by (try simp only [List.map_toArray, List.map_cons, List.map_nil]); first | done | rfl | (simp only [List.length_drop, List.length_take]; rfl)) ?_; (with_reducible refine (rotulusref1_EqCells.calls k1 _ _ y526 _ _ y529 false _ ?side1 ?side2 ?side3 ?side4 A23.out).mono ?_); (case side1 => repeat (first | exact (Kd.R_reads' HO_0.out).2.2 | (with_reducible refine Kd.C_alloc ?_ _) | (with_reducible refine Kd.C_drewN ?_ _) | (with_reducible refine Kd.C_drew ?_) | exact Kd.C_drewN (Kd.R_reads' HO_0.out).2.2 _ | exact Kd.C_drew (Kd.R_reads' HO_0.out).2.2 | exact Kd.C_alloc (Kd.R_reads' HO_0.out).2.2 _)); (case side2 => exact (Kd.R_reads' HO_0.out).2.1); (case side3 => repeat (first | exact (Kd.R_reads' HO_4.out).2.2 | (with_reducible refine Kd.C_alloc ?_ _) | (with_reducible refine Kd.C_drewN ?_ _) | (with_reducible refine Kd.C_drew ?_) | exact Kd.C_drewN (Kd.R_reads' HO_4.out).2.2 _ | exact Kd.C_drew (Kd.R_reads' HO_4.out).2.2 | exact Kd.C_alloc (Kd.R_reads' HO_4.out).2.2 _)); (case side4 => exact (Kd.R_reads' HO_4.out).2.1); rintro e w' ⟨rfl, ⟨nd, rfl⟩⟩; refine ⟨_, rfl, ?_⟩))
            go_ret
            exact ⟨by first | rfl | (simp [errW_none, errW_some] <;> rfl) | (simp only [← hji4]; first | rfl | (simp [errW_none, errW_some] <;> rfl)) | (simp [*, errW_none, errW_some] <;> rfl), by repeat (first | (with_reducible first | exact HB.out | apply below_alloc | apply pw_below_drewN | apply below_drew1) | exact HB.out)⟩
  · replace c3 := Bool.eq_false_iff.mpr c3
    subst c3
    have H1 : (some false) = some r := by rw [if_neg (show ¬ (false = true) by decide)] at H; exact H
    clear H
    have H := H1
    clear H1
    obtain rfl := Option.some.inj H
    go_enter Try.func9, Try.ntmps9
    go_wp2_with (first | ((with_reducible refine gate_callee (f := 19) rfl ?_); refine goesL_ (some 7) rfl rfl Try.func19 (by kernel_rfl) rfl #[] rfl (by (try simp only [List.map_toArray, List.map_cons, List.map_nil]); first | done | rfl | (simp only [List.length_drop, List.length_take]; rfl)) ?_; (with_reducible refine (rotuluslaw1_begun.calls k  false _ A2.out).mono ?_); rintro e w27 ⟨rfl, hb⟩; refine ⟨_, rfl, ?_⟩; have n0_ := Aside0.mk (below_step (by repeat (first | (with_reducible first | exact HB.out | apply below_alloc | apply pw_below_drewN | apply below_drew1) | exact HB.out)) hb); clear HB; have HB := n0_; clear n0_; (try clear hb); (try clear hb2); (try clear hk); (try clear hi)))
    go_ret
    exact ⟨by first | rfl | (simp [errW_none, errW_some] <;> rfl) | (simp [*, errW_none, errW_some] <;> rfl), by repeat (first | (with_reducible first | exact HB.out | apply below_alloc | apply pw_below_drewN | apply below_drew1) | exact HB.out)⟩

end Go.Proofs.Ytohafoihegjlnaa.P
