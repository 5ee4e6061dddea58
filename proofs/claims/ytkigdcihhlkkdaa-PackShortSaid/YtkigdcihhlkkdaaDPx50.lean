-- written by a print that this session turned (wip/tools/turnprint.py)
import Derived.Test.YtkigdcihhlkkdaaDPx0
import Derived.Test.YtkigdcihhlkkdaaDPx39
import Derived.Test.YtkigdcihhlkkdaaDPx12
import Derived.Test.YtkigdcihhlkkdaaDPx49
namespace Go.Proofs.Ytkigdcihhlkkdaa.P
open Go.RowKit Go.Proofs.YtkigdcihhlkkdaaW.PrintWords Go.Proofs.YtkigdcihhlkkdaaW.PrintLast Go.Proofs.YtkigdcihhlkkdaaW.PrintMore
attribute [local go_sem] max2_int min2_int max_two min_two max_three min_three max_four min_four   -- for this text's walks alone
set_option linter.unusedVariables false
set_option linter.unusedSimpArgs false
def rotuluslaw4_PackShort.l0 : Nat → Int → List (S45) → Int → List (S45) → Bool → Option (Bool)
  | 0, _, _, _, _, _ => none
  | k + 1, x2, x8, x10, x539000, x539001 => if x10 < x2 then (if 0 < (x8.length : Int) then (if x539000.length < 5864062014805 then (rotuluslaw4_PackShort.l0 k x2 x8 (wrap64 (x10 + 1)) (x539000 ++ [(⟨(rd_T45 x8 0).f0, (rd_T45 x8 0).f1, (rd_T45 x8 0).f2⟩ : S45)]) x539001) else (none)) else (none)) else ((pack_Put.f k x539000 x539001).bind fun bt543 => (if bt543.2 = true then (some (decide ((bt543.1.length : Int) ≤ 10))) else (some false)))
def rotuluslaw4_PackShort.f (k : Nat) (a0 : Int) (a1 : Int) (a2 : Int) : Option (Bool) := (rotuluslaw4_begun.f).bind fun t534 => (if t534 = true then ((rotulusref1_Cells.f k a0 (Go.bits .and .i64 a1 255)).bind fun t535 => (if (t535.length : Int) = 1 then (rotuluslaw4_PackShort.l0 k (Int.tmod (wrap64 ((Int.tmod a2 300) + 300)) 300) t535 0 ([] : List (S45)) false) else (some true))) else (some false))
theorem rotuluslaw4_PackShort.mono_l : ∀ k, (∀ y0 y1 y2 y3 y4, LeO (rotuluslaw4_PackShort.l0 k y0 y1 y2 y3 y4) (rotuluslaw4_PackShort.l0 (k + 1) y0 y1 y2 y3 y4))
  | 0 => fun _ _ _ _ _ r h => by simp [rotuluslaw4_PackShort.l0] at h
  | k + 1 => by
    have ih0 := rotuluslaw4_PackShort.mono_l k
    · intro y0 y1 y2 y3 y4
      unfold rotuluslaw4_PackShort.l0
      repeat' first
      | (with_reducible exact ih0 _ _ _ _ _)
      | (with_reducible exact pack_Put.mono _ _ _)
      | (with_reducible exact rotulusref1_Cells.mono _ _ _)
      | (with_reducible exact LeO.refl _)
      | (with_reducible exact LeO.none _)
      | (with_reducible refine LeO.ite ?_ ?_)
      | (with_reducible refine LeO.bind ?_ (fun _ => ?_))
      | exact ih0 _ _ _ _ _
      | exact pack_Put.mono _ _ _
      | exact rotulusref1_Cells.mono _ _ _
      | exact LeO.none _
      | refine LeO.ite ?_ ?_
      | refine LeO.bind ?_ (fun _ => ?_)
theorem rotuluslaw4_PackShort.mono : ∀ a0 a1 a2 k, LeO (rotuluslaw4_PackShort.f k a0 a1 a2) (rotuluslaw4_PackShort.f (k + 1) a0 a1 a2) := by
  intro a0 a1 a2 k
  have ih0 := rotuluslaw4_PackShort.mono_l k
  unfold rotuluslaw4_PackShort.f
  repeat' first
      | (with_reducible exact ih0 _ _ _ _ _)
      | (with_reducible exact pack_Put.mono _ _ _)
      | (with_reducible exact rotulusref1_Cells.mono _ _ _)
      | (with_reducible exact LeO.refl _)
      | (with_reducible exact LeO.none _)
      | (with_reducible refine LeO.ite ?_ ?_)
      | (with_reducible refine LeO.bind ?_ (fun _ => ?_))
      | exact ih0 _ _ _ _ _
      | exact pack_Put.mono _ _ _
      | exact rotulusref1_Cells.mono _ _ _
      | exact LeO.none _
      | refine LeO.ite ?_ ?_
      | refine LeO.bind ?_ (fun _ => ?_)
def rotuluslaw4_PackShort.T13 : Bool × List (List Nat × List Nat) := (true, [([], []), ([0], [0]), ([], []), ([2], [2]), ([3], [3]), ([4], [4]), ([1, 5], [1, 5]), ([0, 1, 2, 3, 4, 5, 6], []), ([7, 6, 6, 0, 1, 2, 3, 4, 5, 6], [6, 7])])
def rotuluslaw4_PackShort.B13 : List Nat := [0, 1, 0, 4, 12, 28, 63, 127, 255]
theorem rotuluslaw4_PackShort.tab13 : rtab .any (opsOf Try.f6 13) = rotuluslaw4_PackShort.T13 := by kernel_rfl
theorem rotuluslaw4_PackShort.bits13 : waitsOk rotuluslaw4_PackShort.T13.2 rotuluslaw4_PackShort.B13 = true := by kernel_rfl
set_option maxHeartbeats 8000000 in
set_option maxRecDepth 100000 in
theorem rotuluslaw4_PackShort.calls (k : Nat) (a0 : Int) (a1 : Int) (a2 : Int) (r : Bool) (w : World) (h : rotuluslaw4_PackShort.f k a0 a1 a2 = some r) :
    Calls Try.prog 6 #[.int .i32 a0, .int .i64 a1, .int .i64 a2] w fun e w' => e = .returned (.bool r) ∧ Below w.heap.size w w' := by
  have hu31 := Try.underlying31
  have hu45 := Try.underlying45
  have HB := Aside0.mk (Below.refl w.heap.size w)
  have H : ((rotuluslaw4_begun.f).bind fun t534 => (if t534 = true then ((rotulusref1_Cells.f k a0 (Go.bits .and .i64 a1 255)).bind fun t535 => (if (t535.length : Int) = 1 then (rotuluslaw4_PackShort.l0 k (Int.tmod (wrap64 ((Int.tmod a2 300) + 300)) 300) t535 0 ([] : List (S45)) false) else (some true))) else (some false))) = some r := h
  clear h
  replace H := Option.bind_eq_some_iff.mp H
  obtain ⟨t534, A40, H⟩ := H
  replace H : (if t534 = true then ((rotulusref1_Cells.f k a0 (Go.bits .and .i64 a1 255)).bind fun t535 => (if (t535.length : Int) = 1 then (rotuluslaw4_PackShort.l0 k (Int.tmod (wrap64 ((Int.tmod a2 300) + 300)) 300) t535 0 ([] : List (S45)) false) else (some true))) else (some false)) = some r := H
  have A4 := Aside0.mk A40
  clear A40
  by_cases c5 : t534 = true
  · subst c5
    have H1 : ((rotulusref1_Cells.f k a0 (Go.bits .and .i64 a1 255)).bind fun t535 => (if (t535.length : Int) = 1 then (rotuluslaw4_PackShort.l0 k (Int.tmod (wrap64 ((Int.tmod a2 300) + 300)) 300) t535 0 ([] : List (S45)) false) else (some true))) = some r := by rw [if_pos rfl] at H; exact H
    clear H
    have H := H1
    clear H1
    replace H := Option.bind_eq_some_iff.mp H
    obtain ⟨t535, A60, H⟩ := H
    replace H : (if (t535.length : Int) = 1 then (rotuluslaw4_PackShort.l0 k (Int.tmod (wrap64 ((Int.tmod a2 300) + 300)) 300) t535 0 ([] : List (S45)) false) else (some true)) = some r := H
    have A6 := Aside0.mk A60
    clear A60
    by_cases c7 : (t535.length : Int) = 1
    · rw [if_pos c7] at H
      have c7b0 : ((t535.length : Int) == 1) = true := beq_iff_eq.mpr c7
      have c7b1 : ((t535.length : Int) != 1) = false := bne_eq_false_iff_eq.mpr c7
      clear c7
      have H' := Aside0.mk H
      clear H
      go_enter Try.func6, Try.ntmps6
      go_wp2_with (first | ((with_reducible refine gate_callee (f := 18) rfl ?_); refine goesL_ (some 13) rfl rfl Try.func18 (by kernel_rfl) rfl #[] rfl (by (try simp only [List.map_toArray, List.map_cons, List.map_nil]); first | done | rfl | (simp only [List.length_drop, List.length_take]; rfl)) ?_; (with_reducible refine (rotuluslaw4_begun.calls  true _ A4.out).mono ?_); rintro e w8 ⟨rfl, hb⟩; refine ⟨_, rfl, ?_⟩; have n0_ := Aside0.mk (below_step (by repeat (first | (with_reducible first | exact HB.out | apply below_alloc | apply pw_below_drewN | apply below_drew1) | exact HB.out)) hb); clear HB; have HB := n0_; clear n0_; (try clear hb); (try clear hb2); (try clear hk); (try clear hi)) | ((with_reducible refine gate_callee (f := 32) rfl ?_); refine goesL_ (some 24) rfl rfl Try.func32 (by kernel_rfl) rfl #[.int .i32 a0, .int .i64 (Go.bits .and .i64 a1 255)] rfl (by (try simp only [List.map_toArray, List.map_cons, List.map_nil]); first | done | rfl | (simp only [List.length_drop, List.length_take]; rfl)) ?_; (with_reducible refine (rotulusref1_Cells.calls k a0 (Go.bits .and .i64 a1 255) t535 _ A6.out).mono ?_); rintro e w9 ⟨v536, rfl, ho0, hb⟩; refine ⟨_, rfl, ?_⟩; have n0_ := Aside0.mk (Kd.R_lower ho0 (below_size (by repeat (first | (with_reducible first | exact HB.out | apply below_alloc | apply pw_below_drewN | apply below_drew1) | exact HB.out)))); have n1_ := Aside0.mk (below_step (by repeat (first | (with_reducible first | exact HB.out | apply below_alloc | apply pw_below_drewN | apply below_drew1) | exact HB.out)) hb); clear HB; have HO537 := n0_; have HB := n1_; clear n0_ n1_; (try clear hb); (try clear hb2); (try clear hk); (try clear hi); (try clear ho0); obtain ⟨Ao10, co10, eo10⟩ := Kd.R_slice HO537.out; subst eo10) | ((with_reducible refine gate_dst (N := 9) rfl ?_); (try (refine gate_guard (by rfl) ?_; dsimp only)); refine box_event ?hg (N := 9) ?hd (cs := #[.slice none 0 0, .bool false]) (t := 31) ?hr ?_; (case hd => rfl); (case hg => rfl); (case hr => first | (go_simp; done) | (go_simp; rfl)); intro gb538 hg w11 hbox hb; have n0_ := Aside0.mk (Kd.R_below (by (with_reducible repeat (first | apply Kd.R_alloc | apply Kd.R_drewN | apply Kd.R_drew)); exact HO537.out) hb); have n1_ := Aside0.mk (below_step (by repeat (first | (with_reducible first | exact HB.out | apply below_alloc | apply pw_below_drewN | apply below_drew1) | exact HB.out)) hb); have n2_ := Aside0.mk (hbox); have n3_ := Aside0.mk ((by rw [hg]; exact (below_size (by repeat (first | (with_reducible first | exact HB.out | apply below_alloc | apply pw_below_drewN | apply below_drew1) | exact HB.out))) : w.heap.size ≤ gb538)); have n4_ := Aside0.mk ((by rw [hg]; exact (below_size (by repeat (first | (with_reducible first | exact HB.out | apply below_alloc | apply pw_below_drewN | apply below_drew1) | exact HB.out))) : w.heap.size ≤ gb538)); clear HO537; clear HB; have HO537 := n0_; have HB := n1_; have BK538 := n2_; have GW538 := n3_; have GE538 := n4_; clear n0_ n1_ n2_ n3_ n4_; clear hb hbox hg))
      go_loopg [10] k (fun kq v10 w' => ∃ (x10_1 : Int) (x539000_1 : List (S45)) (u539000 : Value), v10 = .int .i64 x10_1 ∧ Aside0 (rotuluslaw4_PackShort.l0 kq (Int.tmod (wrap64 ((Int.tmod a2 300) + 300)) 300) t535 x10_1 x539000_1 false = some r) ∧ Aside0 (kq ≤ k) ∧ Aside0 (Kd.R k45 45 w' w.heap.size (fun k_ => some k_ ≠ (u539000 : Value).ownBlock) (.slice Ao10 t535.length co10) t535) ∧ Aside0 (Kd.R k45 45 w' w.heap.size (fun k_ => some k_ ≠ ((.slice Ao10 t535.length co10) : Value).ownBlock) u539000 x539000_1) ∧ Aside0 (w'.heap[gb538]? = some (.cells #[u539000, .bool false] 31 (0, 0))) ∧ Aside0 (Below w.heap.size w w'))
      case atStart => exact ⟨(0), (([] : List (S45))), (.slice none 0 0), (by first | rfl | (simp; done) | (simp [*]; done)), H', ⟨Nat.le_refl _⟩, ⟨by (with_reducible repeat (first | apply Kd.R_alloc | apply Kd.R_drewN | apply Kd.R_drew)); exact Kd.R_mono HO537.out (fun _ hk => (by simp [Value.ownBlock]))⟩, ⟨by first | exact Kd.R_nil _ _ _ _ _ | exact Kd.N_nil _ _ _ _ _ | exact Kd.V_nil _ _ _ _ _ | exact Kd.Q_nil _ _ _ _ _ | exact Kd.S_nil _ _ _ _ _⟩, ⟨by (with_reducible repeat (first | refine blk_drewN ?_ _ | refine blk_drew ?_ | refine blk_alloc ?_ _)); exact BK538.out⟩, ⟨by repeat (first | (with_reducible first | exact HB.out | apply below_alloc | apply pw_below_drewN | apply below_drew1 | refine below_set ?_ GE538.out) | exact HB.out)⟩⟩
      case round =>
        clear H'
        try clear c1
        try clear p2
        try clear c3
        try clear c5
        try clear c6
        try clear p6
        try clear c7
        try clear c7b0
        try clear c7b1
        obtain ⟨x10_1, x539000_1, u539000, rfl, HA, HK1, HO_8, HO_539000, BK538, HB⟩ := hrel
        cases gk with
        | zero => exact absurd HA.out (by simp [rotuluslaw4_PackShort.l0])
        | succ k1 =>
          have H := HA.out
          clear HA
          simp only [rotuluslaw4_PackShort.l0] at H
          by_cases c12 : x10_1 < (Int.tmod (wrap64 ((Int.tmod a2 300) + 300)) 300)
          · rw [if_pos c12] at H
            have c12b0 : decide (x10_1 < (Int.tmod (wrap64 ((Int.tmod a2 300) + 300)) 300)) = true := decide_eq_true c12
            clear c12
            have c13 : 0 < (t535.length : Int) := Decidable.byContradiction fun hc_ => absurd ((if_neg hc_).symm.trans H) (by simp)
            rw [if_pos c13] at H
            have c13b0 : decide (0 < (t535.length : Int)) = true := decide_eq_true c13
            have c13b1 : decide (0 < t535.length) = true := decide_eq_true (by omega)
            clear c13
            have c14 : x539000_1.length < 5864062014805 := Decidable.byContradiction fun hc_ => absurd ((if_neg hc_).symm.trans H) (by simp)
            rw [if_pos c14] at H
            have LMc14 := Aside0.mk c14
            clear c14
            obtain ⟨y540, hy540⟩ : ∃ y_ : List (S45), y_ = (x539000_1 ++ [(⟨(rd_T45 t535 0).f0, (rd_T45 t535 0).f1, (rd_T45 t535 0).f2⟩ : S45)]) := ⟨_, rfl⟩
            replace H : (rotuluslaw4_PackShort.l0 k1 (Int.tmod (wrap64 ((Int.tmod a2 300) + 300)) 300) t535 (wrap64 (x10_1 + 1)) y540 false) = some r := by first | (rw [hy540]; with_reducible exact H) | (have H2_ := (Option.bind_some _ _).symm.trans H; rw [hy540]; with_reducible exact H2_) | (have H2_ := (Option.bind_some _ _).symm.trans H; with_reducible exact H2_) | with_reducible exact H | (rw [hy540]; exact H) | exact H
            have Ny540 := Aside0.mk hy540
            clear hy540
            have H' := Aside0.mk H
            clear H
            try go_wp2
            have n0_ := Aside0.mk (Kd.R_drew HO_8.out)
            have n1_ := Aside0.mk (Kd.R_drew HO_539000.out)
            have n2_ := Aside0.mk (blk_drew BK538.out)
            have n3_ := Aside0.mk (below_drew1 HB.out)
            clear HO_8
            clear HO_539000
            clear BK538
            clear HB
            have HO_8 := n0_
            have HO_539000 := n1_
            have BK538 := n2_
            have HB := n3_
            clear n0_ n1_ n2_ n3_
            have p539 : 0 ≤ (0 : Int) := (by omega)
            have q539 : 0 < (t535.length : Int) := of_decide_eq_true (by first | (with_reducible assumption) | assumption)
            obtain ⟨ad539, e539, hx539_0, hx539_1, hx539_2⟩ := at_T45 (Kd.R_reads' HO_8.out).2.2 0 p539 q539
            cases e539
            have qi539 : (0 < t535.length) = True := eq_true (by omega)
            (try rw [show ((0 : Int)).toNat = 0 from rfl] at hx539_0)
            (try rw [show 0 * 3 = 0 from rfl] at hx539_0)
            (try rw [Addr.add_zero'] at hx539_0)
            (try rw [show ((0 : Int)).toNat = 0 from rfl] at hx539_1)
            (try rw [show 0 * 3 = 0 from rfl] at hx539_1)
            (try rw [Addr.add_zero'] at hx539_1)
            (try rw [show ((0 : Int)).toNat = 0 from rfl] at hx539_2)
            (try rw [show 0 * 3 = 0 from rfl] at hx539_2)
            (try rw [Addr.add_zero'] at hx539_2)
            replace p539 := eq_true p539
            replace q539 := eq_true q539
            refine start_ (n := 9) (S := fun w' => w'.cell? ⟨gb538, 0, none⟩ = some (u539000) ∧ w'.cell? ⟨gb538, 1, none⟩ = some (.bool false) ∧ w'.cell? ad539 = some (.int .i32 ((rd_T45 t535 0).f0)) ∧ w'.cell? ⟨ad539.block, ad539.off + 1, none⟩ = some (.int .i64 ((rd_T45 t535 0).f1)) ∧ w'.cell? ⟨ad539.block, ad539.off + 2, none⟩ = some (.int .i64 ((rd_T45 t535 0).f2))) (ds := [6, 8]) #[false, false, false, false, false, false, false, false, false] (by kernel_rfl) rfl rfl ⟨(blk_cell BK538.out 0).trans rfl, (blk_cell BK538.out 1).trans rfl, hx539_0, hx539_1, hx539_2⟩ (fun hHeld => ?_); refine with_tabW rotuluslaw4_PackShort.tab13 rotuluslaw4_PackShort.bits13 (fun HT_ HW_ => ?_)
            generalize wr.drew = w15 at HO_8 HO_539000 BK538 HB hx539_0 hx539_1 hx539_2 hHeld ⊢
            refine pure_ (i := 0) (N := some 33) (v := ?_) (a' := ?_) #[true, false, false, false, false, false, false, false, false] rfl rfl (any_of HT_.out (by kernel_rfl)) (fun _ _ _ h => h) (Or.inl ⟨by rfl, ?_⟩) ?_ ?_
            rotate_left
            · intro w'
              go_simp
              with_reducible rfl
            rotate_left
            · simp only [Act.put, List.setIfInBounds_toArray, List.set_cons_zero, List.set_cons_succ, i64_w, i32_w]
              rfl
            refine pure_ (i := 2) (N := some 35) (v := ?_) (a' := ?_) #[true, false, true, false, false, false, false, false, false] rfl rfl (any_of HT_.out (by kernel_rfl)) (fun _ _ _ h => h) (Or.inl ⟨by rfl, ?_⟩) ?_ ?_
            rotate_left
            · intro w'
              go_simp
              with_reducible rfl
            rotate_left
            · simp only [Act.put, List.setIfInBounds_toArray, List.set_cons_zero, List.set_cons_succ, i64_w, i32_w]
              rfl
            refine pure_ (i := 3) (N := some 36) (v := ?_) (a' := ?_) #[true, false, true, true, false, false, false, false, false] rfl rfl (any_of HT_.out (by kernel_rfl)) (fun _ _ _ h => h) (Or.inl ⟨by rfl, ?_⟩) ?_ ?_
            rotate_left
            · intro w'
              go_simp
              with_reducible rfl
            rotate_left
            · simp only [Act.put, List.setIfInBounds_toArray, List.set_cons_zero, List.set_cons_succ, i64_w, i32_w]
              rfl
            refine take_ (i := 1) (N := some 34) (v := ?_) (a' := ?_) #[true, true, true, true, false, false, false, false, false] rfl rfl (take_ofW HT_.out HW_.out (by kernel_rfl)) (fun _ _ _ h => h) (Or.inl ⟨by rfl, ?_⟩) hHeld ?_ ?_
            rotate_left
            · rintro w' ⟨s0, s1, s2, s3, s4⟩
              go_simp
              with_reducible rfl
            rotate_left
            · simp only [Act.put, List.setIfInBounds_toArray, List.set_cons_zero, List.set_cons_succ, i64_w, i32_w]
              rfl
            refine take_ (i := 4) (N := some 37) (v := ?_) (a' := ?_) #[true, true, true, true, true, false, false, false, false] rfl rfl (take_ofW HT_.out HW_.out (by kernel_rfl)) (fun _ _ _ h => h) (Or.inl ⟨by rfl, ?_⟩) hHeld ?_ ?_
            rotate_left
            · rintro w' ⟨s0, s1, s2, s3, s4⟩
              go_simp
              with_reducible rfl
            rotate_left
            · simp only [Act.put, List.setIfInBounds_toArray, List.set_cons_zero, List.set_cons_succ, i64_w, i32_w]
              rfl
            refine one_ (i := 5) (N := some 38) #[true, true, true, true, true, true, false, false, false] rfl rfl (one_of HT_.out (by kernel_rfl)) (by decide) (fun K hK => ?_)
            refine value_ (w1 := ?_) (v := ?_) (by rfl) rfl ?_ ?_
            rotate_left 2
            · go_simp
              constructor
              · rfl
              · rfl
            refine hK.out _ _ ⟨(blk_cell (blk_alloc BK538.out _) 0).trans rfl, (blk_cell (blk_alloc BK538.out _) 1).trans rfl, (World.cell?_alloc_lt _ _ _ (World.block_lt_of_cell? _ _ (hHeld.2.2.1))).trans (hHeld.2.2.1), (World.cell?_alloc_lt _ _ _ (World.block_lt_of_cell? _ _ (hHeld.2.2.2.1))).trans (hHeld.2.2.2.1), (World.cell?_alloc_lt _ _ _ (World.block_lt_of_cell? _ _ (hHeld.2.2.2.2))).trans (hHeld.2.2.2.2)⟩ (fun hHeld => ?_)
            clear hK K
            refine norm_ (a' := ?_) ?_ ?_
            rotate_left
            · show Act.put _ (some 38) _ = _
              simp only [Act.put, List.setIfInBounds_toArray, List.set_cons_zero, List.set_cons_succ, i64_w, i32_w]
              rfl
            refine last_ (i := 6) (N := some 39) #[true, true, true, true, true, true, true, false, false] rfl rfl (one_of HT_.out (by kernel_rfl)) (by decide) (fun K hK => ?_)
            refine Kd.R_append_step k45 (w0 := w) w.heap.size (by rfl) (.tmp 34) (.tmp 38) 29 45 (.agg #[(.int .i32 0), (.int .i64 0), (.int .i64 0)]) 24 rfl Try.underlying29 info45 rfl (by decide) (by omega) u539000 x539000_1 (⟨(rd_T45 t535 0).f0, (rd_T45 t535 0).f1, (rd_T45 t535 0).f2⟩ : S45) [.int .i32 ((rd_T45 t535 0).f0), .int .i64 ((rd_T45 t535 0).f1), .int .i64 ((rd_T45 t535 0).f2)] (fun k_ => some k_ ≠ (.slice (some ad539) t535.length co10 : Value).ownBlock) (fun _ => False) rfl rfl ?aP (fun _ hk => hk.elim) ?aF ?aO ?aB ?aS ?aL ?_
            (case aP => exact k45_mkM _ _ _ (⟨(rd_T45 t535 0).f0, (rd_T45 t535 0).f1, (rd_T45 t535 0).f2⟩ : S45))
            (case aB => exact (by repeat (first | (with_reducible first | exact HB.out | apply below_alloc | apply pw_below_drewN | apply below_drew1 | refine below_set ?_ GE538.out) | exact HB.out)))
            (case aF => exact (fun k_ hk => Kd.fresh' (Kd.R_lt (by (with_reducible repeat (first | apply Kd.R_alloc | apply Kd.R_drewN | apply Kd.R_drew)); exact HO_8.out)) k_ hk))
            (case aO => exact (by (with_reducible repeat (first | apply Kd.R_alloc | apply Kd.R_drewN | apply Kd.R_drew)); exact HO_539000.out))
            (case aS => exact (below_size (by repeat (first | (with_reducible first | exact HB.out | apply below_alloc | apply pw_below_drewN | apply below_drew1 | refine below_set ?_ GE538.out) | exact HB.out))))
            (case aL => have := LMc14.out; omega)
            intro v541 w16 ho hb hg hat
            rw [← Ny540.out] at ho
            have n0_ := Aside0.mk (Kd.R_after (ok := (fun _ => True)) (by (with_reducible repeat (first | apply Kd.R_alloc | apply Kd.R_drewN | apply Kd.R_drew)); exact Kd.R_mono HO_8.out (fun _ hk => ⟨trivial, hk⟩)) hg hat)
            have n1_ := Aside0.mk (blk_grown (g := gb538) (o := .cells #[u539000, .bool false] 31 (0, 0)) (by (with_reducible repeat (first | refine blk_drewN ?_ _ | refine blk_drew ?_ | refine blk_alloc ?_ _)); exact BK538.out) hg (Kd.R_ne HO_539000.out BK538.out (by decide)))
            have n2_ := Aside0.mk (hb)
            have n3_ := Aside0.mk (ho)
            clear HO_8
            clear BK538
            clear HB
            clear HO_539000
            have HO_8 := n0_
            have BK538 := n1_
            have HB := n2_
            have HO542 := n3_
            clear n0_ n1_ n2_ n3_
            clear ho hb hg hat
            obtain ⟨Ao17, co17, eo17⟩ := Kd.R_slice HO542.out
            (first | subst eo17 | (injection eo17 with f1_ f2_ f3_; have f4_ := f1_.symm; have f5_ := f3_.symm; clear f1_ f2_ f3_; subst f4_; subst f5_))
            refine hK.out _ _ ?_
            clear hK K
            refine norm_ (a' := ?_) ?_ ?_
            rotate_left
            · show Act.put _ (some 39) _ = _
              simp only [Act.put, List.setIfInBounds_toArray, List.set_cons_zero, List.set_cons_succ, i64_w, i32_w]
              rfl
            refine pure_ (i := 7) (N := some 40) (v := ?_) (a' := ?_) #[true, true, true, true, true, true, true, true, false] rfl rfl (any_of HT_.out (by kernel_rfl)) (fun _ _ _ h => h) (Or.inl ⟨by rfl, ?_⟩) ?_ ?_
            rotate_left
            · intro w'
              go_simp
              with_reducible rfl
            rotate_left
            · simp only [Act.put, List.setIfInBounds_toArray, List.set_cons_zero, List.set_cons_succ, i64_w, i32_w]
              rfl
            refine last_ (i := 8) (N := none) #[true, true, true, true, true, true, true, true, true] rfl rfl (one_of HT_.out (by kernel_rfl)) (by decide) (fun K hK => ?_)
            have hs18 : w16.cell? ⟨gb538, 0, none⟩ = some (u539000) := (blk_cell BK538.out 0).trans rfl
            have hfs18 := blk_frozen BK538.out 0
            refine skip_ (w1 := ?_) (by rfl) rfl ?_ ?_
            rotate_left
            · go_simp
              rfl
            refine hK.out _ _ ?_
            clear hK K
            refine done_ (done_of HT_.out (by kernel_rfl)) ?_
            try go_wp2
            go_roundg k1
            case measure => have := HK1.out; omega
            case rel => exact ⟨(wrap64 (x10_1 + 1)), (y540), (.slice Ao17 y540.length co17), (by first | rfl | (simp; done) | (simp [*]; done)), H', ⟨by have := HK1.out; omega⟩, ⟨by (with_reducible repeat (first | apply Kd.R_alloc | apply Kd.R_drewN | apply Kd.R_drew)); exact Kd.R_mono (Kd.R_far (p := ⟨gb538, 0, none⟩) (Kd.R_types HO_8.out BK538.out (by decide)) (fun _ hk => hk.2) (.slice Ao17 y540.length co17)) (fun _ hk => hk.1.2)⟩, ⟨by (with_reducible repeat (first | apply Kd.R_alloc | apply Kd.R_drewN | apply Kd.R_drew)); exact Kd.R_mono (Kd.R_far (p := ⟨gb538, 0, none⟩) (Kd.R_types HO542.out BK538.out (by decide)) (fun _ hk => hk.2) (.slice Ao17 y540.length co17)) (fun _ hk => hk.1)⟩, ⟨by (with_reducible repeat (first | refine blk_drewN ?_ _ | refine blk_drew ?_ | refine blk_alloc ?_ _)); refine blk_put (cs := #[u539000, .bool false]) ?_ 0 _ rfl; (with_reducible repeat (first | refine blk_drewN ?_ _ | refine blk_drew ?_ | refine blk_alloc ?_ _)); exact BK538.out⟩, ⟨by repeat (first | (with_reducible first | exact HB.out | apply below_alloc | apply pw_below_drewN | apply below_drew1 | refine below_set ?_ GE538.out) | exact HB.out)⟩⟩
          · rw [if_neg c12] at H
            have c12b0 : decide (x10_1 < (Int.tmod (wrap64 ((Int.tmod a2 300) + 300)) 300)) = false := decide_eq_false c12
            clear c12
            replace H := Option.bind_eq_some_iff.mp H
            obtain ⟨⟨t543, t546⟩, A190, H⟩ := H
            replace H : (if t546 = true then (some (decide ((t543.length : Int) ≤ 10))) else (some false)) = some r := H
            have A19 := Aside0.mk A190
            clear A190
            by_cases c20 : t546 = true
            · subst c20
              have H1 : (some (decide ((t543.length : Int) ≤ 10))) = some r := by rw [if_pos rfl] at H; exact H
              clear H
              have H := H1
              clear H1
              obtain rfl := Option.some.inj H
              have hcz21_0 : wr.cell? ⟨gb538, 0, none⟩ = some (u539000) := (blk_cell BK538.out 0).trans rfl
              have hcz21_1 : wr.cell? ⟨gb538, 1, none⟩ = some (.bool false) := (blk_cell BK538.out 1).trans rfl
              have hfz21_0 := blk_frozen BK538.out 0
              have hfz21_1 := blk_frozen BK538.out 1
              obtain ⟨Ao22, co22, eo22⟩ := Kd.R_slice HO_539000.out
              subst eo22
              go_wp2_with (first | ((with_reducible refine gate_callee (f := 24) rfl ?_); refine goesL_ (some 43) rfl rfl Try.func24 (by kernel_rfl) rfl #[.agg #[.slice Ao22 x539000_1.length co22, .bool false]] rfl (by (try simp only [List.map_toArray, List.map_cons, List.map_nil]); first | done | rfl | (simp only [List.length_drop, List.length_take]; rfl)) ?_; (with_reducible refine (pack_Put.calls k1 _ _ x539000_1 false t543 true _ ?side1 ?side2 A19.out).mono ?_); (case side1 => repeat (first | exact (Kd.R_reads' HO_539000.out).2.2 | (with_reducible refine Kd.C_alloc ?_ _) | (with_reducible refine Kd.C_drewN ?_ _) | (with_reducible refine Kd.C_drew ?_) | exact Kd.C_drewN (Kd.R_reads' HO_539000.out).2.2 _ | exact Kd.C_drew (Kd.R_reads' HO_539000.out).2.2 | exact Kd.C_alloc (Kd.R_reads' HO_539000.out).2.2 _)); (case side2 => exact (Kd.R_reads' HO_539000.out).2.1); rintro e w23 ⟨v544, rfl, ho0, hb⟩; refine ⟨_, rfl, ?_⟩; have n0_ := Aside0.mk (Kd.R_below (by (with_reducible repeat (first | apply Kd.R_alloc | apply Kd.R_drewN | apply Kd.R_drew)); exact HO_8.out) hb); have n1_ := Aside0.mk (Kd.R_below (by (with_reducible repeat (first | apply Kd.R_alloc | apply Kd.R_drewN | apply Kd.R_drew)); exact HO_539000.out) hb); have n2_ := Aside0.mk (Kd.R_lower ho0 (below_size (by repeat (first | (with_reducible first | exact HB.out | apply below_alloc | apply pw_below_drewN | apply below_drew1 | refine below_set ?_ GE538.out) | exact HB.out)))); have n3_ := Aside0.mk (blk_below (g := gb538) (o := .cells #[.slice Ao22 x539000_1.length co22, .bool false] 31 (0, 0)) (by (with_reducible repeat (first | refine blk_drewN ?_ _ | refine blk_drew ?_ | refine blk_alloc ?_ _)); exact BK538.out) hb); have n4_ := Aside0.mk (below_step (by repeat (first | (with_reducible first | exact HB.out | apply below_alloc | apply pw_below_drewN | apply below_drew1 | refine below_set ?_ GE538.out) | exact HB.out)) hb); clear HO_8; clear HO_539000; clear BK538; clear HB; have HO_8 := n0_; have HO_539000 := n1_; have HO545 := n2_; have BK538 := n3_; have HB := n4_; clear n0_ n1_ n2_ n3_ n4_; (try clear hb); (try clear hb2); (try clear hk); (try clear hi); (try clear ho0); obtain ⟨Ao24, co24, eo24⟩ := Kd.R_slice HO545.out; subst eo24))
              go_ret
              exact ⟨by first | rfl | (simp [errW_none, errW_some] <;> rfl) | (simp [*, errW_none, errW_some] <;> rfl), by repeat (first | (with_reducible first | exact HB.out | apply below_alloc | apply pw_below_drewN | apply below_drew1 | refine below_set ?_ GE538.out) | exact HB.out)⟩
            · replace c20 := Bool.eq_false_iff.mpr c20
              subst c20
              have H1 : (some false) = some r := by rw [if_neg (show ¬ (false = true) by decide)] at H; exact H
              clear H
              have H := H1
              clear H1
              obtain rfl := Option.some.inj H
              have hcz25_0 : wr.cell? ⟨gb538, 0, none⟩ = some (u539000) := (blk_cell BK538.out 0).trans rfl
              have hcz25_1 : wr.cell? ⟨gb538, 1, none⟩ = some (.bool false) := (blk_cell BK538.out 1).trans rfl
              have hfz25_0 := blk_frozen BK538.out 0
              have hfz25_1 := blk_frozen BK538.out 1
              obtain ⟨Ao26, co26, eo26⟩ := Kd.R_slice HO_539000.out
              subst eo26
              go_wp2_with (first | ((with_reducible refine gate_callee (f := 24) rfl ?_); refine goesL_ (some 43) rfl rfl Try.func24 (by kernel_rfl) rfl #[.agg #[.slice Ao26 x539000_1.length co26, .bool false]] rfl (by (try simp only [List.map_toArray, List.map_cons, List.map_nil]); first | done | rfl | (simp only [List.length_drop, List.length_take]; rfl)) ?_; (with_reducible refine (pack_Put.calls k1 _ _ x539000_1 false t543 false _ ?side1 ?side2 A19.out).mono ?_); (case side1 => repeat (first | exact (Kd.R_reads' HO_539000.out).2.2 | (with_reducible refine Kd.C_alloc ?_ _) | (with_reducible refine Kd.C_drewN ?_ _) | (with_reducible refine Kd.C_drew ?_) | exact Kd.C_drewN (Kd.R_reads' HO_539000.out).2.2 _ | exact Kd.C_drew (Kd.R_reads' HO_539000.out).2.2 | exact Kd.C_alloc (Kd.R_reads' HO_539000.out).2.2 _)); (case side2 => exact (Kd.R_reads' HO_539000.out).2.1); rintro e w27 ⟨v544, rfl, ho0, hb⟩; refine ⟨_, rfl, ?_⟩; have n0_ := Aside0.mk (Kd.R_below (by (with_reducible repeat (first | apply Kd.R_alloc | apply Kd.R_drewN | apply Kd.R_drew)); exact HO_8.out) hb); have n1_ := Aside0.mk (Kd.R_below (by (with_reducible repeat (first | apply Kd.R_alloc | apply Kd.R_drewN | apply Kd.R_drew)); exact HO_539000.out) hb); have n2_ := Aside0.mk (Kd.R_lower ho0 (below_size (by repeat (first | (with_reducible first | exact HB.out | apply below_alloc | apply pw_below_drewN | apply below_drew1 | refine below_set ?_ GE538.out) | exact HB.out)))); have n3_ := Aside0.mk (blk_below (g := gb538) (o := .cells #[.slice Ao26 x539000_1.length co26, .bool false] 31 (0, 0)) (by (with_reducible repeat (first | refine blk_drewN ?_ _ | refine blk_drew ?_ | refine blk_alloc ?_ _)); exact BK538.out) hb); have n4_ := Aside0.mk (below_step (by repeat (first | (with_reducible first | exact HB.out | apply below_alloc | apply pw_below_drewN | apply below_drew1 | refine below_set ?_ GE538.out) | exact HB.out)) hb); clear HO_8; clear HO_539000; clear BK538; clear HB; have HO_8 := n0_; have HO_539000 := n1_; have HO545 := n2_; have BK538 := n3_; have HB := n4_; clear n0_ n1_ n2_ n3_ n4_; (try clear hb); (try clear hb2); (try clear hk); (try clear hi); (try clear ho0)))
              go_ret
              exact ⟨by first | rfl | (simp [errW_none, errW_some] <;> rfl) | (simp [*, errW_none, errW_some] <;> rfl), by repeat (first | (with_reducible first | exact HB.out | apply below_alloc | apply pw_below_drewN | apply below_drew1 | refine below_set ?_ GE538.out) | exact HB.out)⟩
    · rw [if_neg c7] at H
      have c7b0 : ((t535.length : Int) == 1) = false := beq_eq_false_iff_ne.mpr c7
      have c7b1 : ((t535.length : Int) != 1) = true := bne_iff_ne.mpr c7
      obtain rfl := Option.some.inj H
      go_enter Try.func6, Try.ntmps6
      go_wp2_with (first | ((with_reducible refine gate_callee (f := 18) rfl ?_); refine goesL_ (some 13) rfl rfl Try.func18 (by kernel_rfl) rfl #[] rfl (by (try simp only [List.map_toArray, List.map_cons, List.map_nil]); first | done | rfl | (simp only [List.length_drop, List.length_take]; rfl)) ?_; (with_reducible refine (rotuluslaw4_begun.calls  true _ A4.out).mono ?_); rintro e w28 ⟨rfl, hb⟩; refine ⟨_, rfl, ?_⟩; have n0_ := Aside0.mk (below_step (by repeat (first | (with_reducible first | exact HB.out | apply below_alloc | apply pw_below_drewN | apply below_drew1) | exact HB.out)) hb); clear HB; have HB := n0_; clear n0_; (try clear hb); (try clear hb2); (try clear hk); (try clear hi)) | ((with_reducible refine gate_callee (f := 32) rfl ?_); refine goesL_ (some 24) rfl rfl Try.func32 (by kernel_rfl) rfl #[.int .i32 a0, .int .i64 (Go.bits .and .i64 a1 255)] rfl (by (try simp only [List.map_toArray, List.map_cons, List.map_nil]); first | done | rfl | (simp only [List.length_drop, List.length_take]; rfl)) ?_; (with_reducible refine (rotulusref1_Cells.calls k a0 (Go.bits .and .i64 a1 255) t535 _ A6.out).mono ?_); rintro e w29 ⟨v536, rfl, ho0, hb⟩; refine ⟨_, rfl, ?_⟩; have n0_ := Aside0.mk (Kd.R_lower ho0 (below_size (by repeat (first | (with_reducible first | exact HB.out | apply below_alloc | apply pw_below_drewN | apply below_drew1) | exact HB.out)))); have n1_ := Aside0.mk (below_step (by repeat (first | (with_reducible first | exact HB.out | apply below_alloc | apply pw_below_drewN | apply below_drew1) | exact HB.out)) hb); clear HB; have HO537 := n0_; have HB := n1_; clear n0_ n1_; (try clear hb); (try clear hb2); (try clear hk); (try clear hi); (try clear ho0); obtain ⟨Ao30, co30, eo30⟩ := Kd.R_slice HO537.out; subst eo30))
      go_ret
      exact ⟨by first | rfl | (simp [errW_none, errW_some] <;> rfl) | (simp [*, errW_none, errW_some] <;> rfl), by repeat (first | (with_reducible first | exact HB.out | apply below_alloc | apply pw_below_drewN | apply below_drew1) | exact HB.out)⟩
  · replace c5 := Bool.eq_false_iff.mpr c5
    subst c5
    have H1 : (some false) = some r := by rw [if_neg (show ¬ (false = true) by decide)] at H; exact H
    clear H
    have H := H1
    clear H1
    obtain rfl := Option.some.inj H
    go_enter Try.func6, Try.ntmps6
    go_wp2_with (first | ((with_reducible refine gate_callee (f := 18) rfl ?_); refine goesL_ (some 13) rfl rfl Try.func18 (by kernel_rfl) rfl #[] rfl (by (try simp only [List.map_toArray, List.map_cons, List.map_nil]); first | done | rfl | (simp only [List.length_drop, List.length_take]; rfl)) ?_; (with_reducible refine (rotuluslaw4_begun.calls  false _ A4.out).mono ?_); rintro e w31 ⟨rfl, hb⟩; refine ⟨_, rfl, ?_⟩; have n0_ := Aside0.mk (below_step (by repeat (first | (with_reducible first | exact HB.out | apply below_alloc | apply pw_below_drewN | apply below_drew1) | exact HB.out)) hb); clear HB; have HB := n0_; clear n0_; (try clear hb); (try clear hb2); (try clear hk); (try clear hi)))
    go_ret
    exact ⟨by first | rfl | (simp [errW_none, errW_some] <;> rfl) | (simp [*, errW_none, errW_some] <;> rfl), by repeat (first | (with_reducible first | exact HB.out | apply below_alloc | apply pw_below_drewN | apply below_drew1) | exact HB.out)⟩
def rotuluslaw4_PackShort.Pure : Prop := ∀ (a0 : Int) (a1 : Int) (a2 : Int), (Lit.int .i32 a0).wf = true → (Lit.int .i64 a1).wf = true → (Lit.int .i64 a2).wf = true → ∃ k, rotuluslaw4_PackShort.f k a0 a1 a2 = some true
theorem rotuluslaw4_PackShort.walk (P : rotuluslaw4_PackShort.Pure) (a0 : Int) (a1 : Int) (a2 : Int) (w : World) (w0 : (Lit.int .i32 a0).wf = true) (w1 : (Lit.int .i64 a1).wf = true) (w2 : (Lit.int .i64 a2).wf = true) :
    Calls Try.prog 6 #[.int .i32 a0, .int .i64 a1, .int .i64 a2] w fun e w' => e = .returned (.bool true) ∧ Below w.heap.size w w' := by
  obtain ⟨k, h⟩ := P a0 a1 a2 w0 w1 w2
  refine (rotuluslaw4_PackShort.calls k a0 a1 a2 true w h).mono ?_
  rintro e w' ⟨rfl, hd⟩
  exact ⟨rfl, hd⟩
end Go.Proofs.Ytkigdcihhlkkdaa.P
