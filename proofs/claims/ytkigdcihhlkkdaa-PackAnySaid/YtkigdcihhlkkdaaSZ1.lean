/- own texts of this session, put together -/
import Derived.Test.YtkigdcihhlkkdaaSZ0
section
namespace Go.Proofs.Ytkigdcihhlkkdaa.P
open Go.RowKit Go.Proofs.YtkigdcihhlkkdaaW.PrintWords Go.Proofs.YtkigdcihhlkkdaaW.PrintLast Go.Proofs.YtkigdcihhlkkdaaW.PrintMore
attribute [local go_sem] max2_int min2_int max_two min_two max_three min_three max_four min_four   -- for this text's walks alone
set_option linter.unusedVariables false
set_option linter.unusedSimpArgs false
def cell_May.j0 : Nat → Bool → Int → Int → Int → Option (Bool)
  | 0, _, _, _, _ => none
  | k + 1, x11, x130000, x130001, x130002 => if x11 = true then (some false) else (if x130001 = 0 then ((cell_IsPad.f x130000 x130001 x130002).bind fun t130 => (if t130 = true then (some true) else (if x130000 = 0 then (some true) else (if x130001 = 1 then ((width_Of.f x130000).bind fun t131 => (some (x130001 == t131))) else (if x130001 = 2 then ((width_Of.f x130000).bind fun t132 => (some (x130001 == t132))) else (some false)))))) else ((cell_IsPad.f x130000 x130001 x130002).bind fun t133 => (if t133 = true then (some true) else (if x130001 = 1 then ((width_Of.f x130000).bind fun t134 => (some (x130001 == t134))) else (if x130001 = 2 then ((width_Of.f x130000).bind fun t135 => (some (x130001 == t135))) else (some false))))))
def cell_May.f (k : Nat) (a0_0 : Int) (a0_1 : Int) (a0_2 : Int) : Option (Bool) := if a0_2 < 0 then (cell_May.j0 k true a0_0 a0_1 a0_2) else (cell_May.j0 k (decide (a0_2 > 255)) a0_0 a0_1 a0_2)
theorem cell_May.mono_l : ∀ k, (∀ y0 y1 y2 y3, LeO (cell_May.j0 k y0 y1 y2 y3) (cell_May.j0 (k + 1) y0 y1 y2 y3))
  | 0 => fun _ _ _ _ r h => by simp [cell_May.j0] at h
  | k + 1 => by
    have ih0 := cell_May.mono_l k
    · intro y0 y1 y2 y3
      unfold cell_May.j0
      repeat' first
      | (with_reducible exact ih0 _ _ _ _)
      | (with_reducible exact LeO.refl _)
      | (with_reducible exact LeO.none _)
      | (with_reducible refine LeO.ite ?_ ?_)
      | (with_reducible refine LeO.bind ?_ (fun _ => ?_))
      | exact ih0 _ _ _ _
      | exact LeO.none _
      | refine LeO.ite ?_ ?_
      | refine LeO.bind ?_ (fun _ => ?_)
theorem cell_May.mono : ∀ a0 a1 a2 k, LeO (cell_May.f k a0 a1 a2) (cell_May.f (k + 1) a0 a1 a2) := by
  intro a0 a1 a2 k
  have ih0 := cell_May.mono_l k
  unfold cell_May.f
  repeat' first
      | (with_reducible exact ih0 _ _ _ _)
      | (with_reducible exact LeO.refl _)
      | (with_reducible exact LeO.none _)
      | (with_reducible refine LeO.ite ?_ ?_)
      | (with_reducible refine LeO.bind ?_ (fun _ => ?_))
      | exact ih0 _ _ _ _
      | exact LeO.none _
      | refine LeO.ite ?_ ?_
      | refine LeO.bind ?_ (fun _ => ?_)
def tab_53_4 : Bool × List (List Nat × List Nat) := (true, [([], []), ([0], [0]), ([1, 1], [1]), ([2], [2]), ([2, 3], [2, 3]), ([4, 2], [4]), ([5], [5]), ([6, 5], [5, 6]), ([7, 5], [5, 7]), ([8, 5, 5], [5, 8]), ([9], [9]), ([10, 9], [9, 10]), ([11, 9], [9, 11]), ([9, 12, 5], [5, 9, 12]), ([13, 9, 5], [5, 13]), ([14], [14]), ([15, 14], [14, 15]), ([14], [14]), ([17, 14], [14, 17]), ([18, 14, 14], [14, 18]), ([16, 19, 14], [14, 16, 19]), ([14, 20, 5], [5, 14, 20]), ([5, 21], [5, 21]), ([22, 19, 0, 1, 2, 3, 4, 5, 6, 7, 8, 9, 10, 11, 12, 13, 14, 15, 16, 17, 18, 19, 20, 21, 22], [22])])
theorem tab_53_4_ : rtab .any (opsOf Try.f53 4) = tab_53_4 := by kernel_rfl
def wOfM (r : Int) : Int := if width_none.b r = true then 0 else if width_wide.b r = true then 2 else 1
theorem wOfM_eq (r : Int) : width_Of.f r = some (wOfM r) := by
  unfold width_Of.f width_none.f width_wide.f wOfM
  simp only [Option.bind_some]
  split
  · rfl
  · split <;> rfl
def cellM (r w a : Int) : Bool := if a < 0 then false else if a > 255 then false else if (r == 0 && (w == 1 && a == 0)) = true then true else if w = 0 then decide (r = 0) else if w = 1 then w == wOfM r else if w = 2 then w == wOfM r else false
theorem cell_May.f_eq {k : Nat} {r w a : Int} {x : Bool} (h : cell_May.f k r w a = some x) : x = cellM r w a := by
  cases k with
  | zero => unfold cell_May.f at h; split at h <;> simp [cell_May.j0] at h
  | succ k =>
    unfold cell_May.f at h
    simp only [cell_May.j0, cell_IsPad.f, cell_Pad.f, Option.bind_some, wOfM_eq] at h
    unfold cellM
    by_cases h1 : a < 0
    · rw [if_pos h1] at h ⊢
      simpa using h.symm
    · rw [if_neg h1] at h ⊢
      by_cases h2 : a > 255
      · rw [if_pos h2]
        rw [if_pos (by simpa using h2)] at h
        simpa using h.symm
      · rw [if_neg h2]
        rw [if_neg (by simpa using h2)] at h
        by_cases hp : (r == 0 && (w == 1 && a == 0)) = true
        · rw [hp] at h ⊢
          split at h <;> simpa using h.symm
        · rw [Bool.eq_false_iff.2 hp] at h ⊢
          by_cases hw : w = 0
          · rw [if_pos hw] at h
            simp only [Bool.false_eq_true, if_false] at h ⊢
            rw [if_pos hw]
            by_cases hr : r = 0
            · rw [if_pos hr] at h
              simpa [hr] using h.symm
            · rw [if_neg hr] at h
              simpa [hr, hw] using h.symm
          · rw [if_neg hw] at h
            simp only [Bool.false_eq_true, if_false] at h ⊢
            rw [if_neg hw]
            split at h
            · rename_i e; rw [if_pos e]; simpa using h.symm
            · rename_i e; rw [if_neg e]
              split at h
              · rename_i e2; rw [if_pos e2]; simpa using h.symm
              · rename_i e2; rw [if_neg e2]; simpa using h.symm
theorem isPad_ (r w a : Int) (W : World) : Calls Try.prog 65 #[.agg #[.int .i32 r, .int .i64 w, .int .i64 a]] W fun e w' => e = .returned (.bool (r == 0 && (w == 1 && a == 0))) ∧ Below W.heap.size W w' := cell_IsPad.calls r w a _ W rfl
theorem widthOf_ (r : Int) (W : World) : Calls Try.prog 66 #[.int .i32 r] W fun e w' => e = .returned (.int .i64 (wOfM r)) ∧ Below W.heap.size W w' := (width_Of.calls r _ W (wOfM_eq r)).mono fun e w' h => ⟨h.1, h.2.below⟩
set_option maxHeartbeats 8000000 in
set_option maxRecDepth 100000 in
theorem cell_May.walk (cr cw ca : Int) (W : World) : Calls Try.prog 53 #[.agg #[.int .i32 cr, .int .i64 cw, .int .i64 ca]] W fun e w' => e = .returned (.bool (cellM cr cw ca)) ∧ Below W.heap.size W w' := by
  have hb0 : Below W.heap.size W (W.alloc (.cells #[.int .i32 cr, .int .i64 cw, .int .i64 ca] 45)) := below_alloc (Below.refl _ _) _
  have hB0 := blk_new W (.cells #[.int .i32 cr, .int .i64 cw, .int .i64 ca] 45)
  have hu := Try.underlying45
  have hS0 : SC W ⟨cr, cw, ca⟩ (W.alloc (.cells #[.int .i32 cr, .int .i64 cw, .int .i64 ca] 45)).drew := SC.mk' hB0 (below_drew1 hb0)
  unfold cellM
  by_cases h1 : ca < 0
  · obtain ⟨x0, x1, x2⟩ := blk3 hB0
    go_enter Try.func53, Try.ntmps53
    go_wp2
    go_ret
    exact ⟨by simp [h1], hb0⟩
  by_cases h2 : ca > 255
  · obtain ⟨x0, x1, x2⟩ := blk3 hB0
    go_enter Try.func53, Try.ntmps53
    go_wp2
    go_ret
    exact ⟨by simp [h1, h2], hb0⟩
  rw [if_neg h1, if_neg h2]
  clear hb0
  by_cases hp : (cr == 0 && (cw == 1 && ca == 0)) = true
  · rw [if_pos hp]
    simp only [Bool.and_eq_true, beq_iff_eq] at hp
    obtain ⟨rfl, rfl, rfl⟩ := hp
    obtain ⟨x0, x1, x2⟩ := blk3 hB0
    go_enter Try.func53, Try.ntmps53
    go_wp2
    clear x0 x1 x2 hB0
    refine start_ (n := 24) (S := SC W ⟨0, 1, 0⟩) (ds := []) (bl_ [0, 24]) (by kernel_rfl) (by kernel_rfl) rfl hS0 (fun _ => ?_)
    refine with_tab tab_53_4_ (fun HT_ => ?_)
    refine takes_ [0] 23 (bl_ [1, 23]) rfl HT_.out (by kernel_rfl) hS0 (a' := ?_) ?_ ?_
    rotate_left
    · repeat (first | exact rfl | (refine tkN rfl rfl (fun _ _ _ h => h) (by rfl) (by simp only [Act.put, List.setIfInBounds_toArray, List.set_cons_zero, List.set_cons_succ, i64_w, i32_w]; rfl) ?_) | (refine tkY rfl rfl (fun _ _ _ h => h) (by rfl) (fun w' hw' => by (obtain ⟨⟨s0, s1, s2⟩, _⟩ := hw'; go_simp; with_reducible rfl)) (by simp only [Act.put, List.setIfInBounds_toArray, List.set_cons_zero, List.set_cons_succ, i64_w, i32_w]; rfl) ?_))
    refine one_ (i := 1) (N := some 21) (bl_ [2, 22]) rfl rfl (one_of HT_.out (by kernel_rfl)) (by decide) (fun K hK => ?_)
    refine goes_ Try.func65 (by kernel_rfl) rfl #[.agg #[.int .i32 0, .int .i64 1, .int .i64 0]] (by rfl) rfl rfl (by (try simp only [List.map_toArray, List.map_cons, List.map_nil]); first | done | rfl) ?_
    refine (isPad_ _ _ _ _).mono ?_
    rintro e w1 ⟨rfl, hb1⟩
    have hS1 := hS0.next hb1
    rw [show ((0 : Int) == 0 && ((1 : Int) == 1 && (0 : Int) == 0)) = true from rfl]
    refine ⟨_, rfl, hK.out _ _ hS1 (fun _ => ?_)⟩
    refine norm_ (a' := ?_) ?_ ?_
    rotate_left
    · show Act.put _ (some 21) _ = _
      simp only [Act.put, List.setIfInBounds_toArray, List.set_cons_zero, List.set_cons_succ]
      rfl
    refine takes_ (List.range' 2 22) 0 (bl_ [24]) rfl HT_.out (by kernel_rfl) hS1 (a' := ?_) ?_ ?_
    rotate_left
    · repeat (first | exact rfl | (refine tkN rfl rfl (fun _ _ _ h => h) (by rfl) (by simp only [Act.put, List.setIfInBounds_toArray, List.set_cons_zero, List.set_cons_succ, i64_w, i32_w]; rfl) ?_) | (refine tkY rfl rfl (fun _ _ _ h => h) (by rfl) (fun w' hw' => by (obtain ⟨⟨s0, s1, s2⟩, _⟩ := hw'; go_simp; with_reducible rfl)) (by simp only [Act.put, List.setIfInBounds_toArray, List.set_cons_zero, List.set_cons_succ, i64_w, i32_w]; rfl) ?_))
    refine done_ (done_of HT_.out (by kernel_rfl)) ?_
    go_wp2
    go_ret
    exact ⟨by simp, hS1.2.out.2⟩

  rw [if_neg hp]
  have hp := Bool.eq_false_iff.2 hp
  by_cases c0 : cw = 0
  · rw [if_pos c0]
    subst c0
    by_cases cz : cr = 0
    · subst cz
      obtain ⟨x0, x1, x2⟩ := blk3 hB0
      go_enter Try.func53, Try.ntmps53
      go_wp2
      clear x0 x1 x2 hB0
      refine start_ (n := 24) (S := SC W ⟨0, 0, ca⟩) (ds := []) (bl_ [0, 24]) (by kernel_rfl) (by kernel_rfl) rfl hS0 (fun _ => ?_)
      refine with_tab tab_53_4_ (fun HT_ => ?_)
      refine takes_ [0] 23 (bl_ [1, 23]) rfl HT_.out (by kernel_rfl) hS0 (a' := ?_) ?_ ?_
      rotate_left
      · repeat (first | exact rfl | (refine tkN rfl rfl (fun _ _ _ h => h) (by rfl) (by simp only [Act.put, List.setIfInBounds_toArray, List.set_cons_zero, List.set_cons_succ, i64_w, i32_w]; rfl) ?_) | (refine tkY rfl rfl (fun _ _ _ h => h) (by rfl) (fun w' hw' => by (obtain ⟨⟨s0, s1, s2⟩, _⟩ := hw'; go_simp; with_reducible rfl)) (by simp only [Act.put, List.setIfInBounds_toArray, List.set_cons_zero, List.set_cons_succ, i64_w, i32_w]; rfl) ?_))
      refine one_ (i := 1) (N := some 21) (bl_ [2, 22]) rfl rfl (one_of HT_.out (by kernel_rfl)) (by decide) (fun K hK => ?_)
      refine goes_ Try.func65 (by kernel_rfl) rfl #[.agg #[.int .i32 0, .int .i64 0, .int .i64 ca]] (by rfl) rfl rfl (by (try simp only [List.map_toArray, List.map_cons, List.map_nil]); first | done | rfl) ?_
      refine (isPad_ _ _ _ _).mono ?_
      rintro e w1 ⟨rfl, hb1⟩
      have hS1 := hS0.next hb1
      rw [hp]
      refine ⟨_, rfl, hK.out _ _ hS1 (fun _ => ?_)⟩
      refine norm_ (a' := ?_) ?_ ?_
      rotate_left
      · show Act.put _ (some 21) _ = _
        simp only [Act.put, List.setIfInBounds_toArray, List.set_cons_zero, List.set_cons_succ]
        rfl
      refine takes_ (List.range' 2 22) 0 (bl_ [24]) rfl HT_.out (by kernel_rfl) hS1 (a' := ?_) ?_ ?_
      rotate_left
      · repeat (first | exact rfl | (refine tkN rfl rfl (fun _ _ _ h => h) (by rfl) (by simp only [Act.put, List.setIfInBounds_toArray, List.set_cons_zero, List.set_cons_succ, i64_w, i32_w]; rfl) ?_) | (refine tkY rfl rfl (fun _ _ _ h => h) (by rfl) (fun w' hw' => by (obtain ⟨⟨s0, s1, s2⟩, _⟩ := hw'; go_simp; with_reducible rfl)) (by simp only [Act.put, List.setIfInBounds_toArray, List.set_cons_zero, List.set_cons_succ, i64_w, i32_w]; rfl) ?_))
      refine done_ (done_of HT_.out (by kernel_rfl)) ?_
      go_wp2
      go_ret
      exact ⟨by simp, hS1.2.out.2⟩

    · have q0 : (cr == 0) = false := by simp [cz]
      obtain ⟨x0, x1, x2⟩ := blk3 hB0
      go_enter Try.func53, Try.ntmps53
      go_wp2
      clear x0 x1 x2 hB0
      refine start_ (n := 24) (S := SC W ⟨cr, 0, ca⟩) (ds := []) (bl_ [0, 24]) (by kernel_rfl) (by kernel_rfl) rfl hS0 (fun _ => ?_)
      refine with_tab tab_53_4_ (fun HT_ => ?_)
      refine takes_ [0] 23 (bl_ [1, 23]) rfl HT_.out (by kernel_rfl) hS0 (a' := ?_) ?_ ?_
      rotate_left
      · repeat (first | exact rfl | (refine tkN rfl rfl (fun _ _ _ h => h) (by rfl) (by simp only [Act.put, List.setIfInBounds_toArray, List.set_cons_zero, List.set_cons_succ, i64_w, i32_w]; rfl) ?_) | (refine tkY rfl rfl (fun _ _ _ h => h) (by rfl) (fun w' hw' => by (obtain ⟨⟨s0, s1, s2⟩, _⟩ := hw'; go_simp; with_reducible rfl)) (by simp only [Act.put, List.setIfInBounds_toArray, List.set_cons_zero, List.set_cons_succ, i64_w, i32_w]; rfl) ?_))
      refine one_ (i := 1) (N := some 21) (bl_ [2, 22]) rfl rfl (one_of HT_.out (by kernel_rfl)) (by decide) (fun K hK => ?_)
      refine goes_ Try.func65 (by kernel_rfl) rfl #[.agg #[.int .i32 cr, .int .i64 0, .int .i64 ca]] (by rfl) rfl rfl (by (try simp only [List.map_toArray, List.map_cons, List.map_nil]); first | done | rfl) ?_
      refine (isPad_ _ _ _ _).mono ?_
      rintro e w1 ⟨rfl, hb1⟩
      have hS1 := hS0.next hb1
      rw [hp]
      refine ⟨_, rfl, hK.out _ _ hS1 (fun _ => ?_)⟩
      refine norm_ (a' := ?_) ?_ ?_
      rotate_left
      · show Act.put _ (some 21) _ = _
        simp only [Act.put, List.setIfInBounds_toArray, List.set_cons_zero, List.set_cons_succ]
        rfl
      refine takes_ (List.range' 2 22) 0 (bl_ [24]) rfl HT_.out (by kernel_rfl) hS1 (a' := ?_) ?_ ?_
      rotate_left
      · repeat (first | exact rfl | (refine tkN rfl rfl (fun _ _ _ h => h) (by rfl) (by simp only [Act.put, List.setIfInBounds_toArray, List.set_cons_zero, List.set_cons_succ, i64_w, i32_w]; rfl) ?_) | (refine tkY rfl rfl (fun _ _ _ h => h) (by rfl) (fun w' hw' => by (obtain ⟨⟨s0, s1, s2⟩, _⟩ := hw'; go_simp; with_reducible rfl)) (by simp only [Act.put, List.setIfInBounds_toArray, List.set_cons_zero, List.set_cons_succ, i64_w, i32_w]; rfl) ?_))
      refine done_ (done_of HT_.out (by kernel_rfl)) ?_
      go_wp2
      go_ret
      exact ⟨by simp [cz], hS1.2.out.2⟩

  · rw [if_neg c0]
    have q0 : (cw == 0) = false := by simp [c0]
    by_cases c1 : cw = 1
    · rw [if_pos c1]
      subst c1
      obtain ⟨x0, x1, x2⟩ := blk3 hB0
      go_enter Try.func53, Try.ntmps53
      go_wp2
      clear x0 x1 x2 hB0
      refine start_ (n := 24) (S := SC W ⟨cr, 1, ca⟩) (ds := []) (bl_ [0, 24]) (by kernel_rfl) (by kernel_rfl) rfl hS0 (fun _ => ?_)
      refine with_tab tab_53_4_ (fun HT_ => ?_)
      refine takes_ [0] 23 (bl_ [1, 23]) rfl HT_.out (by kernel_rfl) hS0 (a' := ?_) ?_ ?_
      rotate_left
      · repeat (first | exact rfl | (refine tkN rfl rfl (fun _ _ _ h => h) (by rfl) (by simp only [Act.put, List.setIfInBounds_toArray, List.set_cons_zero, List.set_cons_succ, i64_w, i32_w]; rfl) ?_) | (refine tkY rfl rfl (fun _ _ _ h => h) (by rfl) (fun w' hw' => by (obtain ⟨⟨s0, s1, s2⟩, _⟩ := hw'; go_simp; with_reducible rfl)) (by simp only [Act.put, List.setIfInBounds_toArray, List.set_cons_zero, List.set_cons_succ, i64_w, i32_w]; rfl) ?_))
      refine one_ (i := 1) (N := some 21) (bl_ [2, 22]) rfl rfl (one_of HT_.out (by kernel_rfl)) (by decide) (fun K hK => ?_)
      refine goes_ Try.func65 (by kernel_rfl) rfl #[.agg #[.int .i32 cr, .int .i64 1, .int .i64 ca]] (by rfl) rfl rfl (by (try simp only [List.map_toArray, List.map_cons, List.map_nil]); first | done | rfl) ?_
      refine (isPad_ _ _ _ _).mono ?_
      rintro e w1 ⟨rfl, hb1⟩
      have hS1 := hS0.next hb1
      rw [hp]
      refine ⟨_, rfl, hK.out _ _ hS1 (fun _ => ?_)⟩
      refine norm_ (a' := ?_) ?_ ?_
      rotate_left
      · show Act.put _ (some 21) _ = _
        simp only [Act.put, List.setIfInBounds_toArray, List.set_cons_zero, List.set_cons_succ]
        rfl
      refine takes_ (List.range' 2 17) 5 (bl_ [19, 5]) rfl HT_.out (by kernel_rfl) hS1 (a' := ?_) ?_ ?_
      rotate_left
      · repeat (first | exact rfl | (refine tkN rfl rfl (fun _ _ _ h => h) (by rfl) (by simp only [Act.put, List.setIfInBounds_toArray, List.set_cons_zero, List.set_cons_succ, i64_w, i32_w]; rfl) ?_) | (refine tkY rfl rfl (fun _ _ _ h => h) (by rfl) (fun w' hw' => by (obtain ⟨⟨s0, s1, s2⟩, _⟩ := hw'; go_simp; with_reducible rfl)) (by simp only [Act.put, List.setIfInBounds_toArray, List.set_cons_zero, List.set_cons_succ, i64_w, i32_w]; rfl) ?_))
      refine one_ (i := 19) (N := some 39) (bl_ [20, 4]) rfl rfl (one_of HT_.out (by kernel_rfl)) (by decide) (fun K hK => ?_)
      refine goes_ Try.func66 (by kernel_rfl) rfl #[.int .i32 cr] (by rfl) rfl rfl (by (try simp only [List.map_toArray, List.map_cons, List.map_nil]); first | done | rfl) ?_
      refine (widthOf_ _ _).mono ?_
      rintro e w2 ⟨rfl, hb2⟩
      have hS2 := hS1.next hb2
      refine ⟨_, rfl, hK.out _ _ hS2 (fun _ => ?_)⟩
      refine norm_ (a' := ?_) ?_ ?_
      rotate_left
      · show Act.put _ (some 39) _ = _
        simp only [Act.put, List.setIfInBounds_toArray, List.set_cons_zero, List.set_cons_succ]
        rfl
      refine takes_ (List.range' 20 4) 0 (bl_ [24]) rfl HT_.out (by kernel_rfl) hS2 (a' := ?_) ?_ ?_
      rotate_left
      · repeat (first | exact rfl | (refine tkN rfl rfl (fun _ _ _ h => h) (by rfl) (by simp only [Act.put, List.setIfInBounds_toArray, List.set_cons_zero, List.set_cons_succ, i64_w, i32_w]; rfl) ?_) | (refine tkY rfl rfl (fun _ _ _ h => h) (by rfl) (fun w' hw' => by (obtain ⟨⟨s0, s1, s2⟩, _⟩ := hw'; go_simp; with_reducible rfl)) (by simp only [Act.put, List.setIfInBounds_toArray, List.set_cons_zero, List.set_cons_succ, i64_w, i32_w]; rfl) ?_))
      refine done_ (done_of HT_.out (by kernel_rfl)) ?_
      go_wp2
      go_ret
      exact ⟨by simp, hS2.2.out.2⟩

    · rw [if_neg c1]
      have q1 : (cw == 1) = false := by simp [c1]
      by_cases c2 : cw = 2
      · rw [if_pos c2]
        subst c2
        obtain ⟨x0, x1, x2⟩ := blk3 hB0
        go_enter Try.func53, Try.ntmps53
        go_wp2
        clear x0 x1 x2 hB0
        refine start_ (n := 24) (S := SC W ⟨cr, 2, ca⟩) (ds := []) (bl_ [0, 24]) (by kernel_rfl) (by kernel_rfl) rfl hS0 (fun _ => ?_)
        refine with_tab tab_53_4_ (fun HT_ => ?_)
        refine takes_ [0] 23 (bl_ [1, 23]) rfl HT_.out (by kernel_rfl) hS0 (a' := ?_) ?_ ?_
        rotate_left
        · repeat (first | exact rfl | (refine tkN rfl rfl (fun _ _ _ h => h) (by rfl) (by simp only [Act.put, List.setIfInBounds_toArray, List.set_cons_zero, List.set_cons_succ, i64_w, i32_w]; rfl) ?_) | (refine tkY rfl rfl (fun _ _ _ h => h) (by rfl) (fun w' hw' => by (obtain ⟨⟨s0, s1, s2⟩, _⟩ := hw'; go_simp; with_reducible rfl)) (by simp only [Act.put, List.setIfInBounds_toArray, List.set_cons_zero, List.set_cons_succ, i64_w, i32_w]; rfl) ?_))
        refine one_ (i := 1) (N := some 21) (bl_ [2, 22]) rfl rfl (one_of HT_.out (by kernel_rfl)) (by decide) (fun K hK => ?_)
        refine goes_ Try.func65 (by kernel_rfl) rfl #[.agg #[.int .i32 cr, .int .i64 2, .int .i64 ca]] (by rfl) rfl rfl (by (try simp only [List.map_toArray, List.map_cons, List.map_nil]); first | done | rfl) ?_
        refine (isPad_ _ _ _ _).mono ?_
        rintro e w1 ⟨rfl, hb1⟩
        have hS1 := hS0.next hb1
        rw [hp]
        refine ⟨_, rfl, hK.out _ _ hS1 (fun _ => ?_)⟩
        refine norm_ (a' := ?_) ?_ ?_
        rotate_left
        · show Act.put _ (some 21) _ = _
          simp only [Act.put, List.setIfInBounds_toArray, List.set_cons_zero, List.set_cons_succ]
          rfl
        refine takes_ (List.range' 2 17) 5 (bl_ [19, 5]) rfl HT_.out (by kernel_rfl) hS1 (a' := ?_) ?_ ?_
        rotate_left
        · repeat (first | exact rfl | (refine tkN rfl rfl (fun _ _ _ h => h) (by rfl) (by simp only [Act.put, List.setIfInBounds_toArray, List.set_cons_zero, List.set_cons_succ, i64_w, i32_w]; rfl) ?_) | (refine tkY rfl rfl (fun _ _ _ h => h) (by rfl) (fun w' hw' => by (obtain ⟨⟨s0, s1, s2⟩, _⟩ := hw'; go_simp; with_reducible rfl)) (by simp only [Act.put, List.setIfInBounds_toArray, List.set_cons_zero, List.set_cons_succ, i64_w, i32_w]; rfl) ?_))
        refine one_ (i := 19) (N := some 39) (bl_ [20, 4]) rfl rfl (one_of HT_.out (by kernel_rfl)) (by decide) (fun K hK => ?_)
        refine goes_ Try.func66 (by kernel_rfl) rfl #[.int .i32 cr] (by rfl) rfl rfl (by (try simp only [List.map_toArray, List.map_cons, List.map_nil]); first | done | rfl) ?_
        refine (widthOf_ _ _).mono ?_
        rintro e w2 ⟨rfl, hb2⟩
        have hS2 := hS1.next hb2
        refine ⟨_, rfl, hK.out _ _ hS2 (fun _ => ?_)⟩
        refine norm_ (a' := ?_) ?_ ?_
        rotate_left
        · show Act.put _ (some 39) _ = _
          simp only [Act.put, List.setIfInBounds_toArray, List.set_cons_zero, List.set_cons_succ]
          rfl
        refine takes_ (List.range' 20 4) 0 (bl_ [24]) rfl HT_.out (by kernel_rfl) hS2 (a' := ?_) ?_ ?_
        rotate_left
        · repeat (first | exact rfl | (refine tkN rfl rfl (fun _ _ _ h => h) (by rfl) (by simp only [Act.put, List.setIfInBounds_toArray, List.set_cons_zero, List.set_cons_succ, i64_w, i32_w]; rfl) ?_) | (refine tkY rfl rfl (fun _ _ _ h => h) (by rfl) (fun w' hw' => by (obtain ⟨⟨s0, s1, s2⟩, _⟩ := hw'; go_simp; with_reducible rfl)) (by simp only [Act.put, List.setIfInBounds_toArray, List.set_cons_zero, List.set_cons_succ, i64_w, i32_w]; rfl) ?_))
        refine done_ (done_of HT_.out (by kernel_rfl)) ?_
        go_wp2
        go_ret
        exact ⟨by simp, hS2.2.out.2⟩

      · rw [if_neg c2]
        have q2 : (cw == 2) = false := by simp [c2]
        obtain ⟨x0, x1, x2⟩ := blk3 hB0
        go_enter Try.func53, Try.ntmps53
        go_wp2
        clear x0 x1 x2 hB0
        refine start_ (n := 24) (S := SC W ⟨cr, cw, ca⟩) (ds := []) (bl_ [0, 24]) (by kernel_rfl) (by kernel_rfl) rfl hS0 (fun _ => ?_)
        refine with_tab tab_53_4_ (fun HT_ => ?_)
        refine takes_ [0] 23 (bl_ [1, 23]) rfl HT_.out (by kernel_rfl) hS0 (a' := ?_) ?_ ?_
        rotate_left
        · repeat (first | exact rfl | (refine tkN rfl rfl (fun _ _ _ h => h) (by rfl) (by simp only [Act.put, List.setIfInBounds_toArray, List.set_cons_zero, List.set_cons_succ, i64_w, i32_w]; rfl) ?_) | (refine tkY rfl rfl (fun _ _ _ h => h) (by rfl) (fun w' hw' => by (obtain ⟨⟨s0, s1, s2⟩, _⟩ := hw'; go_simp; with_reducible rfl)) (by simp only [Act.put, List.setIfInBounds_toArray, List.set_cons_zero, List.set_cons_succ, i64_w, i32_w]; rfl) ?_))
        refine one_ (i := 1) (N := some 21) (bl_ [2, 22]) rfl rfl (one_of HT_.out (by kernel_rfl)) (by decide) (fun K hK => ?_)
        refine goes_ Try.func65 (by kernel_rfl) rfl #[.agg #[.int .i32 cr, .int .i64 cw, .int .i64 ca]] (by rfl) rfl rfl (by (try simp only [List.map_toArray, List.map_cons, List.map_nil]); first | done | rfl) ?_
        refine (isPad_ _ _ _ _).mono ?_
        rintro e w1 ⟨rfl, hb1⟩
        have hS1 := hS0.next hb1
        rw [hp]
        refine ⟨_, rfl, hK.out _ _ hS1 (fun _ => ?_)⟩
        refine norm_ (a' := ?_) ?_ ?_
        rotate_left
        · show Act.put _ (some 21) _ = _
          simp only [Act.put, List.setIfInBounds_toArray, List.set_cons_zero, List.set_cons_succ]
          rfl
        refine takes_ (List.range' 2 22) 0 (bl_ [24]) rfl HT_.out (by kernel_rfl) hS1 (a' := ?_) ?_ ?_
        rotate_left
        · repeat (first | exact rfl | (refine tkN rfl rfl (fun _ _ _ h => h) (by rfl) (by simp only [Act.put, List.setIfInBounds_toArray, List.set_cons_zero, List.set_cons_succ, i64_w, i32_w]; rfl) ?_) | (refine tkY rfl rfl (fun _ _ _ h => h) (by rfl) (fun w' hw' => by (obtain ⟨⟨s0, s1, s2⟩, _⟩ := hw'; go_simp; with_reducible rfl)) (by simp only [Act.put, List.setIfInBounds_toArray, List.set_cons_zero, List.set_cons_succ, i64_w, i32_w]; rfl) ?_))
        refine done_ (done_of HT_.out (by kernel_rfl)) ?_
        go_wp2
        go_ret
        exact ⟨by simp, hS1.2.out.2⟩
theorem cell_May.calls (k : Nat) (a0_0 : Int) (a0_1 : Int) (a0_2 : Int) (r : Bool) (w : World) (h : cell_May.f k a0_0 a0_1 a0_2 = some r) :
    Calls Try.prog 53 #[.agg #[.int .i32 a0_0, .int .i64 a0_1, .int .i64 a0_2]] w fun e w' => e = .returned (.bool r) ∧ Below w.heap.size w w' := by
  rw [cell_May.f_eq h]
  exact cell_May.walk a0_0 a0_1 a0_2 w
end Go.Proofs.Ytkigdcihhlkkdaa.P
end
section
namespace Go.Proofs.Ytkigdcihhlkkdaa.P
open Go.RowKit Go.Proofs.YtkigdcihhlkkdaaW.PrintWords Go.Proofs.YtkigdcihhlkkdaaW.PrintLast Go.Proofs.YtkigdcihhlkkdaaW.PrintMore
attribute [local go_sem] max2_int min2_int max_two min_two max_three min_three max_four min_four   -- for this text's walks alone
set_option linter.unusedVariables false
set_option linter.unusedSimpArgs false
def pack_May.l0 : Nat → Bool → Int → List (S45) → Int → Int → Option (Bool)
  | 0, _, _, _, _, _ => none
  | k + 1, x3, x4, x12, x13, x14 => if x14 < x13 then (if 0 ≤ x14 then (if x14 < (x12.length : Int) then ((cell_May.f k ((rd_T45 x12 x14).f0) ((rd_T45 x12 x14).f1) ((rd_T45 x12 x14).f2)).bind fun t139 => (if t139 = true then (if (x3 != (((rd_T45 x12 x14).f1) == 0)) = true then (some false) else (if x3 = true then (if ((rd_T45 x12 x14).f2) = x4 then (pack_May.l0 k (((rd_T45 x12 x14).f1) == 2) ((rd_T45 x12 x14).f2) x12 x13 (wrap64 (x14 + 1))) else (some false)) else (pack_May.l0 k (((rd_T45 x12 x14).f1) == 2) ((rd_T45 x12 x14).f2) x12 x13 (wrap64 (x14 + 1))))) else (some false))) else (none)) else (none)) else (some (!x3))
def pack_May.f (k : Nat) (l0_0 : List (S45)) (a0_1 : Bool) : Option (Bool) := if (l0_0.length : Int) > 300 then (some false) else (pack_May.l0 k false 0 l0_0 (l0_0.length : Int) 0)
theorem pack_May.mono_l : ∀ k, (∀ y0 y1 y2 y3 y4, LeO (pack_May.l0 k y0 y1 y2 y3 y4) (pack_May.l0 (k + 1) y0 y1 y2 y3 y4))
  | 0 => fun _ _ _ _ _ r h => by simp [pack_May.l0] at h
  | k + 1 => by
    have ih0 := pack_May.mono_l k
    · intro y0 y1 y2 y3 y4
      unfold pack_May.l0
      repeat' first
      | (with_reducible exact ih0 _ _ _ _ _)
      | (with_reducible exact cell_May.mono _ _ _ _)
      | (with_reducible exact LeO.refl _)
      | (with_reducible exact LeO.none _)
      | (with_reducible refine LeO.ite ?_ ?_)
      | (with_reducible refine LeO.bind ?_ (fun _ => ?_))
      | exact ih0 _ _ _ _ _
      | exact cell_May.mono _ _ _ _
      | exact LeO.none _
      | refine LeO.ite ?_ ?_
      | refine LeO.bind ?_ (fun _ => ?_)
theorem pack_May.mono : ∀ a0 a1 k, LeO (pack_May.f k a0 a1) (pack_May.f (k + 1) a0 a1) := by
  intro a0 a1 k
  have ih0 := pack_May.mono_l k
  unfold pack_May.f
  repeat' first
      | (with_reducible exact ih0 _ _ _ _ _)
      | (with_reducible exact cell_May.mono _ _ _ _)
      | (with_reducible exact LeO.refl _)
      | (with_reducible exact LeO.none _)
      | (with_reducible refine LeO.ite ?_ ?_)
      | (with_reducible refine LeO.bind ?_ (fun _ => ?_))
      | exact ih0 _ _ _ _ _
      | exact cell_May.mono _ _ _ _
      | exact LeO.none _
      | refine LeO.ite ?_ ?_
      | refine LeO.bind ?_ (fun _ => ?_)
set_option maxHeartbeats 8000000 in
set_option maxRecDepth 100000 in
theorem pack_May.calls (k : Nat) (A0_0 : Option Addr) (c0_0 : Nat) (l : List (S45)) (a0_1 : Bool) (r : Bool) (w : World) (hr0_0 : Kd.C k45 w A0_0 l.length l) (hc0_0 : l.length ≤ c0_0) (h : pack_May.f k l a0_1 = some r) :
    Calls Try.prog 26 #[.agg #[.slice A0_0 l.length c0_0, .bool a0_1]] w fun e w' => e = .returned (.bool r) ∧ Below w.heap.size w w' := by
  have hb0 : Below w.heap.size w (w.alloc (.cells #[.slice A0_0 l.length c0_0, .bool a0_1] 31)) := below_alloc (Below.refl _ _) _
  obtain ⟨x0, x1⟩ : (w.alloc (.cells #[.slice A0_0 l.length c0_0, .bool a0_1] 31)).cell? ⟨w.heap.size, 0, none⟩ = some (.slice A0_0 l.length c0_0) ∧ (w.alloc (.cells #[.slice A0_0 l.length c0_0, .bool a0_1] 31)).cell? ⟨w.heap.size, 1, none⟩ = some (.bool a0_1) := ⟨(blk_cell (blk_new w _) 0).trans rfl, (blk_cell (blk_new w _) 1).trans rfl⟩
  unfold pack_May.f at h
  by_cases hl : (l.length : Int) > 300
  · rw [if_pos hl] at h
    obtain rfl := Option.some.inj h
    clear h
    go_enter Try.func26, Try.ntmps26
    go_wp2
    go_ret
    exact ⟨rfl, hb0⟩
  rw [if_neg hl] at h
  have hh := Aside0.mk h
  clear h
  go_enter Try.func26, Try.ntmps26
  go_wp2
  go_loopg [3, 4, 14] (l.length + 1) (fun kq v3 v4 v14 w' => ∃ (i f : Nat) (o : Bool) (a : Int), v3 = .bool o ∧ v4 = .int .i64 a ∧ v14 = .int .i64 i ∧ Aside0 (i ≤ l.length ∧ kq = l.length + 1 - i ∧ pack_May.l0 f o a l (l.length : Int) (i : Int) = some r ∧ Below w.heap.size w w'))
  case atStart => exact ⟨0, k, false, 0, rfl, rfl, rfl, ⟨Nat.zero_le _, rfl, hh.out, hb0⟩⟩
  case round =>
    obtain ⟨i, f, o, a, rfl, rfl, rfl, HA⟩ := hrel
    clear hh x0 x1
    have H := HA.out.2.2.1
    cases f with
    | zero => simp [pack_May.l0] at H
    | succ f =>
    unfold pack_May.l0 at H
    by_cases hlt : i < l.length
    · rw [if_pos (by omega), if_pos (by omega), if_pos (by omega)] at H
      obtain ⟨ad, rfl, q0, q1, q2⟩ := at_T45 (Kd.C_below hr0_0 HA.out.2.2.2) (i : Int) (by omega) (by omega)
      rw [Int.toNat_natCast] at q0 q1 q2
      generalize rd_T45 l (i : Int) = c at H q0 q1 q2
      obtain ⟨t, ht, H1⟩ := Option.bind_eq_some_iff.1 H
      clear H
      have H := H1
      clear H1
      obtain ⟨cr, cw, ca⟩ := c
      dsimp only at ht H q0 q1 q2
      have hbc : Below w.heap.size w (wr.alloc (.cells #[.int .i32 cr, .int .i64 cw, .int .i64 ca] 45)) := below_alloc HA.out.2.2.2 _
      have hBc := blk_new wr (.cells #[.int .i32 cr, .int .i64 cw, .int .i64 ca] 45)
      have hcm := cell_May.calls f cr cw ca t (wr.alloc (.cells #[.int .i32 cr, .int .i64 cw, .int .i64 ca] 45)) ht
      obtain ⟨x0, x1, x2⟩ := blk3 hBc
      have hw1 : IntKind.i64.wrap ((i : Int) + 1) = (i : Int) + 1 := by rw [IntKind.wrap_i64]; omega
      have hw64 : wrap64 ((i : Int) + 1) = (i : Int) + 1 := by unfold wrap64; omega
      rw [hw64] at H
      clear hw64
      cases t with
      | false =>
        rw [if_neg (by decide)] at H
        obtain rfl := Option.some.inj H
        clear H
        go_wp2_with (first
          | (go_at_call 53; refine hcm.mono ?_; rintro e w3 ⟨rfl, hb3⟩; obtain ⟨x0, x1, x2⟩ := blk3 (blk_below hBc hb3))
          | fail)
        go_ret
        exact ⟨rfl, hbc.trans (hb3.mono hbc.size)⟩
      | true =>
        rw [if_pos rfl] at H
        cases hz : (cw == 0) with
        | true =>
          rw [hz] at H
          cases o with
          | false =>
            rw [if_pos (by decide)] at H
            obtain rfl := Option.some.inj H
            clear H
            go_wp2_with (first
              | (go_at_call 53; refine hcm.mono ?_; rintro e w3 ⟨rfl, hb3⟩; obtain ⟨x0, x1, x2⟩ := blk3 (blk_below hBc hb3))
              | fail)
            go_ret
            exact ⟨rfl, hbc.trans (hb3.mono hbc.size)⟩
          | true =>
            rw [if_neg (by decide), if_pos rfl] at H
            by_cases ha : ca = a
            · subst ha
              rw [if_pos rfl] at H
              have hne : (ca != ca) = false := by simp
              have HH := Aside0.mk H
              clear H
              go_wp2_with (first
                | (go_at_call 53; refine hcm.mono ?_; rintro e w3 ⟨rfl, hb3⟩; obtain ⟨x0, x1, x2⟩ := blk3 (blk_below hBc hb3))
                | fail)
              go_quiet (fail)
              go_wp2
              go_roundg (l.length + 1 - (i + 1))
              case measure => rw [HA.out.2.1]; omega
              case rel => exact ⟨i + 1, f, _, _, rfl, rfl, by simp, ⟨hlt, rfl, by rw [show ((i + 1 : Nat) : Int) = (i : Int) + 1 by omega]; exact HH.out, pw_below_drewN (hbc.trans (hb3.mono hbc.size)) _⟩⟩
            · rw [if_neg ha] at H
              have hne : (ca != a) = true := by simp [ha]
              obtain rfl := Option.some.inj H
              clear H
              go_wp2_with (first
                | (go_at_call 53; refine hcm.mono ?_; rintro e w3 ⟨rfl, hb3⟩; obtain ⟨x0, x1, x2⟩ := blk3 (blk_below hBc hb3))
                | fail)
              go_ret
              exact ⟨rfl, hbc.trans (hb3.mono hbc.size)⟩
        | false =>
          rw [hz] at H
          cases o with
          | true =>
            rw [if_pos (by decide)] at H
            obtain rfl := Option.some.inj H
            clear H
            go_wp2_with (first
              | (go_at_call 53; refine hcm.mono ?_; rintro e w3 ⟨rfl, hb3⟩; obtain ⟨x0, x1, x2⟩ := blk3 (blk_below hBc hb3))
              | fail)
            go_ret
            exact ⟨rfl, hbc.trans (hb3.mono hbc.size)⟩
          | false =>
            rw [if_neg (by decide), if_neg (by decide)] at H
            have HH := Aside0.mk H
            clear H
            go_wp2_with (first
              | (go_at_call 53; refine hcm.mono ?_; rintro e w3 ⟨rfl, hb3⟩; obtain ⟨x0, x1, x2⟩ := blk3 (blk_below hBc hb3))
              | fail)
            go_quiet (fail)
            go_wp2
            go_roundg (l.length + 1 - (i + 1))
            case measure => rw [HA.out.2.1]; omega
            case rel => exact ⟨i + 1, f, _, _, rfl, rfl, by simp, ⟨hlt, rfl, by rw [show ((i + 1 : Nat) : Int) = (i : Int) + 1 by omega]; exact HH.out, pw_below_drewN (hbc.trans (hb3.mono hbc.size)) _⟩⟩
    · rw [if_neg (by omega)] at H
      obtain rfl := Option.some.inj H
      clear H
      go_wp2
      go_ret
      exact ⟨rfl, HA.out.2.2.2⟩
end Go.Proofs.Ytkigdcihhlkkdaa.P
end
section
namespace Go.Proofs.Ytkigdcihhlkkdaa.P
open Go.RowKit Go.Proofs.YtkigdcihhlkkdaaW.PrintWords Go.Proofs.YtkigdcihhlkkdaaW.PrintLast Go.Proofs.YtkigdcihhlkkdaaW.PrintMore
attribute [local go_sem] max2_int min2_int max_two min_two max_three min_three max_four min_four   -- for this text's walks alone
set_option linter.unusedVariables false
set_option linter.unusedSimpArgs false
attribute [local go_sem high] eqA45
def same45 (a b : S45) : Bool := a.f0 == b.f0 && (a.f1 == b.f1 && a.f2 == b.f2)
def step78 (l : List S78) (c : S45) : List S78 :=
  if 0 < l.length ∧ same45 (rd_T78 l ((l.length - 1 : Nat) : Int)).f1 c = true then l.set (l.length - 1) ⟨wrap64 ((rd_T78 l ((l.length - 1 : Nat) : Int)).f0 + 1), (rd_T78 l ((l.length - 1 : Nat) : Int)).f1⟩ else l ++ [⟨1, c⟩]
def runs78 (l : List S45) : List S78 := l.foldl step78 []
def pack_runs.f (l0 : List S45) (_a1 : Bool) : Option (List S78) := if l0.length ≤ 1000000000 then some (runs78 l0) else none
theorem step78_len (l : List S78) (c : S45) : (step78 l c).length ≤ l.length + 1 := by
  unfold step78
  split <;> simp
theorem runs78_len : ∀ (l : List S45) (a : List S78), (l.foldl step78 a).length ≤ a.length + l.length
  | [], a => by simp
  | c :: l, a => by
    have h1 := runs78_len l (step78 a c)
    have h2 := step78_len a c
    simp only [List.foldl_cons, List.length_cons]
    omega
theorem runs_take (l : List S45) (i : Nat) (hi : i < l.length) : runs78 (l.take (i + 1)) = step78 (runs78 (l.take i)) (rd_T45 l (i : Int)) := by
  unfold runs78
  rw [List.take_add_one, List.getElem?_eq_getElem hi, Option.toList_some, List.foldl_append, rd_T45, List.getD_eq_getElem?_getD, Int.toNat_natCast, List.getElem?_eq_getElem hi]
  rfl
set_option maxHeartbeats 8000000 in
set_option maxRecDepth 100000 in
theorem pack_runs.calls (A0_0 : Option Addr) (c0_0 : Nat) (l0_0 : List (S45)) (a0_1 : Bool) (r : List (S78)) (w : World) (hr0_0 : Kd.C k45 w A0_0 l0_0.length l0_0) (hc0_0 : l0_0.length ≤ c0_0) (h : pack_runs.f l0_0 a0_1 = some r) :
    Calls Try.prog 52 #[.agg #[.slice A0_0 l0_0.length c0_0, .bool a0_1]] w fun e w' => ∃ v0_ : Value, e = .returned (v0_) ∧ Kd.R k78 78 w' w.heap.size (fun _ => True) v0_ r ∧ Below w.heap.size w w' := by
  unfold pack_runs.f at h
  split at h
  case isFalse => cases h
  case isTrue hlen =>
  obtain rfl := Option.some.inj h
  have hu78 := Try.underlying78
  go_enter Try.func52, Try.ntmps52
  go_wp2
  go_loopg [3, 9] (l0_0.length + 1) (fun kq v3 v9 w' => ∃ (i : Nat), v9 = .int .i64 (i : Int) ∧ Aside0 (i ≤ l0_0.length ∧ Kd.R k78 78 w' w.heap.size (fun _ => True) v3 (runs78 (l0_0.take i)) ∧ Below w.heap.size w w' ∧ l0_0.length < kq + i))
  case atStart => exact ⟨0, rfl, ⟨Nat.zero_le _, by rw [List.take_zero]; exact Kd.R_nil _ _ _ _ _, below_alloc (Below.refl _ _) _, by omega⟩⟩
  case round =>
    obtain ⟨i, rfl, HA⟩ := hrel
    by_cases hi : i < l0_0.length
    · obtain ⟨ad, rfl, hx0, hx1, hx2⟩ := at_T45 (Kd.C_below hr0_0 HA.out.2.2.1) (i : Int) (by omega) (by omega)
      rw [Int.toNat_natCast] at hx0 hx1 hx2
      have hR := HA.out.2.1
      have hll := runs78_len (l0_0.take i) []
      have htk := runs_take l0_0 i hi
      generalize hgx : rd_T45 l0_0 (i : Int) = cx at hx0 hx1 hx2 htk
      change (runs78 (l0_0.take i)).length ≤ 0 + (l0_0.take i).length at hll
      rw [List.length_take] at hll
      generalize hge : runs78 (l0_0.take i) = x3 at hR hll htk
      clear hge
      obtain ⟨A3, c3, rfl⟩ := Kd.R_slice hR
      have hw9 : IntKind.i64.wrap ((i : Int) + 1) = (i : Int) + 1 := by rw [IntKind.wrap_i64]; omega
      have hWs : ∀ q, ((wr.alloc (.cells #[.int .i32 cx.f0, .int .i64 cx.f1, .int .i64 cx.f2] 45)).drewN q).heap.size = wr.heap.size + 1 := fun q => by show (wr.alloc _).heap.size = _; simp
      rcases Nat.eq_zero_or_pos x3.length with hz | hz
      · rw [hz]
        rw [hz] at hR
        have hst : step78 x3 cx = x3 ++ [⟨1, cx⟩] := by unfold step78; rw [if_neg (fun h => by omega)]
        have hRd := Kd.R_drewN (Kd.R_alloc hR (.cells #[.int .i32 cx.f0, .int .i64 cx.f1, .int .i64 cx.f2] 45))
        have hBd0 := below_alloc HA.out.2.2.1 (.cells #[.int .i32 cx.f0, .int .i64 cx.f1, .int .i64 cx.f2] 45)
        go_wp2
        go_quiet (fail)
        have hBd := pw_below_drewN hBd0 nq
        have hRd := hRd nq
        go_wp2_with (first
          | ((with_reducible refine gate_builtin (b := .append) rfl ?_)
             refine Kd.R_append k78 (w0 := w) (W := (wr.alloc (.cells #[.int .i32 cx.f0, .int .i64 cx.f1, .int .i64 cx.f2] 45)).drewN nq) w.heap.size (by rfl) (.tmp 37) (.tmp 40) 75 78 (.agg #[(.int .i64 0), (.int .i32 0), (.int .i64 0), (.int .i64 0)]) 32 (by rfl) Try.underlying75 info78 rfl (by decide) (by decide) (.slice A3 0 c3) x3 ⟨1, cx⟩ [.int .i64 1, .int .i32 cx.f0, .int .i64 cx.f1, .int .i64 cx.f2] (fun _ => True) (fun _ => False) (by rfl) (by rw [hWs nq]; rfl) (k78_mkM _ _ _ ⟨1, cx⟩) (fun _ hk => hk.elim) (fun _ _ => trivial) hRd hBd hBd.size (by omega) ?_
             intro v5 w5 hO5 hB5 hg5 hat5)
          | fail)
        go_roundg (gk - 1)
        case measure => have := HA.out.2.2.2; omega
        case rel => exact ⟨i + 1, by simp, ⟨by omega, by rw [htk, hst]; exact hO5, hB5, by have := HA.out.2.2.2; omega⟩⟩
      · have hRa := Kd.R_alloc hR (.cells #[.int .i32 cx.f0, .int .i64 cx.f1, .int .i64 cx.f2] 45)
        obtain ⟨ad3, hA3, _⟩ := at_T78 (Kd.R_reads' hRa).2.2 ((x3.length - 1 : Nat) : Int) (by omega) (by omega)
        subst hA3
        obtain ⟨g3, rfl⟩ := Kd.R_head hRa
        obtain ⟨m, hm⟩ : ∃ m, x3.length = m + 1 := ⟨x3.length - 1, by omega⟩
        obtain ⟨cs, hcl, hM, hcc, hfz⟩ := Kd.R_elem hRa z78 (m : Int) (by omega) (by omega)
        generalize hgy : x3.getD (m : Int).toNat z78 = y at hM
        rw [Int.toNat_natCast] at hgy
        have hGY := Aside0.mk hgy
        clear hgy
        obtain rfl := k78_openM hM
        have hsz : k78.sz = 4 := rfl
        rw [Int.toNat_natCast, hsz] at hcc hfz
        have q0 := hcc 0 _ rfl
        have q1 := hcc 1 _ rfl
        have q2 := hcc 2 _ rfl
        have q3 := hcc 3 _ rfl
        have f0 := hfz 0
        rw [Nat.add_zero] at q0 f0
        rw [hm]
        have hw1 : IntKind.i64.wrap (m : Int) = m := by rw [IntKind.wrap_i64]; omega
        have hw2 : (m : Int) < (m : Int) + 1 := by omega
        have hw3 : (0 : Int) < (m : Int) + 1 := by omega
        have hw4 : (0 : Int) ≤ (m : Int) := by omega
        cases hsm : same45 y.f1 cx with
        | true =>
          have hsm' := hsm
          unfold same45 at hsm'
          have hst : step78 x3 cx = x3.set m ⟨wrap64 (y.f0 + 1), y.f1⟩ := by
            unfold step78
            have e : rd_T78 x3 ((x3.length - 1 : Nat) : Int) = y := by rw [rd_T78, Int.toNat_natCast, hm, Nat.add_sub_cancel]; exact hGY.out
            rw [e, if_pos ⟨hz, hsm⟩, hm, Nat.add_sub_cancel]
          go_wp2
          go_quiet (fail)
          go_wp2
          have hRd := Kd.R_drewN hRa nq
          have hb3 := Kd.R_base hRa g3 rfl
          rw [hm] at hRd
          have hcc2 : ∀ j u, [Value.int .i64 y.f0, .int .i32 y.f1.f0, .int .i64 y.f1.f1, .int .i64 y.f1.f2][j]? = some u → ((wr.alloc (.cells #[.int .i32 cx.f0, .int .i64 cx.f1, .int .i64 cx.f2] 45)).drewN nq).cell? ⟨g3, (m : Int).toNat * k78.sz + j, none⟩ = some u := fun j u hu => by rw [Int.toNat_natCast, hsz]; exact hcc j u hu
          have hseg := (Kd.R_seg hRd (m : Int) (by omega) (by omega) (j := 0) (seg := [.int .i64 (wrap64 (y.f0 + 1))]) rfl hcc2 (by rw [hsz]; simp) (okp := fun _ => False) (x' := ⟨wrap64 (y.f0 + 1), y.f1⟩) (k78_mkM _ _ _ ⟨wrap64 (y.f0 + 1), y.f1⟩) (fun _ hk => hk.elim)).1
          rw [Int.toNat_natCast, hsz, Nat.add_zero] at hseg
          go_roundg (gk - 1)
          case measure => have := HA.out.2.2.2; omega
          case rel => exact ⟨i + 1, by simp, ⟨by omega, by rw [htk, hst]; exact hseg, below_set (pw_below_drewN (below_alloc HA.out.2.2.1 _) nq) hb3, by have := HA.out.2.2.2; omega⟩⟩
        | false =>
          have hsm' := hsm
          unfold same45 at hsm'
          rw [hm] at hR
          have hst : step78 x3 cx = x3 ++ [⟨1, cx⟩] := by
            unfold step78
            have e : rd_T78 x3 ((x3.length - 1 : Nat) : Int) = y := by rw [rd_T78, Int.toNat_natCast, hm, Nat.add_sub_cancel]; exact hGY.out
            rw [e, if_neg (fun h => by rw [hsm] at h; exact absurd h.2 (by simp))]
          have hRd := Kd.R_drewN (Kd.R_alloc hR (.cells #[.int .i32 cx.f0, .int .i64 cx.f1, .int .i64 cx.f2] 45))
          have hBd0 := below_alloc HA.out.2.2.1 (.cells #[.int .i32 cx.f0, .int .i64 cx.f1, .int .i64 cx.f2] 45)
          go_wp2
          go_quiet (fail)
          have hBd := pw_below_drewN hBd0 nq
          have hRd := hRd nq
          go_wp2_with (first
            | ((with_reducible refine gate_builtin (b := .append) rfl ?_)
               refine Kd.R_append k78 (w0 := w) (W := (wr.alloc (.cells #[.int .i32 cx.f0, .int .i64 cx.f1, .int .i64 cx.f2] 45)).drewN nq) w.heap.size (by rfl) (.tmp 37) (.tmp 40) 75 78 (.agg #[(.int .i64 0), (.int .i32 0), (.int .i64 0), (.int .i64 0)]) 32 (by rfl) Try.underlying75 info78 rfl (by decide) (by decide) (.slice (some ⟨g3, 0, none⟩) (m + 1) c3) x3 ⟨1, cx⟩ [.int .i64 1, .int .i32 cx.f0, .int .i64 cx.f1, .int .i64 cx.f2] (fun _ => True) (fun _ => False) (by rfl) (by rw [hWs nq]; rfl) (k78_mkM _ _ _ ⟨1, cx⟩) (fun _ hk => hk.elim) (fun _ _ => trivial) hRd hBd hBd.size (by omega) ?_
               intro v5 w5 hO5 hB5 hg5 hat5)
            | fail)
          go_roundg (gk - 1)
          case measure => have := HA.out.2.2.2; omega
          case rel => exact ⟨i + 1, by simp, ⟨by omega, by rw [htk, hst]; exact hO5, hB5, by have := HA.out.2.2.2; omega⟩⟩
    · go_wp2
      go_ret
      have he : i = l0_0.length := by have := HA.out.1; omega
      subst he
      have hall := HA.out
      rw [List.take_length] at hall
      exact ⟨_, rfl, hall.2.1, hall.2.2.1⟩
end Go.Proofs.Ytkigdcihhlkkdaa.P
end
