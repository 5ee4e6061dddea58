-- the contract by hand; else written by a print that this session turned (wip/tools/turnprint.py)
import Derived.Test.YtkigdcihhlkkdaaIZ0
import Derived.Test.YtkigdcihhlkkdaaIZ1
namespace Go.Proofs.Ytkigdcihhlkkdaa.P
open Go.RowKit Go.Proofs.YtkigdcihhlkkdaaW.PrintWords Go.Proofs.YtkigdcihhlkkdaaW.PrintLast Go.Proofs.YtkigdcihhlkkdaaW.PrintMore
attribute [local go_sem] max2_int min2_int max_two min_two max_three min_three max_four min_four   -- for this text's walks alone
set_option linter.unusedVariables false
set_option linter.unusedSimpArgs false
def cell_May.j0 : Nat → Bool → Int → Int → Int → Option (Bool)
  | 0, _, _, _, _ => none
  | k + 1, x11, x130000, x130001, x130002 => if x11 = true then (some false) else (if x130001 = 0 then ((cell_IsPad.f x130000 x130001 x130002).bind fun t130 => (if t130 = true then (some true) else (if x130000 = 0 then (some true) else (if x130001 = 1 then ((width_Of.f x130000).bind fun t131 => (some (x130001 == t131))) else (if x130001 = 2 then ((width_Of.f x130000).bind fun t132 => (some (x130001 == t132))) else (some false)))))) else ((cell_IsPad.f x130000 x130001 x130002).bind fun t133 => (if t133 = true then (some true) else (if x130001 = 1 then ((width_Of.f x130000).bind fun t134 => (some (x130001 == t134))) else (if x130001 = 2 then ((width_Of.f x130000).bind fun t135 => (some (x130001 == t135))) else (some false))))))
def cell_May.f (k : Nat) (a0_0 : Int) (a0_1 : Int) (a0_2 : Int) : Option (Bool) := if a0_2 < 0 then (cell_May.j0 k true a0_0 a0_1 a0_2) else (cell_May.j0 k (decide (a0_2 > 255)) a0_0 a0_1 a0_2)
theorem cell_May.mono_l : ∀ k, (∀ y0 y1 y2 y3, LeO (cell_May.j0 k y0 y1 y2 y3) (cell_May.j0 (k + 1) y0 y1 y2 y3))
  | 0 => fun _ _ _ _ r h => by simp [cell_May.j0] at h
  | k + 1 => by
    have ih0 := cell_May.mono_l k
    · intro y0 y1 y2 y3
      unfold cell_May.j0
      repeat' first
      | (with_reducible exact ih0 _ _ _ _)
      | (with_reducible exact LeO.refl _)
      | (with_reducible exact LeO.none _)
      | (with_reducible refine LeO.ite ?_ ?_)
      | (with_reducible refine LeO.bind ?_ (fun _ => ?_))
      | exact ih0 _ _ _ _
      | exact LeO.none _
      | refine LeO.ite ?_ ?_
      | refine LeO.bind ?_ (fun _ => ?_)
theorem cell_May.mono : ∀ a0 a1 a2 k, LeO (cell_May.f k a0 a1 a2) (cell_May.f (k + 1) a0 a1 a2) := by
  intro a0 a1 a2 k
  have ih0 := cell_May.mono_l k
  unfold cell_May.f
  repeat' first
      | (with_reducible exact ih0 _ _ _ _)
      | (with_reducible exact LeO.refl _)
      | (with_reducible exact LeO.none _)
      | (with_reducible refine LeO.ite ?_ ?_)
      | (with_reducible refine LeO.bind ?_ (fun _ => ?_))
      | exact ih0 _ _ _ _
      | exact LeO.none _
      | refine LeO.ite ?_ ?_
      | refine LeO.bind ?_ (fun _ => ?_)
def tab_53_4 : Bool × List (List Nat × List Nat) := (true, [([], []), ([0], [0]), ([1, 1], [1]), ([2], [2]), ([2, 3], [2, 3]), ([4, 2], [4]), ([5], [5]), ([6, 5], [5, 6]), ([7, 5], [5, 7]), ([8, 5, 5], [5, 8]), ([9], [9]), ([10, 9], [9, 10]), ([11, 9], [9, 11]), ([9, 12, 5], [5, 9, 12]), ([13, 9, 5], [5, 13]), ([14], [14]), ([15, 14], [14, 15]), ([14], [14]), ([17, 14], [14, 17]), ([18, 14, 14], [14, 18]), ([16, 19, 14], [14, 16, 19]), ([14, 20, 5], [5, 14, 20]), ([5, 21], [5, 21]), ([22, 19, 0, 1, 2, 3, 4, 5, 6, 7, 8, 9, 10, 11, 12, 13, 14, 15, 16, 17, 18, 19, 20, 21, 22], [22])])
theorem tab_53_4_ : rtab .any (opsOf Try.f53 4) = tab_53_4 := by kernel_rfl
def wOfM (r : Int) : Int := if width_none.b r = true then 0 else if width_wide.b r = true then 2 else 1
theorem wOfM_eq (r : Int) : width_Of.f r = some (wOfM r) := by
  unfold width_Of.f width_none.f width_wide.f wOfM
  simp only [Option.bind_some]
  split
  · rfl
  · split <;> rfl
def cellM (r w a : Int) : Bool := if a < 0 then false else if a > 255 then false else if (r == 0 && (w == 1 && a == 0)) = true then true else if w = 0 then decide (r = 0) else if w = 1 then w == wOfM r else if w = 2 then w == wOfM r else false
theorem cell_May.f_eq {k : Nat} {r w a : Int} {x : Bool} (h : cell_May.f k r w a = some x) : x = cellM r w a := by
  cases k with
  | zero => unfold cell_May.f at h; split at h <;> simp [cell_May.j0] at h
  | succ k =>
    unfold cell_May.f at h
    simp only [cell_May.j0, cell_IsPad.f, cell_Pad.f, Option.bind_some, wOfM_eq] at h
    unfold cellM
    by_cases h1 : a < 0
    · rw [if_pos h1] at h ⊢
      simpa using h.symm
    · rw [if_neg h1] at h ⊢
      by_cases h2 : a > 255
      · rw [if_pos h2]
        rw [if_pos (by simpa using h2)] at h
        simpa using h.symm
      · rw [if_neg h2]
        rw [if_neg (by simpa using h2)] at h
        by_cases hp : (r == 0 && (w == 1 && a == 0)) = true
        · rw [hp] at h ⊢
          split at h <;> simpa using h.symm
        · rw [Bool.eq_false_iff.2 hp] at h ⊢
          by_cases hw : w = 0
          · rw [if_pos hw] at h
            simp only [Bool.false_eq_true, if_false] at h ⊢
            rw [if_pos hw]
            by_cases hr : r = 0
            · rw [if_pos hr] at h
              simpa [hr] using h.symm
            · rw [if_neg hr] at h
              simpa [hr, hw] using h.symm
          · rw [if_neg hw] at h
            simp only [Bool.false_eq_true, if_false] at h ⊢
            rw [if_neg hw]
            split at h
            · rename_i e; rw [if_pos e]; simpa using h.symm
            · rename_i e; rw [if_neg e]
              split at h
              · rename_i e2; rw [if_pos e2]; simpa using h.symm
              · rename_i e2; rw [if_neg e2]; simpa using h.symm
theorem isPad_ (r w a : Int) (W : World) : Calls Try.prog 65 #[.agg #[.int .i32 r, .int .i64 w, .int .i64 a]] W fun e w' => e = .returned (.bool (r == 0 && (w == 1 && a == 0))) ∧ Below W.heap.size W w' := cell_IsPad.calls r w a _ W rfl
theorem widthOf_ (r : Int) (W : World) : Calls Try.prog 66 #[.int .i32 r] W fun e w' => e = .returned (.int .i64 (wOfM r)) ∧ Below W.heap.size W w' := (width_Of.calls r _ W (wOfM_eq r)).mono fun e w' h => ⟨h.1, h.2.below⟩
set_option maxHeartbeats 8000000 in
set_option maxRecDepth 100000 in
theorem cell_May.walk (cr cw ca : Int) (W : World) : Calls Try.prog 53 #[.agg #[.int .i32 cr, .int .i64 cw, .int .i64 ca]] W fun e w' => e = .returned (.bool (cellM cr cw ca)) ∧ Below W.heap.size W w' := by
  have hb0 : Below W.heap.size W (W.alloc (.cells #[.int .i32 cr, .int .i64 cw, .int .i64 ca] 45)) := below_alloc (Below.refl _ _) _
  have hB0 := blk_new W (.cells #[.int .i32 cr, .int .i64 cw, .int .i64 ca] 45)
  have hu := Try.underlying45
  have hS0 : SC W ⟨cr, cw, ca⟩ (W.alloc (.cells #[.int .i32 cr, .int .i64 cw, .int .i64 ca] 45)).drew := SC.mk' hB0 (below_drew1 hb0)
  unfold cellM
  by_cases h1 : ca < 0
  · obtain ⟨x0, x1, x2⟩ := blk3 hB0
    go_enter Try.func53, Try.ntmps53
    go_wp2
    go_ret
    exact ⟨by simp [h1], hb0⟩
  by_cases h2 : ca > 255
  · obtain ⟨x0, x1, x2⟩ := blk3 hB0
    go_enter Try.func53, Try.ntmps53
    go_wp2
    go_ret
    exact ⟨by simp [h1, h2], hb0⟩
  rw [if_neg h1, if_neg h2]
  clear hb0
  by_cases hp : (cr == 0 && (cw == 1 && ca == 0)) = true
  · rw [if_pos hp]
    simp only [Bool.and_eq_true, beq_iff_eq] at hp
    obtain ⟨rfl, rfl, rfl⟩ := hp
    obtain ⟨x0, x1, x2⟩ := blk3 hB0
    go_enter Try.func53, Try.ntmps53
    go_wp2
    clear x0 x1 x2 hB0
    refine start_ (n := 24) (S := SC W ⟨0, 1, 0⟩) (ds := []) (bl_ [0, 24]) (by kernel_rfl) (by kernel_rfl) rfl hS0 (fun _ => ?_)
    refine with_tab tab_53_4_ (fun HT_ => ?_)
    refine takes_ [0] 23 (bl_ [1, 23]) rfl HT_.out (by kernel_rfl) hS0 (a' := ?_) ?_ ?_
    rotate_left
    · repeat (first | exact rfl | (refine tkN rfl rfl (fun _ _ _ h => h) (by rfl) (by simp only [Act.put, List.setIfInBounds_toArray, List.set_cons_zero, List.set_cons_succ, i64_w, i32_w]; rfl) ?_) | (refine tkY rfl rfl (fun _ _ _ h => h) (by rfl) (fun w' hw' => by (obtain ⟨⟨s0, s1, s2⟩, _⟩ := hw'; go_simp; with_reducible rfl)) (by simp only [Act.put, List.setIfInBounds_toArray, List.set_cons_zero, List.set_cons_succ, i64_w, i32_w]; rfl) ?_))
    refine one_ (i := 1) (N := some 21) (bl_ [2, 22]) rfl rfl (one_of HT_.out (by kernel_rfl)) (by decide) (fun K hK => ?_)
    refine goes_ Try.func65 (by kernel_rfl) rfl #[.agg #[.int .i32 0, .int .i64 1, .int .i64 0]] (by rfl) rfl rfl (by (try simp only [List.map_toArray, List.map_cons, List.map_nil]); first | done | rfl) ?_
    refine (isPad_ _ _ _ _).mono ?_
    rintro e w1 ⟨rfl, hb1⟩
    have hS1 := hS0.next hb1
    rw [show ((0 : Int) == 0 && ((1 : Int) == 1 && (0 : Int) == 0)) = true from rfl]
    refine ⟨_, rfl, hK.out _ _ hS1 (fun _ => ?_)⟩
    refine norm_ (a' := ?_) ?_ ?_
    rotate_left
    · show Act.put _ (some 21) _ = _
      simp only [Act.put, List.setIfInBounds_toArray, List.set_cons_zero, List.set_cons_succ]
      rfl
    refine takes_ (List.range' 2 22) 0 (bl_ [24]) rfl HT_.out (by kernel_rfl) hS1 (a' := ?_) ?_ ?_
    rotate_left
    · repeat (first | exact rfl | (refine tkN rfl rfl (fun _ _ _ h => h) (by rfl) (by simp only [Act.put, List.setIfInBounds_toArray, List.set_cons_zero, List.set_cons_succ, i64_w, i32_w]; rfl) ?_) | (refine tkY rfl rfl (fun _ _ _ h => h) (by rfl) (fun w' hw' => by (obtain ⟨⟨s0, s1, s2⟩, _⟩ := hw'; go_simp; with_reducible rfl)) (by simp only [Act.put, List.setIfInBounds_toArray, List.set_cons_zero, List.set_cons_succ, i64_w, i32_w]; rfl) ?_))
    refine done_ (done_of HT_.out (by kernel_rfl)) ?_
    go_wp2
    go_ret
    exact ⟨by simp, hS1.2.out.2⟩

  rw [if_neg hp]
  have hp := Bool.eq_false_iff.2 hp
  by_cases c0 : cw = 0
  · rw [if_pos c0]
    subst c0
    by_cases cz : cr = 0
    · subst cz
      obtain ⟨x0, x1, x2⟩ := blk3 hB0
      go_enter Try.func53, Try.ntmps53
      go_wp2
      clear x0 x1 x2 hB0
      refine start_ (n := 24) (S := SC W ⟨0, 0, ca⟩) (ds := []) (bl_ [0, 24]) (by kernel_rfl) (by kernel_rfl) rfl hS0 (fun _ => ?_)
      refine with_tab tab_53_4_ (fun HT_ => ?_)
      refine takes_ [0] 23 (bl_ [1, 23]) rfl HT_.out (by kernel_rfl) hS0 (a' := ?_) ?_ ?_
      rotate_left
      · repeat (first | exact rfl | (refine tkN rfl rfl (fun _ _ _ h => h) (by rfl) (by simp only [Act.put, List.setIfInBounds_toArray, List.set_cons_zero, List.set_cons_succ, i64_w, i32_w]; rfl) ?_) | (refine tkY rfl rfl (fun _ _ _ h => h) (by rfl) (fun w' hw' => by (obtain ⟨⟨s0, s1, s2⟩, _⟩ := hw'; go_simp; with_reducible rfl)) (by simp only [Act.put, List.setIfInBounds_toArray, List.set_cons_zero, List.set_cons_succ, i64_w, i32_w]; rfl) ?_))
      refine one_ (i := 1) (N := some 21) (bl_ [2, 22]) rfl rfl (one_of HT_.out (by kernel_rfl)) (by decide) (fun K hK => ?_)
      refine goes_ Try.func65 (by kernel_rfl) rfl #[.agg #[.int .i32 0, .int .i64 0, .int .i64 ca]] (by rfl) rfl rfl (by (try simp only [List.map_toArray, List.map_cons, List.map_nil]); first | done | rfl) ?_
      refine (isPad_ _ _ _ _).mono ?_
      rintro e w1 ⟨rfl, hb1⟩
      have hS1 := hS0.next hb1
      rw [hp]
      refine ⟨_, rfl, hK.out _ _ hS1 (fun _ => ?_)⟩
      refine norm_ (a' := ?_) ?_ ?_
      rotate_left
      · show Act.put _ (some 21) _ = _
        simp only [Act.put, List.setIfInBounds_toArray, List.set_cons_zero, List.set_cons_succ]
        rfl
      refine takes_ (List.range' 2 22) 0 (bl_ [24]) rfl HT_.out (by kernel_rfl) hS1 (a' := ?_) ?_ ?_
      rotate_left
      · repeat (first | exact rfl | (refine tkN rfl rfl (fun _ _ _ h => h) (by rfl) (by simp only [Act.put, List.setIfInBounds_toArray, List.set_cons_zero, List.set_cons_succ, i64_w, i32_w]; rfl) ?_) | (refine tkY rfl rfl (fun _ _ _ h => h) (by rfl) (fun w' hw' => by (obtain ⟨⟨s0, s1, s2⟩, _⟩ := hw'; go_simp; with_reducible rfl)) (by simp only [Act.put, List.setIfInBounds_toArray, List.set_cons_zero, List.set_cons_succ, i64_w, i32_w]; rfl) ?_))
      refine done_ (done_of HT_.out (by kernel_rfl)) ?_
      go_wp2
      go_ret
      exact ⟨by simp, hS1.2.out.2⟩

    · have q0 : (cr == 0) = false := by simp [cz]
      obtain ⟨x0, x1, x2⟩ := blk3 hB0
      go_enter Try.func53, Try.ntmps53
      go_wp2
      clear x0 x1 x2 hB0
      refine start_ (n := 24) (S := SC W ⟨cr, 0, ca⟩) (ds := []) (bl_ [0, 24]) (by kernel_rfl) (by kernel_rfl) rfl hS0 (fun _ => ?_)
      refine with_tab tab_53_4_ (fun HT_ => ?_)
      refine takes_ [0] 23 (bl_ [1, 23]) rfl HT_.out (by kernel_rfl) hS0 (a' := ?_) ?_ ?_
      rotate_left
      · repeat (first | exact rfl | (refine tkN rfl rfl (fun _ _ _ h => h) (by rfl) (by simp only [Act.put, List.setIfInBounds_toArray, List.set_cons_zero, List.set_cons_succ, i64_w, i32_w]; rfl) ?_) | (refine tkY rfl rfl (fun _ _ _ h => h) (by rfl) (fun w' hw' => by (obtain ⟨⟨s0, s1, s2⟩, _⟩ := hw'; go_simp; with_reducible rfl)) (by simp only [Act.put, List.setIfInBounds_toArray, List.set_cons_zero, List.set_cons_succ, i64_w, i32_w]; rfl) ?_))
      refine one_ (i := 1) (N := some 21) (bl_ [2, 22]) rfl rfl (one_of HT_.out (by kernel_rfl)) (by decide) (fun K hK => ?_)
      refine goes_ Try.func65 (by kernel_rfl) rfl #[.agg #[.int .i32 cr, .int .i64 0, .int .i64 ca]] (by rfl) rfl rfl (by (try simp only [List.map_toArray, List.map_cons, List.map_nil]); first | done | rfl) ?_
      refine (isPad_ _ _ _ _).mono ?_
      rintro e w1 ⟨rfl, hb1⟩
      have hS1 := hS0.next hb1
      rw [hp]
      refine ⟨_, rfl, hK.out _ _ hS1 (fun _ => ?_)⟩
      refine norm_ (a' := ?_) ?_ ?_
      rotate_left
      · show Act.put _ (some 21) _ = _
        simp only [Act.put, List.setIfInBounds_toArray, List.set_cons_zero, List.set_cons_succ]
        rfl
      refine takes_ (List.range' 2 22) 0 (bl_ [24]) rfl HT_.out (by kernel_rfl) hS1 (a' := ?_) ?_ ?_
      rotate_left
      · repeat (first | exact rfl | (refine tkN rfl rfl (fun _ _ _ h => h) (by rfl) (by simp only [Act.put, List.setIfInBounds_toArray, List.set_cons_zero, List.set_cons_succ, i64_w, i32_w]; rfl) ?_) | (refine tkY rfl rfl (fun _ _ _ h => h) (by rfl) (fun w' hw' => by (obtain ⟨⟨s0, s1, s2⟩, _⟩ := hw'; go_simp; with_reducible rfl)) (by simp only [Act.put, List.setIfInBounds_toArray, List.set_cons_zero, List.set_cons_succ, i64_w, i32_w]; rfl) ?_))
      refine done_ (done_of HT_.out (by kernel_rfl)) ?_
      go_wp2
      go_ret
      exact ⟨by simp [cz], hS1.2.out.2⟩

  · rw [if_neg c0]
    have q0 : (cw == 0) = false := by simp [c0]
    by_cases c1 : cw = 1
    · rw [if_pos c1]
      subst c1
      obtain ⟨x0, x1, x2⟩ := blk3 hB0
      go_enter Try.func53, Try.ntmps53
      go_wp2
      clear x0 x1 x2 hB0
      refine start_ (n := 24) (S := SC W ⟨cr, 1, ca⟩) (ds := []) (bl_ [0, 24]) (by kernel_rfl) (by kernel_rfl) rfl hS0 (fun _ => ?_)
      refine with_tab tab_53_4_ (fun HT_ => ?_)
      refine takes_ [0] 23 (bl_ [1, 23]) rfl HT_.out (by kernel_rfl) hS0 (a' := ?_) ?_ ?_
      rotate_left
      · repeat (first | exact rfl | (refine tkN rfl rfl (fun _ _ _ h => h) (by rfl) (by simp only [Act.put, List.setIfInBounds_toArray, List.set_cons_zero, List.set_cons_succ, i64_w, i32_w]; rfl) ?_) | (refine tkY rfl rfl (fun _ _ _ h => h) (by rfl) (fun w' hw' => by (obtain ⟨⟨s0, s1, s2⟩, _⟩ := hw'; go_simp; with_reducible rfl)) (by simp only [Act.put, List.setIfInBounds_toArray, List.set_cons_zero, List.set_cons_succ, i64_w, i32_w]; rfl) ?_))
      refine one_ (i := 1) (N := some 21) (bl_ [2, 22]) rfl rfl (one_of HT_.out (by kernel_rfl)) (by decide) (fun K hK => ?_)
      refine goes_ Try.func65 (by kernel_rfl) rfl #[.agg #[.int .i32 cr, .int .i64 1, .int .i64 ca]] (by rfl) rfl rfl (by (try simp only [List.map_toArray, List.map_cons, List.map_nil]); first | done | rfl) ?_
      refine (isPad_ _ _ _ _).mono ?_
      rintro e w1 ⟨rfl, hb1⟩
      have hS1 := hS0.next hb1
      rw [hp]
      refine ⟨_, rfl, hK.out _ _ hS1 (fun _ => ?_)⟩
      refine norm_ (a' := ?_) ?_ ?_
      rotate_left
      · show Act.put _ (some 21) _ = _
        simp only [Act.put, List.setIfInBounds_toArray, List.set_cons_zero, List.set_cons_succ]
        rfl
      refine takes_ (List.range' 2 17) 5 (bl_ [19, 5]) rfl HT_.out (by kernel_rfl) hS1 (a' := ?_) ?_ ?_
      rotate_left
      · repeat (first | exact rfl | (refine tkN rfl rfl (fun _ _ _ h => h) (by rfl) (by simp only [Act.put, List.setIfInBounds_toArray, List.set_cons_zero, List.set_cons_succ, i64_w, i32_w]; rfl) ?_) | (refine tkY rfl rfl (fun _ _ _ h => h) (by rfl) (fun w' hw' => by (obtain ⟨⟨s0, s1, s2⟩, _⟩ := hw'; go_simp; with_reducible rfl)) (by simp only [Act.put, List.setIfInBounds_toArray, List.set_cons_zero, List.set_cons_succ, i64_w, i32_w]; rfl) ?_))
      refine one_ (i := 19) (N := some 39) (bl_ [20, 4]) rfl rfl (one_of HT_.out (by kernel_rfl)) (by decide) (fun K hK => ?_)
      refine goes_ Try.func66 (by kernel_rfl) rfl #[.int .i32 cr] (by rfl) rfl rfl (by (try simp only [List.map_toArray, List.map_cons, List.map_nil]); first | done | rfl) ?_
      refine (widthOf_ _ _).mono ?_
      rintro e w2 ⟨rfl, hb2⟩
      have hS2 := hS1.next hb2
      refine ⟨_, rfl, hK.out _ _ hS2 (fun _ => ?_)⟩
      refine norm_ (a' := ?_) ?_ ?_
      rotate_left
      · show Act.put _ (some 39) _ = _
        simp only [Act.put, List.setIfInBounds_toArray, List.set_cons_zero, List.set_cons_succ]
        rfl
      refine takes_ (List.range' 20 4) 0 (bl_ [24]) rfl HT_.out (by kernel_rfl) hS2 (a' := ?_) ?_ ?_
      rotate_left
      · repeat (first | exact rfl | (refine tkN rfl rfl (fun _ _ _ h => h) (by rfl) (by simp only [Act.put, List.setIfInBounds_toArray, List.set_cons_zero, List.set_cons_succ, i64_w, i32_w]; rfl) ?_) | (refine tkY rfl rfl (fun _ _ _ h => h) (by rfl) (fun w' hw' => by (obtain ⟨⟨s0, s1, s2⟩, _⟩ := hw'; go_simp; with_reducible rfl)) (by simp only [Act.put, List.setIfInBounds_toArray, List.set_cons_zero, List.set_cons_succ, i64_w, i32_w]; rfl) ?_))
      refine done_ (done_of HT_.out (by kernel_rfl)) ?_
      go_wp2
      go_ret
      exact ⟨by simp, hS2.2.out.2⟩

    · rw [if_neg c1]
      have q1 : (cw == 1) = false := by simp [c1]
      by_cases c2 : cw = 2
      · rw [if_pos c2]
        subst c2
        obtain ⟨x0, x1, x2⟩ := blk3 hB0
        go_enter Try.func53, Try.ntmps53
        go_wp2
        clear x0 x1 x2 hB0
        refine start_ (n := 24) (S := SC W ⟨cr, 2, ca⟩) (ds := []) (bl_ [0, 24]) (by kernel_rfl) (by kernel_rfl) rfl hS0 (fun _ => ?_)
        refine with_tab tab_53_4_ (fun HT_ => ?_)
        refine takes_ [0] 23 (bl_ [1, 23]) rfl HT_.out (by kernel_rfl) hS0 (a' := ?_) ?_ ?_
        rotate_left
        · repeat (first | exact rfl | (refine tkN rfl rfl (fun _ _ _ h => h) (by rfl) (by simp only [Act.put, List.setIfInBounds_toArray, List.set_cons_zero, List.set_cons_succ, i64_w, i32_w]; rfl) ?_) | (refine tkY rfl rfl (fun _ _ _ h => h) (by rfl) (fun w' hw' => by (obtain ⟨⟨s0, s1, s2⟩, _⟩ := hw'; go_simp; with_reducible rfl)) (by simp only [Act.put, List.setIfInBounds_toArray, List.set_cons_zero, List.set_cons_succ, i64_w, i32_w]; rfl) ?_))
        refine one_ (i := 1) (N := some 21) (bl_ [2, 22]) rfl rfl (one_of HT_.out (by kernel_rfl)) (by decide) (fun K hK => ?_)
        refine goes_ Try.func65 (by kernel_rfl) rfl #[.agg #[.int .i32 cr, .int .i64 2, .int .i64 ca]] (by rfl) rfl rfl (by (try simp only [List.map_toArray, List.map_cons, List.map_nil]); first | done | rfl) ?_
        refine (isPad_ _ _ _ _).mono ?_
        rintro e w1 ⟨rfl, hb1⟩
        have hS1 := hS0.next hb1
        rw [hp]
        refine ⟨_, rfl, hK.out _ _ hS1 (fun _ => ?_)⟩
        refine norm_ (a' := ?_) ?_ ?_
        rotate_left
        · show Act.put _ (some 21) _ = _
          simp only [Act.put, List.setIfInBounds_toArray, List.set_cons_zero, List.set_cons_succ]
          rfl
        refine takes_ (List.range' 2 17) 5 (bl_ [19, 5]) rfl HT_.out (by kernel_rfl) hS1 (a' := ?_) ?_ ?_
        rotate_left
        · repeat (first | exact rfl | (refine tkN rfl rfl (fun _ _ _ h => h) (by rfl) (by simp only [Act.put, List.setIfInBounds_toArray, List.set_cons_zero, List.set_cons_succ, i64_w, i32_w]; rfl) ?_) | (refine tkY rfl rfl (fun _ _ _ h => h) (by rfl) (fun w' hw' => by (obtain ⟨⟨s0, s1, s2⟩, _⟩ := hw'; go_simp; with_reducible rfl)) (by simp only [Act.put, List.setIfInBounds_toArray, List.set_cons_zero, List.set_cons_succ, i64_w, i32_w]; rfl) ?_))
        refine one_ (i := 19) (N := some 39) (bl_ [20, 4]) rfl rfl (one_of HT_.out (by kernel_rfl)) (by decide) (fun K hK => ?_)
        refine goes_ Try.func66 (by kernel_rfl) rfl #[.int .i32 cr] (by rfl) rfl rfl (by (try simp only [List.map_toArray, List.map_cons, List.map_nil]); first | done | rfl) ?_
        refine (widthOf_ _ _).mono ?_
        rintro e w2 ⟨rfl, hb2⟩
        have hS2 := hS1.next hb2
        refine ⟨_, rfl, hK.out _ _ hS2 (fun _ => ?_)⟩
        refine norm_ (a' := ?_) ?_ ?_
        rotate_left
        · show Act.put _ (some 39) _ = _
          simp only [Act.put, List.setIfInBounds_toArray, List.set_cons_zero, List.set_cons_succ]
          rfl
        refine takes_ (List.range' 20 4) 0 (bl_ [24]) rfl HT_.out (by kernel_rfl) hS2 (a' := ?_) ?_ ?_
        rotate_left
        · repeat (first | exact rfl | (refine tkN rfl rfl (fun _ _ _ h => h) (by rfl) (by simp only [Act.put, List.setIfInBounds_toArray, List.set_cons_zero, List.set_cons_succ, i64_w, i32_w]; rfl) ?_) | (refine tkY rfl rfl (fun _ _ _ h => h) (by rfl) (fun w' hw' => by (obtain ⟨⟨s0, s1, s2⟩, _⟩ := hw'; go_simp; with_reducible rfl)) (by simp only [Act.put, List.setIfInBounds_toArray, List.set_cons_zero, List.set_cons_succ, i64_w, i32_w]; rfl) ?_))
        refine done_ (done_of HT_.out (by kernel_rfl)) ?_
        go_wp2
        go_ret
        exact ⟨by simp, hS2.2.out.2⟩

      · rw [if_neg c2]
        have q2 : (cw == 2) = false := by simp [c2]
        obtain ⟨x0, x1, x2⟩ := blk3 hB0
        go_enter Try.func53, Try.ntmps53
        go_wp2
        clear x0 x1 x2 hB0
        refine start_ (n := 24) (S := SC W ⟨cr, cw, ca⟩) (ds := []) (bl_ [0, 24]) (by kernel_rfl) (by kernel_rfl) rfl hS0 (fun _ => ?_)
        refine with_tab tab_53_4_ (fun HT_ => ?_)
        refine takes_ [0] 23 (bl_ [1, 23]) rfl HT_.out (by kernel_rfl) hS0 (a' := ?_) ?_ ?_
        rotate_left
        · repeat (first | exact rfl | (refine tkN rfl rfl (fun _ _ _ h => h) (by rfl) (by simp only [Act.put, List.setIfInBounds_toArray, List.set_cons_zero, List.set_cons_succ, i64_w, i32_w]; rfl) ?_) | (refine tkY rfl rfl (fun _ _ _ h => h) (by rfl) (fun w' hw' => by (obtain ⟨⟨s0, s1, s2⟩, _⟩ := hw'; go_simp; with_reducible rfl)) (by simp only [Act.put, List.setIfInBounds_toArray, List.set_cons_zero, List.set_cons_succ, i64_w, i32_w]; rfl) ?_))
        refine one_ (i := 1) (N := some 21) (bl_ [2, 22]) rfl rfl (one_of HT_.out (by kernel_rfl)) (by decide) (fun K hK => ?_)
        refine goes_ Try.func65 (by kernel_rfl) rfl #[.agg #[.int .i32 cr, .int .i64 cw, .int .i64 ca]] (by rfl) rfl rfl (by (try simp only [List.map_toArray, List.map_cons, List.map_nil]); first | done | rfl) ?_
        refine (isPad_ _ _ _ _).mono ?_
        rintro e w1 ⟨rfl, hb1⟩
        have hS1 := hS0.next hb1
        rw [hp]
        refine ⟨_, rfl, hK.out _ _ hS1 (fun _ => ?_)⟩
        refine norm_ (a' := ?_) ?_ ?_
        rotate_left
        · show Act.put _ (some 21) _ = _
          simp only [Act.put, List.setIfInBounds_toArray, List.set_cons_zero, List.set_cons_succ]
          rfl
        refine takes_ (List.range' 2 22) 0 (bl_ [24]) rfl HT_.out (by kernel_rfl) hS1 (a' := ?_) ?_ ?_
        rotate_left
        · repeat (first | exact rfl | (refine tkN rfl rfl (fun _ _ _ h => h) (by rfl) (by simp only [Act.put, List.setIfInBounds_toArray, List.set_cons_zero, List.set_cons_succ, i64_w, i32_w]; rfl) ?_) | (refine tkY rfl rfl (fun _ _ _ h => h) (by rfl) (fun w' hw' => by (obtain ⟨⟨s0, s1, s2⟩, _⟩ := hw'; go_simp; with_reducible rfl)) (by simp only [Act.put, List.setIfInBounds_toArray, List.set_cons_zero, List.set_cons_succ, i64_w, i32_w]; rfl) ?_))
        refine done_ (done_of HT_.out (by kernel_rfl)) ?_
        go_wp2
        go_ret
        exact ⟨by simp, hS1.2.out.2⟩
theorem cell_May.calls (k : Nat) (a0_0 : Int) (a0_1 : Int) (a0_2 : Int) (r : Bool) (w : World) (h : cell_May.f k a0_0 a0_1 a0_2 = some r) :
    Calls Try.prog 53 #[.agg #[.int .i32 a0_0, .int .i64 a0_1, .int .i64 a0_2]] w fun e w' => e = .returned (.bool r) ∧ Below w.heap.size w w' := by
  rw [cell_May.f_eq h]
  exact cell_May.walk a0_0 a0_1 a0_2 w
end Go.Proofs.Ytkigdcihhlkkdaa.P
