/- own texts of this session, put together -/
import Derived.Test.YtkigdcihhlkkdaaSZ0
import Derived.Test.YtkigdcihhlkkdaaSZ6
section
set_option linter.unusedVariables false
set_option linter.unusedSimpArgs false
namespace Go.Proofs.Ytkigdcihhlkkdaa.P
open Go.RowKit Go.Proofs.YtkigdcihhlkkdaaW.PrintWords Go.Proofs.YtkigdcihhlkkdaaW.PrintLast Go.Proofs.YtkigdcihhlkkdaaW.PrintMore
attribute [local go_sem high] eqA45
def refCellB (c : S45) : Bool := decide (0 ≤ c.f2) && (decide (c.f2 ≤ 255) && ((c.f0 == 0 && (c.f1 == 1 && c.f2 == 0)) || ((c.f1 == 0 && c.f0 == 0) || (decide (0 < c.f1) && c.f1 == rotulusref1_Width.w c.f0))))
def tab_54_3 : Bool × List (List Nat × List Nat) := (true, [([], []), ([], []), ([0, 1], [0, 1]), ([2, 1], [2]), ([3], [3]), ([4, 3], [3, 4]), ([5, 3], [3, 5]), ([6, 3, 3], [3, 6]), ([7], [7]), ([8, 7], [7, 8]), ([9, 7], [7, 9]), ([7, 10, 3], [3, 7, 10]), ([3, 11], [3, 11]), ([12, 7], [12]), ([13], [13]), ([14, 13], [13, 14]), ([15, 13], [13, 15]), ([16, 13, 13], [13, 16]), ([17], [17]), ([18, 17], [17, 18]), ([17], [17]), ([20, 17], [17, 20]), ([21, 17, 17], [17, 21]), ([19, 22, 17], [17, 19, 22]), ([17, 23, 13], [13, 17, 23]), ([13, 24], [13, 24]), ([25, 22, 0, 1, 2, 3, 4, 5, 6, 7, 8, 9, 10, 11, 12, 13, 14, 15, 16, 17, 18, 19, 20, 21, 22, 23, 24, 25], [25])])
theorem tab_54_3_ : rtab .any (opsOf Try.f54 3) = tab_54_3 := by kernel_rfl
theorem pad_ (W : World) : Calls Try.prog 67 #[] W fun e w' => e = .returned (.agg #[.int .i32 0, .int .i64 1, .int .i64 0]) ∧ Below W.heap.size W w' := rotulusref1_Pad.calls 0 1 0 W (by rfl)
theorem width_ (r : Int) (W : World) : Calls Try.prog 59 #[.int .i32 r] W fun e w' => e = .returned (.int .i64 (rotulusref1_Width.w r)) ∧ Below W.heap.size W w' := rotulusref1_Width.calls r _ W rfl
set_option maxHeartbeats 4000000 in
set_option maxRecDepth 100000 in
theorem refCell_ (c : S45) (W : World) : Calls Try.prog 54 #[.agg #[.int .i32 c.f0, .int .i64 c.f1, .int .i64 c.f2]] W fun e w' => e = .returned (.bool (refCellB c)) ∧ Below W.heap.size W w' := by
  have hb0 : Below W.heap.size W (W.alloc (.cells #[.int .i32 c.f0, .int .i64 c.f1, .int .i64 c.f2] 45)) := below_alloc (Below.refl _ _) _
  have hB0 := blk_new W (.cells #[.int .i32 c.f0, .int .i64 c.f1, .int .i64 c.f2] 45)
  obtain ⟨x0, x1, x2⟩ := blk3 hB0
  have hu := Try.underlying45
  by_cases h1 : c.f2 < 0
  · go_enter Try.func54, Try.ntmps54
    go_wp2
    go_ret
    refine ⟨by simp [refCellB]; omega, hb0⟩
  by_cases h2 : 255 < c.f2
  · go_enter Try.func54, Try.ntmps54
    go_wp2
    go_ret
    refine ⟨by simp [refCellB]; omega, hb0⟩
  have hS0 : SC W c (W.alloc (.cells #[.int .i32 c.f0, .int .i64 c.f1, .int .i64 c.f2] 45)).drew := SC.mk' hB0 (below_drew1 hb0)
  have e1 : decide (0 ≤ c.f2) = true := decide_eq_true (by omega)
  have e2 : decide (c.f2 ≤ 255) = true := decide_eq_true (by omega)
  unfold refCellB
  rw [e1, e2, Bool.true_and, Bool.true_and]
  clear e1 e2 x0 x1 x2
  obtain ⟨cr, cw, ca⟩ := c
  dsimp only at *
  cases hp : (cr == 0 && (cw == 1 && ca == 0))
  case true =>
    go_enter Try.func54, Try.ntmps54
    go_wp2
    refine start_ (n := 27) (S := SC W ⟨cr, cw, ca⟩) (ds := []) (bl_ [0, 27]) (by kernel_rfl) rfl rfl hS0 (fun _ => ?_)
    refine with_tab tab_54_3_ (fun HT_ => ?_)
    refine takes_ [0] 26 (bl_ [1, 26]) rfl HT_.out (by kernel_rfl) hS0 (a' := ?_) ?_ ?_
    rotate_left
    · repeat (first | exact rfl | (refine tkN rfl rfl (fun _ _ _ h => h) (by rfl) (by simp only [Act.put, List.setIfInBounds_toArray, List.set_cons_zero, List.set_cons_succ, i64_w, i32_w]; rfl) ?_) | (refine tkY rfl rfl (fun _ _ _ h => h) (by rfl) (fun w' hw' => by (obtain ⟨⟨s0, s1, s2⟩, _⟩ := hw'; go_simp; with_reducible rfl)) (by simp only [Act.put, List.setIfInBounds_toArray, List.set_cons_zero, List.set_cons_succ, i64_w, i32_w]; rfl) ?_))
    refine one_ (i := 1) (N := some 12) (bl_ [2, 25]) rfl rfl (one_of HT_.out (by kernel_rfl)) (by decide) (fun K hK => ?_)
    refine goes_ Try.func67 (by kernel_rfl) rfl #[] (by rfl) rfl rfl (by (try simp only [List.map_toArray, List.map_cons, List.map_nil]); first | done | rfl) ?_
    refine (pad_ _).mono ?_
    rintro e w1 ⟨rfl, hb1⟩
    have hS1 := hS0.next hb1
    refine ⟨_, rfl, hK.out _ _ hS1 (fun _ => ?_)⟩
    refine takes_ (List.range' 2 25) 0 (bl_ [27]) rfl HT_.out (by kernel_rfl) hS1 (a' := ?_) ?_ ?_
    rotate_left
    · repeat (first | exact rfl | (refine tkN rfl rfl (fun _ _ _ h => h) (by rfl) (by simp only [Act.put, List.setIfInBounds_toArray, List.set_cons_zero, List.set_cons_succ, i64_w, i32_w]; rfl) ?_) | (refine tkY rfl rfl (fun _ _ _ h => h) (by rfl) (fun w' hw' => by (obtain ⟨⟨s0, s1, s2⟩, _⟩ := hw'; go_simp; with_reducible rfl)) (by simp only [Act.put, List.setIfInBounds_toArray, List.set_cons_zero, List.set_cons_succ, i64_w, i32_w]; rfl) ?_))
    refine done_ (done_of HT_.out (by kernel_rfl)) ?_
    go_wp2
    go_ret
    exact ⟨by simp, hS1.2.out.2⟩
  case false =>
    by_cases c1 : cw = 0
    · subst c1
      by_cases c0 : cr = 0
      · subst c0
        go_enter Try.func54, Try.ntmps54
        go_wp2
        refine start_ (n := 27) (S := SC W ⟨0, 0, ca⟩) (ds := []) (bl_ [0, 27]) (by kernel_rfl) rfl rfl hS0 (fun _ => ?_)
        refine with_tab tab_54_3_ (fun HT_ => ?_)
        refine takes_ [0] 26 (bl_ [1, 26]) rfl HT_.out (by kernel_rfl) hS0 (a' := ?_) ?_ ?_
        rotate_left
        · repeat (first | exact rfl | (refine tkN rfl rfl (fun _ _ _ h => h) (by rfl) (by simp only [Act.put, List.setIfInBounds_toArray, List.set_cons_zero, List.set_cons_succ, i64_w, i32_w]; rfl) ?_) | (refine tkY rfl rfl (fun _ _ _ h => h) (by rfl) (fun w' hw' => by (obtain ⟨⟨s0, s1, s2⟩, _⟩ := hw'; go_simp; with_reducible rfl)) (by simp only [Act.put, List.setIfInBounds_toArray, List.set_cons_zero, List.set_cons_succ, i64_w, i32_w]; rfl) ?_))
        refine one_ (i := 1) (N := some 12) (bl_ [2, 25]) rfl rfl (one_of HT_.out (by kernel_rfl)) (by decide) (fun K hK => ?_)
        refine goes_ Try.func67 (by kernel_rfl) rfl #[] (by rfl) rfl rfl (by (try simp only [List.map_toArray, List.map_cons, List.map_nil]); first | done | rfl) ?_
        refine (pad_ _).mono ?_
        rintro e w1 ⟨rfl, hb1⟩
        have hS1 := hS0.next hb1
        refine ⟨_, rfl, hK.out _ _ hS1 (fun _ => ?_)⟩
        refine takes_ (List.range' 2 25) 0 (bl_ [27]) rfl HT_.out (by kernel_rfl) hS1 (a' := ?_) ?_ ?_
        rotate_left
        · repeat (first | exact rfl | (refine tkN rfl rfl (fun _ _ _ h => h) (by rfl) (by simp only [Act.put, List.setIfInBounds_toArray, List.set_cons_zero, List.set_cons_succ, i64_w, i32_w]; rfl) ?_) | (refine tkY rfl rfl (fun _ _ _ h => h) (by rfl) (fun w' hw' => by (obtain ⟨⟨s0, s1, s2⟩, _⟩ := hw'; go_simp; with_reducible rfl)) (by simp only [Act.put, List.setIfInBounds_toArray, List.set_cons_zero, List.set_cons_succ, i64_w, i32_w]; rfl) ?_))
        refine done_ (done_of HT_.out (by kernel_rfl)) ?_
        go_wp2
        go_ret
        exact ⟨by simp, hS1.2.out.2⟩
      · have q0 : (cr == 0) = false := by simp [c0]
        go_enter Try.func54, Try.ntmps54
        go_wp2
        refine start_ (n := 27) (S := SC W ⟨cr, 0, ca⟩) (ds := []) (bl_ [0, 27]) (by kernel_rfl) rfl rfl hS0 (fun _ => ?_)
        refine with_tab tab_54_3_ (fun HT_ => ?_)
        refine takes_ [0] 26 (bl_ [1, 26]) rfl HT_.out (by kernel_rfl) hS0 (a' := ?_) ?_ ?_
        rotate_left
        · repeat (first | exact rfl | (refine tkN rfl rfl (fun _ _ _ h => h) (by rfl) (by simp only [Act.put, List.setIfInBounds_toArray, List.set_cons_zero, List.set_cons_succ, i64_w, i32_w]; rfl) ?_) | (refine tkY rfl rfl (fun _ _ _ h => h) (by rfl) (fun w' hw' => by (obtain ⟨⟨s0, s1, s2⟩, _⟩ := hw'; go_simp; with_reducible rfl)) (by simp only [Act.put, List.setIfInBounds_toArray, List.set_cons_zero, List.set_cons_succ, i64_w, i32_w]; rfl) ?_))
        refine one_ (i := 1) (N := some 12) (bl_ [2, 25]) rfl rfl (one_of HT_.out (by kernel_rfl)) (by decide) (fun K hK => ?_)
        refine goes_ Try.func67 (by kernel_rfl) rfl #[] (by rfl) rfl rfl (by (try simp only [List.map_toArray, List.map_cons, List.map_nil]); first | done | rfl) ?_
        refine (pad_ _).mono ?_
        rintro e w1 ⟨rfl, hb1⟩
        have hS1 := hS0.next hb1
        refine ⟨_, rfl, hK.out _ _ hS1 (fun _ => ?_)⟩
        refine takes_ (List.range' 2 25) 0 (bl_ [27]) rfl HT_.out (by kernel_rfl) hS1 (a' := ?_) ?_ ?_
        rotate_left
        · repeat (first | exact rfl | (refine tkN rfl rfl (fun _ _ _ h => h) (by rfl) (by simp only [Act.put, List.setIfInBounds_toArray, List.set_cons_zero, List.set_cons_succ, i64_w, i32_w]; rfl) ?_) | (refine tkY rfl rfl (fun _ _ _ h => h) (by rfl) (fun w' hw' => by (obtain ⟨⟨s0, s1, s2⟩, _⟩ := hw'; go_simp; with_reducible rfl)) (by simp only [Act.put, List.setIfInBounds_toArray, List.set_cons_zero, List.set_cons_succ, i64_w, i32_w]; rfl) ?_))
        refine done_ (done_of HT_.out (by kernel_rfl)) ?_
        go_wp2
        go_ret
        exact ⟨by simp [c0], hS1.2.out.2⟩
    · have q1 : (cw == 0) = false := by simp [c1]
      by_cases c2 : 0 < cw
      · have q2 : decide (0 < cw) = true := by simp [c2]
        go_enter Try.func54, Try.ntmps54
        go_wp2
        refine start_ (n := 27) (S := SC W ⟨cr, cw, ca⟩) (ds := []) (bl_ [0, 27]) (by kernel_rfl) rfl rfl hS0 (fun _ => ?_)
        refine with_tab tab_54_3_ (fun HT_ => ?_)
        refine takes_ [0] 26 (bl_ [1, 26]) rfl HT_.out (by kernel_rfl) hS0 (a' := ?_) ?_ ?_
        rotate_left
        · repeat (first | exact rfl | (refine tkN rfl rfl (fun _ _ _ h => h) (by rfl) (by simp only [Act.put, List.setIfInBounds_toArray, List.set_cons_zero, List.set_cons_succ, i64_w, i32_w]; rfl) ?_) | (refine tkY rfl rfl (fun _ _ _ h => h) (by rfl) (fun w' hw' => by (obtain ⟨⟨s0, s1, s2⟩, _⟩ := hw'; go_simp; with_reducible rfl)) (by simp only [Act.put, List.setIfInBounds_toArray, List.set_cons_zero, List.set_cons_succ, i64_w, i32_w]; rfl) ?_))
        refine one_ (i := 1) (N := some 12) (bl_ [2, 25]) rfl rfl (one_of HT_.out (by kernel_rfl)) (by decide) (fun K hK => ?_)
        refine goes_ Try.func67 (by kernel_rfl) rfl #[] (by rfl) rfl rfl (by (try simp only [List.map_toArray, List.map_cons, List.map_nil]); first | done | rfl) ?_
        refine (pad_ _).mono ?_
        rintro e w1 ⟨rfl, hb1⟩
        have hS1 := hS0.next hb1
        refine ⟨_, rfl, hK.out _ _ hS1 (fun _ => ?_)⟩
        refine takes_ (List.range' 2 20) 5 (bl_ [22, 5]) rfl HT_.out (by kernel_rfl) hS1 (a' := ?_) ?_ ?_
        rotate_left
        · repeat (first | exact rfl | (refine tkN rfl rfl (fun _ _ _ h => h) (by rfl) (by simp only [Act.put, List.setIfInBounds_toArray, List.set_cons_zero, List.set_cons_succ, i64_w, i32_w]; rfl) ?_) | (refine tkY rfl rfl (fun _ _ _ h => h) (by rfl) (fun w' hw' => by (obtain ⟨⟨s0, s1, s2⟩, _⟩ := hw'; go_simp; with_reducible rfl)) (by simp only [Act.put, List.setIfInBounds_toArray, List.set_cons_zero, List.set_cons_succ, i64_w, i32_w]; rfl) ?_))
        refine one_ (i := 22) (N := some 33) (bl_ [23, 4]) rfl rfl (one_of HT_.out (by kernel_rfl)) (by decide) (fun K hK => ?_)
        refine goes_ Try.func59 (by kernel_rfl) rfl #[.int .i32 cr] (by rfl) rfl rfl (by (try simp only [List.map_toArray, List.map_cons, List.map_nil]); first | done | rfl) ?_
        refine (width_ _ _).mono ?_
        rintro e w2 ⟨rfl, hb2⟩
        have hS2 := hS1.next hb2
        refine ⟨_, rfl, hK.out _ _ hS2 (fun _ => ?_)⟩
        refine takes_ (List.range' 23 4) 0 (bl_ [27]) rfl HT_.out (by kernel_rfl) hS2 (a' := ?_) ?_ ?_
        rotate_left
        · repeat (first | exact rfl | (refine tkN rfl rfl (fun _ _ _ h => h) (by rfl) (by simp only [Act.put, List.setIfInBounds_toArray, List.set_cons_zero, List.set_cons_succ, i64_w, i32_w]; rfl) ?_) | (refine tkY rfl rfl (fun _ _ _ h => h) (by rfl) (fun w' hw' => by (obtain ⟨⟨s0, s1, s2⟩, _⟩ := hw'; go_simp; with_reducible rfl)) (by simp only [Act.put, List.setIfInBounds_toArray, List.set_cons_zero, List.set_cons_succ, i64_w, i32_w]; rfl) ?_))
        refine done_ (done_of HT_.out (by kernel_rfl)) ?_
        go_wp2
        go_ret
        exact ⟨by simp [c1, c2], hS2.2.out.2⟩
      · have q2 : decide (0 < cw) = false := by simp [c2]
        go_enter Try.func54, Try.ntmps54
        go_wp2
        refine start_ (n := 27) (S := SC W ⟨cr, cw, ca⟩) (ds := []) (bl_ [0, 27]) (by kernel_rfl) rfl rfl hS0 (fun _ => ?_)
        refine with_tab tab_54_3_ (fun HT_ => ?_)
        refine takes_ [0] 26 (bl_ [1, 26]) rfl HT_.out (by kernel_rfl) hS0 (a' := ?_) ?_ ?_
        rotate_left
        · repeat (first | exact rfl | (refine tkN rfl rfl (fun _ _ _ h => h) (by rfl) (by simp only [Act.put, List.setIfInBounds_toArray, List.set_cons_zero, List.set_cons_succ, i64_w, i32_w]; rfl) ?_) | (refine tkY rfl rfl (fun _ _ _ h => h) (by rfl) (fun w' hw' => by (obtain ⟨⟨s0, s1, s2⟩, _⟩ := hw'; go_simp; with_reducible rfl)) (by simp only [Act.put, List.setIfInBounds_toArray, List.set_cons_zero, List.set_cons_succ, i64_w, i32_w]; rfl) ?_))
        refine one_ (i := 1) (N := some 12) (bl_ [2, 25]) rfl rfl (one_of HT_.out (by kernel_rfl)) (by decide) (fun K hK => ?_)
        refine goes_ Try.func67 (by kernel_rfl) rfl #[] (by rfl) rfl rfl (by (try simp only [List.map_toArray, List.map_cons, List.map_nil]); first | done | rfl) ?_
        refine (pad_ _).mono ?_
        rintro e w1 ⟨rfl, hb1⟩
        have hS1 := hS0.next hb1
        refine ⟨_, rfl, hK.out _ _ hS1 (fun _ => ?_)⟩
        refine takes_ (List.range' 2 25) 0 (bl_ [27]) rfl HT_.out (by kernel_rfl) hS1 (a' := ?_) ?_ ?_
        rotate_left
        · repeat (first | exact rfl | (refine tkN rfl rfl (fun _ _ _ h => h) (by rfl) (by simp only [Act.put, List.setIfInBounds_toArray, List.set_cons_zero, List.set_cons_succ, i64_w, i32_w]; rfl) ?_) | (refine tkY rfl rfl (fun _ _ _ h => h) (by rfl) (fun w' hw' => by (obtain ⟨⟨s0, s1, s2⟩, _⟩ := hw'; go_simp; with_reducible rfl)) (by simp only [Act.put, List.setIfInBounds_toArray, List.set_cons_zero, List.set_cons_succ, i64_w, i32_w]; rfl) ?_))
        refine done_ (done_of HT_.out (by kernel_rfl)) ?_
        go_wp2
        go_ret
        exact ⟨by simp [q1, q2], hS1.2.out.2⟩
end Go.Proofs.Ytkigdcihhlkkdaa.P
end
section
set_option linter.unusedVariables false
set_option linter.unusedSimpArgs false
namespace Go.Proofs.Ytkigdcihhlkkdaa.P
open Go.RowKit Go.Proofs.YtkigdcihhlkkdaaW.PrintWords Go.Proofs.YtkigdcihhlkkdaaW.PrintLast Go.Proofs.YtkigdcihhlkkdaaW.PrintMore
attribute [local go_sem high] eqA45
def tab_27_5 : Bool × List (List Nat × List Nat) := (true, [([], []), ([], []), ([0, 1], [0, 1]), ([2], [2]), ([3], [3]), ([4], [4]), ([5, 4], [5]), ([6], [6]), ([6], [6]), ([7, 8, 6], [6, 7, 8]), ([9, 6], [6, 9]), ([10, 6], [6, 10]), ([11, 6], [6, 11]), ([12, 6, 6], [6, 12]), ([13], [13]), ([14, 13], [13, 14]), ([13], [13]), ([16, 13], [13, 16]), ([15, 17, 13], [13, 15, 17]), ([18, 13, 13], [13, 18]), ([19], [19]), ([19], [19]), ([21, 19], [19, 21]), ([20, 22, 19], [19, 20, 22]), ([23, 19], [19, 23]), ([19], [19]), ([19], [19]), ([25, 26, 19], [19, 25, 26]), ([27, 19], [19, 27]), ([28, 19], [19, 28]), ([29, 19], [19, 29]), ([24, 30, 19], [19, 24, 30]), ([19, 31, 13], [13, 19, 31]), ([13, 32, 6], [6, 13, 32]), ([6, 33], [6, 33]), ([34, 19], [34]), ([35], [35]), ([35], [35]), ([36, 37, 35], [35, 36, 37]), ([38, 35], [35, 38]), ([39, 35], [35, 39]), ([40, 35], [35, 40]), ([41, 35, 35], [35, 41]), ([42], [42]), ([43, 42], [42, 43]), ([44, 42, 42], [42, 44]), ([45], [45]), ([45], [45]), ([47, 45], [45, 47]), ([46, 48, 45], [45, 46, 48]), ([49, 45], [45, 49]), ([50, 45], [45, 50]), ([51, 45], [45, 51]), ([45, 52, 42], [42, 45, 52]), ([53, 45, 42], [42, 53]), ([54], [54]), ([54], [54]), ([56, 54], [54, 56]), ([55, 57, 54], [54, 55, 57]), ([58, 54], [54, 58]), ([59, 54], [54, 59]), ([54], [54]), ([54], [54]), ([61, 62, 54], [54, 61, 62]), ([63, 54], [54, 63]), ([64, 54], [54, 64]), ([60, 65, 54], [54, 60, 65]), ([54, 66, 42], [42, 54, 66]), ([42, 67, 35], [35, 42, 67]), ([35, 68], [35, 68])])
theorem tab_27_5_ : rtab .any (opsOf Try.f27 5) = tab_27_5 := by kernel_rfl
def SB (W : World) (w : World) : Prop := Below W.heap.size W w
theorem SB.next {W w w' : World} (h : SB W w) (hb : Below w.heap.size w w') : SB W w' := Below.trans h (hb.mono (Below.size h))
theorem SB.drew {W w : World} (h : SB W w) : SB W w.drew := below_drew1 h
def rowOk (l : List S45) (j : Nat) : Bool :=
  refCellB (rd_T45 l j) && ((!((rd_T45 l j).f1 == 2) || (decide (j + 1 < l.length) && ((rd_T45 l ((j : Int) + 1)).f0 == 0 && ((rd_T45 l ((j : Int) + 1)).f1 == 0 && (rd_T45 l ((j : Int) + 1)).f2 == (rd_T45 l j).f2)))) &&
    (!((rd_T45 l j).f1 == 0) || (decide (0 < j) && ((rd_T45 l ((j : Int) - 1)).f1 == 2 && (rd_T45 l ((j : Int) - 1)).f2 == (rd_T45 l j).f2))))
def refRowB (l : List S45) : Bool := (List.range l.length).all (rowOk l) && decide (l.length ≤ 300)
theorem refRow_no {l : List S45} {i : Nat} (hi : i < l.length) (h : rowOk l i = false) : refRowB l = false := by
  have : (List.range l.length).all (rowOk l) = false := by
    rw [List.all_eq_false]
    exact ⟨i, List.mem_range.2 hi, by simp [h]⟩
  unfold refRowB
  rw [this, Bool.false_and]
theorem refRow_yes {l : List S45} (h : ∀ j, j < l.length → rowOk l j = true) : refRowB l = decide (l.length ≤ 300) := by
  have : (List.range l.length).all (rowOk l) = true := List.all_eq_true.2 (fun j hj => h j (List.mem_range.1 hj))
  unfold refRowB
  rw [this, Bool.true_and]
set_option maxHeartbeats 16000000 in
set_option maxRecDepth 100000 in
theorem refRow_ (A : Option Addr) (cp : Nat) (l : List S45) (wr : Bool) (W : World) (hC : Kd.C k45 W A l.length l) (hcp : l.length ≤ cp) (hlen : l.length ≤ 1000000000) :
    Calls Try.prog 27 #[.agg #[.slice A l.length cp, .bool wr]] W fun e w' => e = .returned (.bool (refRowB l)) ∧ Below W.heap.size W w' := by
  go_enter Try.func27, Try.ntmps27
  go_wp2
  go_loopg [4] (l.length + 1) (fun kq v4 w' => ∃ i : Nat, v4 = .int .i64 i ∧ Aside0 (i ≤ l.length ∧ kq = l.length + 1 - i ∧ (∀ j, j < i → rowOk l j = true) ∧ Below W.heap.size W w'))
  case atStart => exact ⟨0, rfl, ⟨Nat.zero_le _, rfl, fun j h => absurd h (Nat.not_lt_zero _), below_alloc (Below.refl _ _) _⟩⟩
  case round =>
    obtain ⟨i, rfl, HA⟩ := hrel
    by_cases hlt : i < l.length
    · have hw1 : IntKind.i64.wrap ((i : Int) + 1) = i + 1 := by rw [IntKind.wrap_i64]; omega
      have hw2 : IntKind.i64.wrap ((i : Int) - 1) = i - 1 := by rw [IntKind.wrap_i64]; omega
      obtain ⟨ad, rfl, _⟩ := at_T45 hC (i : Int) (by omega) (by omega)
      have HK : ∀ (j : Int), 0 ≤ j → j < l.length → ∀ w', SB W w' → w'.cell? (ad.add (j.toNat * 3)) = some (.int .i32 (rd_T45 l j).f0) ∧ w'.cell? ⟨(ad.add (j.toNat * 3)).block, (ad.add (j.toNat * 3)).off + 1, none⟩ = some (.int .i64 (rd_T45 l j).f1) ∧ w'.cell? ⟨(ad.add (j.toNat * 3)).block, (ad.add (j.toNat * 3)).off + 2, none⟩ = some (.int .i64 (rd_T45 l j).f2) := by
        intro j h0 h1 w' hb
        obtain ⟨ad', he, h⟩ := at_T45 (Kd.C_below hC hb) j h0 h1
        obtain rfl := Option.some.inj he
        exact h
      have HB : SB W wr := HA.out.2.2.2
      have HB0 : SB W wr.drew := HB.drew
      have hrk : rowOk l i = true ∨ rowOk l i = false := by cases rowOk l i <;> simp
      unfold rowOk at hrk
      have HCi := Aside0.mk (HK (i : Int) (by omega) (by omega))
      rw [Int.toNat_natCast] at HCi
      generalize hc : rd_T45 l (i : Int) = c at HCi hrk
      obtain ⟨cr, cw, ca⟩ := c
      dsimp only at HCi hrk
      clear hrk
      cases hcell : refCellB ⟨cr, cw, ca⟩
      case false =>
        have hno : rowOk l i = false := by unfold rowOk; rw [hc, hcell, Bool.false_and]
        go_wp2
        try simp only [List.append_eq, List.cons_append, List.nil_append]
        refine start_ (n := 70) (S := SB W) (ds := []) (bl_ [0, 70]) (by kernel_rfl) (by kernel_rfl) rfl HB0 (fun _ => ?_)
        refine with_tab tab_27_5_ (fun HT_ => ?_)
        refine takes_ (List.range' 0 4) 66 (bl_ [4, 66]) rfl HT_.out (by kernel_rfl) HB0 (a' := ?_) ?_ ?_
        rotate_left
        · repeat (first | exact rfl | (refine tkN rfl rfl (fun _ _ _ h => h) (by rfl) (by simp only [Act.put, List.setIfInBounds_toArray, List.set_cons_zero, List.set_cons_succ, i64_w, i32_w]; rfl) ?_) | (refine tkY rfl rfl (fun _ _ _ h => h) (by rfl) (fun w' hw' => by (obtain ⟨s0, s1, s2⟩ := HCi.out w' hw'; go_simp; with_reducible rfl)) (by simp only [Act.put, List.setIfInBounds_toArray, List.set_cons_zero, List.set_cons_succ, i64_w, i32_w]; rfl) ?_))
        refine one_ (i := 4) (N := some 17) (bl_ [5, 65]) rfl rfl (one_of HT_.out (by kernel_rfl)) (by decide) (fun K hK => ?_)
        refine goes_ Try.func54 (by kernel_rfl) rfl #[.agg #[.int .i32 cr, .int .i64 cw, .int .i64 ca]] (by rfl) rfl rfl (by (try simp only [List.map_toArray, List.map_cons, List.map_nil]); first | done | rfl) ?_
        refine (refCell_ ⟨cr, cw, ca⟩ _).mono ?_
        rintro e w1 ⟨rfl, hb1⟩
        have HB1 := HB0.next hb1
        rw [hcell]
        refine ⟨_, rfl, hK.out _ _ HB1 (fun _ => ?_)⟩
        refine takes_ [5, 6, 7, 8, 9, 10, 11, 12, 13, 14, 15, 16, 17, 18, 19, 20, 21, 22, 23, 24, 25, 26, 27, 28, 29, 30, 31, 32, 33, 34, 35, 36, 37, 38, 39, 40, 41, 42, 43, 44, 45, 46, 47, 48, 49, 50, 51, 52, 53, 54, 55, 56, 57, 58, 59, 60, 61, 62, 63, 64, 65, 66, 67, 68, 69] 0 (bl_ [70]) rfl HT_.out (by kernel_rfl) HB1 (a' := ?_) ?_ ?_
        rotate_left
        · repeat (first | exact rfl | (refine tkN rfl rfl (fun _ _ _ h => h) (by rfl) (by simp only [Act.put, List.setIfInBounds_toArray, List.set_cons_zero, List.set_cons_succ, i64_w, i32_w]; rfl) ?_) | (refine tkY rfl rfl (fun _ _ _ h => h) (by rfl) (fun w' hw' => by (obtain ⟨s0, s1, s2⟩ := HCi.out w' hw'; go_simp; with_reducible rfl)) (by simp only [Act.put, List.setIfInBounds_toArray, List.set_cons_zero, List.set_cons_succ, i64_w, i32_w]; rfl) ?_))
        refine done_ (done_of HT_.out (by kernel_rfl)) ?_
        go_wp2
        go_ret
        exact ⟨by rw [refRow_no hlt hno]; rfl, HB1⟩
      case true =>
        by_cases c2 : cw = 2
        · subst c2
          by_cases cn : l.length ≤ i + 1
          · have hq : (l.length : Int) ≤ (i : Int) + 1 := by omega
            have hq2 : decide ((l.length : Int) ≤ (i : Int) + 1) = true := decide_eq_true hq
            have hno : rowOk l i = false := by unfold rowOk; rw [hc]; simp [hcell]; omega
            go_wp2
            try simp only [List.append_eq, List.cons_append, List.nil_append]
            refine start_ (n := 70) (S := SB W) (ds := []) (bl_ [0, 70]) (by kernel_rfl) (by kernel_rfl) rfl HB0 (fun _ => ?_)
            refine with_tab tab_27_5_ (fun HT_ => ?_)
            refine takes_ (List.range' 0 4) 66 (bl_ [4, 66]) rfl HT_.out (by kernel_rfl) HB0 (a' := ?_) ?_ ?_
            rotate_left
            · repeat (first | exact rfl | (refine tkN rfl rfl (fun _ _ _ h => h) (by rfl) (by simp only [Act.put, List.setIfInBounds_toArray, List.set_cons_zero, List.set_cons_succ, i64_w, i32_w]; rfl) ?_) | (refine tkY rfl rfl (fun _ _ _ h => h) (by rfl) (fun w' hw' => by (obtain ⟨s0, s1, s2⟩ := HCi.out w' hw'; go_simp; with_reducible rfl)) (by simp only [Act.put, List.setIfInBounds_toArray, List.set_cons_zero, List.set_cons_succ, i64_w, i32_w]; rfl) ?_))
            refine one_ (i := 4) (N := some 17) (bl_ [5, 65]) rfl rfl (one_of HT_.out (by kernel_rfl)) (by decide) (fun K hK => ?_)
            refine goes_ Try.func54 (by kernel_rfl) rfl #[.agg #[.int .i32 cr, .int .i64 2, .int .i64 ca]] (by rfl) rfl rfl (by (try simp only [List.map_toArray, List.map_cons, List.map_nil]); first | done | rfl) ?_
            refine (refCell_ ⟨cr, 2, ca⟩ _).mono ?_
            rintro e w1 ⟨rfl, hb1⟩
            have HB1 := HB0.next hb1
            rw [hcell]
            refine ⟨_, rfl, hK.out _ _ HB1 (fun _ => ?_)⟩
            refine takes_ [5, 6, 7, 8, 9, 10, 11, 12, 13, 14, 15, 16, 17, 18, 19, 20, 21, 22, 23, 24, 25, 26, 27, 28, 29, 30, 31, 32, 33, 34, 35, 36, 37, 38, 39, 40, 41, 42, 43, 44, 45, 46, 47, 48, 49, 50, 51, 52, 53, 54, 55, 56, 57, 58, 59, 60, 61, 62, 63, 64, 65, 66, 67, 68, 69] 0 (bl_ [70]) rfl HT_.out (by kernel_rfl) HB1 (a' := ?_) ?_ ?_
            rotate_left
            · repeat (first | exact rfl | (refine tkN rfl rfl (fun _ _ _ h => h) (by rfl) (by simp only [Act.put, List.setIfInBounds_toArray, List.set_cons_zero, List.set_cons_succ, i64_w, i32_w]; rfl) ?_) | (refine tkY rfl rfl (fun _ _ _ h => h) (by rfl) (fun w' hw' => by (obtain ⟨s0, s1, s2⟩ := HCi.out w' hw'; go_simp; with_reducible rfl)) (by simp only [Act.put, List.setIfInBounds_toArray, List.set_cons_zero, List.set_cons_succ, i64_w, i32_w]; rfl) ?_))
            refine done_ (done_of HT_.out (by kernel_rfl)) ?_
            go_wp2
            go_ret
            exact ⟨by rw [refRow_no hlt hno]; rfl, HB1⟩
          · have hq : ¬ (l.length : Int) ≤ (i : Int) + 1 := by omega
            have hq2 : decide ((l.length : Int) ≤ (i : Int) + 1) = false := decide_eq_false hq
            have hq3 : (i : Int) + 1 < l.length := by omega
            have hq4 : 0 ≤ (i : Int) + 1 := by omega
            have HCj := Aside0.mk (HK ((i : Int) + 1) (by omega) (by omega))
            rw [show ((i : Int) + 1).toNat = i + 1 by omega] at HCj
            generalize hd : rd_T45 l ((i : Int) + 1) = d at HCj
            obtain ⟨dr, dw, da⟩ := d
            dsimp only at HCj
            cases he : (dr == 0 && (dw == 0 && da == ca))
            case false =>
              have hno : rowOk l i = false := by unfold rowOk; rw [hc]; simp [hcell, hd] at he ⊢; exact fun _ => he
              go_wp2
              try simp only [List.append_eq, List.cons_append, List.nil_append]
              refine start_ (n := 70) (S := SB W) (ds := []) (bl_ [0, 70]) (by kernel_rfl) (by kernel_rfl) rfl HB0 (fun _ => ?_)
              refine with_tab tab_27_5_ (fun HT_ => ?_)
              refine takes_ (List.range' 0 4) 66 (bl_ [4, 66]) rfl HT_.out (by kernel_rfl) HB0 (a' := ?_) ?_ ?_
              rotate_left
              · repeat (first | exact rfl | (refine tkN rfl rfl (fun _ _ _ h => h) (by rfl) (by simp only [Act.put, List.setIfInBounds_toArray, List.set_cons_zero, List.set_cons_succ, i64_w, i32_w]; rfl) ?_) | (refine tkY rfl rfl (fun _ _ _ h => h) (by rfl) (fun w' hw' => by (obtain ⟨s0, s1, s2⟩ := HCi.out w' hw'; obtain ⟨t0, t1, t2⟩ := HCj.out w' hw'; go_simp; with_reducible rfl)) (by simp only [Act.put, List.setIfInBounds_toArray, List.set_cons_zero, List.set_cons_succ, i64_w, i32_w]; rfl) ?_))
              refine one_ (i := 4) (N := some 17) (bl_ [5, 65]) rfl rfl (one_of HT_.out (by kernel_rfl)) (by decide) (fun K hK => ?_)
              refine goes_ Try.func54 (by kernel_rfl) rfl #[.agg #[.int .i32 cr, .int .i64 2, .int .i64 ca]] (by rfl) rfl rfl (by (try simp only [List.map_toArray, List.map_cons, List.map_nil]); first | done | rfl) ?_
              refine (refCell_ ⟨cr, 2, ca⟩ _).mono ?_
              rintro e w1 ⟨rfl, hb1⟩
              have HB1 := HB0.next hb1
              rw [hcell]
              refine ⟨_, rfl, hK.out _ _ HB1 (fun _ => ?_)⟩
              refine takes_ [5, 6, 7, 8, 9, 10, 11, 12, 13, 14, 15, 16, 17, 18, 19, 20, 21, 22, 23, 24, 25, 26, 27, 28, 29, 30, 31, 32, 33, 34, 35, 36, 37, 38, 39, 40, 41, 42, 43, 44, 45, 46, 47, 48, 49, 50, 51, 52, 53, 54, 55, 56, 57, 58, 59, 60, 61, 62, 63, 64, 65, 66, 67, 68, 69] 0 (bl_ [70]) rfl HT_.out (by kernel_rfl) HB1 (a' := ?_) ?_ ?_
              rotate_left
              · repeat (first | exact rfl | (refine tkN rfl rfl (fun _ _ _ h => h) (by rfl) (by simp only [Act.put, List.setIfInBounds_toArray, List.set_cons_zero, List.set_cons_succ, i64_w, i32_w]; rfl) ?_) | (refine tkY rfl rfl (fun _ _ _ h => h) (by rfl) (fun w' hw' => by (obtain ⟨s0, s1, s2⟩ := HCi.out w' hw'; obtain ⟨t0, t1, t2⟩ := HCj.out w' hw'; go_simp; with_reducible rfl)) (by simp only [Act.put, List.setIfInBounds_toArray, List.set_cons_zero, List.set_cons_succ, i64_w, i32_w]; rfl) ?_))
              refine done_ (done_of HT_.out (by kernel_rfl)) ?_
              go_wp2
              go_ret
              exact ⟨by rw [refRow_no hlt hno]; rfl, HB1⟩
            case true =>
              have hyes : rowOk l i = true := by unfold rowOk; rw [hc]; simp [hcell, hd] at he ⊢; exact ⟨by omega, he⟩
              go_wp2
              try simp only [List.append_eq, List.cons_append, List.nil_append]
              refine start_ (n := 70) (S := SB W) (ds := []) (bl_ [0, 70]) (by kernel_rfl) (by kernel_rfl) rfl HB0 (fun _ => ?_)
              refine with_tab tab_27_5_ (fun HT_ => ?_)
              refine takes_ (List.range' 0 4) 66 (bl_ [4, 66]) rfl HT_.out (by kernel_rfl) HB0 (a' := ?_) ?_ ?_
              rotate_left
              · repeat (first | exact rfl | (refine tkN rfl rfl (fun _ _ _ h => h) (by rfl) (by simp only [Act.put, List.setIfInBounds_toArray, List.set_cons_zero, List.set_cons_succ, i64_w, i32_w]; rfl) ?_) | (refine tkY rfl rfl (fun _ _ _ h => h) (by rfl) (fun w' hw' => by (obtain ⟨s0, s1, s2⟩ := HCi.out w' hw'; obtain ⟨t0, t1, t2⟩ := HCj.out w' hw'; go_simp; with_reducible rfl)) (by simp only [Act.put, List.setIfInBounds_toArray, List.set_cons_zero, List.set_cons_succ, i64_w, i32_w]; rfl) ?_))
              refine one_ (i := 4) (N := some 17) (bl_ [5, 65]) rfl rfl (one_of HT_.out (by kernel_rfl)) (by decide) (fun K hK => ?_)
              refine goes_ Try.func54 (by kernel_rfl) rfl #[.agg #[.int .i32 cr, .int .i64 2, .int .i64 ca]] (by rfl) rfl rfl (by (try simp only [List.map_toArray, List.map_cons, List.map_nil]); first | done | rfl) ?_
              refine (refCell_ ⟨cr, 2, ca⟩ _).mono ?_
              rintro e w1 ⟨rfl, hb1⟩
              have HB1 := HB0.next hb1
              rw [hcell]
              refine ⟨_, rfl, hK.out _ _ HB1 (fun _ => ?_)⟩
              refine takes_ [5, 6, 7, 8, 9, 10, 11, 12, 13, 14, 15, 16, 17, 18, 19, 20, 21, 22, 23, 24, 25, 26, 27, 28, 29, 30, 31, 32, 33, 34, 35, 36, 37, 38, 39, 40, 41, 42, 43, 44, 45, 46, 47, 48, 49, 50, 51, 52, 53, 54, 55, 56, 57, 58, 59, 60, 61, 62, 63, 64, 65, 66, 67, 68, 69] 0 (bl_ [70]) rfl HT_.out (by kernel_rfl) HB1 (a' := ?_) ?_ ?_
              rotate_left
              · repeat (first | exact rfl | (refine tkN rfl rfl (fun _ _ _ h => h) (by rfl) (by simp only [Act.put, List.setIfInBounds_toArray, List.set_cons_zero, List.set_cons_succ, i64_w, i32_w]; rfl) ?_) | (refine tkY rfl rfl (fun _ _ _ h => h) (by rfl) (fun w' hw' => by (obtain ⟨s0, s1, s2⟩ := HCi.out w' hw'; obtain ⟨t0, t1, t2⟩ := HCj.out w' hw'; go_simp; with_reducible rfl)) (by simp only [Act.put, List.setIfInBounds_toArray, List.set_cons_zero, List.set_cons_succ, i64_w, i32_w]; rfl) ?_))
              refine done_ (done_of HT_.out (by kernel_rfl)) ?_
              go_wp2
              go_roundg (l.length + 1 - (i + 1))
              case measure => rw [HA.out.2.1]; omega
              case rel => exact ⟨i + 1, by simp, ⟨hlt, rfl, fun j hj => by rcases Nat.lt_succ_iff_lt_or_eq.1 hj with h | h; exact HA.out.2.2.1 j h; rw [h]; exact hyes, HB1⟩⟩
        · have q2 : (cw == 2) = false := by simp [c2]
          by_cases c0 : cw = 0
          · subst c0
            by_cases ci : i = 0
            · have hi0 : ((i : Int) == 0) = true := by simp [ci]
              have hno : rowOk l i = false := by unfold rowOk; rw [hc]; simp [hcell, ci]
              clear ci
              go_wp2
              try simp only [List.append_eq, List.cons_append, List.nil_append]
              refine start_ (n := 70) (S := SB W) (ds := []) (bl_ [0, 70]) (by kernel_rfl) (by kernel_rfl) rfl HB0 (fun _ => ?_)
              refine with_tab tab_27_5_ (fun HT_ => ?_)
              refine takes_ (List.range' 0 4) 66 (bl_ [4, 66]) rfl HT_.out (by kernel_rfl) HB0 (a' := ?_) ?_ ?_
              rotate_left
              · repeat (first | exact rfl | (refine tkN rfl rfl (fun _ _ _ h => h) (by rfl) (by simp only [Act.put, List.setIfInBounds_toArray, List.set_cons_zero, List.set_cons_succ, i64_w, i32_w]; rfl) ?_) | (refine tkY rfl rfl (fun _ _ _ h => h) (by rfl) (fun w' hw' => by (obtain ⟨s0, s1, s2⟩ := HCi.out w' hw'; go_simp; with_reducible rfl)) (by simp only [Act.put, List.setIfInBounds_toArray, List.set_cons_zero, List.set_cons_succ, i64_w, i32_w]; rfl) ?_))
              refine one_ (i := 4) (N := some 17) (bl_ [5, 65]) rfl rfl (one_of HT_.out (by kernel_rfl)) (by decide) (fun K hK => ?_)
              refine goes_ Try.func54 (by kernel_rfl) rfl #[.agg #[.int .i32 cr, .int .i64 0, .int .i64 ca]] (by rfl) rfl rfl (by (try simp only [List.map_toArray, List.map_cons, List.map_nil]); first | done | rfl) ?_
              refine (refCell_ ⟨cr, 0, ca⟩ _).mono ?_
              rintro e w1 ⟨rfl, hb1⟩
              have HB1 := HB0.next hb1
              rw [hcell]
              refine ⟨_, rfl, hK.out _ _ HB1 (fun _ => ?_)⟩
              refine takes_ [5, 6, 7, 8, 9, 10, 11, 12, 13, 14, 15, 16, 17, 18, 19, 20, 21, 22, 23, 24, 25, 26, 27, 28, 29, 30, 31, 32, 33, 34, 35, 36, 37, 38, 39, 40, 41, 42, 43, 44, 45, 46, 47, 48, 49, 50, 51, 52, 53, 54, 55, 56, 57, 58, 59, 60, 61, 62, 63, 64, 65, 66, 67, 68, 69] 0 (bl_ [70]) rfl HT_.out (by kernel_rfl) HB1 (a' := ?_) ?_ ?_
              rotate_left
              · repeat (first | exact rfl | (refine tkN rfl rfl (fun _ _ _ h => h) (by rfl) (by simp only [Act.put, List.setIfInBounds_toArray, List.set_cons_zero, List.set_cons_succ, i64_w, i32_w]; rfl) ?_) | (refine tkY rfl rfl (fun _ _ _ h => h) (by rfl) (fun w' hw' => by (obtain ⟨s0, s1, s2⟩ := HCi.out w' hw'; go_simp; with_reducible rfl)) (by simp only [Act.put, List.setIfInBounds_toArray, List.set_cons_zero, List.set_cons_succ, i64_w, i32_w]; rfl) ?_))
              refine done_ (done_of HT_.out (by kernel_rfl)) ?_
              go_wp2
              go_ret
              exact ⟨by rw [refRow_no hlt hno]; rfl, HB1⟩
            · have hi0 : ((i : Int) == 0) = false := by simp [ci]
              have hq3 : (i : Int) - 1 < l.length := by omega
              have hq4 : 0 ≤ (i : Int) - 1 := by omega
              have hr1 : (1 : Int) ≤ (i : Int) := by omega
              have hr2 : 1 ≤ i := by omega
              have hr3 : 0 < i := by omega
              have hr4 : i ≤ l.length := by omega
              have hr5 : (i : Int) ≤ l.length := by omega
              have HCj := Aside0.mk (HK ((i : Int) - 1) (by omega) (by omega))
              rw [show ((i : Int) - 1).toNat = i - 1 by omega] at HCj
              generalize hd : rd_T45 l ((i : Int) - 1) = d at HCj
              obtain ⟨dr, dw, da⟩ := d
              dsimp only at HCj
              by_cases c3 : dw = 2
              · subst c3
                cases he : (da == ca)
                case false =>
                  have hno : rowOk l i = false := by unfold rowOk; rw [hc]; simp [hcell, hd, hi0] at he ⊢; exact fun _ => he
                  go_wp2
                  try simp only [List.append_eq, List.cons_append, List.nil_append]
                  refine start_ (n := 70) (S := SB W) (ds := []) (bl_ [0, 70]) (by kernel_rfl) (by kernel_rfl) rfl HB0 (fun _ => ?_)
                  refine with_tab tab_27_5_ (fun HT_ => ?_)
                  refine takes_ (List.range' 0 4) 66 (bl_ [4, 66]) rfl HT_.out (by kernel_rfl) HB0 (a' := ?_) ?_ ?_
                  rotate_left
                  · repeat (first | exact rfl | (refine tkN rfl rfl (fun _ _ _ h => h) (by rfl) (by simp only [Act.put, List.setIfInBounds_toArray, List.set_cons_zero, List.set_cons_succ, i64_w, i32_w]; rfl) ?_) | (refine tkY rfl rfl (fun _ _ _ h => h) (by rfl) (fun w' hw' => by (obtain ⟨s0, s1, s2⟩ := HCi.out w' hw'; obtain ⟨t0, t1, t2⟩ := HCj.out w' hw'; go_simp; with_reducible rfl)) (by simp only [Act.put, List.setIfInBounds_toArray, List.set_cons_zero, List.set_cons_succ, i64_w, i32_w]; rfl) ?_))
                  refine one_ (i := 4) (N := some 17) (bl_ [5, 65]) rfl rfl (one_of HT_.out (by kernel_rfl)) (by decide) (fun K hK => ?_)
                  refine goes_ Try.func54 (by kernel_rfl) rfl #[.agg #[.int .i32 cr, .int .i64 0, .int .i64 ca]] (by rfl) rfl rfl (by (try simp only [List.map_toArray, List.map_cons, List.map_nil]); first | done | rfl) ?_
                  refine (refCell_ ⟨cr, 0, ca⟩ _).mono ?_
                  rintro e w1 ⟨rfl, hb1⟩
                  have HB1 := HB0.next hb1
                  rw [hcell]
                  refine ⟨_, rfl, hK.out _ _ HB1 (fun _ => ?_)⟩
                  refine takes_ [5, 6, 7, 8, 9, 10, 11, 12, 13, 14, 15, 16, 17, 18, 19, 20, 21, 22, 23, 24, 25, 26, 27, 28, 29, 30, 31, 32, 33, 34, 35, 36, 37, 38, 39, 40, 41, 42, 43, 44, 45, 46, 47, 48, 49, 50, 51, 52, 53, 54, 55, 56, 57, 58, 59, 60, 61, 62, 63, 64, 65, 66, 67, 68, 69] 0 (bl_ [70]) rfl HT_.out (by kernel_rfl) HB1 (a' := ?_) ?_ ?_
                  rotate_left
                  · repeat (first | exact rfl | (refine tkN rfl rfl (fun _ _ _ h => h) (by rfl) (by simp only [Act.put, List.setIfInBounds_toArray, List.set_cons_zero, List.set_cons_succ, i64_w, i32_w]; rfl) ?_) | (refine tkY rfl rfl (fun _ _ _ h => h) (by rfl) (fun w' hw' => by (obtain ⟨s0, s1, s2⟩ := HCi.out w' hw'; obtain ⟨t0, t1, t2⟩ := HCj.out w' hw'; go_simp; with_reducible rfl)) (by simp only [Act.put, List.setIfInBounds_toArray, List.set_cons_zero, List.set_cons_succ, i64_w, i32_w]; rfl) ?_))
                  refine done_ (done_of HT_.out (by kernel_rfl)) ?_
                  go_wp2
                  go_ret
                  exact ⟨by rw [refRow_no hlt hno]; rfl, HB1⟩
                case true =>
                  have hyes : rowOk l i = true := by unfold rowOk; rw [hc]; simp [hcell, hd] at he ⊢; exact ⟨by omega, he⟩
                  go_wp2
                  try simp only [List.append_eq, List.cons_append, List.nil_append]
                  refine start_ (n := 70) (S := SB W) (ds := []) (bl_ [0, 70]) (by kernel_rfl) (by kernel_rfl) rfl HB0 (fun _ => ?_)
                  refine with_tab tab_27_5_ (fun HT_ => ?_)
                  refine takes_ (List.range' 0 4) 66 (bl_ [4, 66]) rfl HT_.out (by kernel_rfl) HB0 (a' := ?_) ?_ ?_
                  rotate_left
                  · repeat (first | exact rfl | (refine tkN rfl rfl (fun _ _ _ h => h) (by rfl) (by simp only [Act.put, List.setIfInBounds_toArray, List.set_cons_zero, List.set_cons_succ, i64_w, i32_w]; rfl) ?_) | (refine tkY rfl rfl (fun _ _ _ h => h) (by rfl) (fun w' hw' => by (obtain ⟨s0, s1, s2⟩ := HCi.out w' hw'; obtain ⟨t0, t1, t2⟩ := HCj.out w' hw'; go_simp; with_reducible rfl)) (by simp only [Act.put, List.setIfInBounds_toArray, List.set_cons_zero, List.set_cons_succ, i64_w, i32_w]; rfl) ?_))
                  refine one_ (i := 4) (N := some 17) (bl_ [5, 65]) rfl rfl (one_of HT_.out (by kernel_rfl)) (by decide) (fun K hK => ?_)
                  refine goes_ Try.func54 (by kernel_rfl) rfl #[.agg #[.int .i32 cr, .int .i64 0, .int .i64 ca]] (by rfl) rfl rfl (by (try simp only [List.map_toArray, List.map_cons, List.map_nil]); first | done | rfl) ?_
                  refine (refCell_ ⟨cr, 0, ca⟩ _).mono ?_
                  rintro e w1 ⟨rfl, hb1⟩
                  have HB1 := HB0.next hb1
                  rw [hcell]
                  refine ⟨_, rfl, hK.out _ _ HB1 (fun _ => ?_)⟩
                  refine takes_ [5, 6, 7, 8, 9, 10, 11, 12, 13, 14, 15, 16, 17, 18, 19, 20, 21, 22, 23, 24, 25, 26, 27, 28, 29, 30, 31, 32, 33, 34, 35, 36, 37, 38, 39, 40, 41, 42, 43, 44, 45, 46, 47, 48, 49, 50, 51, 52, 53, 54, 55, 56, 57, 58, 59, 60, 61, 62, 63, 64, 65, 66, 67, 68, 69] 0 (bl_ [70]) rfl HT_.out (by kernel_rfl) HB1 (a' := ?_) ?_ ?_
                  rotate_left
                  · repeat (first | exact rfl | (refine tkN rfl rfl (fun _ _ _ h => h) (by rfl) (by simp only [Act.put, List.setIfInBounds_toArray, List.set_cons_zero, List.set_cons_succ, i64_w, i32_w]; rfl) ?_) | (refine tkY rfl rfl (fun _ _ _ h => h) (by rfl) (fun w' hw' => by (obtain ⟨s0, s1, s2⟩ := HCi.out w' hw'; obtain ⟨t0, t1, t2⟩ := HCj.out w' hw'; go_simp; with_reducible rfl)) (by simp only [Act.put, List.setIfInBounds_toArray, List.set_cons_zero, List.set_cons_succ, i64_w, i32_w]; rfl) ?_))
                  refine done_ (done_of HT_.out (by kernel_rfl)) ?_
                  go_wp2
                  go_roundg (l.length + 1 - (i + 1))
                  case measure => rw [HA.out.2.1]; omega
                  case rel => exact ⟨i + 1, by simp, ⟨hlt, rfl, fun j hj => by rcases Nat.lt_succ_iff_lt_or_eq.1 hj with h | h; exact HA.out.2.2.1 j h; rw [h]; exact hyes, HB1⟩⟩
              · have q3 : (dw == 2) = false := by simp [c3]
                have q4 : (dw != 2) = true := by simp [c3]
                have hno : rowOk l i = false := by unfold rowOk; rw [hc]; simp [hcell, hd, c3]
                go_wp2
                try simp only [List.append_eq, List.cons_append, List.nil_append]
                refine start_ (n := 70) (S := SB W) (ds := []) (bl_ [0, 70]) (by kernel_rfl) (by kernel_rfl) rfl HB0 (fun _ => ?_)
                refine with_tab tab_27_5_ (fun HT_ => ?_)
                refine takes_ (List.range' 0 4) 66 (bl_ [4, 66]) rfl HT_.out (by kernel_rfl) HB0 (a' := ?_) ?_ ?_
                rotate_left
                · repeat (first | exact rfl | (refine tkN rfl rfl (fun _ _ _ h => h) (by rfl) (by simp only [Act.put, List.setIfInBounds_toArray, List.set_cons_zero, List.set_cons_succ, i64_w, i32_w]; rfl) ?_) | (refine tkY rfl rfl (fun _ _ _ h => h) (by rfl) (fun w' hw' => by (obtain ⟨s0, s1, s2⟩ := HCi.out w' hw'; obtain ⟨t0, t1, t2⟩ := HCj.out w' hw'; go_simp; with_reducible rfl)) (by simp only [Act.put, List.setIfInBounds_toArray, List.set_cons_zero, List.set_cons_succ, i64_w, i32_w]; rfl) ?_))
                refine one_ (i := 4) (N := some 17) (bl_ [5, 65]) rfl rfl (one_of HT_.out (by kernel_rfl)) (by decide) (fun K hK => ?_)
                refine goes_ Try.func54 (by kernel_rfl) rfl #[.agg #[.int .i32 cr, .int .i64 0, .int .i64 ca]] (by rfl) rfl rfl (by (try simp only [List.map_toArray, List.map_cons, List.map_nil]); first | done | rfl) ?_
                refine (refCell_ ⟨cr, 0, ca⟩ _).mono ?_
                rintro e w1 ⟨rfl, hb1⟩
                have HB1 := HB0.next hb1
                rw [hcell]
                refine ⟨_, rfl, hK.out _ _ HB1 (fun _ => ?_)⟩
                refine takes_ [5, 6, 7, 8, 9, 10, 11, 12, 13, 14, 15, 16, 17, 18, 19, 20, 21, 22, 23, 24, 25, 26, 27, 28, 29, 30, 31, 32, 33, 34, 35, 36, 37, 38, 39, 40, 41, 42, 43, 44, 45, 46, 47, 48, 49, 50, 51, 52, 53, 54, 55, 56, 57, 58, 59, 60, 61, 62, 63, 64, 65, 66, 67, 68, 69] 0 (bl_ [70]) rfl HT_.out (by kernel_rfl) HB1 (a' := ?_) ?_ ?_
                rotate_left
                · repeat (first | exact rfl | (refine tkN rfl rfl (fun _ _ _ h => h) (by rfl) (by simp only [Act.put, List.setIfInBounds_toArray, List.set_cons_zero, List.set_cons_succ, i64_w, i32_w]; rfl) ?_) | (refine tkY rfl rfl (fun _ _ _ h => h) (by rfl) (fun w' hw' => by (obtain ⟨s0, s1, s2⟩ := HCi.out w' hw'; obtain ⟨t0, t1, t2⟩ := HCj.out w' hw'; go_simp; with_reducible rfl)) (by simp only [Act.put, List.setIfInBounds_toArray, List.set_cons_zero, List.set_cons_succ, i64_w, i32_w]; rfl) ?_))
                refine done_ (done_of HT_.out (by kernel_rfl)) ?_
                go_wp2
                go_ret
                exact ⟨by rw [refRow_no hlt hno]; rfl, HB1⟩
          · have q0 : (cw == 0) = false := by simp [c0]
            have hyes : rowOk l i = true := by unfold rowOk; rw [hc]; simp [hcell, c2, c0]
            go_wp2
            try simp only [List.append_eq, List.cons_append, List.nil_append]
            refine start_ (n := 70) (S := SB W) (ds := []) (bl_ [0, 70]) (by kernel_rfl) (by kernel_rfl) rfl HB0 (fun _ => ?_)
            refine with_tab tab_27_5_ (fun HT_ => ?_)
            refine takes_ (List.range' 0 4) 66 (bl_ [4, 66]) rfl HT_.out (by kernel_rfl) HB0 (a' := ?_) ?_ ?_
            rotate_left
            · repeat (first | exact rfl | (refine tkN rfl rfl (fun _ _ _ h => h) (by rfl) (by simp only [Act.put, List.setIfInBounds_toArray, List.set_cons_zero, List.set_cons_succ, i64_w, i32_w]; rfl) ?_) | (refine tkY rfl rfl (fun _ _ _ h => h) (by rfl) (fun w' hw' => by (obtain ⟨s0, s1, s2⟩ := HCi.out w' hw'; go_simp; with_reducible rfl)) (by simp only [Act.put, List.setIfInBounds_toArray, List.set_cons_zero, List.set_cons_succ, i64_w, i32_w]; rfl) ?_))
            refine one_ (i := 4) (N := some 17) (bl_ [5, 65]) rfl rfl (one_of HT_.out (by kernel_rfl)) (by decide) (fun K hK => ?_)
            refine goes_ Try.func54 (by kernel_rfl) rfl #[.agg #[.int .i32 cr, .int .i64 cw, .int .i64 ca]] (by rfl) rfl rfl (by (try simp only [List.map_toArray, List.map_cons, List.map_nil]); first | done | rfl) ?_
            refine (refCell_ ⟨cr, cw, ca⟩ _).mono ?_
            rintro e w1 ⟨rfl, hb1⟩
            have HB1 := HB0.next hb1
            rw [hcell]
            refine ⟨_, rfl, hK.out _ _ HB1 (fun _ => ?_)⟩
            refine takes_ [5, 6, 7, 8, 9, 10, 11, 12, 13, 14, 15, 16, 17, 18, 19, 20, 21, 22, 23, 24, 25, 26, 27, 28, 29, 30, 31, 32, 33, 34, 35, 36, 37, 38, 39, 40, 41, 42, 43, 44, 45, 46, 47, 48, 49, 50, 51, 52, 53, 54, 55, 56, 57, 58, 59, 60, 61, 62, 63, 64, 65, 66, 67, 68, 69] 0 (bl_ [70]) rfl HT_.out (by kernel_rfl) HB1 (a' := ?_) ?_ ?_
            rotate_left
            · repeat (first | exact rfl | (refine tkN rfl rfl (fun _ _ _ h => h) (by rfl) (by simp only [Act.put, List.setIfInBounds_toArray, List.set_cons_zero, List.set_cons_succ, i64_w, i32_w]; rfl) ?_) | (refine tkY rfl rfl (fun _ _ _ h => h) (by rfl) (fun w' hw' => by (obtain ⟨s0, s1, s2⟩ := HCi.out w' hw'; go_simp; with_reducible rfl)) (by simp only [Act.put, List.setIfInBounds_toArray, List.set_cons_zero, List.set_cons_succ, i64_w, i32_w]; rfl) ?_))
            refine done_ (done_of HT_.out (by kernel_rfl)) ?_
            go_wp2
            go_roundg (l.length + 1 - (i + 1))
            case measure => rw [HA.out.2.1]; omega
            case rel => exact ⟨i + 1, by simp, ⟨hlt, rfl, fun j hj => by rcases Nat.lt_succ_iff_lt_or_eq.1 hj with h | h; exact HA.out.2.2.1 j h; rw [h]; exact hyes, HB1⟩⟩
    · go_wp2
      have hall := HA.out
      obtain rfl : i = l.length := by omega
      go_ret
      exact ⟨by rw [refRow_yes hall.2.2.1]; simp; omega, hall.2.2.2⟩
end Go.Proofs.Ytkigdcihhlkkdaa.P
end
section
set_option linter.unusedVariables false
set_option linter.unusedSimpArgs false
namespace Go.Proofs.Ytkigdcihhlkkdaa.Pure
open Go.RowKit Go.Proofs.Ytkigdcihhlkkdaa.P Go.Proofs.YtkigdcihhlkkdaaW.PrintWords Go.Proofs.YtkigdcihhlkkdaaW.PrintLast
theorem isIn_nil_ (r : Int) : rotulusref1_Width.isIn [] r = false := rfl
theorem isIn_cons_ (p : Int × Int) (l : List (Int × Int)) (r : Int) : rotulusref1_Width.isIn (p :: l) r = true ↔ (p.1 ≤ r ∧ r ≤ p.2) ∨ rotulusref1_Width.isIn l r = true := by
  simp [rotulusref1_Width.isIn]
theorem wOf_ref (r : Int) (h0 : -2147483648 ≤ r) (h1 : r ≤ 2147483647) : wOf r = rotulusref1_Width.w r := by
  have z : rotulusref1_Width.isIn rotulusref1_Width.zeros r = true ↔ width_none.c r := by
    simp only [rotulusref1_Width.zeros, isIn_cons_, isIn_nil_, width_none.c, Bool.false_eq_true, or_false]
    omega
  have v : rotulusref1_Width.isIn rotulusref1_Width.wides r = true ↔ width_wide.c r := by
    simp only [rotulusref1_Width.wides, isIn_cons_, isIn_nil_, width_wide.c, Bool.false_eq_true, or_false]
  unfold wOf rotulusref1_Width.w
  by_cases c : width_none.c r
  · rw [if_pos (z.2 c), if_pos (show width_none.b r = true from decide_eq_true c)]
  · rw [if_neg (fun h => c (z.1 h)), if_neg (show ¬ width_none.b r = true from fun h => c (of_decide_eq_true h))]
    by_cases d : width_wide.c r
    · rw [if_pos (v.2 d), if_pos (show width_wide.b r = true from decide_eq_true d)]
    · rw [if_neg (fun h => d (v.1 h)), if_neg (show ¬ width_wide.b r = true from fun h => d (of_decide_eq_true h))]
def in32 (c : S45) : Prop := -2147483648 ≤ c.f0 ∧ c.f0 ≤ 2147483647
theorem w_range_ (r : Int) : 0 ≤ rotulusref1_Width.w r ∧ rotulusref1_Width.w r ≤ 2 := by
  unfold rotulusref1_Width.w
  split
  · omega
  · split <;> omega
theorem cell_ref (c : S45) (h : in32 c) : cellB c = refCellB c := by
  unfold cellB refCellB padB
  rw [wOf_ref c.f0 h.1 h.2]
  have hw := w_range_ c.f0
  generalize rotulusref1_Width.w c.f0 = w at hw
  rw [Bool.eq_iff_iff]
  simp only [Bool.and_eq_true, Bool.or_eq_true, decide_eq_true_eq, beq_iff_eq]
  omega
theorem rd45_eq (l : List S45) (i : Nat) (h : i < l.length) : rd_T45 l (i : Int) = l[i] := rd45_at h
theorem mayL_iff (l : List S45) : ∀ (d i : Nat) (o : Bool) (a : Int), i + d = l.length → (mayL o a (l.drop i) = true ↔
    (∀ j : Nat, i ≤ j → j < l.length → cellB (rd_T45 l j) = true ∧ ((if j = i then o else (rd_T45 l ((j : Int) - 1)).f1 == 2) = ((rd_T45 l j).f1 == 0)) ∧ ((rd_T45 l j).f1 = 0 → (rd_T45 l j).f2 = if j = i then a else (rd_T45 l ((j : Int) - 1)).f2)) ∧
    (if d = 0 then o = false else (rd_T45 l ((l.length : Int) - 1)).f1 ≠ 2))
  | 0, i, o, a, hi => by
    rw [List.drop_of_length_le (by omega)]
    simp only [mayL, Bool.not_eq_true', if_true]
    exact ⟨fun h => ⟨fun j h1 h2 => by omega, h⟩, fun h => h.2⟩
  | d + 1, i, o, a, hi => by
    have hlt : i < l.length := by omega
    have hg := rd45_eq l i hlt
    rw [List.drop_eq_getElem_cons hlt, ← hg]
    unfold mayL
    simp only [Bool.and_eq_true, mayL_iff l d (i + 1) ((rd_T45 l (i : Int)).f1 == 2) (rd_T45 l (i : Int)).f2 (by omega), Bool.or_eq_true, Bool.not_eq_true', beq_iff_eq]
    rw [if_neg (by omega : ¬ d + 1 = 0)]
    constructor
    · rintro ⟨h1, h2, h3, h4, h5⟩
      refine ⟨fun j hj1 hj2 => ?_, ?_⟩
      · by_cases e : j = i
        · subst e
          rw [if_pos rfl, if_pos rfl]
          refine ⟨h1, h2, fun hz => ?_⟩
          rcases h3 with h3 | h3
          · rw [h3, hz] at h2; simp at h2
          · exact h3
        · obtain ⟨k1, k2, k3⟩ := h4 j (by omega) hj2
          rw [if_neg e, if_neg e]
          by_cases e2 : j = i + 1
          · subst e2
            rw [if_pos rfl] at k2 k3
            have e3 : ((i + 1 : Nat) : Int) - 1 = (i : Int) := by omega
            rw [e3]
            exact ⟨k1, k2, k3⟩
          · rw [if_neg e2] at k2 k3
            exact ⟨k1, k2, k3⟩
      · by_cases hd : d = 0
        · rw [if_pos hd] at h5
          have e3 : (l.length : Int) - 1 = (i : Int) := by omega
          rw [e3]
          simpa using h5
        · rw [if_neg hd] at h5
          exact h5
    · rintro ⟨h1, h2⟩
      obtain ⟨k1, k2, k3⟩ := h1 i (Nat.le_refl _) hlt
      rw [if_pos rfl] at k2 k3
      refine ⟨k1, k2, ?_, fun j hj1 hj2 => ?_, ?_⟩
      · cases o with
        | false => exact .inl rfl
        | true => exact .inr (k3 (by simpa using k2.symm))
      · obtain ⟨q1, q2, q3⟩ := h1 j (by omega) hj2
        rw [if_neg (by omega)] at q2 q3
        by_cases e2 : j = i + 1
        · subst e2
          rw [if_pos rfl, if_pos rfl]
          have e3 : ((i + 1 : Nat) : Int) - 1 = (i : Int) := by omega
          rw [e3] at q2 q3
          exact ⟨q1, q2, q3⟩
        · rw [if_neg e2, if_neg e2]
          exact ⟨q1, q2, q3⟩
      · by_cases hd : d = 0
        · rw [if_pos hd]
          have e3 : (l.length : Int) - 1 = (i : Int) := by omega
          rw [e3] at h2
          simpa using h2
        · rw [if_neg hd]
          exact h2
theorem rowOk_iff (l : List S45) (j : Nat) : rowOk l j = true ↔ refCellB (rd_T45 l j) = true ∧ ((rd_T45 l j).f1 = 2 → j + 1 < l.length ∧ (rd_T45 l ((j : Int) + 1)).f0 = 0 ∧ (rd_T45 l ((j : Int) + 1)).f1 = 0 ∧ (rd_T45 l ((j : Int) + 1)).f2 = (rd_T45 l j).f2) ∧
    ((rd_T45 l j).f1 = 0 → 0 < j ∧ (rd_T45 l ((j : Int) - 1)).f1 = 2 ∧ (rd_T45 l ((j : Int) - 1)).f2 = (rd_T45 l j).f2) := by
  unfold rowOk
  simp only [Bool.and_eq_true, Bool.or_eq_true, Bool.not_eq_true', beq_eq_false_iff_ne, beq_iff_eq, decide_eq_true_eq, Decidable.imp_iff_not_or, ne_eq]
theorem may_ref (l : List S45) (h : ∀ c ∈ l, in32 c) : mayB l = refRowB l := by
  have hin : ∀ j : Nat, j < l.length → in32 (rd_T45 l j) := fun j hj => by rw [rd45_eq l j hj]; exact h _ (List.getElem_mem hj)
  have hiff := mayL_iff l l.length 0 false 0 (by omega)
  rw [List.drop_zero] at hiff
  have key : mayL false 0 l = (List.range l.length).all (rowOk l) := by
    rw [Bool.eq_iff_iff, hiff, List.all_eq_true]
    constructor
    · rintro ⟨h1, h2⟩ j hj
      have hj := List.mem_range.1 hj
      obtain ⟨k1, k2, k3⟩ := h1 j (Nat.zero_le _) hj
      refine (rowOk_iff l j).2 ⟨by rw [← cell_ref _ (hin j hj)]; exact k1, fun hz => ?_, fun hz => ?_⟩
      · by_cases hn : j + 1 < l.length
        · obtain ⟨q1, q2, q3⟩ := h1 (j + 1) (Nat.zero_le _) hn
          rw [if_neg (by omega)] at q2 q3
          have e1 : ((j + 1 : Nat) : Int) - 1 = (j : Int) := by omega
          have e2 : ((j + 1 : Nat) : Int) = (j : Int) + 1 := by omega
          rw [e1, e2] at q2 q3
          rw [e2] at q1
          rw [hz] at q2
          have z1 : (rd_T45 l ((j : Int) + 1)).f1 = 0 := by simpa using q2.symm
          refine ⟨hn, ?_, z1, q3 z1⟩
          unfold cellB padB at q1
          simp only [Bool.and_eq_true, Bool.or_eq_true, decide_eq_true_eq, beq_iff_eq, z1] at q1
          omega
        · rw [if_neg (by omega)] at h2
          have e1 : (l.length : Int) - 1 = (j : Int) := by omega
          rw [e1] at h2
          exact absurd hz h2
      · rw [hz] at k2
        by_cases e : j = 0
        · rw [if_pos e] at k2; simp at k2
        · rw [if_neg e] at k2
          have k4 := k3 hz
          rw [if_neg e] at k4
          exact ⟨by omega, by simpa using k2, k4.symm⟩
    · intro hr
      have hr' : ∀ j : Nat, j < l.length → _ := fun j hj => (rowOk_iff l j).1 (hr j (List.mem_range.2 hj))
      refine ⟨fun j _ hj => ?_, ?_⟩
      · obtain ⟨k1, k2, k3⟩ := hr' j hj
        refine ⟨by rw [cell_ref _ (hin j hj)]; exact k1, ?_, fun hz => ?_⟩
        · by_cases e : j = 0
          · rw [if_pos e]
            subst e
            cases hz : ((rd_T45 l ((0 : Nat) : Int)).f1 == 0) with
            | false => rfl
            | true => exact absurd (k3 (by simpa using hz)).1 (by decide)
          · rw [if_neg e]
            obtain ⟨p, rfl⟩ : ∃ p, j = p + 1 := ⟨j - 1, by omega⟩
            have e1 : ((p + 1 : Nat) : Int) - 1 = (p : Int) := by omega
            have e2 : ((p + 1 : Nat) : Int) = (p : Int) + 1 := by omega
            rw [e1] at k3 ⊢
            rw [e2] at k3 ⊢
            obtain ⟨_, g2, _⟩ := hr' p (by omega)
            rw [Bool.eq_iff_iff, beq_iff_eq, beq_iff_eq]
            exact ⟨fun hz => (g2 hz).2.2.1, fun hz => (k3 hz).2.1⟩
        · have := k3 hz
          rw [if_neg (by omega)]
          exact this.2.2.symm
      · by_cases e : l.length = 0
        · rw [if_pos e]
        · rw [if_neg e]
          intro hz
          obtain ⟨_, g2, _⟩ := hr' (l.length - 1) (by omega)
          have e1 : ((l.length - 1 : Nat) : Int) = (l.length : Int) - 1 := by omega
          rw [e1] at g2
          have := (g2 hz).1
          omega
  unfold mayB refRowB
  rw [key, Bool.and_comm]
end Go.Proofs.Ytkigdcihhlkkdaa.Pure
end
section
set_option linter.unusedVariables false
set_option linter.unusedSimpArgs false
namespace Go.Proofs.Ytkigdcihhlkkdaa.Pure
open Go.RowKit Go.Proofs.Ytkigdcihhlkkdaa.P Go.Proofs.YtkigdcihhlkkdaaW.PrintWords Go.Proofs.YtkigdcihhlkkdaaW.PrintLast
theorem getL_prop (x0 : List Int) : ∀ (f i acc : Nat) (r : List Int), i + r.length = x0.length → ∃ v m : Nat, getL x0 f i acc r = ((v : Int), (m : Int)) ∧ m ≤ x0.length
  | 0, _, _, _, _ => ⟨0, 0, rfl, Nat.zero_le _⟩
  | _ + 1, _, _, [], _ => ⟨0, 0, rfl, Nat.zero_le _⟩
  | f + 1, i, acc, x :: t, h => by
    unfold getL
    simp only [List.length_cons] at h
    split
    · split
      · exact ⟨_, _, rfl, by omega⟩
      · exact ⟨0, 0, rfl, Nat.zero_le _⟩
    · exact getL_prop x0 f (i + 1) _ t (by omega)
def NumsIn (l : List Int) : Prop := ∀ v ∈ l, 0 ≤ v ∧ v ≤ 1073741824
theorem nums_any (x0 : List Int) (hx : ∀ x ∈ x0, 0 ≤ x ∧ x < 256) (hlen : x0.length ≤ 1000000) : ∀ (d i : Nat) (x1 : List Int) (x5 : Nat), i + d = x1.length → x5 ≤ x0.length → x1.length ≤ 1000 → NumsIn x1 →
    ∃ (m : Nat) (y : List Int), Ev (fun k => pack_numbers.l0 k x0 x1 (x5 : Int) (x1.length : Int) (i : Int)) ((m : Int), y) ∧ m ≤ x0.length ∧ y.length = x1.length ∧ NumsIn y
  | 0, i, x1, x5, hi, h5, hl, hn => by
    refine ⟨x5, x1, ?_, h5, rfl, hn⟩
    refine Ev.step (f := _) (fun k => by rw [pack_numbers.l0]) ?_
    exact ev_neg (by omega) (Ev.now _)
  | d + 1, i, x1, x5, hi, h5, hl, hn => by
    have hg := getUint_ev (x0.drop x5) (fun x h => hx x (List.mem_of_mem_drop h))
    obtain ⟨v, m, he, hm⟩ := getL_prop (x0.drop x5) 10 0 0 (x0.drop x5) (by simp)
    rw [he] at hg
    rw [List.length_drop] at hm
    have hs : ∀ r, Ev (fun k => if (m : Int) = 0 then (some ((0 : Int), x1)) else (if (v : Int) > 1073741824 then (some (0, x1)) else (if 0 ≤ (i : Int) then (if (i : Int) < (x1.length : Int) then (pack_numbers.l0 k x0 (x1.set (i : Int).toNat (wrap64 (v : Int))) (wrap64 ((x5 : Int) + (m : Int))) (x1.length : Int) (wrap64 ((i : Int) + 1))) else (none)) else (none)))) r →
        Ev (fun k => pack_numbers.l0 k x0 x1 (x5 : Int) (x1.length : Int) (i : Int)) r := by
      intro r h
      refine Ev.step (f := _) (fun k => by rw [pack_numbers.l0]) ?_
      refine ev_pos (by omega) (ev_pos (by omega) (ev_pos (by omega) ?_))
      rw [Int.toNat_natCast]
      exact Ev.bind hg h
    by_cases h0 : (m : Int) = 0
    · exact ⟨0, x1, hs _ (ev_pos h0 (Ev.now _)), Nat.zero_le _, rfl, hn⟩
    by_cases h1 : (v : Int) > 1073741824
    · exact ⟨0, x1, hs _ (ev_neg h0 (ev_pos h1 (Ev.now _))), Nat.zero_le _, rfl, hn⟩
    have hn2 : NumsIn (x1.set i (v : Int)) := by
      intro y hy
      rcases List.mem_or_eq_of_mem_set hy with h | h
      · exact hn y h
      · subst h; omega
    obtain ⟨m2, y, h2, h3, h4, h6⟩ := nums_any x0 hx hlen d (i + 1) (x1.set i (v : Int)) (x5 + m) (by rw [List.length_set]; omega) (by omega) (by rw [List.length_set]; exact hl) hn2
    rw [List.length_set] at h4 h2
    refine ⟨m2, y, hs _ (ev_neg h0 (ev_neg h1 (ev_pos (by omega) (ev_pos (by omega) ?_)))), h3, h4, h6⟩
    rw [w64_in _ (by omega), w64_in _ (by omega), w64_in _ (by omega), Int.toNat_natCast, show ((x5 : Int) + (m : Int)) = ((x5 + m : Nat) : Int) by omega, show ((i : Int) + 1) = ((i + 1 : Nat) : Int) by omega]
    exact h2
def Told (b : List Int) (r : List S45 × Bool × Int × Int) : Prop := r = ([], false, 0, 1) ∨ ∃ (l : List S45) (wr : Bool) (m : Nat), r = (l, wr, (m : Int), 0) ∧ mayB l = true ∧ (∀ c ∈ l, in32 c) ∧ rowB l wr = b.take m ∧ m ≤ b.length
theorem put_none_ (l : List S45) (w : Bool) (hl : l.length ≤ 100000) (hm : mayB l = false) : Ev (fun k => pack_Put.f k l w) (([] : List Int), false) := by
  unfold pack_Put.f
  have h := may_ev l w hl
  rw [hm] at h
  exact Ev.bind h (ev_neg (by decide) (Ev.now _))
theorem rd_in {l : List Int} (h : NumsIn l) (i : Nat) (hi : i < l.length) : 0 ≤ rd l (i : Int) ∧ rd l (i : Int) ≤ 1073741824 := by
  rw [rd_at hi]
  exact h _ (List.getElem_mem hi)
theorem w32_rng (x : Int) : -2147483648 ≤ wrap32 x ∧ wrap32 x ≤ 2147483647 := by unfold wrap32; omega
theorem loop_any (x0 : List Int) (hx : ∀ x ∈ x0, 0 ≤ x ∧ x < 256) (hlen : x0.length ≤ 1000000) (w : Bool) (n : Nat) (hn : n ≤ 300) : ∀ (d i : Nat) (x6 : Nat) (cells : List S45), i + d = n → x6 ≤ x0.length → cells.length ≤ 300 * i → (∀ c ∈ cells, in32 c) →
    ∃ r, Ev (fun k => pack_Get.l0 k x0 (x6 : Int) (n : Int) (i : Int) cells w) r ∧ Told x0 r
  | 0, i, x6, cells, hi, h6, hc, hin => by
    have hs : ∀ (p : List Int × Bool) r, Ev (fun k => pack_Put.f k cells w) p → Ev (fun k => if p.2 = true then (if 0 ≤ (x6 : Int) then (if (x6 : Int) ≤ (x0.length : Int) then ((slices_Equal_byte_byte.f k p.1 (x0.take (x6 : Int).toNat)).bind fun t215 => (if t215 = true then (some (cells, w, (x6 : Int), (0 : Int))) else (some (([] : List (S45)), false, 0, 1)))) else (none)) else (none)) else (some (([] : List (S45)), false, 0, 1))) r →
        Ev (fun k => pack_Get.l0 k x0 (x6 : Int) (n : Int) (i : Int) cells w) r := by
      intro p r hp h
      refine Ev.step (f := _) (fun k => by rw [pack_Get.l0]) ?_
      exact ev_neg (by omega) (Ev.bind hp h)
    cases hm : mayB cells
    case false => exact ⟨_, hs ([], false) ([], false, 0, 1) (put_none_ cells w (by omega) hm) (ev_neg (by decide) (Ev.now _)), .inl rfl⟩
    case true =>
      have hl := mayB_len hm
      have hme := may_ev cells w (by omega)
      rw [hm] at hme
      have hp := put_ev cells w (by omega) hme
      have hrl : (rowB cells w).length ≤ 1000000 := by
        unfold rowB
        have h1 := runs78_le cells
        have h2 : ∀ rs : List S78, ((rs.map runB).flatten).length ≤ 40 * rs.length := by
          intro rs
          induction rs with
          | nil => simp
          | cons r t ih =>
            have := runB_len r
            simp only [List.map_cons, List.flatten_cons, List.length_append, List.length_cons]
            omega
        have h3 := h2 (runs78 cells)
        have h4 := numB_len (2 * ((runs78 cells).length : Int) + (if w then 1 else 0))
        rw [List.length_append]
        omega
      have he := eqb_ev (rowB cells w) (x0.take x6) (by omega)
      by_cases heq : rowB cells w = x0.take x6
      · refine ⟨_, hs _ (cells, w, (x6 : Int), 0) hp (ev_pos rfl (ev_pos (by omega) (ev_pos (by omega) ?_))), .inr ⟨cells, w, x6, rfl, hm, hin, heq, h6⟩⟩
        rw [Int.toNat_natCast]
        exact Ev.bind he (ev_pos (decide_eq_true heq) (Ev.now _))
      · refine ⟨_, hs _ ([], false, 0, 1) hp (ev_pos rfl (ev_pos (by omega) (ev_pos (by omega) ?_))), .inl rfl⟩
        rw [Int.toNat_natCast]
        exact Ev.bind he (ev_neg (by simp [heq]) (Ev.now _))
  | d + 1, i, x6, cells, hi, h6, hc, hin => by
    obtain ⟨m, y, h1, h2, h3, h4⟩ := nums_any (x0.drop x6) (fun x h => hx x (List.mem_of_mem_drop h)) (by rw [List.length_drop]; omega) 4 0 (List.replicate 4 0) 0 (by simp) (by omega) (by simp) (fun v hv => by rw [List.eq_of_mem_replicate hv]; omega)
    rw [List.length_drop] at h2
    rw [List.length_replicate] at h3
    have hs : ∀ r, Ev (fun k => if (m : Int) = 0 then (some (([] : List (S45)), false, (0 : Int), (1 : Int))) else (if 0 < ((List.replicate 4 (0 : Int)).length : Int) then (if (rd y 0) > 300 then (some (([] : List (S45)), false, 0, 1)) else (if 1 < ((List.replicate 4 (0 : Int)).length : Int) then (if 2 < ((List.replicate 4 (0 : Int)).length : Int) then (if 3 < ((List.replicate 4 (0 : Int)).length : Int) then ((api_Cell_58.f (([(⟨wrap32 (rd y 1), rd y 2, rd y 3⟩ : S45)] : List (S45))) (rd y 0)).bind fun t201 => (if cells.length + t201.length < 5864062014805 then (pack_Get.l0 k x0 (wrap64 ((x6 : Int) + (m : Int))) (n : Int) (wrap64 ((i : Int) + 1)) (cells ++ t201) w) else (none))) else (none)) else (none)) else (none))) else (none))) r →
        Ev (fun k => pack_Get.l0 k x0 (x6 : Int) (n : Int) (i : Int) cells w) r := by
      intro r h
      refine Ev.step (f := _) (fun k => by rw [pack_Get.l0]) ?_
      refine ev_pos (by omega) (ev_pos (by decide) ?_)
      refine Ev.bind (Ev.now (List.replicate 4 (0 : Int))) ?_
      refine ev_pos (by omega) (ev_pos (by omega) ?_)
      rw [Int.toNat_natCast]
      have h1' : Ev (fun k => pack_numbers.f k (x0.drop x6) (List.replicate 4 0)) ((m : Int), y) := by unfold pack_numbers.f; exact h1
      exact Ev.bind h1' h
    by_cases h0 : (m : Int) = 0
    · exact ⟨_, hs _ (ev_pos h0 (Ev.now _)), .inl rfl⟩
    have hr := rd_in h4 0 (by omega)
    by_cases h5 : rd y 0 > 300
    · exact ⟨_, hs _ (ev_neg h0 (ev_pos (by simp) (ev_pos h5 (Ev.now _)))), .inl rfl⟩
    have hr0 : 0 ≤ rd y 0 := hr.1
    have hrep : api_Cell_58.f [(⟨wrap32 (rd y 1), rd y 2, rd y 3⟩ : S45)] (rd y 0) = some (List.replicate (rd y 0).toNat ⟨wrap32 (rd y 1), rd y 2, rd y 3⟩) := by
      show slices_Repeat.f _ _ = _
      unfold slices_Repeat.f
      rw [if_pos ⟨rfl, by omega, by omega⟩]
      rfl
    obtain ⟨r, hr1, hr2⟩ := loop_any x0 hx hlen w n hn d (i + 1) (x6 + m) (cells ++ List.replicate (rd y 0).toNat ⟨wrap32 (rd y 1), rd y 2, rd y 3⟩) (by omega) (by omega) (by rw [List.length_append, List.length_replicate]; omega) (fun c hc => by
      rcases List.mem_append.1 hc with h | h
      · exact hin c h
      · rw [List.eq_of_mem_replicate h]; exact w32_rng _)
    refine ⟨r, hs _ (ev_neg h0 (ev_pos (by simp) (ev_neg h5 (ev_pos (by simp) (ev_pos (by simp) (ev_pos (by simp) ?_)))))), hr2⟩
    rw [hrep]
    refine Ev.bind (Ev.now _) (ev_pos (by rw [List.length_replicate]; omega) ?_)
    rw [w64_in _ (by omega), w64_in _ (by omega), show ((x6 : Int) + (m : Int)) = ((x6 + m : Nat) : Int) by omega, show ((i : Int) + 1) = ((i + 1 : Nat) : Int) by omega]
    exact hr1
theorem get_any (b : List Int) (hx : ∀ x ∈ b, 0 ≤ x ∧ x < 256) (hlen : b.length ≤ 1000000) : ∃ r, Ev (fun k => pack_Get.f k b) r ∧ Told b r := by
  obtain ⟨m, y, h1, h2, h3, h4⟩ := nums_any b hx hlen 1 0 (List.replicate 1 0) 0 (by simp) (by omega) (by simp) (fun v hv => by rw [List.eq_of_mem_replicate hv]; omega)
  rw [List.length_replicate] at h3
  have h1' : Ev (fun k => pack_numbers.f k b (List.replicate 1 0)) ((m : Int), y) := by unfold pack_numbers.f; exact h1
  have hs : ∀ r, Ev (fun k => if (m : Int) = 0 then (pack_Get.j0 k b y (m : Int) true) else (if 0 < ((List.replicate 1 (0 : Int)).length : Int) then (pack_Get.j0 k b y (m : Int) (decide ((wrap64 (Int.tdiv (rd y 0) 2)) > 300))) else (none))) r → Ev (fun k => pack_Get.f k b) r := by
    intro r h
    unfold pack_Get.f
    exact ev_pos (by decide) (Ev.bind (Ev.now (List.replicate 1 (0 : Int))) (Ev.bind h1' h))
  by_cases h0 : (m : Int) = 0
  · refine ⟨_, hs _ (ev_pos h0 ?_), .inl rfl⟩
    refine Ev.step (f := _) (fun k => by rw [pack_Get.j0]) ?_
    exact ev_pos rfl (Ev.now _)
  have hr : 0 ≤ rd y 0 ∧ rd y 0 ≤ 1073741824 := rd_in h4 0 (by omega)
  have hd : Int.tdiv (rd y 0) 2 = rd y 0 / 2 := Int.tdiv_eq_ediv_of_nonneg hr.1
  have hw : wrap64 (Int.tdiv (rd y 0) 2) = rd y 0 / 2 := by rw [hd]; exact w64_in _ (by omega)
  by_cases h5 : rd y 0 / 2 > 300
  · refine ⟨_, hs _ (ev_neg h0 (ev_pos (by simp) ?_)), .inl rfl⟩
    rw [hw, decide_eq_true h5]
    refine Ev.step (f := _) (fun k => by rw [pack_Get.j0]) ?_
    exact ev_pos rfl (Ev.now _)
  obtain ⟨q, hq⟩ : ∃ q : Nat, rd y 0 / 2 = (q : Int) := ⟨(rd y 0 / 2).toNat, by omega⟩
  obtain ⟨r, hr1, hr2⟩ := loop_any b hx hlen ((Int.tmod (rd y 0) 2) == 1) q (by omega) q 0 m [] (by omega) h2 (by simp) (by simp)
  refine ⟨r, hs _ (ev_neg h0 (ev_pos (by simp) ?_)), hr2⟩
  rw [hw, decide_eq_false h5]
  refine Ev.step (f := _) (fun k => by rw [pack_Get.j0]) ?_
  refine ev_neg (by decide) (ev_pos (by omega) ?_)
  rw [hw, hq]
  exact hr1
end Go.Proofs.Ytkigdcihhlkkdaa.Pure
end
