/- own texts of this session, put together -/
import Derived.Test.YtkigdcihhlkkdaaKZ14
import Derived.Test.YtkigdcihhlkkdaaKZ17
import Derived.Test.YtkigdcihhlkkdaaKZ0
import Derived.Deep.Strs
import Derived.ChangeSlices
import Derived.DataElems
import Derived.Test.YtkigdcihhlkkdaaKZ16
import Derived.WideShapes
section
set_option linter.unusedVariables false
set_option linter.unusedSimpArgs false
namespace Go.Proofs.Ytkigdcihhlkkdaa.P
open Go.RowKit Go.Shelf Go.Proofs.YtkigdcihhlkkdaaW.PrintWords Go.Proofs.YtkigdcihhlkkdaaW.PrintLast Go.Proofs.YtkigdcihhlkkdaaW.PrintMore Go.Proofs.Ytkigdcihhlkkdaa.Pure
attribute [local go_sem] Oper.semAt_some
attribute [local go_sem] max2_int min2_int max_two min_two
def tab_4_4 : Bool × List (List Nat × List Nat) := (true, [([], []), ([0], [0]), ([], []), ([2, 1], [2]), ([1, 3, 0, 1], [1]), ([3, 4, 0, 1, 2, 3, 4], [3])])
theorem tab_4_4_ : rtab .any (opsOf Try.f4 4) = tab_4_4 := by kernel_rfl
def tab_4_8 : Bool × List (List Nat × List Nat) := (true, [([], []), ([0], [0]), ([], []), ([2, 1], [2]), ([1, 3], [1, 3]), ([4, 3], [4]), ([5], [5]), ([5], [5]), ([6, 7, 5], [5, 6, 7]), ([5, 8], [5, 8]), ([9, 5], [9]), ([10], [10]), ([11, 10], [10, 11]), ([10], [10]), ([13, 10], [10, 13]), ([12, 14, 10], [10, 12, 14]), ([10, 15], [10, 15]), ([16, 10], [16]), ([17], [17]), ([17], [17]), ([18, 19, 17, 17], [17, 18, 19]), ([17], [17]), ([17], [17]), ([21, 22, 20, 17], [17, 21, 22]), ([20, 23, 17], [17, 20, 23]), ([17, 24], [17, 24]), ([25, 23], [25]), ([26], [26]), ([26], [26]), ([27, 28, 26, 26], [26, 27, 28]), ([29, 26], [26, 29]), ([26, 30], [26, 30])])
theorem tab_4_8_ : rtab .any (opsOf Try.f4 8) = tab_4_8 := by kernel_rfl
def tab_4_12 : Bool × List (List Nat × List Nat) := (true, [([], []), ([0], [0]), ([], []), ([], []), ([3], [3]), ([4], [4]), ([2, 5], [2, 5]), ([1, 6, 1], [1, 6]), ([7, 7], [7]), ([8], [8]), ([9], [9]), ([9], [9]), ([9], [9]), ([], []), ([13, 10, 8, 0, 1, 2, 3, 4, 5, 6, 7, 8, 9, 10, 13], [10, 13]), ([11, 14, 0, 1, 2, 3, 4, 5, 6, 7, 8, 9, 10, 11, 13, 14], [11]), ([12, 15, 0, 1, 2, 3, 4, 5, 6, 7, 8, 9, 10, 11, 12, 13, 14, 15], [12])])
theorem tab_4_12_ : rtab .any (opsOf Try.f4 12) = tab_4_12 := by kernel_rfl
def tab_4_13 : Bool × List (List Nat × List Nat) := (true, [([], []), ([0], [0]), ([1], [1]), ([2], [2]), ([2], [2]), ([4, 2], [2, 4]), ([3, 5, 2], [2, 3, 5]), ([2, 6], [2, 6]), ([7, 2], [7]), ([8], [8]), ([8], [8]), ([9, 10, 8, 8], [8, 9, 10]), ([8, 11], [8, 11]), ([12, 11], [12]), ([13], [13]), ([14, 13], [13, 14]), ([15, 13, 13], [13, 15]), ([16], [16]), ([17, 16], [16, 17]), ([16], [16]), ([19, 16], [16, 19]), ([18, 20, 16], [16, 18, 20]), ([16], [16]), ([16], [16]), ([22, 23, 16, 16], [16, 22, 23]), ([21, 24, 16], [16, 21, 24]), ([16, 25, 13], [13, 16, 25]), ([13, 26], [13, 26]), ([27, 24, 0, 1, 2, 3, 4, 5, 6, 7, 8, 9, 10, 11, 12, 13, 14, 15, 16, 17, 18, 19, 20, 21, 22, 23, 24, 25, 26, 27], [27])])
theorem tab_4_13_ : rtab .any (opsOf Try.f4 13) = tab_4_13 := by kernel_rfl
structure S2 (W : World) (g0 g1 : Nat) (v0 v1 b0 b1 : Value) (w : World) : Prop where
  x : w.heap[g0]? = some (.cells #[v0, b0] 31 (0, 0))
  y : w.heap[g1]? = some (.cells #[v1, b1] 31 (0, 0))
  be : Below W.heap.size W w
section
variable {W w w' : World} {g0 g1 : Nat} {v0 v1 b0 b1 : Value}
theorem S2.next (h : S2 W g0 g1 v0 v1 b0 b1 w) (hb : Below w.heap.size w w') : S2 W g0 g1 v0 v1 b0 b1 w' :=
  ⟨blk_below h.x hb, blk_below h.y hb, Below.trans h.be (hb.mono h.be.size)⟩
theorem S2.cells (h : S2 W g0 g1 v0 v1 b0 b1 w) : w.cell? ⟨g0, 0, none⟩ = some v0 ∧ w.cell? ⟨g0, 1, none⟩ = some b0 ∧ w.cell? ⟨g1, 0, none⟩ = some v1 ∧ w.cell? ⟨g1, 1, none⟩ = some b1 :=
  ⟨(blk2 h.x).1, (blk2 h.x).2.1, (blk2 h.y).1, (blk2 h.y).2.1⟩
end
theorem u8_of_wf_ {x : Int} (h : (Lit.int .u8 x).wf = true) : 0 ≤ x ∧ x < 256 := by
  have h2 : IntKind.u8.min ≤ x ∧ x ≤ IntKind.u8.max := by simpa [Lit.wf] using h
  have e1 : IntKind.u8.min = 0 := by decide
  have e2 : IntKind.u8.max = 255 := by decide
  omega
theorem rowB_len {l : List S45} {b : Bool} (hm : mayB l = true) : (rowB l b).length ≤ 20000 := by
  unfold rowB
  have h1 := runs78_le l
  have h2 := runsB_len (runs78 l)
  have h3 := mayB_len hm
  have h4 := numB_len (2 * ((runs78 l).length : Int) + (if b then 1 else 0))
  rw [List.length_append]
  omega
structure J12 where
  v : Value
  A : Option Addr
  c : Nat
  Ax : Option Addr
  cx : Nat
  g : Nat
set_option maxHeartbeats 16000000 in
set_option maxRecDepth 100000 in
theorem packAll_ (A0 : Option Addr) (c0 : Nat) (l0 : List S45) (b0 : Bool) (A1 : Option Addr) (c1 : Nat) (l1 : List S45) (b1 : Bool) (A2 : Option Addr) (c2 : Nat) (l2 : List Int) (w : World) (hC0 : Kd.C k45 w A0 l0.length l0) (hc0 : l0.length ≤ c0) (hw0 : ∀ x ∈ l0, in32 x) (hC1 : Kd.C k45 w A1 l1.length l1) (hc1 : l1.length ≤ c1) (hw1 : ∀ x ∈ l1, in32 x)
    (hC2 : Kd.C (Kd.int .u8) w A2 l2.length l2) (hc2 : l2.length ≤ c2) (hw2 : ∀ x ∈ l2, (Lit.int .u8 x).wf = true) :
    Calls Try.prog 4 #[.agg #[.slice A0 l0.length c0, .bool b0], .agg #[.slice A1 l1.length c1, .bool b1], .slice A2 l2.length c2] w fun e w' => e = .returned (.bool true) ∧ Below w.heap.size w w' := by
  have hbx0 : Below w.heap.size w ((w.alloc (.cells #[.slice A0 l0.length c0, .bool b0] 31)).alloc (.cells #[.slice A1 l1.length c1, .bool b1] 31)) := below_alloc (below_alloc (Below.refl _ _) _) _
  have hx0 := blk_alloc (blk_new w (.cells #[.slice A0 l0.length c0, .bool b0] 31)) (.cells #[.slice A1 l1.length c1, .bool b1] 31)
  have hy0 := blk_new (w.alloc (.cells #[.slice A0 l0.length c0, .bool b0] 31)) (.cells #[.slice A1 l1.length c1, .bool b1] 31)
  rw [show (w.alloc (.cells #[.slice A0 l0.length c0, .bool b0] 31)).heap.size = w.heap.size + 1 by simp] at hy0
  have hrow0 := fun (W : World) (hC : Kd.C k45 W A0 l0.length l0) => lawRow_ A0 c0 l0 b0 W hC hc0
  have hrow1 := fun (W : World) (hC : Kd.C k45 W A1 l1.length l1) => lawRow_ A1 c1 l1 b1 W hC hc1
  have htk0 : (l0.take 310).length ≤ 310 := by rw [List.length_take]; omega
  have htk1 : (l1.take 310).length ≤ 310 := by rw [List.length_take]; omega
  have hin0 : ∀ x ∈ l0.take 310, in32 x := fun x hx => hw0 x (List.mem_of_mem_take hx)
  have hin1 : ∀ x ∈ l1.take 310, in32 x := fun x hx => hw1 x (List.mem_of_mem_take hx)
  generalize l0.take 310 = q at hrow0 htk0 hin0
  generalize l1.take 310 = s at hrow1 htk1 hin1
  obtain ⟨m, hmm⟩ : ∃ m : Nat, min l2.length 20 = m := ⟨_, rfl⟩
  have hmn : (if 20 < (l2.length : Int) then 20 else (l2.length : Int)) = (m : Int) := by split <;> omega
  have hm0 : (0 : Int) ≤ (m : Int) := by omega
  have hm1 : (m : Int) ≤ l2.length := by omega
  obtain ⟨i0, hi, _, hsz, _⟩ := info_parts info5
  have hcut := cut_to (P := Try.prog) 23 5 .i64 Try.underlying23 hi A2 l2.length c2 (m : Int) hm0 hm1 hc2
  rw [Int.toNat_natCast] at hcut
  have hCt := Kd.C_take (m := m) hC2 (by omega)
  obtain ⟨t, hqt⟩ : ∃ t, l2.take m = t := ⟨_, rfl⟩
  have htl : t.length = m := by rw [← hqt, List.length_take]; omega
  have htx : ∀ x ∈ t, 0 ≤ x ∧ x < 256 := fun x hx => u8_of_wf_ (hw2 x (List.mem_of_mem_take (hqt ▸ hx)))
  rw [hqt] at hCt
  rw [← htl] at hcut hmn hm0 hm1
  have ht20 : t.length ≤ 20 := by omega
  clear hmm hi hsz hqt hC2 hw2 htl
  go_enter Try.func4, Try.ntmps4
  go_upto_region 4 with (first
    | (go_at_call 18; refine (begun4_ _).mono ?_; rintro e w1 ⟨rfl, hb1⟩)
    | fail)
  have hS0 : S2 w w.heap.size (w.heap.size + 1) (.slice A0 l0.length c0) (.slice A1 l1.length c1) (.bool b0) (.bool b1) w1.drew := ⟨blk_drew (blk_below hx0 hb1), blk_drew (blk_below hy0 hb1), below_drew1 (hbx0.trans (hb1.mono hbx0.size))⟩
  clear hbx0 hx0 hy0 hb1
  refine start_ (n := 6) (S := S2 w w.heap.size (w.heap.size + 1) (.slice A0 l0.length c0) (.slice A1 l1.length c1) (.bool b0) (.bool b1)) (ds := [4, 5]) (bl_ [0, 6]) (by kernel_rfl) (by kernel_rfl) rfl hS0 (fun _ => ?_)
  refine with_tab tab_4_4_ (fun HT_ => ?_)
  refine takesD_ [0, 2] 4 (bl_ [1, 1, 1, 3]) rfl HT_.out (by kernel_rfl) hS0 (a' := ?_) ?_ ?_
  rotate_left
  · repeat (first | exact rfl | (refine tkN rfl rfl (fun _ _ _ h => h) (by rfl) (by simp only [Act.put, List.setIfInBounds_toArray, List.set_cons_zero, List.set_cons_succ, i64_w, i32_w]; rfl) ?_) | (refine tkY rfl rfl (fun _ _ _ h => h) (by rfl) (fun w' hw' => by (obtain ⟨s0, s1, s2, s3⟩ := hw'.cells; go_simp; with_reducible rfl)) (by simp only [Act.put, List.setIfInBounds_toArray, List.set_cons_zero, List.set_cons_succ, i64_w, i32_w]; rfl) ?_))
  refine one_ (i := 1) (N := some 21) (bl_ [3, 3]) rfl rfl (one_of HT_.out (by kernel_rfl)) (by decide) (fun K hK => ?_)
  refine goes_ Try.func23 (by kernel_rfl) rfl #[.agg #[.slice A0 l0.length c0, .bool b0]] (by rfl) rfl rfl (by (try simp only [List.map_toArray, List.map_cons, List.map_nil]); first | done | rfl) ?_
  refine (hrow0 _ (Kd.C_below hC0 hS0.be)).mono ?_
  rintro e w2 ⟨v2, rfl, hR2, hb2⟩
  obtain ⟨A2', c2', hv2⟩ := Kd.R_slice hR2; subst hv2
  have hS2 := hS0.next hb2
  refine ⟨_, rfl, hK.out _ _ hS2 (fun _ => ?_)⟩
  refine norm_ (a' := ?_) ?_ ?_
  rotate_left
  · show Act.put _ (some 21) _ = _
    simp only [Act.put, List.setIfInBounds_toArray, List.set_cons_zero, List.set_cons_succ]
    rfl
  refine one_ (i := 3) (N := some 23) (bl_ [4, 2]) rfl rfl (one_of HT_.out (by kernel_rfl)) (by decide) (fun K hK => ?_)
  refine goes_ Try.func23 (by kernel_rfl) rfl #[.agg #[.slice A1 l1.length c1, .bool b1]] (by rfl) rfl rfl (by (try simp only [List.map_toArray, List.map_cons, List.map_nil]); first | done | rfl) ?_
  refine (hrow1 _ (Kd.C_below hC1 hS2.be)).mono ?_
  rintro e w3 ⟨v3, rfl, hR3, hb3⟩
  obtain ⟨A3', c3', hv3⟩ := Kd.R_slice hR3; subst hv3
  have hS3 := hS2.next hb3
  refine ⟨_, rfl, hK.out _ _ hS3 (fun _ => ?_)⟩
  refine norm_ (a' := ?_) ?_ ?_
  rotate_left
  · show Act.put _ (some 23) _ = _
    simp only [Act.put, List.setIfInBounds_toArray, List.set_cons_zero, List.set_cons_succ]
    rfl
  obtain ⟨s0, s1, s2, s3⟩ := hS3.cells
  have fz0 := blk_frozen hS3.x 0
  have fz1 := blk_frozen hS3.x 1
  have fz2 := blk_frozen hS3.y 0
  have fz3 := blk_frozen hS3.y 1
  refine last_ (i := 4) (N := none) (bl_ [5, 1]) rfl rfl (one_of HT_.out (by kernel_rfl)) (by decide) (fun K hK => ?_)
  refine skip_ (w1 := _) (by rfl) rfl (by go_simp; with_reducible rfl) ?_
  refine hK.out _ _ ?_
  obtain ⟨w4, hw4⟩ : ∃ w4, w4 = (w3.setCell ⟨w.heap.size, 0, none⟩ (.slice A2' q.length c2')).setCell ⟨w.heap.size, 1, none⟩ (.bool b0) := ⟨_, rfl⟩
  rw [← hw4]
  have hX4 : w4.heap[w.heap.size]? = some (.cells #[.slice A2' q.length c2', .bool b0] 31 (0, 0)) := by rw [hw4]; exact (blk_set (blk_set hS3.x 0 _) 1 _).trans rfl
  have hoth4 : ∀ k, k ≠ w.heap.size → w4.heap[k]? = w3.heap[k]? := fun k hk => by rw [hw4]; exact (Below.heap_setCell _ ⟨w.heap.size, 1, none⟩ _ k hk).trans (Below.heap_setCell _ ⟨w.heap.size, 0, none⟩ _ k hk)
  have hY4 : w4.heap[w.heap.size + 1]? = some (.cells #[.slice A1 l1.length c1, .bool b1] 31 (0, 0)) := (hoth4 _ (by omega)).trans hS3.y
  have hbw4 : Below w.heap.size w w4 := by rw [hw4]; exact below_set (below_set hS3.be (Nat.le_refl _)) (Nat.le_refl _)
  clear hw4 s0 s1 s2 s3 fz0 fz1 fz2 fz3
  obtain ⟨s2, s3, fz2, fz3⟩ := blk2 hY4
  refine last_ (i := 5) (N := none) (bl_ [6]) rfl rfl (one_of HT_.out (by kernel_rfl)) (by decide) (fun K hK => ?_)
  refine skip_ (w1 := _) (by rfl) rfl (by go_simp; with_reducible rfl) ?_
  refine hK.out _ _ ?_
  refine done_ (done_of HT_.out (by kernel_rfl)) ?_
  obtain ⟨w5, hw5⟩ : ∃ w5, w5 = (w4.setCell ⟨w.heap.size + 1, 0, none⟩ (.slice A3' s.length c3')).setCell ⟨w.heap.size + 1, 1, none⟩ (.bool b1) := ⟨_, rfl⟩
  rw [← hw5]
  have hY5 : w5.heap[w.heap.size + 1]? = some (.cells #[.slice A3' s.length c3', .bool b1] 31 (0, 0)) := by rw [hw5]; exact (blk_set (blk_set hY4 0 _) 1 _).trans rfl
  have hoth5 : ∀ k, k ≠ w.heap.size + 1 → w5.heap[k]? = w4.heap[k]? := fun k hk => by rw [hw5]; exact (Below.heap_setCell _ ⟨w.heap.size + 1, 1, none⟩ _ k hk).trans (Below.heap_setCell _ ⟨w.heap.size + 1, 0, none⟩ _ k hk)
  have hX5 : w5.heap[w.heap.size]? = some (.cells #[.slice A2' q.length c2', .bool b0] 31 (0, 0)) := (hoth5 _ (by omega)).trans hX4
  have hbw5 : Below w.heap.size w w5 := by rw [hw5]; exact below_set (below_set hbw4 (by show w.heap.size ≤ w.heap.size + 1; omega)) (by show w.heap.size ≤ w.heap.size + 1; omega)
  have hlt1 := blk_lt hS0.y
  have hs2 := hb2.size
  have hoth : ∀ k, w1.drew.heap.size ≤ k → w5.heap[k]? = w3.heap[k]? := fun k hk => (hoth5 k (by omega)).trans (hoth4 k (by omega))
  have hFq := Kd.F_step (Kd.F_bound (Kd.F_below (Kd.R_F (Kd.R_bound hR2)) hb3)) (W1 := w5) (fun k hk _ => hoth k hk.1.2.1)
  have hFs := Kd.F_step (Kd.R_F (Kd.R_bound hR3)) (W1 := w5) (fun k hk _ => hoth k (by have := hk.2.1; omega))
  have hcq := (Kd.R_reads' hR2).2.1
  have hcs := (Kd.R_reads' hR3).2.1
  clear hw5 s2 s3 fz2 fz3 hX4 hY4 hoth4 hoth5 hoth hbw4 hS3 hS2 hR2 hR3 hb2 hb3 hS0 hrow0 hrow1 hlt1 hs2 hC0 hC1 hc0 hc1 hw0 hw1
  obtain ⟨s0, s1, _, _⟩ := blk2 hX5
  obtain ⟨s2, s3, _, _⟩ := blk2 hY5
  have hmq := may_ref q hin0
  have hput0 := put_ A2' c2' q b0 w5 (Kd.F_now hFq) hcq (by omega)
  have hput1 := fun (W : World) (h : Below w5.heap.size w5 W) => put_ A3' c3' s b1 W (Kd.F_now (Kd.F_below hFs h)) hcs (by omega)
  unfold putB at hput0
  obtain ⟨Y, hY⟩ : ∃ Y, putB s b1 = Y := ⟨_, rfl⟩
  rw [hY] at hput1
  cases hm : mayB q
  case false =>
    rw [hm] at hput0 hmq
    have hmr := hmq.symm
    clear hmq
    simp only [Bool.false_eq_true, if_false, List.length_nil] at hput0
    have hput2 := fun (W : World) (h : Below w5.heap.size w5 W) => putRow_no A2' c2' q b0 W (Kd.F_now (Kd.F_below hFq h)) hcq (by omega) hmr
    go_upto_region 8 with (first
      | (go_at_call 24; refine hput0.mono ?_; rintro e w6 ⟨v6, rfl, hR6, hb6⟩
         obtain ⟨A6, c6, hv6⟩ := Kd.R_slice hR6; subst hv6
         clear s0 s1 s2 s3
         obtain ⟨s2, s3, _, _⟩ := blk2 (blk_below hY5 hb6)
         obtain ⟨s0, s1, _, _⟩ := blk2 (blk_below hX5 hb6)
         clear hput0)
      | (go_at_call 24; refine (hput1 _ hb6).mono ?_; rintro e w7 ⟨v7, rfl, hR7, hb7⟩
         obtain ⟨A7, c7, hv7⟩ := Kd.R_slice hR7; subst hv7
         have hb57 := hb6.trans (hb7.mono hb6.size)
         clear s0 s1 s2 s3
         obtain ⟨s0, s1, _, _⟩ := blk2 (blk_below hX5 hb57))
      | (go_at_call 25; refine (hput2 _ hb57).mono ?_; rintro e w8 ⟨rfl, hb8⟩)
      | fail)
    have hb58 := hb57.trans (hb8.mono hb57.size)
    have hX8 := blk_below hX5 hb58
    have hY8 := blk_below hY5 hb58
    have hFq8 := Kd.F_below hFq hb58
    have hFs8 := Kd.F_below hFs hb58
    have hFb8 := Kd.F_below (Kd.F_below (Kd.R_F (Kd.R_bound hR6)) hb7) hb8
    have hFc8 := Kd.F_below (Kd.R_F (Kd.R_bound hR7)) hb8
    have hc6 := (Kd.R_reads' hR6).2.1
    have hc7 := (Kd.R_reads' hR7).2.1
    have hbw8 := hbw5.trans (hb58.mono hbw5.size)
    clear s0 s1 hX5 hY5 hFq hFs hb6 hb7 hb8 hb57 hb58 hR6 hR7 hput1 hput2 hbw5
    have HB0 : SB w8 w8.drew := below_drew1 (Below.refl _ _)
    have HX : ∀ w', SB w8 w' → w'.cell? ⟨w.heap.size, 0, none⟩ = some (.slice A2' q.length c2') ∧ w'.cell? ⟨w.heap.size, 1, none⟩ = some (.bool b0) ∧ w'.cell? ⟨w.heap.size + 1, 0, none⟩ = some (.slice A3' s.length c3') ∧ w'.cell? ⟨w.heap.size + 1, 1, none⟩ = some (.bool b1) := fun w' h => ⟨(blk2 (blk_below hX8 h)).1, (blk2 (blk_below hX8 h)).2.1, (blk2 (blk_below hY8 h)).1, (blk2 (blk_below hY8 h)).2.1⟩
    have HQ : ∀ w', SB w8 w' → Kd.C k45 w' A2' q.length q := fun w' h => Kd.F_now (Kd.F_below hFq8 h)
    have HS : ∀ w', SB w8 w' → Kd.C k45 w' A3' s.length s := fun w' h => Kd.F_now (Kd.F_below hFs8 h)
    have HV1 : ∀ w', SB w8 w' → (convert 23 9 (.slice A6 0 c6)).run Try.prog w' = .ok (.string (strOfNums ([] : List Int))) w' := fun w' hb => Kd.C_string Try.underlying23 Try.underlying5 Try.underlying9 (Kd.F_now (Kd.F_below hFb8 hb))
    have HV2 : ∀ w', SB w8 w' → (convert 23 9 (.slice none 0 0)).run Try.prog w' = .ok (.string (strOfNums ([] : List Int))) w' := fun w' hb => Kd.C_string Try.underlying23 Try.underlying5 Try.underlying9 (Kd.C_nil _ _)
    refine start_ (n := 32) (S := SB w8) (ds := []) (bl_ [0, 32]) (by kernel_rfl) (by kernel_rfl) rfl HB0 (fun _ => ?_)
    refine with_tab tab_4_8_ (fun HT_ => ?_)
    refine takes_ [0, 2] 30 (bl_ [1, 1, 1, 29]) rfl HT_.out (by kernel_rfl) HB0 (a' := ?_) ?_ ?_
    rotate_left
    · repeat (first | exact rfl | (refine tkN rfl rfl (fun _ _ _ h => h) (by rfl) (by simp only [Act.put, List.setIfInBounds_toArray, List.set_cons_zero, List.set_cons_succ, i64_w, i32_w]; rfl) ?_) | (refine tkY rfl rfl (fun _ _ _ h => h) (by rfl) (fun w' hw' => by (obtain ⟨s0, s1, s2, s3⟩ := HX w' hw'; have cv1 := HV1 w' hw'; have cv2 := HV2 w' hw'; go_simp; with_reducible rfl)) (by simp only [Act.put, List.setIfInBounds_toArray, List.set_cons_zero, List.set_cons_succ, i64_w, i32_w]; rfl) ?_))
    refine one_ (i := 1) (N := some 40) (bl_ [3, 29]) rfl rfl (one_of HT_.out (by kernel_rfl)) (by decide) (fun K hK => ?_)
    refine goes_ Try.func26 (by kernel_rfl) rfl #[.agg #[.slice A2' q.length c2', .bool b0]] (by rfl) rfl rfl (by (try simp only [List.map_toArray, List.map_cons, List.map_nil]); first | done | rfl) ?_
    have hm26 := may_ A2' c2' q b0 w8.drew (HQ _ HB0) hcq (by omega)
    rw [hm] at hm26
    refine hm26.mono ?_
    rintro e w9 ⟨rfl, hb9⟩
    have HB9 := HB0.next hb9
    refine ⟨_, rfl, hK.out _ _ HB9 (fun _ => ?_)⟩
    refine norm_ (a' := ?_) ?_ ?_
    rotate_left
    · show Act.put _ (some 40) _ = _
      simp only [Act.put, List.setIfInBounds_toArray, List.set_cons_zero, List.set_cons_succ]
      rfl
    refine one_ (i := 3) (N := some 42) (bl_ [4, 28]) rfl rfl (one_of HT_.out (by kernel_rfl)) (by decide) (fun K hK => ?_)
    refine goes_ Try.func27 (by kernel_rfl) rfl #[.agg #[.slice A2' q.length c2', .bool b0]] (by rfl) rfl rfl (by (try simp only [List.map_toArray, List.map_cons, List.map_nil]); first | done | rfl) ?_
    have hm27 := refRow_ A2' c2' q b0 w9 (HQ _ HB9) hcq (by omega)
    rw [hmr] at hm27
    refine hm27.mono ?_
    rintro e w10 ⟨rfl, hb10⟩
    have HB10 := HB9.next hb10
    refine ⟨_, rfl, hK.out _ _ HB10 (fun _ => ?_)⟩
    refine norm_ (a' := ?_) ?_ ?_
    rotate_left
    · show Act.put _ (some 42) _ = _
      simp only [Act.put, List.setIfInBounds_toArray, List.set_cons_zero, List.set_cons_succ]
      rfl
    refine takes_ [4, 5, 6, 7, 8, 9, 10, 11, 13, 12, 14, 15, 16, 17, 18, 19, 21, 22] 10 (bl_ [20, 1, 2, 9]) rfl HT_.out (by kernel_rfl) HB10 (a' := ?_) ?_ ?_
    rotate_left
    · repeat (first | exact rfl | (refine tkN rfl rfl (fun _ _ _ h => h) (by rfl) (by simp only [Act.put, List.setIfInBounds_toArray, List.set_cons_zero, List.set_cons_succ, i64_w, i32_w]; rfl) ?_) | (refine tkY rfl rfl (fun _ _ _ h => h) (by rfl) (fun w' hw' => by (obtain ⟨s0, s1, s2, s3⟩ := HX w' hw'; have cv1 := HV1 w' hw'; have cv2 := HV2 w' hw'; go_simp; with_reducible rfl)) (by simp only [Act.put, List.setIfInBounds_toArray, List.set_cons_zero, List.set_cons_succ, i64_w, i32_w]; rfl) ?_))
    obtain ⟨eqs, hqs⟩ : ∃ x, eqB q b0 s b1 = x := ⟨_, rfl⟩
    refine one_ (i := 20) (N := some 59) (bl_ [23, 9]) rfl rfl (one_of HT_.out (by kernel_rfl)) (by decide) (fun K hK => ?_)
    refine goes_ Try.func28 (by kernel_rfl) rfl #[.agg #[.slice A2' q.length c2', .bool b0], .agg #[.slice A3' s.length c3', .bool b1]] (by rfl) rfl rfl (by (try simp only [List.map_toArray, List.map_cons, List.map_nil]); first | done | rfl) ?_
    have h28 := eq_ A2' c2' q b0 A3' c3' s b1 w10 (HQ _ HB10) hcq (HS _ HB10) hcs (by omega)
    rw [hqs] at h28
    refine h28.mono ?_
    rintro e w11 ⟨rfl, hb11⟩
    have HB11 := HB10.next hb11
    refine ⟨_, rfl, hK.out _ _ HB11 (fun _ => ?_)⟩
    refine norm_ (a' := ?_) ?_ ?_
    rotate_left
    · show Act.put _ (some 59) _ = _
      simp only [Act.put, List.setIfInBounds_toArray, List.set_cons_zero, List.set_cons_succ]
      rfl
    refine one_ (i := 23) (N := some 62) (bl_ [24, 8]) rfl rfl (one_of HT_.out (by kernel_rfl)) (by decide) (fun K hK => ?_)
    refine goes_ Try.func29 (by kernel_rfl) rfl #[.agg #[.slice A2' q.length c2', .bool b0], .agg #[.slice A3' s.length c3', .bool b1]] (by rfl) rfl rfl (by (try simp only [List.map_toArray, List.map_cons, List.map_nil]); first | done | rfl) ?_
    have h29 := eqRow_ A2' c2' q b0 A3' c3' s b1 w11 (HQ _ HB11) hcq (HS _ HB11) hcs (by omega)
    rw [hqs] at h29
    refine h29.mono ?_
    rintro e w12 ⟨rfl, hb12⟩
    have HB12 := HB11.next hb12
    refine ⟨_, rfl, hK.out _ _ HB12 (fun _ => ?_)⟩
    refine norm_ (a' := ?_) ?_ ?_
    rotate_left
    · show Act.put _ (some 62) _ = _
      simp only [Act.put, List.setIfInBounds_toArray, List.set_cons_zero, List.set_cons_succ]
      rfl
    have hee : (eqs != eqs) = false := by simp
    refine takes_ (List.range' 24 5) 3 (bl_ [29, 3]) rfl HT_.out (by kernel_rfl) HB12 (a' := ?_) ?_ ?_
    rotate_left
    · repeat (first | exact rfl | (refine tkN rfl rfl (fun _ _ _ h => h) (by rfl) (by simp only [Act.put, List.setIfInBounds_toArray, List.set_cons_zero, List.set_cons_succ, i64_w, i32_w]; rfl) ?_) | (refine tkY rfl rfl (fun _ _ _ h => h) (by rfl) (fun w' hw' => by (obtain ⟨s0, s1, s2, s3⟩ := HX w' hw'; have cv1 := HV1 w' hw'; have cv2 := HV2 w' hw'; go_simp; with_reducible rfl)) (by simp only [Act.put, List.setIfInBounds_toArray, List.set_cons_zero, List.set_cons_succ, i64_w, i32_w]; rfl) ?_))
    refine one_ (i := 29) (N := some 68) (bl_ [30, 2]) rfl rfl (one_of HT_.out (by kernel_rfl)) (by decide) (fun K hK => ?_)
    refine goes_ Try.func28 (by kernel_rfl) rfl #[.agg #[.slice A2' q.length c2', .bool b0], .agg #[.slice A2' q.length c2', .bool b0]] (by rfl) rfl rfl (by (try simp only [List.map_toArray, List.map_cons, List.map_nil]); first | done | rfl) ?_
    have h28b := eq_ A2' c2' q b0 A2' c2' q b0 w12 (HQ _ HB12) hcq (HQ _ HB12) hcq (by omega)
    rw [eqB_self] at h28b
    refine h28b.mono ?_
    rintro e w13 ⟨rfl, hb13⟩
    have HB13 := HB12.next hb13
    refine ⟨_, rfl, hK.out _ _ HB13 (fun _ => ?_)⟩
    refine norm_ (a' := ?_) ?_ ?_
    rotate_left
    · show Act.put _ (some 68) _ = _
      simp only [Act.put, List.setIfInBounds_toArray, List.set_cons_zero, List.set_cons_succ]
      rfl
    refine takes_ [30, 31] 0 (bl_ [32]) rfl HT_.out (by kernel_rfl) HB13 (a' := ?_) ?_ ?_
    rotate_left
    · repeat (first | exact rfl | (refine tkN rfl rfl (fun _ _ _ h => h) (by rfl) (by simp only [Act.put, List.setIfInBounds_toArray, List.set_cons_zero, List.set_cons_succ, i64_w, i32_w]; rfl) ?_) | (refine tkY rfl rfl (fun _ _ _ h => h) (by rfl) (fun w' hw' => by (obtain ⟨s0, s1, s2, s3⟩ := HX w' hw'; have cv1 := HV1 w' hw'; have cv2 := HV2 w' hw'; go_simp; with_reducible rfl)) (by simp only [Act.put, List.setIfInBounds_toArray, List.set_cons_zero, List.set_cons_succ, i64_w, i32_w]; rfl) ?_))
    refine done_ (done_of HT_.out (by kernel_rfl)) ?_
    go_wp2
    go_ret
    exact ⟨by simp, hbw8.trans (Below.mono (w := w8) HB13 hbw8.size)⟩

  case true =>
    rw [hm] at hput0 hmq
    have hmr := hmq.symm
    clear hmq
    have hput2 := fun (W : World) (h : Below w5.heap.size w5 W) => putRow_yes A2' c2' q b0 W (Kd.F_now (Kd.F_below hFq h)) hcq (by omega) hin0 hmr
    obtain ⟨X, hX⟩ : ∃ X, rowB q b0 = X := ⟨_, rfl⟩
    simp only [if_true, hX] at hput0 hput2
    go_upto_region 8 with (first
      | (go_at_call 24; refine hput0.mono ?_; rintro e w6 ⟨v6, rfl, hR6, hb6⟩
         obtain ⟨A6, c6, hv6⟩ := Kd.R_slice hR6; subst hv6
         clear s0 s1 s2 s3
         obtain ⟨s2, s3, _, _⟩ := blk2 (blk_below hY5 hb6)
         obtain ⟨s0, s1, _, _⟩ := blk2 (blk_below hX5 hb6)
         clear hput0)
      | (go_at_call 24; refine (hput1 _ hb6).mono ?_; rintro e w7 ⟨v7, rfl, hR7, hb7⟩
         obtain ⟨A7, c7, hv7⟩ := Kd.R_slice hR7; subst hv7
         have hb57 := hb6.trans (hb7.mono hb6.size)
         clear s0 s1 s2 s3
         obtain ⟨s0, s1, _, _⟩ := blk2 (blk_below hX5 hb57))
      | (go_at_call 25; refine (hput2 _ hb57).mono ?_; rintro e w8 ⟨v8, rfl, hR8, hb8⟩
         obtain ⟨A8, c8, hv8⟩ := Kd.R_slice hR8; subst hv8)
      | fail)
    have hb58 := hb57.trans (hb8.mono hb57.size)
    have hX8 := blk_below hX5 hb58
    have hY8 := blk_below hY5 hb58
    have hFq8 := Kd.F_below hFq hb58
    have hFs8 := Kd.F_below hFs hb58
    have hFb8 := Kd.F_below (Kd.F_below (Kd.R_F (Kd.R_bound hR6)) hb7) hb8
    have hFc8 := Kd.F_below (Kd.R_F (Kd.R_bound hR7)) hb8
    have hc6 := (Kd.R_reads' hR6).2.1
    have hc7 := (Kd.R_reads' hR7).2.1
    have hbw8 := hbw5.trans (hb58.mono hbw5.size)
    have hFw8 := Kd.R_F (Kd.R_bound hR8)
    clear s0 s1 hX5 hY5 hFq hFs hb6 hb7 hb8 hb57 hb58 hR6 hR7 hput1 hput2 hbw5 hR8
    have HB0 : SB w8 w8.drew := below_drew1 (Below.refl _ _)
    have HX : ∀ w', SB w8 w' → w'.cell? ⟨w.heap.size, 0, none⟩ = some (.slice A2' q.length c2') ∧ w'.cell? ⟨w.heap.size, 1, none⟩ = some (.bool b0) ∧ w'.cell? ⟨w.heap.size + 1, 0, none⟩ = some (.slice A3' s.length c3') ∧ w'.cell? ⟨w.heap.size + 1, 1, none⟩ = some (.bool b1) := fun w' h => ⟨(blk2 (blk_below hX8 h)).1, (blk2 (blk_below hX8 h)).2.1, (blk2 (blk_below hY8 h)).1, (blk2 (blk_below hY8 h)).2.1⟩
    have HQ : ∀ w', SB w8 w' → Kd.C k45 w' A2' q.length q := fun w' h => Kd.F_now (Kd.F_below hFq8 h)
    have HS : ∀ w', SB w8 w' → Kd.C k45 w' A3' s.length s := fun w' h => Kd.F_now (Kd.F_below hFs8 h)
    have HV1 : ∀ w', SB w8 w' → (convert 23 9 (.slice A6 X.length c6)).run Try.prog w' = .ok (.string (strOfNums X)) w' := fun w' hb => Kd.C_string Try.underlying23 Try.underlying5 Try.underlying9 (Kd.F_now (Kd.F_below hFb8 hb))
    have HV2 : ∀ w', SB w8 w' → (convert 23 9 (.slice A8 X.length c8)).run Try.prog w' = .ok (.string (strOfNums X)) w' := fun w' hb => Kd.C_string Try.underlying23 Try.underlying5 Try.underlying9 (Kd.F_now (Kd.F_below hFw8 hb))
    refine start_ (n := 32) (S := SB w8) (ds := []) (bl_ [0, 32]) (by kernel_rfl) (by kernel_rfl) rfl HB0 (fun _ => ?_)
    refine with_tab tab_4_8_ (fun HT_ => ?_)
    refine takes_ [0, 2] 30 (bl_ [1, 1, 1, 29]) rfl HT_.out (by kernel_rfl) HB0 (a' := ?_) ?_ ?_
    rotate_left
    · repeat (first | exact rfl | (refine tkN rfl rfl (fun _ _ _ h => h) (by rfl) (by simp only [Act.put, List.setIfInBounds_toArray, List.set_cons_zero, List.set_cons_succ, i64_w, i32_w]; rfl) ?_) | (refine tkY rfl rfl (fun _ _ _ h => h) (by rfl) (fun w' hw' => by (obtain ⟨s0, s1, s2, s3⟩ := HX w' hw'; have cv1 := HV1 w' hw'; have cv2 := HV2 w' hw'; go_simp; with_reducible rfl)) (by simp only [Act.put, List.setIfInBounds_toArray, List.set_cons_zero, List.set_cons_succ, i64_w, i32_w]; rfl) ?_))
    refine one_ (i := 1) (N := some 40) (bl_ [3, 29]) rfl rfl (one_of HT_.out (by kernel_rfl)) (by decide) (fun K hK => ?_)
    refine goes_ Try.func26 (by kernel_rfl) rfl #[.agg #[.slice A2' q.length c2', .bool b0]] (by rfl) rfl rfl (by (try simp only [List.map_toArray, List.map_cons, List.map_nil]); first | done | rfl) ?_
    have hm26 := may_ A2' c2' q b0 w8.drew (HQ _ HB0) hcq (by omega)
    rw [hm] at hm26
    refine hm26.mono ?_
    rintro e w9 ⟨rfl, hb9⟩
    have HB9 := HB0.next hb9
    refine ⟨_, rfl, hK.out _ _ HB9 (fun _ => ?_)⟩
    refine norm_ (a' := ?_) ?_ ?_
    rotate_left
    · show Act.put _ (some 40) _ = _
      simp only [Act.put, List.setIfInBounds_toArray, List.set_cons_zero, List.set_cons_succ]
      rfl
    refine one_ (i := 3) (N := some 42) (bl_ [4, 28]) rfl rfl (one_of HT_.out (by kernel_rfl)) (by decide) (fun K hK => ?_)
    refine goes_ Try.func27 (by kernel_rfl) rfl #[.agg #[.slice A2' q.length c2', .bool b0]] (by rfl) rfl rfl (by (try simp only [List.map_toArray, List.map_cons, List.map_nil]); first | done | rfl) ?_
    have hm27 := refRow_ A2' c2' q b0 w9 (HQ _ HB9) hcq (by omega)
    rw [hmr] at hm27
    refine hm27.mono ?_
    rintro e w10 ⟨rfl, hb10⟩
    have HB10 := HB9.next hb10
    refine ⟨_, rfl, hK.out _ _ HB10 (fun _ => ?_)⟩
    refine norm_ (a' := ?_) ?_ ?_
    rotate_left
    · show Act.put _ (some 42) _ = _
      simp only [Act.put, List.setIfInBounds_toArray, List.set_cons_zero, List.set_cons_succ]
      rfl
    refine takes_ [4, 5, 6, 7, 8, 9, 10, 11, 13, 12, 14, 15, 16, 17, 18, 19, 21, 22] 10 (bl_ [20, 1, 2, 9]) rfl HT_.out (by kernel_rfl) HB10 (a' := ?_) ?_ ?_
    rotate_left
    · repeat (first | exact rfl | (refine tkN rfl rfl (fun _ _ _ h => h) (by rfl) (by simp only [Act.put, List.setIfInBounds_toArray, List.set_cons_zero, List.set_cons_succ, i64_w, i32_w]; rfl) ?_) | (refine tkY rfl rfl (fun _ _ _ h => h) (by rfl) (fun w' hw' => by (obtain ⟨s0, s1, s2, s3⟩ := HX w' hw'; have cv1 := HV1 w' hw'; have cv2 := HV2 w' hw'; go_simp; with_reducible rfl)) (by simp only [Act.put, List.setIfInBounds_toArray, List.set_cons_zero, List.set_cons_succ, i64_w, i32_w]; rfl) ?_))
    obtain ⟨eqs, hqs⟩ : ∃ x, eqB q b0 s b1 = x := ⟨_, rfl⟩
    refine one_ (i := 20) (N := some 59) (bl_ [23, 9]) rfl rfl (one_of HT_.out (by kernel_rfl)) (by decide) (fun K hK => ?_)
    refine goes_ Try.func28 (by kernel_rfl) rfl #[.agg #[.slice A2' q.length c2', .bool b0], .agg #[.slice A3' s.length c3', .bool b1]] (by rfl) rfl rfl (by (try simp only [List.map_toArray, List.map_cons, List.map_nil]); first | done | rfl) ?_
    have h28 := eq_ A2' c2' q b0 A3' c3' s b1 w10 (HQ _ HB10) hcq (HS _ HB10) hcs (by omega)
    rw [hqs] at h28
    refine h28.mono ?_
    rintro e w11 ⟨rfl, hb11⟩
    have HB11 := HB10.next hb11
    refine ⟨_, rfl, hK.out _ _ HB11 (fun _ => ?_)⟩
    refine norm_ (a' := ?_) ?_ ?_
    rotate_left
    · show Act.put _ (some 59) _ = _
      simp only [Act.put, List.setIfInBounds_toArray, List.set_cons_zero, List.set_cons_succ]
      rfl
    refine one_ (i := 23) (N := some 62) (bl_ [24, 8]) rfl rfl (one_of HT_.out (by kernel_rfl)) (by decide) (fun K hK => ?_)
    refine goes_ Try.func29 (by kernel_rfl) rfl #[.agg #[.slice A2' q.length c2', .bool b0], .agg #[.slice A3' s.length c3', .bool b1]] (by rfl) rfl rfl (by (try simp only [List.map_toArray, List.map_cons, List.map_nil]); first | done | rfl) ?_
    have h29 := eqRow_ A2' c2' q b0 A3' c3' s b1 w11 (HQ _ HB11) hcq (HS _ HB11) hcs (by omega)
    rw [hqs] at h29
    refine h29.mono ?_
    rintro e w12 ⟨rfl, hb12⟩
    have HB12 := HB11.next hb12
    refine ⟨_, rfl, hK.out _ _ HB12 (fun _ => ?_)⟩
    refine norm_ (a' := ?_) ?_ ?_
    rotate_left
    · show Act.put _ (some 62) _ = _
      simp only [Act.put, List.setIfInBounds_toArray, List.set_cons_zero, List.set_cons_succ]
      rfl
    have hee : (eqs != eqs) = false := by simp
    refine takes_ (List.range' 24 5) 3 (bl_ [29, 3]) rfl HT_.out (by kernel_rfl) HB12 (a' := ?_) ?_ ?_
    rotate_left
    · repeat (first | exact rfl | (refine tkN rfl rfl (fun _ _ _ h => h) (by rfl) (by simp only [Act.put, List.setIfInBounds_toArray, List.set_cons_zero, List.set_cons_succ, i64_w, i32_w]; rfl) ?_) | (refine tkY rfl rfl (fun _ _ _ h => h) (by rfl) (fun w' hw' => by (obtain ⟨s0, s1, s2, s3⟩ := HX w' hw'; have cv1 := HV1 w' hw'; have cv2 := HV2 w' hw'; go_simp; with_reducible rfl)) (by simp only [Act.put, List.setIfInBounds_toArray, List.set_cons_zero, List.set_cons_succ, i64_w, i32_w]; rfl) ?_))
    refine one_ (i := 29) (N := some 68) (bl_ [30, 2]) rfl rfl (one_of HT_.out (by kernel_rfl)) (by decide) (fun K hK => ?_)
    refine goes_ Try.func28 (by kernel_rfl) rfl #[.agg #[.slice A2' q.length c2', .bool b0], .agg #[.slice A2' q.length c2', .bool b0]] (by rfl) rfl rfl (by (try simp only [List.map_toArray, List.map_cons, List.map_nil]); first | done | rfl) ?_
    have h28b := eq_ A2' c2' q b0 A2' c2' q b0 w12 (HQ _ HB12) hcq (HQ _ HB12) hcq (by omega)
    rw [eqB_self] at h28b
    refine h28b.mono ?_
    rintro e w13 ⟨rfl, hb13⟩
    have HB13 := HB12.next hb13
    refine ⟨_, rfl, hK.out _ _ HB13 (fun _ => ?_)⟩
    refine norm_ (a' := ?_) ?_ ?_
    rotate_left
    · show Act.put _ (some 68) _ = _
      simp only [Act.put, List.setIfInBounds_toArray, List.set_cons_zero, List.set_cons_succ]
      rfl
    refine takes_ [30, 31] 0 (bl_ [32]) rfl HT_.out (by kernel_rfl) HB13 (a' := ?_) ?_ ?_
    rotate_left
    · repeat (first | exact rfl | (refine tkN rfl rfl (fun _ _ _ h => h) (by rfl) (by simp only [Act.put, List.setIfInBounds_toArray, List.set_cons_zero, List.set_cons_succ, i64_w, i32_w]; rfl) ?_) | (refine tkY rfl rfl (fun _ _ _ h => h) (by rfl) (fun w' hw' => by (obtain ⟨s0, s1, s2, s3⟩ := HX w' hw'; have cv1 := HV1 w' hw'; have cv2 := HV2 w' hw'; go_simp; with_reducible rfl)) (by simp only [Act.put, List.setIfInBounds_toArray, List.set_cons_zero, List.set_cons_succ, i64_w, i32_w]; rfl) ?_))
    refine done_ (done_of HT_.out (by kernel_rfl)) ?_
    have hXl : X.length ≤ 20000 := by rw [← hX]; exact rowB_len hm
    have hbw13 := hbw8.trans (Below.mono (w := w8) HB13 hbw8.size)
    have HBb : ∀ w', SB w13 w' → Kd.C (Kd.int .u8) w' A6 X.length X := fun w' h => Kd.F_now (Kd.F_below hFb8 (SB.next HB13 h))
    have HTt : ∀ w', SB w13 w' → Kd.C (Kd.int .u8) w' A2 t.length t := fun w' h => Kd.C_below hCt (hbw13.trans (Below.mono (w := w13) h hbw13.size))
    have hgetq := fun (A : Option Addr) (c : Nat) (W : World) => get_ A c q b0 t W hm htx
    rw [hX] at hgetq
    go_upto_region 12 with (fail)
    have HD0 : SB w13 w13.drew := below_drew1 (Below.refl _ _)
    refine start_ (n := 17) (S := SB w13) (ds := []) (bl_ [0, 17]) (by kernel_rfl) (by kernel_rfl) rfl HD0 (fun _ => ?_)
    refine with_tab tab_4_12_ (fun HT_ => ?_)
    refine takes_ [0, 2, 3, 4, 5, 6] 11 (bl_ [1, 1, 5, 10]) rfl HT_.out (by kernel_rfl) HD0 (a' := ?_) ?_ ?_
    rotate_left
    · repeat (first | exact rfl | (refine tkN rfl rfl (fun _ _ _ h => h) (by rfl) (by simp only [Act.put, List.setIfInBounds_toArray, List.set_cons_zero, List.set_cons_succ, i64_w, i32_w]; rfl) ?_) | (refine tkY rfl rfl (fun _ _ _ h => h) (by rfl) (fun w' hw' => by (obtain _ := hw'; go_simp; with_reducible rfl)) (by simp only [Act.put, List.setIfInBounds_toArray, List.set_cons_zero, List.set_cons_succ, i64_w, i32_w]; rfl) ?_))
    refine join_ (σ := J12) 3 (bl_ [14, 3]) (fun s_ => [(78, s_.v), (84, .slice s_.A (X ++ t).length s_.c), (85, (.tuple #[.agg #[.slice s_.Ax q.length s_.cx, .bool b0], .int .i64 X.length, .int .i64 0])), (76, (.tuple #[.agg #[.slice s_.Ax q.length s_.cx, .bool b0], .int .i64 X.length, .int .i64 0])), (86, (.agg #[.slice s_.Ax q.length s_.cx, .bool b0])), (87, .int .i64 X.length), (88, .int .i64 0), (14, .pointer (some ⟨s_.g, 0, none⟩))]) (fun s_ w' => SB w13 w' ∧ w13.heap.size ≤ s_.g ∧ w'.heap[s_.g]? = some (.cells #[.slice none 0 0, .bool false] 31 (0, 0)) ∧ Kd.F k45 w' (fun k => k ≠ s_.g) s_.Ax q.length q ∧ q.length ≤ s_.cx) ?_ (fun hJ => ?_)
    rotate_left
    · refine two_ (i := 1) (j := 13) (Ni := some 78) (Nj := some 14) (bl_ [7, 10]) (bl_ [1, 1, 5, 6, 1, 3]) rfl rfl rfl rfl (two_of HT_.out (by kernel_rfl)) (by decide) (by decide) (fun K hK => ?_) (fun K hK => ?_)
      · refine app8_ (W := w13) (bok := fun k => True) (.const (.slice none 0 0)) (.tmp 77) 78 rfl (by rfl) rfl rfl (by rfl) (by rfl) (Kd.R_nil _ _ _ _ _) (HBb _ HD0) (fun k hk => trivial) HD0 (by simp only [List.length_nil]; omega) ?_
        intro v1 wn1 hr1 hs1 hg1
        rw [List.nil_append] at hr1
        refine hK.out _ _ hs1 (fun _ => ?_)
        refine norm_ (a' := ?_) ?_ ?_
        rotate_left
        · show Act.put _ (some 78) _ = _
          simp only [Act.put, List.setIfInBounds_toArray, List.set_cons_zero, List.set_cons_succ]
          rfl
        refine two_ (i := 7) (j := 13) (Ni := some 84) (Nj := some 14) (bl_ [8, 9]) (bl_ [7, 6, 1, 3]) rfl rfl rfl rfl (two_of HT_.out (by kernel_rfl)) (by decide) (by decide) (fun K hK => ?_) (fun K hK => ?_)
        · refine app8_ (W := w13) (bok := fun k => True) (.tmp 78) (.tmp 83) 84 rfl (by rfl) rfl rfl (by rfl) (by rfl) hr1 (HTt _ hs1) (fun k hk => trivial) hs1 (by omega) ?_
          intro v2 wn2 hr2 hs2 hg2
          obtain ⟨Av2, cv2, hv2⟩ := Kd.R_slice hr2; subst hv2
          refine hK.out _ _ hs2 (fun _ => ?_)
          refine norm_ (a' := ?_) ?_ ?_
          rotate_left
          · show Act.put _ (some 84) _ = _
            simp only [Act.put, List.setIfInBounds_toArray, List.set_cons_zero, List.set_cons_succ]
            rfl
          refine two_ (i := 8) (j := 13) (Ni := some 85) (Nj := some 14) (bl_ [9, 8]) (bl_ [8, 5, 1, 3]) rfl rfl rfl rfl (two_of HT_.out (by kernel_rfl)) (by decide) (by decide) (fun K hK => ?_) (fun K hK => ?_)
          · refine goes_ Try.func30 (by kernel_rfl) rfl #[.slice Av2 (X ++ t).length cv2] (by rfl) rfl rfl (by (try simp only [List.map_toArray, List.map_cons, List.map_nil]); first | done | rfl) ?_
            refine (hgetq _ _ _ (Kd.R_reads' hr2).2.2 (Kd.R_reads' hr2).2.1).mono ?_
            rintro e wn3 ⟨v3, rfl, hr3, hb3⟩
            obtain ⟨Ax3, cx3, hv3⟩ := Kd.R_slice hr3; subst hv3
            have hs3 := SB.next hs2 hb3
            refine ⟨_, rfl, hK.out _ _ hs3 (fun _ => ?_)⟩
            refine norm_ (a' := ?_) ?_ ?_
            rotate_left
            · show Act.put _ (some 85) _ = _
              simp only [Act.put, List.setIfInBounds_toArray, List.set_cons_zero, List.set_cons_succ]
              rfl
            refine takes_ (List.range' 9 4) 4 (bl_ [13, 4]) rfl HT_.out (by kernel_rfl) hs3 (a' := ?_) ?_ ?_
            rotate_left
            · repeat (first | exact rfl | (refine tkN rfl rfl (fun _ _ _ h => h) (by rfl) (by simp only [Act.put, List.setIfInBounds_toArray, List.set_cons_zero, List.set_cons_succ, i64_w, i32_w]; rfl) ?_) | (refine tkY rfl rfl (fun _ _ _ h => h) (by rfl) (fun w' hw' => by (obtain _ := hw'; go_simp; with_reducible rfl)) (by simp only [Act.put, List.setIfInBounds_toArray, List.set_cons_zero, List.set_cons_succ, i64_w, i32_w]; rfl) ?_))
            refine one_ (i := 13) (N := some 14) (bl_ [14, 3]) rfl rfl (one_of HT_.out (by kernel_rfl)) (by decide) (fun K hK => ?_)
            refine value_ (w1 := wn3.alloc (.cells #[.slice none 0 0, .bool false] 31)) (v := .pointer (some ⟨wn3.heap.size, 0, none⟩)) (by rfl) rfl (by go_simp; try with_reducible rfl) ?_
            have hs4 : SB w13 (wn3.alloc (.cells #[.slice none 0 0, .bool false] 31)) := below_alloc hs3 _
            have hg04 : w13.heap.size ≤ wn3.heap.size := Below.size hs3
            have hx4 : Kd.F k45 (wn3.alloc (.cells #[.slice none 0 0, .bool false] 31)) (fun k => k ≠ wn3.heap.size) Ax3 q.length q := Kd.F_below (Kd.F_mono (Kd.R_F (Kd.R_bound hr3)) (fun k hk => by have := hk.2.2.1; omega)) (below_alloc (Below.refl _ _) _)
            refine hK.out _ _ hs4 (fun _ => ?_)
            refine norm_ (a' := ?_) ?_ ?_
            rotate_left
            · show Act.put _ (some 14) _ = _
              simp only [Act.put, List.setIfInBounds_toArray, List.set_cons_zero, List.set_cons_succ]
              rfl
            refine norm_ (a' := putAll _ _) ?_ (hJ ⟨v1, Av2, cv2, Ax3, cx3, wn3.heap.size⟩ _ ⟨hs4, hg04, (blk_new wn3 (.cells #[.slice none 0 0, .bool false] 31)), hx4, (Kd.R_reads' hr3).2.1⟩)
            simp only [putAll, Act.put, List.setIfInBounds_toArray, List.set_cons_zero, List.set_cons_succ]
          · refine value_ (w1 := wn2.alloc (.cells #[.slice none 0 0, .bool false] 31)) (v := .pointer (some ⟨wn2.heap.size, 0, none⟩)) (by rfl) rfl (by go_simp; try with_reducible rfl) ?_
            have hs5 : SB w13 (wn2.alloc (.cells #[.slice none 0 0, .bool false] 31)) := below_alloc hs2 _
            have hg05 : w13.heap.size ≤ wn2.heap.size := Below.size hs2
            have hr5 := Kd.R_alloc hr2 (.cells #[.slice none 0 0, .bool false] 31)
            refine hK.out _ _ hs5 (fun _ => ?_)
            refine norm_ (a' := ?_) ?_ ?_
            rotate_left
            · show Act.put _ (some 14) _ = _
              simp only [Act.put, List.setIfInBounds_toArray, List.set_cons_zero, List.set_cons_succ]
              rfl
            refine one_ (i := 8) (N := some 85) (bl_ [9, 4, 1, 3]) rfl rfl (one_of HT_.out (by kernel_rfl)) (by decide) (fun K hK => ?_)
            refine goes_ Try.func30 (by kernel_rfl) rfl #[.slice Av2 (X ++ t).length cv2] (by rfl) rfl rfl (by (try simp only [List.map_toArray, List.map_cons, List.map_nil]); first | done | rfl) ?_
            refine (hgetq _ _ _ (Kd.R_reads' hr5).2.2 (Kd.R_reads' hr5).2.1).mono ?_
            rintro e wn6 ⟨v6, rfl, hr6, hb6⟩
            obtain ⟨Ax6, cx6, hv6⟩ := Kd.R_slice hr6; subst hv6
            have hs6 := SB.next hs5 hb6
            have hl6 := blk_below (blk_new wn2 (.cells #[.slice none 0 0, .bool false] 31)) hb6
            have hx6 : Kd.F k45 wn6 (fun k => k ≠ wn2.heap.size) Ax6 q.length q := Kd.F_mono (Kd.R_F (Kd.R_bound hr6)) (fun k hk => by have := hk.2.1; have := blk_lt (blk_new wn2 (.cells #[.slice none 0 0, .bool false] 31)); omega)
            refine ⟨_, rfl, hK.out _ _ hs6 (fun _ => ?_)⟩
            refine norm_ (a' := ?_) ?_ ?_
            rotate_left
            · show Act.put _ (some 85) _ = _
              simp only [Act.put, List.setIfInBounds_toArray, List.set_cons_zero, List.set_cons_succ]
              rfl
            refine takes_ (List.range' 9 4) 3 (bl_ [14, 3]) rfl HT_.out (by kernel_rfl) hs6 (a' := ?_) ?_ ?_
            rotate_left
            · repeat (first | exact rfl | (refine tkN rfl rfl (fun _ _ _ h => h) (by rfl) (by simp only [Act.put, List.setIfInBounds_toArray, List.set_cons_zero, List.set_cons_succ, i64_w, i32_w]; rfl) ?_) | (refine tkY rfl rfl (fun _ _ _ h => h) (by rfl) (fun w' hw' => by (obtain _ := hw'; go_simp; with_reducible rfl)) (by simp only [Act.put, List.setIfInBounds_toArray, List.set_cons_zero, List.set_cons_succ, i64_w, i32_w]; rfl) ?_))
            refine norm_ (a' := putAll _ _) ?_ (hJ ⟨v1, Av2, cv2, Ax6, cx6, wn2.heap.size⟩ _ ⟨hs6, hg05, hl6, hx6, (Kd.R_reads' hr6).2.1⟩)
            simp only [putAll, Act.put, List.setIfInBounds_toArray, List.set_cons_zero, List.set_cons_succ]
        · refine value_ (w1 := wn1.alloc (.cells #[.slice none 0 0, .bool false] 31)) (v := .pointer (some ⟨wn1.heap.size, 0, none⟩)) (by rfl) rfl (by go_simp; try with_reducible rfl) ?_
          have hs7 : SB w13 (wn1.alloc (.cells #[.slice none 0 0, .bool false] 31)) := below_alloc hs1 _
          have hg07 : w13.heap.size ≤ wn1.heap.size := Below.size hs1
          have hr7 := Kd.R_alloc (Kd.R_mono (ok' := fun k => k ≠ wn1.heap.size) (Kd.R_bound hr1) (fun k hk => by have := hk.2.2.1; omega)) (.cells #[.slice none 0 0, .bool false] 31)
          refine hK.out _ _ hs7 (fun _ => ?_)
          refine norm_ (a' := ?_) ?_ ?_
          rotate_left
          · show Act.put _ (some 14) _ = _
            simp only [Act.put, List.setIfInBounds_toArray, List.set_cons_zero, List.set_cons_succ]
            rfl
          refine one_ (i := 7) (N := some 84) (bl_ [8, 5, 1, 3]) rfl rfl (one_of HT_.out (by kernel_rfl)) (by decide) (fun K hK => ?_)
          refine app8_ (W := w13) (bok := fun k => k ≠ wn1.heap.size) (.tmp 78) (.tmp 83) 84 rfl (by rfl) rfl rfl (by rfl) (by rfl) hr7 (HTt _ hs7) (fun k hk => by have := blk_lt (blk_new wn1 (.cells #[.slice none 0 0, .bool false] 31)); omega) hs7 (by omega) ?_
          intro v8 wn8 hr8 hs8 hg8
          have hl8 := blk_grown (blk_new wn1 (.cells #[.slice none 0 0, .bool false] 31)) hg8 (fun e => hr7.1 _ e.symm rfl)
          obtain ⟨Av8, cv8, hv8⟩ := Kd.R_slice hr8; subst hv8
          refine hK.out _ _ hs8 (fun _ => ?_)
          refine norm_ (a' := ?_) ?_ ?_
          rotate_left
          · show Act.put _ (some 84) _ = _
            simp only [Act.put, List.setIfInBounds_toArray, List.set_cons_zero, List.set_cons_succ]
            rfl
          refine one_ (i := 8) (N := some 85) (bl_ [9, 4, 1, 3]) rfl rfl (one_of HT_.out (by kernel_rfl)) (by decide) (fun K hK => ?_)
          refine goes_ Try.func30 (by kernel_rfl) rfl #[.slice Av8 (X ++ t).length cv8] (by rfl) rfl rfl (by (try simp only [List.map_toArray, List.map_cons, List.map_nil]); first | done | rfl) ?_
          refine (hgetq _ _ _ (Kd.R_reads' hr8).2.2 (Kd.R_reads' hr8).2.1).mono ?_
          rintro e wn9 ⟨v9, rfl, hr9, hb9⟩
          obtain ⟨Ax9, cx9, hv9⟩ := Kd.R_slice hr9; subst hv9
          have hs9 := SB.next hs8 hb9
          have hl9 := blk_below hl8 hb9
          have hx9 : Kd.F k45 wn9 (fun k => k ≠ wn1.heap.size) Ax9 q.length q := Kd.F_mono (Kd.R_F (Kd.R_bound hr9)) (fun k hk => by have := hk.2.1; have := blk_lt hl8; omega)
          refine ⟨_, rfl, hK.out _ _ hs9 (fun _ => ?_)⟩
          refine norm_ (a' := ?_) ?_ ?_
          rotate_left
          · show Act.put _ (some 85) _ = _
            simp only [Act.put, List.setIfInBounds_toArray, List.set_cons_zero, List.set_cons_succ]
            rfl
          refine takes_ (List.range' 9 4) 3 (bl_ [14, 3]) rfl HT_.out (by kernel_rfl) hs9 (a' := ?_) ?_ ?_
          rotate_left
          · repeat (first | exact rfl | (refine tkN rfl rfl (fun _ _ _ h => h) (by rfl) (by simp only [Act.put, List.setIfInBounds_toArray, List.set_cons_zero, List.set_cons_succ, i64_w, i32_w]; rfl) ?_) | (refine tkY rfl rfl (fun _ _ _ h => h) (by rfl) (fun w' hw' => by (obtain _ := hw'; go_simp; with_reducible rfl)) (by simp only [Act.put, List.setIfInBounds_toArray, List.set_cons_zero, List.set_cons_succ, i64_w, i32_w]; rfl) ?_))
          refine norm_ (a' := putAll _ _) ?_ (hJ ⟨v1, Av8, cv8, Ax9, cx9, wn1.heap.size⟩ _ ⟨hs9, hg07, hl9, hx9, (Kd.R_reads' hr9).2.1⟩)
          simp only [putAll, Act.put, List.setIfInBounds_toArray, List.set_cons_zero, List.set_cons_succ]
      · refine value_ (w1 := w13.drew.alloc (.cells #[.slice none 0 0, .bool false] 31)) (v := .pointer (some ⟨w13.drew.heap.size, 0, none⟩)) (by rfl) rfl (by go_simp; try with_reducible rfl) ?_
        have hs10 : SB w13 (w13.drew.alloc (.cells #[.slice none 0 0, .bool false] 31)) := below_alloc HD0 _
        have hg010 : w13.heap.size ≤ w13.drew.heap.size := Below.size HD0
        refine hK.out _ _ hs10 (fun _ => ?_)
        refine norm_ (a' := ?_) ?_ ?_
        rotate_left
        · show Act.put _ (some 14) _ = _
          simp only [Act.put, List.setIfInBounds_toArray, List.set_cons_zero, List.set_cons_succ]
          rfl
        refine one_ (i := 1) (N := some 78) (bl_ [7, 6, 1, 3]) rfl rfl (one_of HT_.out (by kernel_rfl)) (by decide) (fun K hK => ?_)
        refine app8_ (W := w13) (bok := fun k => k ≠ w13.drew.heap.size) (.const (.slice none 0 0)) (.tmp 77) 78 rfl (by rfl) rfl rfl (by rfl) (by rfl) (Kd.R_nil _ _ _ _ _) (HBb _ hs10) (fun k hk => by have := blk_lt (blk_new w13.drew (.cells #[.slice none 0 0, .bool false] 31)); omega) hs10 (by simp only [List.length_nil]; omega) ?_
        intro v11 wn11 hr11 hs11 hg11
        rw [List.nil_append] at hr11
        have hl11 := blk_grown (blk_new w13.drew (.cells #[.slice none 0 0, .bool false] 31)) hg11 (by simp [Value.ownBlock])
        refine hK.out _ _ hs11 (fun _ => ?_)
        refine norm_ (a' := ?_) ?_ ?_
        rotate_left
        · show Act.put _ (some 78) _ = _
          simp only [Act.put, List.setIfInBounds_toArray, List.set_cons_zero, List.set_cons_succ]
          rfl
        refine one_ (i := 7) (N := some 84) (bl_ [8, 5, 1, 3]) rfl rfl (one_of HT_.out (by kernel_rfl)) (by decide) (fun K hK => ?_)
        refine app8_ (W := w13) (bok := fun k => k ≠ w13.drew.heap.size) (.tmp 78) (.tmp 83) 84 rfl (by rfl) rfl rfl (by rfl) (by rfl) hr11 (HTt _ hs11) (fun k hk => by have := blk_lt hl11; omega) hs11 (by omega) ?_
        intro v12 wn12 hr12 hs12 hg12
        have hl12 := blk_grown hl11 hg12 (fun e => hr11.1 _ e.symm rfl)
        obtain ⟨Av12, cv12, hv12⟩ := Kd.R_slice hr12; subst hv12
        refine hK.out _ _ hs12 (fun _ => ?_)
        refine norm_ (a' := ?_) ?_ ?_
        rotate_left
        · show Act.put _ (some 84) _ = _
          simp only [Act.put, List.setIfInBounds_toArray, List.set_cons_zero, List.set_cons_succ]
          rfl
        refine one_ (i := 8) (N := some 85) (bl_ [9, 4, 1, 3]) rfl rfl (one_of HT_.out (by kernel_rfl)) (by decide) (fun K hK => ?_)
        refine goes_ Try.func30 (by kernel_rfl) rfl #[.slice Av12 (X ++ t).length cv12] (by rfl) rfl rfl (by (try simp only [List.map_toArray, List.map_cons, List.map_nil]); first | done | rfl) ?_
        refine (hgetq _ _ _ (Kd.R_reads' hr12).2.2 (Kd.R_reads' hr12).2.1).mono ?_
        rintro e wn13 ⟨v13, rfl, hr13, hb13⟩
        obtain ⟨Ax13, cx13, hv13⟩ := Kd.R_slice hr13; subst hv13
        have hs13 := SB.next hs12 hb13
        have hl13 := blk_below hl12 hb13
        have hx13 : Kd.F k45 wn13 (fun k => k ≠ w13.drew.heap.size) Ax13 q.length q := Kd.F_mono (Kd.R_F (Kd.R_bound hr13)) (fun k hk => by have := hk.2.1; have := blk_lt hl12; omega)
        refine ⟨_, rfl, hK.out _ _ hs13 (fun _ => ?_)⟩
        refine norm_ (a' := ?_) ?_ ?_
        rotate_left
        · show Act.put _ (some 85) _ = _
          simp only [Act.put, List.setIfInBounds_toArray, List.set_cons_zero, List.set_cons_succ]
          rfl
        refine takes_ (List.range' 9 4) 3 (bl_ [14, 3]) rfl HT_.out (by kernel_rfl) hs13 (a' := ?_) ?_ ?_
        rotate_left
        · repeat (first | exact rfl | (refine tkN rfl rfl (fun _ _ _ h => h) (by rfl) (by simp only [Act.put, List.setIfInBounds_toArray, List.set_cons_zero, List.set_cons_succ, i64_w, i32_w]; rfl) ?_) | (refine tkY rfl rfl (fun _ _ _ h => h) (by rfl) (fun w' hw' => by (obtain _ := hw'; go_simp; with_reducible rfl)) (by simp only [Act.put, List.setIfInBounds_toArray, List.set_cons_zero, List.set_cons_succ, i64_w, i32_w]; rfl) ?_))
        refine norm_ (a' := putAll _ _) ?_ (hJ ⟨v11, Av12, cv12, Ax13, cx13, w13.drew.heap.size⟩ _ ⟨hs13, hg010, hl13, hx13, (Kd.R_reads' hr13).2.1⟩)
        simp only [putAll, Act.put, List.setIfInBounds_toArray, List.set_cons_zero, List.set_cons_succ]
    rintro ⟨v78, A84, c84, Ax, cx, gx⟩ w14 ⟨HD14, hgx, hbx, hFx, hcx⟩
    dsimp only at hgx hbx hFx hcx ⊢
    refine norm_ (a' := ?_) ?_ ?_
    rotate_left
    · show putAll _ _ = _
      simp only [putAll, Act.put, List.setIfInBounds_toArray, List.set_cons_zero, List.set_cons_succ]
      rfl
    obtain ⟨z0, z1, zf0, zf1⟩ := blk2 hbx
    refine one_ (i := 14) (N := none) (bl_ [15, 2]) rfl rfl (one_of HT_.out (by kernel_rfl)) (by decide) (fun K hK => ?_)
    refine skip_ (w1 := _) (by rfl) rfl (by go_simp; with_reducible rfl) ?_
    have hbx2 : ((w14.setCell ⟨gx, 0, none⟩ (.slice Ax q.length cx)).setCell ⟨gx, 1, none⟩ (.bool b0)).heap[gx]? = some (.cells #[.slice Ax q.length cx, .bool b0] 31 (0, 0)) := (blk_set (blk_set hbx 0 _) 1 _).trans rfl
    have HD15 : SB w13 ((w14.setCell ⟨gx, 0, none⟩ (.slice Ax q.length cx)).setCell ⟨gx, 1, none⟩ (.bool b0)) := below_set (below_set HD14 hgx) hgx
    have hFx2 : Kd.F k45 ((w14.setCell ⟨gx, 0, none⟩ (.slice Ax q.length cx)).setCell ⟨gx, 1, none⟩ (.bool b0)) (fun k => k ≠ gx) Ax q.length q := Kd.F_step hFx (fun k hk _ => (Below.heap_setCell _ ⟨gx, 1, none⟩ _ k hk).trans (Below.heap_setCell _ ⟨gx, 0, none⟩ _ k hk))
    generalize (w14.setCell ⟨gx, 0, none⟩ (.slice Ax q.length cx)).setCell ⟨gx, 1, none⟩ (.bool b0) = w15 at hbx2 HD15 hFx2 ⊢
    refine hK.out _ _ HD15 (fun _ => ?_)
    refine takes_ [15, 16] 0 (bl_ [17]) rfl HT_.out (by kernel_rfl) HD15 (a' := ?_) ?_ ?_
    rotate_left
    · repeat (first | exact rfl | (refine tkN rfl rfl (fun _ _ _ h => h) (by rfl) (by simp only [Act.put, List.setIfInBounds_toArray, List.set_cons_zero, List.set_cons_succ, i64_w, i32_w]; rfl) ?_) | (refine tkY rfl rfl (fun _ _ _ h => h) (by rfl) (fun w' hw' => by (obtain _ := hw'; go_simp; with_reducible rfl)) (by simp only [Act.put, List.setIfInBounds_toArray, List.set_cons_zero, List.set_cons_succ, i64_w, i32_w]; rfl) ?_))
    refine done_ (done_of HT_.out (by kernel_rfl)) ?_
    go_upto_region 13 with (fail)
    have HE : ∀ w', SB w15 w' → SB w8 w' := fun w' h => SB.next (SB.next HB13 HD15) h
    have HZ : ∀ w', SB w15 w' → w'.cell? ⟨gx, 0, none⟩ = some (.slice Ax q.length cx) ∧ w'.cell? ⟨gx, 1, none⟩ = some (.bool b0) := fun w' h => ⟨(blk2 (blk_below hbx2 h)).1, (blk2 (blk_below hbx2 h)).2.1⟩
    have HQx : ∀ w', SB w15 w' → Kd.C k45 w' Ax q.length q := fun w' h => Kd.F_now (Kd.F_below hFx2 h)
    have HVY : ∀ w', SB w15 w' → (convert 23 9 (.slice A7 Y.length c7)).run Try.prog w' = .ok (.string (strOfNums Y)) w' := fun w' hb => Kd.C_string Try.underlying23 Try.underlying5 Try.underlying9 (Kd.F_now (Kd.F_below hFc8 (HE w' hb)))
    have hbw15 := hbw13.trans (Below.mono (w := w13) HD15 hbw13.size)
    have HE0 : SB w15 w15.drew := below_drew1 (Below.refl _ _)
    have h29x := eqRow_ Ax cx q b0 A2' c2' q b0 w15.drew (HQx _ HE0) hcx (HQ _ (HE _ HE0)) hcq (by omega)
    rw [eqB_self] at h29x
    obtain ⟨bb, hbb⟩ : ∃ x, eqB q b0 s b1 = x := ⟨_, rfl⟩
    have hstr : mayB s = true → ((strOfNums X).toList == (strOfNums Y).toList) = bb := fun hms => by
      rw [← hbb]
      unfold eqB
      have hY2 : Y = rowB s b1 := by rw [← hY]; unfold putB; rw [hms]; rfl
      by_cases h : b0 = b1 ∧ q = s
      · obtain ⟨rfl, rfl⟩ := h
        rw [hY2, ← hX, BEq.rfl]
        simp
      · have h1 : (b0 == b1 && decide (q = s)) = false := by
          rw [Bool.and_eq_false_iff]
          by_cases h2 : b0 = b1
          · exact .inr (decide_eq_false (fun h3 => h ⟨h2, h3⟩))
          · exact .inl (by simpa using h2)
        rw [h1, beq_eq_false_iff_ne]
        intro he
        have h3 := str_inj (a := X) (b := Y) (by rw [← hX]; exact rowB_range q b0) (by rw [hY2]; exact rowB_range s b1) he
        rw [← hX, hY2] at h3
        obtain ⟨h4, h5⟩ := rowB_inj hm hms h3
        exact h ⟨h5, h4⟩
    cases hms : mayB s
    case false =>
      refine start_ (n := 29) (S := SB w15) (ds := []) (bl_ [0, 29]) (by kernel_rfl) (by kernel_rfl) rfl HE0 (fun _ => ?_)
      refine with_tab tab_4_13_ (fun HT_ => ?_)
      refine takes_ (List.range' 0 11) 18 (bl_ [11, 18]) rfl HT_.out (by kernel_rfl) HE0 (a' := ?_) ?_ ?_
      rotate_left
      · repeat (first | exact rfl | (refine tkN rfl rfl (fun _ _ _ h => h) (by rfl) (by simp only [Act.put, List.setIfInBounds_toArray, List.set_cons_zero, List.set_cons_succ, i64_w, i32_w]; rfl) ?_) | (refine tkY rfl rfl (fun _ _ _ h => h) (by rfl) (fun w' hw' => by (obtain ⟨s0, s1, s2, s3⟩ := HX w' (HE w' hw'); obtain ⟨z0, z1⟩ := HZ w' hw'; have cv1 := HV1 w' (HE w' hw'); have cv2 := HVY w' hw'; go_simp; with_reducible rfl)) (by simp only [Act.put, List.setIfInBounds_toArray, List.set_cons_zero, List.set_cons_succ, i64_w, i32_w]; rfl) ?_))
      refine one_ (i := 11) (N := some 100) (bl_ [12, 17]) rfl rfl (one_of HT_.out (by kernel_rfl)) (by decide) (fun K hK => ?_)
      refine goes_ Try.func29 (by kernel_rfl) rfl #[.agg #[.slice Ax q.length cx, .bool b0], .agg #[.slice A2' q.length c2', .bool b0]] (by rfl) rfl rfl (by (try simp only [List.map_toArray, List.map_cons, List.map_nil]); first | done | rfl) ?_
      refine h29x.mono ?_
      rintro e w16 ⟨rfl, hb16⟩
      have HE16 := HE0.next hb16
      refine ⟨_, rfl, hK.out _ _ HE16 (fun _ => ?_)⟩
      refine norm_ (a' := ?_) ?_ ?_
      rotate_left
      · show Act.put _ (some 100) _ = _
        simp only [Act.put, List.setIfInBounds_toArray, List.set_cons_zero, List.set_cons_succ]
        rfl
      refine takes_ [12, 13, 14, 15, 16, 17, 19, 22, 23, 18, 20, 21, 24, 25, 26, 27, 28] 0 (bl_ [29]) rfl HT_.out (by kernel_rfl) HE16 (a' := ?_) ?_ ?_
      rotate_left
      · repeat (first | exact rfl | (refine tkN rfl rfl (fun _ _ _ h => h) (by rfl) (by simp only [Act.put, List.setIfInBounds_toArray, List.set_cons_zero, List.set_cons_succ, i64_w, i32_w]; rfl) ?_) | (refine tkY rfl rfl (fun _ _ _ h => h) (by rfl) (fun w' hw' => by (obtain ⟨s0, s1, s2, s3⟩ := HX w' (HE w' hw'); obtain ⟨z0, z1⟩ := HZ w' hw'; have cv1 := HV1 w' (HE w' hw'); have cv2 := HVY w' hw'; go_simp; with_reducible rfl)) (by simp only [Act.put, List.setIfInBounds_toArray, List.set_cons_zero, List.set_cons_succ, i64_w, i32_w]; rfl) ?_))
      refine done_ (done_of HT_.out (by kernel_rfl)) ?_
      go_wp2
      go_ret
      exact ⟨by simp, hbw15.trans (Below.mono (w := w15) HE16 hbw15.size)⟩
    case true =>
      have hstr := hstr hms
      have hstr2 : (bb == bb) = true := by simp
      refine start_ (n := 29) (S := SB w15) (ds := []) (bl_ [0, 29]) (by kernel_rfl) (by kernel_rfl) rfl HE0 (fun _ => ?_)
      refine with_tab tab_4_13_ (fun HT_ => ?_)
      refine takes_ (List.range' 0 11) 18 (bl_ [11, 18]) rfl HT_.out (by kernel_rfl) HE0 (a' := ?_) ?_ ?_
      rotate_left
      · repeat (first | exact rfl | (refine tkN rfl rfl (fun _ _ _ h => h) (by rfl) (by simp only [Act.put, List.setIfInBounds_toArray, List.set_cons_zero, List.set_cons_succ, i64_w, i32_w]; rfl) ?_) | (refine tkY rfl rfl (fun _ _ _ h => h) (by rfl) (fun w' hw' => by (obtain ⟨s0, s1, s2, s3⟩ := HX w' (HE w' hw'); obtain ⟨z0, z1⟩ := HZ w' hw'; have cv1 := HV1 w' (HE w' hw'); have cv2 := HVY w' hw'; go_simp; with_reducible rfl)) (by simp only [Act.put, List.setIfInBounds_toArray, List.set_cons_zero, List.set_cons_succ, i64_w, i32_w]; rfl) ?_))
      refine one_ (i := 11) (N := some 100) (bl_ [12, 17]) rfl rfl (one_of HT_.out (by kernel_rfl)) (by decide) (fun K hK => ?_)
      refine goes_ Try.func29 (by kernel_rfl) rfl #[.agg #[.slice Ax q.length cx, .bool b0], .agg #[.slice A2' q.length c2', .bool b0]] (by rfl) rfl rfl (by (try simp only [List.map_toArray, List.map_cons, List.map_nil]); first | done | rfl) ?_
      refine h29x.mono ?_
      rintro e w16 ⟨rfl, hb16⟩
      have HE16 := HE0.next hb16
      refine ⟨_, rfl, hK.out _ _ HE16 (fun _ => ?_)⟩
      refine norm_ (a' := ?_) ?_ ?_
      rotate_left
      · show Act.put _ (some 100) _ = _
        simp only [Act.put, List.setIfInBounds_toArray, List.set_cons_zero, List.set_cons_succ]
        rfl
      refine takes_ [12, 13, 14, 15, 16, 17, 19, 22, 23, 18, 20, 21] 5 (bl_ [24, 5]) rfl HT_.out (by kernel_rfl) HE16 (a' := ?_) ?_ ?_
      rotate_left
      · repeat (first | exact rfl | (refine tkN rfl rfl (fun _ _ _ h => h) (by rfl) (by simp only [Act.put, List.setIfInBounds_toArray, List.set_cons_zero, List.set_cons_succ, i64_w, i32_w]; rfl) ?_) | (refine tkY rfl rfl (fun _ _ _ h => h) (by rfl) (fun w' hw' => by (obtain ⟨s0, s1, s2, s3⟩ := HX w' (HE w' hw'); obtain ⟨z0, z1⟩ := HZ w' hw'; have cv1 := HV1 w' (HE w' hw'); have cv2 := HVY w' hw'; go_simp; with_reducible rfl)) (by simp only [Act.put, List.setIfInBounds_toArray, List.set_cons_zero, List.set_cons_succ, i64_w, i32_w]; rfl) ?_))
      refine one_ (i := 24) (N := some 113) (bl_ [25, 4]) rfl rfl (one_of HT_.out (by kernel_rfl)) (by decide) (fun K hK => ?_)
      refine goes_ Try.func29 (by kernel_rfl) rfl #[.agg #[.slice A2' q.length c2', .bool b0], .agg #[.slice A3' s.length c3', .bool b1]] (by rfl) rfl rfl (by (try simp only [List.map_toArray, List.map_cons, List.map_nil]); first | done | rfl) ?_
      have h29y := eqRow_ A2' c2' q b0 A3' c3' s b1 w16 (HQ _ (HE _ HE16)) hcq (HS _ (HE _ HE16)) hcs (by omega)
      rw [hbb] at h29y
      refine h29y.mono ?_
      rintro e w17 ⟨rfl, hb17⟩
      have HE17 := HE16.next hb17
      refine ⟨_, rfl, hK.out _ _ HE17 (fun _ => ?_)⟩
      refine norm_ (a' := ?_) ?_ ?_
      rotate_left
      · show Act.put _ (some 113) _ = _
        simp only [Act.put, List.setIfInBounds_toArray, List.set_cons_zero, List.set_cons_succ]
        rfl
      refine takes_ (List.range' 25 4) 0 (bl_ [29]) rfl HT_.out (by kernel_rfl) HE17 (a' := ?_) ?_ ?_
      rotate_left
      · repeat (first | exact rfl | (refine tkN rfl rfl (fun _ _ _ h => h) (by rfl) (by simp only [Act.put, List.setIfInBounds_toArray, List.set_cons_zero, List.set_cons_succ, i64_w, i32_w]; rfl) ?_) | (refine tkY rfl rfl (fun _ _ _ h => h) (by rfl) (fun w' hw' => by (obtain ⟨s0, s1, s2, s3⟩ := HX w' (HE w' hw'); obtain ⟨z0, z1⟩ := HZ w' hw'; have cv1 := HV1 w' (HE w' hw'); have cv2 := HVY w' hw'; go_simp; with_reducible rfl)) (by simp only [Act.put, List.setIfInBounds_toArray, List.set_cons_zero, List.set_cons_succ, i64_w, i32_w]; rfl) ?_))
      refine done_ (done_of HT_.out (by kernel_rfl)) ?_
      go_wp2
      go_ret
      exact ⟨by simp, hbw15.trans (Below.mono (w := w15) HE17 hbw15.size)⟩
end Go.Proofs.Ytkigdcihhlkkdaa.P
end
section
set_option linter.unusedVariables false
set_option linter.unusedSimpArgs false
namespace Go.Proofs.Ytkigdcihhlkkdaa.Pure
open Go.ChangeShapes Go.WideShapes Go.RowKit Go.Proofs.Ytkigdcihhlkkdaa.P Go.Proofs.YtkigdcihhlkkdaaW.PrintWords Go.Proofs.YtkigdcihhlkkdaaW.PrintLast
theorem list_of {α : Type} {Q : Nat → α → Prop} : ∀ n : Nat, (∀ i, i < n → ∃ z, Q i z) → ∃ l : List α, l.length = n ∧ ∀ i z, l[i]? = some z → Q i z
  | 0, _ => ⟨[], rfl, fun i z h => by simp at h⟩
  | n + 1, h => by
    obtain ⟨l, hl, hq⟩ := list_of n (fun i hi => h i (by omega))
    obtain ⟨z, hz⟩ := h n (by omega)
    refine ⟨l ++ [z], by simp [hl], fun i x hx => ?_⟩
    by_cases c : i < n
    · exact hq i x (by rwa [List.getElem?_append_left (by omega)] at hx)
    · rw [List.getElem?_append_right (by omega)] at hx
      by_cases e : i = n
      · subst e
        rw [hl, Nat.sub_self] at hx
        simp at hx
        subst hx
        exact hz
      · obtain ⟨j, hj⟩ : ∃ j, i - l.length = j + 1 := ⟨i - l.length - 1, by omega⟩
        rw [hj] at hx
        simp at hx
def wf45 (z : S45) : Prop := (Lit.int .i32 z.f0).wf = true ∧ (Lit.int .i64 z.f1).wf = true ∧ (Lit.int .i64 z.f2).wf = true
set_option maxRecDepth 100000
section
variable {H : Type} {enc : TypeId × Value → H} {w : World} {base : Nat} {spare : Nat → Bool} {held : Bool}
theorem open_cells {fuel : Nat} {cs : List Value} {x : DataW H × List MemPlace} (h : DataW.trod enc Try.prog w base spare held fuel 29 cs = some x) :
    ∃ (a : Option Addr) (len cap : Nat) (zs : List S45), cs = [.slice a len cap] ∧ len = zs.length ∧ len ≤ cap ∧ len ≤ maxLen ∧ Kd.C k45 w a zs.length zs ∧ ∀ z ∈ zs, wf45 z := by
  have hc : Try.prog.cellsOf 45 = 3 := by kernel_rfl
  have hc21 : Try.prog.cellsOf 21 = 1 := by kernel_rfl
  have hc3 : Try.prog.cellsOf 3 = 1 := by kernel_rfl
  rcases DataW.trod_slice (e := 45) Try.underlying29 h with ⟨h0, _⟩ | ⟨a, len, cap, elems, rest, n, _, rfl, _, hb, hl, hm, hlen, hel, _, _⟩
  · exact ⟨none, 0, 0, [], h0, rfl, Nat.le_refl _, Nat.zero_le _, Kd.C_nil k45 w, by simp⟩
  have each : ∀ i, i < len → ∃ z : S45, w.cells? base (a.add (i * 3)) 3 = some [.int .i32 z.f0, .int .i64 z.f1, .int .i64 z.f2] ∧ wf45 z := by
    intro i hi
    have he := hel i hi
    rw [List.getElem?_eq_getElem (by omega), hc, Option.bind_eq_some_iff] at he
    obtain ⟨cs', hcs, hy⟩ := he
    obtain ⟨y0, y1, y2, m, _, hn, h0, h1, h2⟩ := Go.Deep.trod_struct3 Try.underlying45 hy
    rw [hc] at hn
    match cs', hn with
    | [c0, c1, c2], _ =>
      simp only [hc21, hc3, List.drop_zero, List.take_succ_cons, List.take_zero, List.drop_succ_cons] at h0 h1 h2
      obtain ⟨n0, e0, _, w0⟩ := DataW.trod_int Try.underlying21 h0
      obtain ⟨n1, e1, _, w1⟩ := DataW.trod_int Try.underlying3 h1
      obtain ⟨n2, e2, _, w2⟩ := DataW.trod_int Try.underlying3 h2
      simp only [List.cons.injEq, and_true] at e0 e1 e2
      subst e0 e1 e2
      exact ⟨⟨n0, n1, n2⟩, hcs, w0, w1, w2⟩
  obtain ⟨zs, hz, hq⟩ := list_of len each
  have hmm : len ≤ maxLen := Nat.le_trans hl hm
  subst hz
  refine ⟨some a, zs.length, cap, zs, rfl, rfl, hl, hmm, ⟨rfl, by unfold maxLen at hmm; omega, fun _ => ⟨a, rfl, fun j p hp => ?_⟩⟩, fun z hz' => ?_⟩
  · obtain ⟨hc, _⟩ := hq j p hp
    refine ⟨_, rfl, k45_mk w p, fun i u hu => ?_⟩
    have hi : i < 3 := by
      have := (List.getElem?_eq_some_iff.1 hu).1
      simpa using this
    have := (World.cells?_some hc).2.2 i hi
    rw [Addr.add_add] at this
    exact this.trans hu
  · obtain ⟨i, hi⟩ := List.getElem?_of_mem hz'
    exact (hq i z hi).2
theorem open_row {fuel : Nat} {cs : List Value} {x : DataW H × List MemPlace} (h : DataW.trod enc Try.prog w base spare held fuel 31 cs = some x) :
    ∃ (a : Option Addr) (cap : Nat) (z : S31), cs = [.slice a z.f0.length cap, .bool z.f1] ∧ z.f0.length ≤ cap ∧ z.f0.length ≤ maxLen ∧ Kd.C k45 w a z.f0.length z.f0 ∧ ∀ c ∈ z.f0, wf45 c := by
  have hc : Try.prog.cellsOf 31 = 2 := by kernel_rfl
  have hc29 : Try.prog.cellsOf 29 = 1 := by kernel_rfl
  have hc4 : Try.prog.cellsOf 4 = 1 := by kernel_rfl
  obtain ⟨y0, y1, m, _, hn, h0, h1⟩ := trod_struct2 Try.underlying31 h
  rw [hc] at hn
  match cs, hn with
  | [c0, c1], _ =>
    simp only [hc29, hc4, List.drop_zero, List.take_succ_cons, List.take_zero, List.drop_succ_cons] at h0 h1
    obtain ⟨a, len, cap, zs, e0, rfl, hl, hm, hC, hw⟩ := open_cells h0
    obtain ⟨b, e1, _⟩ := DataW.trod_bool Try.underlying4 h1
    simp only [List.cons.injEq, and_true] at e0 e1
    subst e0 e1
    exact ⟨a, cap, ⟨zs, b⟩, rfl, hl, hm, hC, hw⟩
end
end Go.Proofs.Ytkigdcihhlkkdaa.Pure
end
section
set_option linter.unusedVariables false
set_option linter.unusedSimpArgs false
namespace Go.Proofs.Ytkigdcihhlkkdaa.Pure
open Go.ChangeShapes Go.WideShapes Go.RowKit Go.Proofs.Ytkigdcihhlkkdaa.P Go.Proofs.YtkigdcihhlkkdaaW.PrintWords Go.Proofs.YtkigdcihhlkkdaaW.PrintLast
set_option maxRecDepth 100000
theorem in32_of {z : S45} (h : wf45 z) : in32 z := by
  have := h.1
  simp [Lit.wf] at this
  exact this
section
variable {H : Type} {enc : TypeId × Value → H} {w : World} {base : Nat} {spare : Nat → Bool} {held : Bool}
theorem arg_row {r : Reach} {b0 : Nat} {v : Value} {d : DataW H} {ps : List MemPlace} (hval : Value.okWide Try.prog w r b0 31 v) (h : DataW.Trod enc Try.prog w base spare held 31 v d ps) :
    ∃ (a : Option Addr) (cap : Nat) (l : List S45) (b : Bool), v = .agg #[.slice a l.length cap, .bool b] ∧ l.length ≤ cap ∧ l.length ≤ maxLen ∧ Kd.C k45 w a l.length l ∧ ∀ c ∈ l, in32 c := by
  obtain ⟨cs, rfl, hs⟩ := okWide_struct Try.underlying31 hval
  obtain ⟨fuel, hf⟩ := h
  obtain ⟨a, cap, z, hcs, h1, h2, h3, h4⟩ := open_row hf
  obtain ⟨l, rfl⟩ : ∃ l : List Value, cs = l.toArray := ⟨cs.toList, by simp⟩
  simp only [Value.cells] at hcs
  subst hcs
  exact ⟨a, cap, z.f0, z.f1, rfl, h1, h2, h3, fun c hc => in32_of (h4 c hc)⟩
theorem arg_ints {T E : TypeId} {k : IntKind} (hT : Try.prog.underlying T = some (.slice E)) (hE : Try.prog.underlying E = some (.int k)) (hcE : Try.prog.cellsOf E = 1) {a : Option Addr} {len cap : Nat} {d : DataW H} {ps : List MemPlace} (h : DataW.Trod enc Try.prog w 0 (fun _ => true) true T (.slice a len cap) d ps) :
    ∃ zs : List Int, len = zs.length ∧ zs.length ≤ cap ∧ zs.length ≤ maxLen ∧ Kd.C (Kd.int k) w a zs.length zs ∧ ∀ x ∈ zs, (Lit.int k x).wf = true := by
  obtain ⟨fuel, hf⟩ := h
  rcases open_ints hT hE hcE hf with ⟨hcs, _⟩ | ⟨x, l, c, zs, hcs, _, hl, hm, hz, _, hcell, hwz⟩
  · simp [Value.cells] at hcs
    obtain ⟨rfl, rfl, rfl⟩ := hcs
    exact ⟨[], rfl, Nat.le_refl _, Nat.zero_le _, Kd.C_nil _ _, by simp⟩
  · simp [Value.cells] at hcs
    obtain ⟨rfl, rfl, rfl⟩ := hcs
    obtain ⟨l1, hl1, hr1, hm1, hw1, hc1⟩ := Go.Proofs.YtkigdcihhlkkdaaW.PrintWords.ReadsInt.ofRowC (.inr ⟨_, rfl, hl, hm, by simpa using hz, hcell, hwz⟩)
    subst hl1
    exact ⟨l1, rfl, hc1, hm1, Go.Proofs.YtkigdcihhlkkdaaW.PrintWords.Kd.C_of_reads (d := (0 : Int)) (h1 := fun _ => rfl) hr1, hw1⟩
end
end Go.Proofs.Ytkigdcihhlkkdaa.Pure
end
