/- own texts of this session, put together -/
import Derived.Test.YtkigdcihhlkkdaaTV1
import Derived.Test.YtkigdcihhlkkdaaTZ0
section
set_option linter.unusedVariables false
set_option linter.unusedSimpArgs false
namespace Go.Proofs.YtkigdcihhlkkdaaW.PrintLast
open Go.RowKit Go.Proofs.YtkigdcihhlkkdaaW.PrintWords
section
variable {P : Program} {md : Region.Mode} {ops : Array Oper} {T : Bool × List (List Nat × List Nat)} {Q : Exit → Act → World → Prop} {S : World → Prop} {ds : List Nat}
def chainL : List Bool → List Nat → List Bool
  | l, [] => l
  | l, j :: js => chainL (l.set j true) js
def chainT (T : Bool × List (List Nat × List Nat)) : List Bool → List Nat → Bool
  | _, [] => true
  | l, j :: js => anyT T l (l.set j true) j && chainT T (l.set j true) js
end
end Go.Proofs.YtkigdcihhlkkdaaW.PrintLast
namespace Go.Proofs.YtkigdcihhlkkdaaW.PrintLast
open Go.RowKit Go.Proofs.YtkigdcihhlkkdaaW.PrintWords
section
variable {P : Program} {ops : Array Oper} {Q : Exit → Act → World → Prop} {js : List Nat} {j : Nat} {oi : Oper} {N : Option Tmp} {v : Value} {a a1 a' : Act}
end
end Go.Proofs.YtkigdcihhlkkdaaW.PrintLast
namespace Go.Proofs.YtkigdcihhlkkdaaW.PrintLast
open Go.RowKit Go.Proofs.YtkigdcihhlkkdaaW.PrintWords
section
variable {P : Program} {md : Region.Mode} {ops : Array Oper} {T : Bool × List (List Nat × List Nat)} {Q : Exit → Act → World → Prop} {S : World → Prop} {ds : List Nat}
def pre (i n : Nat) : List Bool := List.replicate i true ++ List.replicate (n - i) false
end
end Go.Proofs.YtkigdcihhlkkdaaW.PrintLast
end
section
set_option linter.unusedVariables false
set_option linter.unusedSimpArgs false
namespace Go.Proofs.YtkigdcihhlkkdaaW.PrintLast
open Go.RowKit Go.Proofs.YtkigdcihhlkkdaaW.PrintWords
section
variable {P : Program} {md : Region.Mode} {ops : Array Oper} {T : Bool × List (List Nat × List Nat)} {Q : Exit → Act → World → Prop} {S : World → Prop}
theorem closed_next {l : Array Bool} {i : Nat} (h : ListedClosed md ops l) (hr : i ∈ Region.ready md ops l) : ListedClosed md ops (l.setIfInBounds i true) := by
  have mono : ∀ k, l.getD k false = true → (l.setIfInBounds i true).getD k false = true := by
    intro k hk
    by_cases e : i = k
    · subst e
      rw [Array.getD_eq_getD_getElem?] at hk ⊢
      rcases Nat.lt_or_ge i l.size with q | q
      · simp [q]
      · simp [Array.getElem?_eq_none q] at hk
    · rw [getD_set_ne false e]; exact hk
  intro j oj hj hl e he hb
  by_cases c : i = j
  · subst c
    obtain ⟨_, o, ho, hall⟩ := mem_ready.1 hr
    rw [ho] at hj
    obtain rfl := Option.some.inj hj
    exact mono _ (hall e he hb)
  · rw [getD_set_ne false c] at hl
    exact mono _ (h j oj hj hl e he hb)
def TakeRun (P : Program) (ops : Array Oper) (Q : Exit → Act → World → Prop) (S : World → Prop) : List Nat → Act → Act → Prop
  | [], a, a' => a = a'
  | j :: js, a, a' => ∃ (oi : Oper) (N : Option Tmp) (v : Value) (a1 : Act), ops[j]? = some oi ∧ oi.dst = N ∧ (∀ c a w, Q (.panic c) (a.put oi.dst v) w → Q (.panic c) a w) ∧ YieldsIf P ops S oi v a ∧ a.put N v = a1 ∧ TakeRun P ops Q S js a1 a'
section
variable {js : List Nat} {j : Nat} {oi : Oper} {d : Tmp} {v : Value} {a a1 a' : Act}
theorem tkN (hi : ops.toList[j]? = some oi) (hN : oi.dst = some d) (hQ : ∀ c a w, Q (.panic c) (a.put oi.dst undef) w → Q (.panic c) a w) (hw : Region.wanted oi (yielded ops a.tmps) = false) (ha : a.put (some d) undef = a1) (h : TakeRun P ops Q S js a1 a') : TakeRun P ops Q S (j :: js) a a' :=
  ⟨oi, some d, undef, a1, (Array.getElem?_toList ..).symm.trans hi, hN, hQ, .inr ⟨hw, rfl⟩, ha, h⟩
theorem tkY (hi : ops.toList[j]? = some oi) (hN : oi.dst = some d) (hQ : ∀ c a w, Q (.panic c) (a.put oi.dst v) w → Q (.panic c) a w) (hw : Region.wanted oi (yielded ops a.tmps) = true) (hy : ∀ w, S w → (execOp a.eval oi).run P w = .ok (.value v) w) (ha : a.put (some d) v = a1) (h : TakeRun P ops Q S js a1 a') : TakeRun P ops Q S (j :: js) a a' :=
  ⟨oi, some d, v, a1, (Array.getElem?_toList ..).symm.trans hi, hN, hQ, .inl ⟨hw, hy⟩, ha, h⟩
end
theorem takes_aux : ∀ (js : List Nat) (m : Nat) {n : Nat} {l : Array Bool} (l' : Array Bool) {a a' : Act} {w : World} (hn : n = m + js.length) (hT : rtab md ops = T) (hc : (chainT T l.toList js && chainL l.toList js == l'.toList) = true) (hcl : ListedClosed md ops l)
    (hS : S w) (hr : TakeRun P ops Q S js a a') (h : wpAnyLast P md ops Q S [] m l' a' w), wpAnyLast P md ops Q S [] n l a w
  | [], m, n, l, l', a, a', w, hn, hT, hc, hcl, hS, hr, h => by
    simp only [chainT, chainL, Bool.true_and, beq_iff_eq] at hc
    have : l = l' := Array.toList_inj.1 hc
    subst this
    cases hr
    simp at hn
    subst hn
    exact h
  | j :: js, m, n, l, l', a, a', w, hn, hT, hc, hcl, hS, hr, h => by
    obtain ⟨oi, N, v, a1, h1, h2, h3, h4, h5, h6⟩ := hr
    simp only [chainT, chainL, Bool.and_eq_true] at hc
    obtain ⟨⟨c1, c2⟩, c3⟩ := hc
    obtain ⟨n, rfl⟩ : ∃ q, n = q + 1 := ⟨n - 1, by simp at hn; omega⟩
    have hany : anyB md ops l (l.setIfInBounds j true) j = true := any_of hT (by rw [Array.toList_setIfInBounds]; exact c1)
    simp only [anyB, Bool.and_eq_true, beq_iff_eq] at hany
    obtain ⟨⟨⟨k1, k2⟩, k3⟩, _⟩ := hany
    have k3' : j ∈ Region.ready md ops l := by simpa using k3
    subst h5
    subst h2
    refine wpAnyLast_first h1 (Region.noSelect_spec k1) h3 ops.size n l a w (Region.free_spec h1 k2) hcl (fun d hm => by simp at hm) k3' h4 hS ?_
    exact takes_aux js m l' (by simp at hn; omega) hT (by rw [Array.toList_setIfInBounds, c2, Bool.true_and]; exact c3) (closed_next hcl k3') hS h6 h
theorem takes_ (js : List Nat) (m : Nat) {n : Nat} {l : Array Bool} (l' : Array Bool) {a a' : Act} {w : World} (hn : n = m + js.length) (hT : rtab md ops = T) (hc : (closedT T.2 l.toList && (chainT T l.toList js && chainL l.toList js == l'.toList)) = true)
    (hS : S w) (hr : TakeRun P ops Q S js a a') (h : wpAnyLast P md ops Q S [] m l' a' w) : wpAnyLast P md ops Q S [] n l a w := by
  rw [Bool.and_eq_true] at hc
  exact takes_aux js m l' hn hT hc.2 (Region.closedB_spec (by subst hT; rw [closed_eq]; exact hc.1)) hS hr h
end
end Go.Proofs.YtkigdcihhlkkdaaW.PrintLast
end
section
set_option linter.unusedVariables false
set_option linter.unusedSimpArgs false
namespace Go.Proofs.Ytkigdcihhlkkdaa.P
open Go.RowKit Go.Proofs.YtkigdcihhlkkdaaW.PrintWords Go.Proofs.YtkigdcihhlkkdaaW.PrintLast Go.Proofs.YtkigdcihhlkkdaaW.PrintMore
theorem blk3 {W : World} {g t : Nat} {a b c : Value} (h : W.heap[g]? = some (.cells #[a, b, c] t (0, 0))) : W.cell? ⟨g, 0, none⟩ = some a ∧ W.cell? ⟨g, 1, none⟩ = some b ∧ W.cell? ⟨g, 2, none⟩ = some c :=
  ⟨(blk_cell h 0).trans rfl, (blk_cell h 1).trans rfl, (blk_cell h 2).trans rfl⟩
def SC (W : World) (c : S45) (w : World) : Prop := (w.cell? ⟨W.heap.size, 0, none⟩ = some (.int .i32 c.f0) ∧ w.cell? ⟨W.heap.size, 1, none⟩ = some (.int .i64 c.f1) ∧ w.cell? ⟨W.heap.size, 2, none⟩ = some (.int .i64 c.f2)) ∧ Aside0 (w.heap[W.heap.size]? = some (.cells #[.int .i32 c.f0, .int .i64 c.f1, .int .i64 c.f2] 45 (0, 0)) ∧ Below W.heap.size W w)
theorem SC.mk' {W w : World} {c : S45} (h : w.heap[W.heap.size]? = some (.cells #[.int .i32 c.f0, .int .i64 c.f1, .int .i64 c.f2] 45 (0, 0))) (hb : Below W.heap.size W w) : SC W c w := ⟨blk3 h, ⟨h, hb⟩⟩
theorem SC.next {W w w' : World} {c : S45} (h : SC W c w) (hb : Below w.heap.size w w') : SC W c w' :=
  SC.mk' (blk_below h.2.out.1 hb) (h.2.out.2.trans (hb.mono h.2.out.2.size))
end Go.Proofs.Ytkigdcihhlkkdaa.P
end
section
namespace Go.Proofs.Ytkigdcihhlkkdaa.P
open Go.RowKit Go.Proofs.YtkigdcihhlkkdaaW.PrintWords Go.Proofs.YtkigdcihhlkkdaaW.PrintLast Go.Proofs.YtkigdcihhlkkdaaW.PrintMore
attribute [local go_sem] max2_int min2_int max_two min_two max_three min_three max_four min_four   -- for this text's walks alone
set_option linter.unusedVariables false
set_option linter.unusedSimpArgs false
theorem eqA45 (d : Nat) (w : World) (x0 y0 : Int) (x1 y1 : Int) (x2 y2 : Int) :
    (Op.equalIn (d + 2) 45 (.agg #[.int .i32 x0, .int .i64 x1, .int .i64 x2]) (.agg #[.int .i32 y0, .int .i64 y1, .int .i64 y2])).run Try.prog w = .ok (x0 == y0 && (x1 == y1 && (x2 == y2))) w := by
  refine eqA_of Try.underlying45 (by kernel_rfl) ?_
  refine eqf_cons (by rfl) (by go_simp; rfl) (by go_simp; rfl) (by go_simp) ?_
  refine eqf_cons (by rfl) (by go_simp; rfl) (by go_simp; rfl) (by go_simp) ?_
  exact eqf_last (by rfl) (by go_simp; rfl) (by go_simp; rfl) (by go_simp)
end Go.Proofs.Ytkigdcihhlkkdaa.P
end
section
namespace Go.Proofs.Ytkigdcihhlkkdaa.P
open Go.RowKit Go.Proofs.YtkigdcihhlkkdaaW.PrintWords Go.Proofs.YtkigdcihhlkkdaaW.PrintLast Go.Proofs.YtkigdcihhlkkdaaW.PrintMore
attribute [local go_sem] max2_int min2_int max_two min_two max_three min_three max_four min_four   -- for this text's walks alone
set_option linter.unusedVariables false
set_option linter.unusedSimpArgs false
def cell_Pad.f  : Option (Int × Int × Int) := some (0, 1, 0)
set_option maxHeartbeats 8000000 in
set_option maxRecDepth 100000 in
theorem cell_Pad.calls  (r1 : Int) (r2 : Int) (r3 : Int) (w : World) (h : cell_Pad.f  = some (r1, r2, r3)) :
    Calls Try.prog 77 #[] w fun e w' => e = .returned (.agg #[.int .i32 r1, .int .i64 r2, .int .i64 r3]) ∧ Below w.heap.size w w' := by
  have hu45 := Try.underlying45
  have HB := Aside0.mk (Below.refl w.heap.size w)
  have H : (some (0, 1, 0)) = some (r1, r2, r3) := h
  clear h
  simp only [Option.some.injEq, Prod.mk.injEq] at H
  obtain ⟨rfl, rfl, rfl⟩ := H
  go_enter Try.func77, Try.ntmps77
  go_wp2_with (first | ((with_reducible refine gate_dst (N := 0) rfl ?_); refine box_event ?hg (N := 0) ?hd (cs := #[.int .i32 0, .int .i64 0, .int .i64 0]) (t := 45) ?hr ?_; (case hd => rfl); (case hg => rfl); (case hr => first | (go_simp; done) | (go_simp; rfl)); intro gb122 hg w1 hbox hb; have n0_ := Aside0.mk (below_step (by repeat (first | (with_reducible first | exact HB.out | apply below_alloc | apply pw_below_drewN | apply below_drew1) | exact HB.out)) hb); have n1_ := Aside0.mk (hbox); have n2_ := Aside0.mk ((by rw [hg]; exact (below_size (by repeat (first | (with_reducible first | exact HB.out | apply below_alloc | apply pw_below_drewN | apply below_drew1) | exact HB.out))) : w.heap.size ≤ gb122)); have n3_ := Aside0.mk ((by rw [hg]; exact (below_size (by repeat (first | (with_reducible first | exact HB.out | apply below_alloc | apply pw_below_drewN | apply below_drew1) | exact HB.out))) : w.heap.size ≤ gb122)); clear HB; have HB := n0_; have BK122 := n1_; have GW122 := n2_; have GE122 := n3_; clear n0_ n1_ n2_ n3_; clear hb hbox hg; have hcz2_0 : w1.cell? ⟨gb122, 0, none⟩ = some (.int .i32 0) := (blk_cell BK122.out 0).trans rfl; have hcz2_1 : w1.cell? ⟨gb122, 1, none⟩ = some (.int .i64 0) := (blk_cell BK122.out 1).trans rfl; have hcz2_2 : w1.cell? ⟨gb122, 2, none⟩ = some (.int .i64 0) := (blk_cell BK122.out 2).trans rfl; have hfz2_0 := blk_frozen BK122.out 0; have hfz2_1 := blk_frozen BK122.out 1; have hfz2_2 := blk_frozen BK122.out 2))
  refine bodyPost_ret (results_cell_row rfl _ _ gb122 45 #[.int .i32 0, .int .i64 1, .int .i64 0] (0, 0) _ rfl (by (with_reducible repeat (first | refine blk_drewN ?_ _ | refine blk_drew ?_ | refine blk_alloc ?_ _)); refine blk_put (cs := #[.int .i32 0, .int .i64 1, .int .i64 0]) ?_ 2 _ rfl; (with_reducible repeat (first | refine blk_drewN ?_ _ | refine blk_drew ?_ | refine blk_alloc ?_ _)); refine blk_put (cs := #[.int .i32 0, .int .i64 0, .int .i64 0]) ?_ 1 _ rfl; (with_reducible repeat (first | refine blk_drewN ?_ _ | refine blk_drew ?_ | refine blk_alloc ?_ _)); refine blk_put (cs := #[.int .i32 0, .int .i64 0, .int .i64 0]) ?_ 0 _ rfl; (with_reducible repeat (first | refine blk_drewN ?_ _ | refine blk_drew ?_ | refine blk_alloc ?_ _)); exact BK122.out) Try.underlying45 rfl (by kernel_rfl)) rfl ?_
  exact ⟨by first | rfl | (simp [errW_none, errW_some] <;> rfl) | (simp [*, errW_none, errW_some] <;> rfl), by repeat (first | (with_reducible first | exact HB.out | apply below_alloc | apply pw_below_drewN | apply below_drew1 | refine below_set ?_ GE122.out) | exact HB.out)⟩
end Go.Proofs.Ytkigdcihhlkkdaa.P
end
section
namespace Go.Proofs.Ytkigdcihhlkkdaa.P
open Go.RowKit Go.Proofs.YtkigdcihhlkkdaaW.PrintWords Go.Proofs.YtkigdcihhlkkdaaW.PrintLast Go.Proofs.YtkigdcihhlkkdaaW.PrintMore
attribute [local go_sem] max2_int min2_int max_two min_two max_three min_three max_four min_four   -- for this text's walks alone
set_option linter.unusedVariables false
set_option linter.unusedSimpArgs false
attribute [local go_sem high] eqA45
def cell_IsPad.f (a0_0 : Int) (a0_1 : Int) (a0_2 : Int) : Option (Bool) := (cell_Pad.f).bind fun bt124 => (some (a0_0 == bt124.1 && (a0_1 == bt124.2.1 && (a0_2 == bt124.2.2))))
set_option maxHeartbeats 8000000 in
set_option maxRecDepth 100000 in
theorem cell_IsPad.calls (a0_0 : Int) (a0_1 : Int) (a0_2 : Int) (r : Bool) (w : World) (h : cell_IsPad.f a0_0 a0_1 a0_2 = some r) :
    Calls Try.prog 65 #[.agg #[.int .i32 a0_0, .int .i64 a0_1, .int .i64 a0_2]] w fun e w' => e = .returned (.bool r) ∧ Below w.heap.size w w' := by
  have hu45 := Try.underlying45
  have HB := Aside0.mk (Below.refl w.heap.size w)
  have H : ((cell_Pad.f).bind fun bt124 => (some (a0_0 == bt124.1 && (a0_1 == bt124.2.1 && (a0_2 == bt124.2.2))))) = some r := h
  clear h
  replace H := Option.bind_eq_some_iff.mp H
  obtain ⟨⟨t124, t125, t126⟩, A20, H⟩ := H
  replace H : (some (a0_0 == t124 && (a0_1 == t125 && (a0_2 == t126)))) = some r := H
  have A2 := Aside0.mk A20
  clear A20
  obtain rfl := Option.some.inj H
  go_enter Try.func65, Try.ntmps65
  try go_wp2_with (first | ((with_reducible refine gate_dst (N := 1) rfl ?_); refine box_event ?hg (N := 1) ?hd (cs := #[.int .i32 a0_0, .int .i64 a0_1, .int .i64 a0_2]) (t := 45) ?hr ?_; (case hd => rfl); (case hg => rfl); (case hr => first | (go_simp; done) | (go_simp; rfl)); intro gb123 hg w3 hbox hb; have n0_ := Aside0.mk (below_step (by repeat (first | (with_reducible first | exact HB.out | apply below_alloc | apply pw_below_drewN | apply below_drew1) | exact HB.out)) hb); have n1_ := Aside0.mk (hbox); have n2_ := Aside0.mk ((by rw [hg]; exact (below_size (by repeat (first | (with_reducible first | exact HB.out | apply below_alloc | apply pw_below_drewN | apply below_drew1) | exact HB.out))) : w.heap.size ≤ gb123)); have n3_ := Aside0.mk ((by rw [hg]; exact (below_size (by repeat (first | (with_reducible first | exact HB.out | apply below_alloc | apply pw_below_drewN | apply below_drew1) | exact HB.out))) : w.heap.size ≤ gb123)); clear HB; have HB := n0_; have BK123 := n1_; have GW123 := n2_; have GE123 := n3_; clear n0_ n1_ n2_ n3_; clear hb hbox hg))
  have n0_ := Aside0.mk (blk_drew BK123.out)
  have n1_ := Aside0.mk (below_drew1 HB.out)
  clear BK123
  clear HB
  have BK123 := n0_
  have HB := n1_
  clear n0_ n1_
  refine start_ (n := 4) (S := fun w' => w'.cell? ⟨gb123, 0, none⟩ = some (.int .i32 a0_0) ∧ w'.cell? ⟨gb123, 1, none⟩ = some (.int .i64 a0_1) ∧ w'.cell? ⟨gb123, 2, none⟩ = some (.int .i64 a0_2)) (ds := []) #[false, false, false, false] (by kernel_rfl) rfl rfl ⟨(blk_cell BK123.out 0).trans rfl, (blk_cell BK123.out 1).trans rfl, (blk_cell BK123.out 2).trans rfl⟩ (fun hHeld => ?_)
  generalize w3.drew = w4 at BK123 HB hHeld ⊢
  refine take_ (i := 0) (N := some 3) (v := ?_) (a' := ?_) #[true, false, false, false] rfl rfl (by kernel_rfl) (fun _ _ _ h => h) (Or.inl ⟨by rfl, ?_⟩) hHeld ?_ ?_
  rotate_left
  · rintro w' ⟨s0, s1, s2⟩
    go_simp
    with_reducible rfl
  rotate_left
  · simp only [Act.put, List.setIfInBounds_toArray, List.set_cons_zero, List.set_cons_succ, i64_w, i32_w]
    rfl
  refine one_ (i := 1) (N := some 4) #[true, true, false, false] rfl rfl (by kernel_rfl) (by decide) (fun K hK => ?_)
  refine goes_ Try.func77 (by kernel_rfl) rfl #[] (by rfl) rfl rfl (by (try simp only [List.map_toArray, List.map_cons, List.map_nil]); first | done | rfl | (simp only [List.length_drop, List.length_take]; rfl)) ?_
  with_reducible refine (cell_Pad.calls  t124 t125 t126 _ A2.out).mono ?_
  rintro e w5 ⟨rfl, hb⟩
  refine ⟨_, rfl, ?_⟩
  have n0_ := Aside0.mk (blk_below (g := gb123) (o := .cells #[.int .i32 a0_0, .int .i64 a0_1, .int .i64 a0_2] 45 (0, 0)) (by (with_reducible repeat (first | refine blk_drewN ?_ _ | refine blk_drew ?_ | refine blk_alloc ?_ _)); exact BK123.out) hb)
  have n1_ := Aside0.mk (below_step (by repeat (first | (with_reducible first | exact HB.out | apply below_alloc | apply pw_below_drewN | apply below_drew1 | refine below_set ?_ GE123.out) | exact HB.out)) hb)
  clear BK123
  clear HB
  have BK123 := n0_
  have HB := n1_
  clear n0_ n1_
  (try clear hb)
  (try clear hb2)
  (try clear hk)
  (try clear hi)
  refine hK.out _ _ ⟨(blk_cell BK123.out 0).trans rfl, (blk_cell BK123.out 1).trans rfl, (blk_cell BK123.out 2).trans rfl⟩ (fun hHeld => ?_)
  clear hK K
  refine norm_ (a' := ?_) ?_ ?_
  rotate_left
  · show Act.put _ (some 4) _ = _
    simp only [Act.put, List.setIfInBounds_toArray, List.set_cons_zero, List.set_cons_succ, i64_w, i32_w]
    rfl
  refine pure_ (i := 2) (N := some 5) (v := ?_) (a' := ?_) #[true, true, true, false] rfl rfl (by kernel_rfl) (fun _ _ _ h => h) (Or.inl ⟨by rfl, ?_⟩) ?_ ?_
  rotate_left
  · intro w'
    go_simp
    with_reducible rfl
  rotate_left
  · simp only [Act.put, List.setIfInBounds_toArray, List.set_cons_zero, List.set_cons_succ, i64_w, i32_w]
    rfl
  refine pure_ (i := 3) (N := some 2) (v := ?_) (a' := ?_) #[true, true, true, true] rfl rfl (by kernel_rfl) (fun _ _ _ h => h) (Or.inl ⟨by rfl, ?_⟩) ?_ ?_
  rotate_left
  · intro w'
    go_simp
    with_reducible rfl
  rotate_left
  · simp only [Act.put, List.setIfInBounds_toArray, List.set_cons_zero, List.set_cons_succ, i64_w, i32_w]
    rfl
  refine done_ (by kernel_rfl) ?_
  try go_wp2
  go_ret
  exact ⟨by first | rfl | (simp [errW_none, errW_some] <;> rfl) | (simp [*, errW_none, errW_some] <;> rfl), by repeat (first | (with_reducible first | exact HB.out | apply below_alloc | apply pw_below_drewN | apply below_drew1 | refine below_set ?_ GE123.out) | exact HB.out)⟩
end Go.Proofs.Ytkigdcihhlkkdaa.P
end
section
namespace Go.Proofs.Ytkigdcihhlkkdaa.P
open Go.RowKit Go.Proofs.YtkigdcihhlkkdaaW.PrintWords Go.Proofs.YtkigdcihhlkkdaaW.PrintLast Go.Proofs.YtkigdcihhlkkdaaW.PrintMore
attribute [local go_sem] max2_int min2_int max_two min_two max_three min_three max_four min_four   -- for this text's walks alone
set_option linter.unusedVariables false
set_option linter.unusedSimpArgs false
def width_none.c (r : Int) : Prop := r < 32 ∨ (127 ≤ r ∧ r ≤ 159) ∨ (768 ≤ r ∧ r ≤ 879) ∨ (8203 ≤ r ∧ r ≤ 8207) ∨ (65024 ≤ r ∧ r ≤ 65039) ∨ 1114111 < r ∨ (55296 ≤ r ∧ r ≤ 57343)
instance (r : Int) : Decidable (width_none.c r) := by unfold width_none.c; infer_instance
def width_none.b (r : Int) : Bool := decide (width_none.c r)
def width_none.f (a0 : Int) : Option Bool := some (width_none.b a0)
theorem width_none.yes (r : Int) (h : r < 32 ∨ (127 ≤ r ∧ r ≤ 159) ∨ (768 ≤ r ∧ r ≤ 879) ∨ (8203 ≤ r ∧ r ≤ 8207) ∨ (65024 ≤ r ∧ r ≤ 65039) ∨ 1114111 < r ∨ (55296 ≤ r ∧ r ≤ 57343)) : width_none.b r = true := decide_eq_true h
theorem width_none.no (r : Int) (h : ¬ (r < 32 ∨ (127 ≤ r ∧ r ≤ 159) ∨ (768 ≤ r ∧ r ≤ 879) ∨ (8203 ≤ r ∧ r ≤ 8207) ∨ (65024 ≤ r ∧ r ≤ 65039) ∨ 1114111 < r ∨ (55296 ≤ r ∧ r ≤ 57343))) : width_none.b r = false := decide_eq_false h
set_option maxHeartbeats 2000000 in
set_option maxRecDepth 100000 in
theorem width_none.calls (a0 : Int) (r : Bool) (w : World) (h : width_none.f a0 = some r) :
    Calls Try.prog 81 #[.int .i32 a0] w fun e w' => e = .returned (.bool r) ∧ Drawn0 w w' := by
  obtain rfl := Option.some.inj h
  clear h
  go_enter Try.func81, Try.ntmps81
  go_wp2
  all_goals go_ret
  all_goals first
    | exact ⟨by rw [width_none.yes a0 (by omega)] <;> rfl, Drawn0.refl _⟩
    | exact ⟨by rw [width_none.no a0 (by omega)] <;> rfl, Drawn0.refl _⟩
def width_wide.c (r : Int) : Prop := (4352 ≤ r ∧ r ≤ 4447) ∨ (11904 ≤ r ∧ r ≤ 12350) ∨ (12353 ≤ r ∧ r ≤ 13311) ∨ (13312 ≤ r ∧ r ≤ 19903) ∨ (19968 ≤ r ∧ r ≤ 40959) ∨ (40960 ≤ r ∧ r ≤ 42191) ∨ (44032 ≤ r ∧ r ≤ 55203) ∨ (63744 ≤ r ∧ r ≤ 64255) ∨ (65072 ≤ r ∧ r ≤ 65135) ∨ (65280 ≤ r ∧ r ≤ 65376) ∨ (65504 ≤ r ∧ r ≤ 65510) ∨ (127744 ≤ r ∧ r ≤ 128591) ∨ (129280 ≤ r ∧ r ≤ 129535) ∨ (131072 ≤ r ∧ r ≤ 262141)
instance (r : Int) : Decidable (width_wide.c r) := by unfold width_wide.c; infer_instance
def width_wide.b (r : Int) : Bool := decide (width_wide.c r)
def width_wide.f (a0 : Int) : Option Bool := some (width_wide.b a0)
theorem width_wide.yes (r : Int) (h : (4352 ≤ r ∧ r ≤ 4447) ∨ (11904 ≤ r ∧ r ≤ 12350) ∨ (12353 ≤ r ∧ r ≤ 13311) ∨ (13312 ≤ r ∧ r ≤ 19903) ∨ (19968 ≤ r ∧ r ≤ 40959) ∨ (40960 ≤ r ∧ r ≤ 42191) ∨ (44032 ≤ r ∧ r ≤ 55203) ∨ (63744 ≤ r ∧ r ≤ 64255) ∨ (65072 ≤ r ∧ r ≤ 65135) ∨ (65280 ≤ r ∧ r ≤ 65376) ∨ (65504 ≤ r ∧ r ≤ 65510) ∨ (127744 ≤ r ∧ r ≤ 128591) ∨ (129280 ≤ r ∧ r ≤ 129535) ∨ (131072 ≤ r ∧ r ≤ 262141)) : width_wide.b r = true := decide_eq_true h
theorem width_wide.no (r : Int) (h : ¬ ((4352 ≤ r ∧ r ≤ 4447) ∨ (11904 ≤ r ∧ r ≤ 12350) ∨ (12353 ≤ r ∧ r ≤ 13311) ∨ (13312 ≤ r ∧ r ≤ 19903) ∨ (19968 ≤ r ∧ r ≤ 40959) ∨ (40960 ≤ r ∧ r ≤ 42191) ∨ (44032 ≤ r ∧ r ≤ 55203) ∨ (63744 ≤ r ∧ r ≤ 64255) ∨ (65072 ≤ r ∧ r ≤ 65135) ∨ (65280 ≤ r ∧ r ≤ 65376) ∨ (65504 ≤ r ∧ r ≤ 65510) ∨ (127744 ≤ r ∧ r ≤ 128591) ∨ (129280 ≤ r ∧ r ≤ 129535) ∨ (131072 ≤ r ∧ r ≤ 262141))) : width_wide.b r = false := decide_eq_false h
set_option maxHeartbeats 2000000 in
set_option maxRecDepth 100000 in
theorem width_wide.calls (a0 : Int) (r : Bool) (w : World) (h : width_wide.f a0 = some r) :
    Calls Try.prog 82 #[.int .i32 a0] w fun e w' => e = .returned (.bool r) ∧ Drawn0 w w' := by
  obtain rfl := Option.some.inj h
  clear h
  go_enter Try.func82, Try.ntmps82
  go_wp2
  all_goals go_ret
  all_goals first
    | exact ⟨by rw [width_wide.yes a0 (by omega)] <;> rfl, Drawn0.refl _⟩
    | exact ⟨by rw [width_wide.no a0 (by omega)] <;> rfl, Drawn0.refl _⟩
end Go.Proofs.Ytkigdcihhlkkdaa.P
end
section
namespace Go.Proofs.Ytkigdcihhlkkdaa.P
open Go.RowKit Go.Proofs.YtkigdcihhlkkdaaW.PrintWords Go.Proofs.YtkigdcihhlkkdaaW.PrintLast Go.Proofs.YtkigdcihhlkkdaaW.PrintMore
attribute [local go_sem] max2_int min2_int max_two min_two max_three min_three max_four min_four   -- for this text's walks alone
set_option linter.unusedVariables false
set_option linter.unusedSimpArgs false
def width_Of.f (a0 : Int) : Option (Int) := (width_none.f a0).bind fun t127 => (if t127 = true then (some 0) else ((width_wide.f a0).bind fun t128 => (if t128 = true then (some 2) else (some 1))))
set_option maxHeartbeats 8000000 in
set_option maxRecDepth 100000 in
theorem width_Of.calls (a0 : Int) (r : Int) (w : World) (h : width_Of.f a0 = some r) :
    Calls Try.prog 66 #[.int .i32 a0] w fun e w' => e = .returned (.int .i64 r) ∧ Drawn0 w w' := by
  have H : ((width_none.f a0).bind fun t127 => (if t127 = true then (some 0) else ((width_wide.f a0).bind fun t128 => (if t128 = true then (some 2) else (some 1))))) = some r := h
  clear h
  replace H := Option.bind_eq_some_iff.mp H
  obtain ⟨t127, A20, H⟩ := H
  replace H : (if t127 = true then (some 0) else ((width_wide.f a0).bind fun t128 => (if t128 = true then (some 2) else (some 1)))) = some r := H
  have A2 := Aside0.mk A20
  clear A20
  by_cases c3 : t127 = true
  · subst c3
    have H1 : (some 0) = some r := by rw [if_pos rfl] at H; exact H
    clear H
    have H := H1
    clear H1
    obtain rfl := Option.some.inj H
    go_enter Try.func66, Try.ntmps66
    go_wp2_with (first | ((with_reducible refine gate_callee (f := 81) rfl ?_); refine goesL_ (some 5) rfl rfl Try.func81 (by kernel_rfl) rfl #[.int .i32 a0] rfl (by (try simp only [List.map_toArray, List.map_cons, List.map_nil]); first | done | rfl | (simp only [List.length_drop, List.length_take]; rfl)) ?_; (with_reducible refine (width_none.calls a0 true _ A2.out).mono ?_); rintro e w' ⟨rfl, ⟨nd, rfl⟩⟩; refine ⟨_, rfl, ?_⟩))
    go_ret
    exact ⟨by first | rfl | (simp; done) | (simp [*]; done), by repeat (first | exact Drawn0.refl _ | apply Drawn0.step)⟩
  · replace c3 := Bool.eq_false_iff.mpr c3
    subst c3
    have H1 : ((width_wide.f a0).bind fun t128 => (if t128 = true then (some 2) else (some 1))) = some r := by rw [if_neg (show ¬ (false = true) by decide)] at H; exact H
    clear H
    have H := H1
    clear H1
    replace H := Option.bind_eq_some_iff.mp H
    obtain ⟨t128, A40, H⟩ := H
    replace H : (if t128 = true then (some 2) else (some 1)) = some r := H
    have A4 := Aside0.mk A40
    clear A40
    by_cases c5 : t128 = true
    · subst c5
      have H1 : (some 2) = some r := by rw [if_pos rfl] at H; exact H
      clear H
      have H := H1
      clear H1
      obtain rfl := Option.some.inj H
      go_enter Try.func66, Try.ntmps66
      go_wp2_with (first | ((with_reducible refine gate_callee (f := 81) rfl ?_); refine goesL_ (some 5) rfl rfl Try.func81 (by kernel_rfl) rfl #[.int .i32 a0] rfl (by (try simp only [List.map_toArray, List.map_cons, List.map_nil]); first | done | rfl | (simp only [List.length_drop, List.length_take]; rfl)) ?_; (with_reducible refine (width_none.calls a0 false _ A2.out).mono ?_); rintro e w' ⟨rfl, ⟨nd, rfl⟩⟩; refine ⟨_, rfl, ?_⟩) | ((with_reducible refine gate_callee (f := 82) rfl ?_); refine goesL_ (some 8) rfl rfl Try.func82 (by kernel_rfl) rfl #[.int .i32 a0] rfl (by (try simp only [List.map_toArray, List.map_cons, List.map_nil]); first | done | rfl | (simp only [List.length_drop, List.length_take]; rfl)) ?_; (with_reducible refine (width_wide.calls a0 true _ A4.out).mono ?_); rintro e w' ⟨rfl, ⟨nd, rfl⟩⟩; refine ⟨_, rfl, ?_⟩))
      go_ret
      exact ⟨by first | rfl | (simp; done) | (simp [*]; done), by repeat (first | exact Drawn0.refl _ | apply Drawn0.step)⟩
    · replace c5 := Bool.eq_false_iff.mpr c5
      subst c5
      have H1 : (some 1) = some r := by rw [if_neg (show ¬ (false = true) by decide)] at H; exact H
      clear H
      have H := H1
      clear H1
      obtain rfl := Option.some.inj H
      go_enter Try.func66, Try.ntmps66
      go_wp2_with (first | ((with_reducible refine gate_callee (f := 81) rfl ?_); refine goesL_ (some 5) rfl rfl Try.func81 (by kernel_rfl) rfl #[.int .i32 a0] rfl (by (try simp only [List.map_toArray, List.map_cons, List.map_nil]); first | done | rfl | (simp only [List.length_drop, List.length_take]; rfl)) ?_; (with_reducible refine (width_none.calls a0 false _ A2.out).mono ?_); rintro e w' ⟨rfl, ⟨nd, rfl⟩⟩; refine ⟨_, rfl, ?_⟩) | ((with_reducible refine gate_callee (f := 82) rfl ?_); refine goesL_ (some 8) rfl rfl Try.func82 (by kernel_rfl) rfl #[.int .i32 a0] rfl (by (try simp only [List.map_toArray, List.map_cons, List.map_nil]); first | done | rfl | (simp only [List.length_drop, List.length_take]; rfl)) ?_; (with_reducible refine (width_wide.calls a0 false _ A4.out).mono ?_); rintro e w' ⟨rfl, ⟨nd, rfl⟩⟩; refine ⟨_, rfl, ?_⟩))
      go_ret
      exact ⟨by first | rfl | (simp; done) | (simp [*]; done), by repeat (first | exact Drawn0.refl _ | apply Drawn0.step)⟩
end Go.Proofs.Ytkigdcihhlkkdaa.P
end
section
namespace Go.Proofs.Ytkigdcihhlkkdaa.P
open Go.RowKit Go.Proofs.YtkigdcihhlkkdaaW.PrintWords Go.Proofs.YtkigdcihhlkkdaaW.PrintLast Go.Proofs.YtkigdcihhlkkdaaW.PrintMore
attribute [local go_sem] max2_int min2_int max_two min_two max_three min_three max_four min_four   -- for this text's walks alone
set_option linter.unusedVariables false
set_option linter.unusedSimpArgs false
def cell_May.j0 : Nat → Bool → Int → Int → Int → Option (Bool)
  | 0, _, _, _, _ => none
  | k + 1, x11, x130000, x130001, x130002 => if x11 = true then (some false) else (if x130001 = 0 then ((cell_IsPad.f x130000 x130001 x130002).bind fun t130 => (if t130 = true then (some true) else (if x130000 = 0 then (some true) else (if x130001 = 1 then ((width_Of.f x130000).bind fun t131 => (some (x130001 == t131))) else (if x130001 = 2 then ((width_Of.f x130000).bind fun t132 => (some (x130001 == t132))) else (some false)))))) else ((cell_IsPad.f x130000 x130001 x130002).bind fun t133 => (if t133 = true then (some true) else (if x130001 = 1 then ((width_Of.f x130000).bind fun t134 => (some (x130001 == t134))) else (if x130001 = 2 then ((width_Of.f x130000).bind fun t135 => (some (x130001 == t135))) else (some false))))))
def cell_May.f (k : Nat) (a0_0 : Int) (a0_1 : Int) (a0_2 : Int) : Option (Bool) := if a0_2 < 0 then (cell_May.j0 k true a0_0 a0_1 a0_2) else (cell_May.j0 k (decide (a0_2 > 255)) a0_0 a0_1 a0_2)
theorem cell_May.mono_l : ∀ k, (∀ y0 y1 y2 y3, LeO (cell_May.j0 k y0 y1 y2 y3) (cell_May.j0 (k + 1) y0 y1 y2 y3))
  | 0 => fun _ _ _ _ r h => by simp [cell_May.j0] at h
  | k + 1 => by
    have ih0 := cell_May.mono_l k
    · intro y0 y1 y2 y3
      unfold cell_May.j0
      repeat' first
      | (with_reducible exact ih0 _ _ _ _)
      | (with_reducible exact LeO.refl _)
      | (with_reducible exact LeO.none _)
      | (with_reducible refine LeO.ite ?_ ?_)
      | (with_reducible refine LeO.bind ?_ (fun _ => ?_))
      | exact ih0 _ _ _ _
      | exact LeO.none _
      | refine LeO.ite ?_ ?_
      | refine LeO.bind ?_ (fun _ => ?_)
theorem cell_May.mono : ∀ a0 a1 a2 k, LeO (cell_May.f k a0 a1 a2) (cell_May.f (k + 1) a0 a1 a2) := by
  intro a0 a1 a2 k
  have ih0 := cell_May.mono_l k
  unfold cell_May.f
  repeat' first
      | (with_reducible exact ih0 _ _ _ _)
      | (with_reducible exact LeO.refl _)
      | (with_reducible exact LeO.none _)
      | (with_reducible refine LeO.ite ?_ ?_)
      | (with_reducible refine LeO.bind ?_ (fun _ => ?_))
      | exact ih0 _ _ _ _
      | exact LeO.none _
      | refine LeO.ite ?_ ?_
      | refine LeO.bind ?_ (fun _ => ?_)
def tab_53_4 : Bool × List (List Nat × List Nat) := (true, [([], []), ([0], [0]), ([1, 1], [1]), ([2], [2]), ([2, 3], [2, 3]), ([4, 2], [4]), ([5], [5]), ([6, 5], [5, 6]), ([7, 5], [5, 7]), ([8, 5, 5], [5, 8]), ([9], [9]), ([10, 9], [9, 10]), ([11, 9], [9, 11]), ([9, 12, 5], [5, 9, 12]), ([13, 9, 5], [5, 13]), ([14], [14]), ([15, 14], [14, 15]), ([14], [14]), ([17, 14], [14, 17]), ([18, 14, 14], [14, 18]), ([16, 19, 14], [14, 16, 19]), ([14, 20, 5], [5, 14, 20]), ([5, 21], [5, 21]), ([22, 19, 0, 1, 2, 3, 4, 5, 6, 7, 8, 9, 10, 11, 12, 13, 14, 15, 16, 17, 18, 19, 20, 21, 22], [22])])
theorem tab_53_4_ : rtab .any (opsOf Try.f53 4) = tab_53_4 := by kernel_rfl
def wOfM (r : Int) : Int := if width_none.b r = true then 0 else if width_wide.b r = true then 2 else 1
theorem wOfM_eq (r : Int) : width_Of.f r = some (wOfM r) := by
  unfold width_Of.f width_none.f width_wide.f wOfM
  simp only [Option.bind_some]
  split
  · rfl
  · split <;> rfl
def cellM (r w a : Int) : Bool := if a < 0 then false else if a > 255 then false else if (r == 0 && (w == 1 && a == 0)) = true then true else if w = 0 then decide (r = 0) else if w = 1 then w == wOfM r else if w = 2 then w == wOfM r else false
theorem cell_May.f_eq {k : Nat} {r w a : Int} {x : Bool} (h : cell_May.f k r w a = some x) : x = cellM r w a := by
  cases k with
  | zero => unfold cell_May.f at h; split at h <;> simp [cell_May.j0] at h
  | succ k =>
    unfold cell_May.f at h
    simp only [cell_May.j0, cell_IsPad.f, cell_Pad.f, Option.bind_some, wOfM_eq] at h
    unfold cellM
    by_cases h1 : a < 0
    · rw [if_pos h1] at h ⊢
      simpa using h.symm
    · rw [if_neg h1] at h ⊢
      by_cases h2 : a > 255
      · rw [if_pos h2]
        rw [if_pos (by simpa using h2)] at h
        simpa using h.symm
      · rw [if_neg h2]
        rw [if_neg (by simpa using h2)] at h
        by_cases hp : (r == 0 && (w == 1 && a == 0)) = true
        · rw [hp] at h ⊢
          split at h <;> simpa using h.symm
        · rw [Bool.eq_false_iff.2 hp] at h ⊢
          by_cases hw : w = 0
          · rw [if_pos hw] at h
            simp only [Bool.false_eq_true, if_false] at h ⊢
            rw [if_pos hw]
            by_cases hr : r = 0
            · rw [if_pos hr] at h
              simpa [hr] using h.symm
            · rw [if_neg hr] at h
              simpa [hr, hw] using h.symm
          · rw [if_neg hw] at h
            simp only [Bool.false_eq_true, if_false] at h ⊢
            rw [if_neg hw]
            split at h
            · rename_i e; rw [if_pos e]; simpa using h.symm
            · rename_i e; rw [if_neg e]
              split at h
              · rename_i e2; rw [if_pos e2]; simpa using h.symm
              · rename_i e2; rw [if_neg e2]; simpa using h.symm
theorem isPad_ (r w a : Int) (W : World) : Calls Try.prog 65 #[.agg #[.int .i32 r, .int .i64 w, .int .i64 a]] W fun e w' => e = .returned (.bool (r == 0 && (w == 1 && a == 0))) ∧ Below W.heap.size W w' := cell_IsPad.calls r w a _ W rfl
theorem widthOf_ (r : Int) (W : World) : Calls Try.prog 66 #[.int .i32 r] W fun e w' => e = .returned (.int .i64 (wOfM r)) ∧ Below W.heap.size W w' := (width_Of.calls r _ W (wOfM_eq r)).mono fun e w' h => ⟨h.1, h.2.below⟩
set_option maxHeartbeats 8000000 in
set_option maxRecDepth 100000 in
theorem cell_May.walk (cr cw ca : Int) (W : World) : Calls Try.prog 53 #[.agg #[.int .i32 cr, .int .i64 cw, .int .i64 ca]] W fun e w' => e = .returned (.bool (cellM cr cw ca)) ∧ Below W.heap.size W w' := by
  have hb0 : Below W.heap.size W (W.alloc (.cells #[.int .i32 cr, .int .i64 cw, .int .i64 ca] 45)) := below_alloc (Below.refl _ _) _
  have hB0 := blk_new W (.cells #[.int .i32 cr, .int .i64 cw, .int .i64 ca] 45)
  have hu := Try.underlying45
  have hS0 : SC W ⟨cr, cw, ca⟩ (W.alloc (.cells #[.int .i32 cr, .int .i64 cw, .int .i64 ca] 45)).drew := SC.mk' hB0 (below_drew1 hb0)
  unfold cellM
  by_cases h1 : ca < 0
  · obtain ⟨x0, x1, x2⟩ := blk3 hB0
    go_enter Try.func53, Try.ntmps53
    go_wp2
    go_ret
    exact ⟨by simp [h1], hb0⟩
  by_cases h2 : ca > 255
  · obtain ⟨x0, x1, x2⟩ := blk3 hB0
    go_enter Try.func53, Try.ntmps53
    go_wp2
    go_ret
    exact ⟨by simp [h1, h2], hb0⟩
  rw [if_neg h1, if_neg h2]
  clear hb0
  by_cases hp : (cr == 0 && (cw == 1 && ca == 0)) = true
  · rw [if_pos hp]
    simp only [Bool.and_eq_true, beq_iff_eq] at hp
    obtain ⟨rfl, rfl, rfl⟩ := hp
    obtain ⟨x0, x1, x2⟩ := blk3 hB0
    go_enter Try.func53, Try.ntmps53
    go_wp2
    clear x0 x1 x2 hB0
    refine start_ (n := 24) (S := SC W ⟨0, 1, 0⟩) (ds := []) (bl_ [0, 24]) (by kernel_rfl) (by kernel_rfl) rfl hS0 (fun _ => ?_)
    refine with_tab tab_53_4_ (fun HT_ => ?_)
    refine takes_ [0] 23 (bl_ [1, 23]) rfl HT_.out (by kernel_rfl) hS0 (a' := ?_) ?_ ?_
    rotate_left
    · repeat (first | exact rfl | (refine tkN rfl rfl (fun _ _ _ h => h) (by rfl) (by simp only [Act.put, List.setIfInBounds_toArray, List.set_cons_zero, List.set_cons_succ, i64_w, i32_w]; rfl) ?_) | (refine tkY rfl rfl (fun _ _ _ h => h) (by rfl) (fun w' hw' => by (obtain ⟨⟨s0, s1, s2⟩, _⟩ := hw'; go_simp; with_reducible rfl)) (by simp only [Act.put, List.setIfInBounds_toArray, List.set_cons_zero, List.set_cons_succ, i64_w, i32_w]; rfl) ?_))
    refine one_ (i := 1) (N := some 21) (bl_ [2, 22]) rfl rfl (one_of HT_.out (by kernel_rfl)) (by decide) (fun K hK => ?_)
    refine goes_ Try.func65 (by kernel_rfl) rfl #[.agg #[.int .i32 0, .int .i64 1, .int .i64 0]] (by rfl) rfl rfl (by (try simp only [List.map_toArray, List.map_cons, List.map_nil]); first | done | rfl) ?_
    refine (isPad_ _ _ _ _).mono ?_
    rintro e w1 ⟨rfl, hb1⟩
    have hS1 := hS0.next hb1
    rw [show ((0 : Int) == 0 && ((1 : Int) == 1 && (0 : Int) == 0)) = true from rfl]
    refine ⟨_, rfl, hK.out _ _ hS1 (fun _ => ?_)⟩
    refine norm_ (a' := ?_) ?_ ?_
    rotate_left
    · show Act.put _ (some 21) _ = _
      simp only [Act.put, List.setIfInBounds_toArray, List.set_cons_zero, List.set_cons_succ]
      rfl
    refine takes_ (List.range' 2 22) 0 (bl_ [24]) rfl HT_.out (by kernel_rfl) hS1 (a' := ?_) ?_ ?_
    rotate_left
    · repeat (first | exact rfl | (refine tkN rfl rfl (fun _ _ _ h => h) (by rfl) (by simp only [Act.put, List.setIfInBounds_toArray, List.set_cons_zero, List.set_cons_succ, i64_w, i32_w]; rfl) ?_) | (refine tkY rfl rfl (fun _ _ _ h => h) (by rfl) (fun w' hw' => by (obtain ⟨⟨s0, s1, s2⟩, _⟩ := hw'; go_simp; with_reducible rfl)) (by simp only [Act.put, List.setIfInBounds_toArray, List.set_cons_zero, List.set_cons_succ, i64_w, i32_w]; rfl) ?_))
    refine done_ (done_of HT_.out (by kernel_rfl)) ?_
    go_wp2
    go_ret
    exact ⟨by simp, hS1.2.out.2⟩

  rw [if_neg hp]
  have hp := Bool.eq_false_iff.2 hp
  by_cases c0 : cw = 0
  · rw [if_pos c0]
    subst c0
    by_cases cz : cr = 0
    · subst cz
      obtain ⟨x0, x1, x2⟩ := blk3 hB0
      go_enter Try.func53, Try.ntmps53
      go_wp2
      clear x0 x1 x2 hB0
      refine start_ (n := 24) (S := SC W ⟨0, 0, ca⟩) (ds := []) (bl_ [0, 24]) (by kernel_rfl) (by kernel_rfl) rfl hS0 (fun _ => ?_)
      refine with_tab tab_53_4_ (fun HT_ => ?_)
      refine takes_ [0] 23 (bl_ [1, 23]) rfl HT_.out (by kernel_rfl) hS0 (a' := ?_) ?_ ?_
      rotate_left
      · repeat (first | exact rfl | (refine tkN rfl rfl (fun _ _ _ h => h) (by rfl) (by simp only [Act.put, List.setIfInBounds_toArray, List.set_cons_zero, List.set_cons_succ, i64_w, i32_w]; rfl) ?_) | (refine tkY rfl rfl (fun _ _ _ h => h) (by rfl) (fun w' hw' => by (obtain ⟨⟨s0, s1, s2⟩, _⟩ := hw'; go_simp; with_reducible rfl)) (by simp only [Act.put, List.setIfInBounds_toArray, List.set_cons_zero, List.set_cons_succ, i64_w, i32_w]; rfl) ?_))
      refine one_ (i := 1) (N := some 21) (bl_ [2, 22]) rfl rfl (one_of HT_.out (by kernel_rfl)) (by decide) (fun K hK => ?_)
      refine goes_ Try.func65 (by kernel_rfl) rfl #[.agg #[.int .i32 0, .int .i64 0, .int .i64 ca]] (by rfl) rfl rfl (by (try simp only [List.map_toArray, List.map_cons, List.map_nil]); first | done | rfl) ?_
      refine (isPad_ _ _ _ _).mono ?_
      rintro e w1 ⟨rfl, hb1⟩
      have hS1 := hS0.next hb1
      rw [hp]
      refine ⟨_, rfl, hK.out _ _ hS1 (fun _ => ?_)⟩
      refine norm_ (a' := ?_) ?_ ?_
      rotate_left
      · show Act.put _ (some 21) _ = _
        simp only [Act.put, List.setIfInBounds_toArray, List.set_cons_zero, List.set_cons_succ]
        rfl
      refine takes_ (List.range' 2 22) 0 (bl_ [24]) rfl HT_.out (by kernel_rfl) hS1 (a' := ?_) ?_ ?_
      rotate_left
      · repeat (first | exact rfl | (refine tkN rfl rfl (fun _ _ _ h => h) (by rfl) (by simp only [Act.put, List.setIfInBounds_toArray, List.set_cons_zero, List.set_cons_succ, i64_w, i32_w]; rfl) ?_) | (refine tkY rfl rfl (fun _ _ _ h => h) (by rfl) (fun w' hw' => by (obtain ⟨⟨s0, s1, s2⟩, _⟩ := hw'; go_simp; with_reducible rfl)) (by simp only [Act.put, List.setIfInBounds_toArray, List.set_cons_zero, List.set_cons_succ, i64_w, i32_w]; rfl) ?_))
      refine done_ (done_of HT_.out (by kernel_rfl)) ?_
      go_wp2
      go_ret
      exact ⟨by simp, hS1.2.out.2⟩

    · have q0 : (cr == 0) = false := by simp [cz]
      obtain ⟨x0, x1, x2⟩ := blk3 hB0
      go_enter Try.func53, Try.ntmps53
      go_wp2
      clear x0 x1 x2 hB0
      refine start_ (n := 24) (S := SC W ⟨cr, 0, ca⟩) (ds := []) (bl_ [0, 24]) (by kernel_rfl) (by kernel_rfl) rfl hS0 (fun _ => ?_)
      refine with_tab tab_53_4_ (fun HT_ => ?_)
      refine takes_ [0] 23 (bl_ [1, 23]) rfl HT_.out (by kernel_rfl) hS0 (a' := ?_) ?_ ?_
      rotate_left
      · repeat (first | exact rfl | (refine tkN rfl rfl (fun _ _ _ h => h) (by rfl) (by simp only [Act.put, List.setIfInBounds_toArray, List.set_cons_zero, List.set_cons_succ, i64_w, i32_w]; rfl) ?_) | (refine tkY rfl rfl (fun _ _ _ h => h) (by rfl) (fun w' hw' => by (obtain ⟨⟨s0, s1, s2⟩, _⟩ := hw'; go_simp; with_reducible rfl)) (by simp only [Act.put, List.setIfInBounds_toArray, List.set_cons_zero, List.set_cons_succ, i64_w, i32_w]; rfl) ?_))
      refine one_ (i := 1) (N := some 21) (bl_ [2, 22]) rfl rfl (one_of HT_.out (by kernel_rfl)) (by decide) (fun K hK => ?_)
      refine goes_ Try.func65 (by kernel_rfl) rfl #[.agg #[.int .i32 cr, .int .i64 0, .int .i64 ca]] (by rfl) rfl rfl (by (try simp only [List.map_toArray, List.map_cons, List.map_nil]); first | done | rfl) ?_
      refine (isPad_ _ _ _ _).mono ?_
      rintro e w1 ⟨rfl, hb1⟩
      have hS1 := hS0.next hb1
      rw [hp]
      refine ⟨_, rfl, hK.out _ _ hS1 (fun _ => ?_)⟩
      refine norm_ (a' := ?_) ?_ ?_
      rotate_left
      · show Act.put _ (some 21) _ = _
        simp only [Act.put, List.setIfInBounds_toArray, List.set_cons_zero, List.set_cons_succ]
        rfl
      refine takes_ (List.range' 2 22) 0 (bl_ [24]) rfl HT_.out (by kernel_rfl) hS1 (a' := ?_) ?_ ?_
      rotate_left
      · repeat (first | exact rfl | (refine tkN rfl rfl (fun _ _ _ h => h) (by rfl) (by simp only [Act.put, List.setIfInBounds_toArray, List.set_cons_zero, List.set_cons_succ, i64_w, i32_w]; rfl) ?_) | (refine tkY rfl rfl (fun _ _ _ h => h) (by rfl) (fun w' hw' => by (obtain ⟨⟨s0, s1, s2⟩, _⟩ := hw'; go_simp; with_reducible rfl)) (by simp only [Act.put, List.setIfInBounds_toArray, List.set_cons_zero, List.set_cons_succ, i64_w, i32_w]; rfl) ?_))
      refine done_ (done_of HT_.out (by kernel_rfl)) ?_
      go_wp2
      go_ret
      exact ⟨by simp [cz], hS1.2.out.2⟩

  · rw [if_neg c0]
    have q0 : (cw == 0) = false := by simp [c0]
    by_cases c1 : cw = 1
    · rw [if_pos c1]
      subst c1
      obtain ⟨x0, x1, x2⟩ := blk3 hB0
      go_enter Try.func53, Try.ntmps53
      go_wp2
      clear x0 x1 x2 hB0
      refine start_ (n := 24) (S := SC W ⟨cr, 1, ca⟩) (ds := []) (bl_ [0, 24]) (by kernel_rfl) (by kernel_rfl) rfl hS0 (fun _ => ?_)
      refine with_tab tab_53_4_ (fun HT_ => ?_)
      refine takes_ [0] 23 (bl_ [1, 23]) rfl HT_.out (by kernel_rfl) hS0 (a' := ?_) ?_ ?_
      rotate_left
      · repeat (first | exact rfl | (refine tkN rfl rfl (fun _ _ _ h => h) (by rfl) (by simp only [Act.put, List.setIfInBounds_toArray, List.set_cons_zero, List.set_cons_succ, i64_w, i32_w]; rfl) ?_) | (refine tkY rfl rfl (fun _ _ _ h => h) (by rfl) (fun w' hw' => by (obtain ⟨⟨s0, s1, s2⟩, _⟩ := hw'; go_simp; with_reducible rfl)) (by simp only [Act.put, List.setIfInBounds_toArray, List.set_cons_zero, List.set_cons_succ, i64_w, i32_w]; rfl) ?_))
      refine one_ (i := 1) (N := some 21) (bl_ [2, 22]) rfl rfl (one_of HT_.out (by kernel_rfl)) (by decide) (fun K hK => ?_)
      refine goes_ Try.func65 (by kernel_rfl) rfl #[.agg #[.int .i32 cr, .int .i64 1, .int .i64 ca]] (by rfl) rfl rfl (by (try simp only [List.map_toArray, List.map_cons, List.map_nil]); first | done | rfl) ?_
      refine (isPad_ _ _ _ _).mono ?_
      rintro e w1 ⟨rfl, hb1⟩
      have hS1 := hS0.next hb1
      rw [hp]
      refine ⟨_, rfl, hK.out _ _ hS1 (fun _ => ?_)⟩
      refine norm_ (a' := ?_) ?_ ?_
      rotate_left
      · show Act.put _ (some 21) _ = _
        simp only [Act.put, List.setIfInBounds_toArray, List.set_cons_zero, List.set_cons_succ]
        rfl
      refine takes_ (List.range' 2 17) 5 (bl_ [19, 5]) rfl HT_.out (by kernel_rfl) hS1 (a' := ?_) ?_ ?_
      rotate_left
      · repeat (first | exact rfl | (refine tkN rfl rfl (fun _ _ _ h => h) (by rfl) (by simp only [Act.put, List.setIfInBounds_toArray, List.set_cons_zero, List.set_cons_succ, i64_w, i32_w]; rfl) ?_) | (refine tkY rfl rfl (fun _ _ _ h => h) (by rfl) (fun w' hw' => by (obtain ⟨⟨s0, s1, s2⟩, _⟩ := hw'; go_simp; with_reducible rfl)) (by simp only [Act.put, List.setIfInBounds_toArray, List.set_cons_zero, List.set_cons_succ, i64_w, i32_w]; rfl) ?_))
      refine one_ (i := 19) (N := some 39) (bl_ [20, 4]) rfl rfl (one_of HT_.out (by kernel_rfl)) (by decide) (fun K hK => ?_)
      refine goes_ Try.func66 (by kernel_rfl) rfl #[.int .i32 cr] (by rfl) rfl rfl (by (try simp only [List.map_toArray, List.map_cons, List.map_nil]); first | done | rfl) ?_
      refine (widthOf_ _ _).mono ?_
      rintro e w2 ⟨rfl, hb2⟩
      have hS2 := hS1.next hb2
      refine ⟨_, rfl, hK.out _ _ hS2 (fun _ => ?_)⟩
      refine norm_ (a' := ?_) ?_ ?_
      rotate_left
      · show Act.put _ (some 39) _ = _
        simp only [Act.put, List.setIfInBounds_toArray, List.set_cons_zero, List.set_cons_succ]
        rfl
      refine takes_ (List.range' 20 4) 0 (bl_ [24]) rfl HT_.out (by kernel_rfl) hS2 (a' := ?_) ?_ ?_
      rotate_left
      · repeat (first | exact rfl | (refine tkN rfl rfl (fun _ _ _ h => h) (by rfl) (by simp only [Act.put, List.setIfInBounds_toArray, List.set_cons_zero, List.set_cons_succ, i64_w, i32_w]; rfl) ?_) | (refine tkY rfl rfl (fun _ _ _ h => h) (by rfl) (fun w' hw' => by (obtain ⟨⟨s0, s1, s2⟩, _⟩ := hw'; go_simp; with_reducible rfl)) (by simp only [Act.put, List.setIfInBounds_toArray, List.set_cons_zero, List.set_cons_succ, i64_w, i32_w]; rfl) ?_))
      refine done_ (done_of HT_.out (by kernel_rfl)) ?_
      go_wp2
      go_ret
      exact ⟨by simp, hS2.2.out.2⟩

    · rw [if_neg c1]
      have q1 : (cw == 1) = false := by simp [c1]
      by_cases c2 : cw = 2
      · rw [if_pos c2]
        subst c2
        obtain ⟨x0, x1, x2⟩ := blk3 hB0
        go_enter Try.func53, Try.ntmps53
        go_wp2
        clear x0 x1 x2 hB0
        refine start_ (n := 24) (S := SC W ⟨cr, 2, ca⟩) (ds := []) (bl_ [0, 24]) (by kernel_rfl) (by kernel_rfl) rfl hS0 (fun _ => ?_)
        refine with_tab tab_53_4_ (fun HT_ => ?_)
        refine takes_ [0] 23 (bl_ [1, 23]) rfl HT_.out (by kernel_rfl) hS0 (a' := ?_) ?_ ?_
        rotate_left
        · repeat (first | exact rfl | (refine tkN rfl rfl (fun _ _ _ h => h) (by rfl) (by simp only [Act.put, List.setIfInBounds_toArray, List.set_cons_zero, List.set_cons_succ, i64_w, i32_w]; rfl) ?_) | (refine tkY rfl rfl (fun _ _ _ h => h) (by rfl) (fun w' hw' => by (obtain ⟨⟨s0, s1, s2⟩, _⟩ := hw'; go_simp; with_reducible rfl)) (by simp only [Act.put, List.setIfInBounds_toArray, List.set_cons_zero, List.set_cons_succ, i64_w, i32_w]; rfl) ?_))
        refine one_ (i := 1) (N := some 21) (bl_ [2, 22]) rfl rfl (one_of HT_.out (by kernel_rfl)) (by decide) (fun K hK => ?_)
        refine goes_ Try.func65 (by kernel_rfl) rfl #[.agg #[.int .i32 cr, .int .i64 2, .int .i64 ca]] (by rfl) rfl rfl (by (try simp only [List.map_toArray, List.map_cons, List.map_nil]); first | done | rfl) ?_
        refine (isPad_ _ _ _ _).mono ?_
        rintro e w1 ⟨rfl, hb1⟩
        have hS1 := hS0.next hb1
        rw [hp]
        refine ⟨_, rfl, hK.out _ _ hS1 (fun _ => ?_)⟩
        refine norm_ (a' := ?_) ?_ ?_
        rotate_left
        · show Act.put _ (some 21) _ = _
          simp only [Act.put, List.setIfInBounds_toArray, List.set_cons_zero, List.set_cons_succ]
          rfl
        refine takes_ (List.range' 2 17) 5 (bl_ [19, 5]) rfl HT_.out (by kernel_rfl) hS1 (a' := ?_) ?_ ?_
        rotate_left
        · repeat (first | exact rfl | (refine tkN rfl rfl (fun _ _ _ h => h) (by rfl) (by simp only [Act.put, List.setIfInBounds_toArray, List.set_cons_zero, List.set_cons_succ, i64_w, i32_w]; rfl) ?_) | (refine tkY rfl rfl (fun _ _ _ h => h) (by rfl) (fun w' hw' => by (obtain ⟨⟨s0, s1, s2⟩, _⟩ := hw'; go_simp; with_reducible rfl)) (by simp only [Act.put, List.setIfInBounds_toArray, List.set_cons_zero, List.set_cons_succ, i64_w, i32_w]; rfl) ?_))
        refine one_ (i := 19) (N := some 39) (bl_ [20, 4]) rfl rfl (one_of HT_.out (by kernel_rfl)) (by decide) (fun K hK => ?_)
        refine goes_ Try.func66 (by kernel_rfl) rfl #[.int .i32 cr] (by rfl) rfl rfl (by (try simp only [List.map_toArray, List.map_cons, List.map_nil]); first | done | rfl) ?_
        refine (widthOf_ _ _).mono ?_
        rintro e w2 ⟨rfl, hb2⟩
        have hS2 := hS1.next hb2
        refine ⟨_, rfl, hK.out _ _ hS2 (fun _ => ?_)⟩
        refine norm_ (a' := ?_) ?_ ?_
        rotate_left
        · show Act.put _ (some 39) _ = _
          simp only [Act.put, List.setIfInBounds_toArray, List.set_cons_zero, List.set_cons_succ]
          rfl
        refine takes_ (List.range' 20 4) 0 (bl_ [24]) rfl HT_.out (by kernel_rfl) hS2 (a' := ?_) ?_ ?_
        rotate_left
        · repeat (first | exact rfl | (refine tkN rfl rfl (fun _ _ _ h => h) (by rfl) (by simp only [Act.put, List.setIfInBounds_toArray, List.set_cons_zero, List.set_cons_succ, i64_w, i32_w]; rfl) ?_) | (refine tkY rfl rfl (fun _ _ _ h => h) (by rfl) (fun w' hw' => by (obtain ⟨⟨s0, s1, s2⟩, _⟩ := hw'; go_simp; with_reducible rfl)) (by simp only [Act.put, List.setIfInBounds_toArray, List.set_cons_zero, List.set_cons_succ, i64_w, i32_w]; rfl) ?_))
        refine done_ (done_of HT_.out (by kernel_rfl)) ?_
        go_wp2
        go_ret
        exact ⟨by simp, hS2.2.out.2⟩

      · rw [if_neg c2]
        have q2 : (cw == 2) = false := by simp [c2]
        obtain ⟨x0, x1, x2⟩ := blk3 hB0
        go_enter Try.func53, Try.ntmps53
        go_wp2
        clear x0 x1 x2 hB0
        refine start_ (n := 24) (S := SC W ⟨cr, cw, ca⟩) (ds := []) (bl_ [0, 24]) (by kernel_rfl) (by kernel_rfl) rfl hS0 (fun _ => ?_)
        refine with_tab tab_53_4_ (fun HT_ => ?_)
        refine takes_ [0] 23 (bl_ [1, 23]) rfl HT_.out (by kernel_rfl) hS0 (a' := ?_) ?_ ?_
        rotate_left
        · repeat (first | exact rfl | (refine tkN rfl rfl (fun _ _ _ h => h) (by rfl) (by simp only [Act.put, List.setIfInBounds_toArray, List.set_cons_zero, List.set_cons_succ, i64_w, i32_w]; rfl) ?_) | (refine tkY rfl rfl (fun _ _ _ h => h) (by rfl) (fun w' hw' => by (obtain ⟨⟨s0, s1, s2⟩, _⟩ := hw'; go_simp; with_reducible rfl)) (by simp only [Act.put, List.setIfInBounds_toArray, List.set_cons_zero, List.set_cons_succ, i64_w, i32_w]; rfl) ?_))
        refine one_ (i := 1) (N := some 21) (bl_ [2, 22]) rfl rfl (one_of HT_.out (by kernel_rfl)) (by decide) (fun K hK => ?_)
        refine goes_ Try.func65 (by kernel_rfl) rfl #[.agg #[.int .i32 cr, .int .i64 cw, .int .i64 ca]] (by rfl) rfl rfl (by (try simp only [List.map_toArray, List.map_cons, List.map_nil]); first | done | rfl) ?_
        refine (isPad_ _ _ _ _).mono ?_
        rintro e w1 ⟨rfl, hb1⟩
        have hS1 := hS0.next hb1
        rw [hp]
        refine ⟨_, rfl, hK.out _ _ hS1 (fun _ => ?_)⟩
        refine norm_ (a' := ?_) ?_ ?_
        rotate_left
        · show Act.put _ (some 21) _ = _
          simp only [Act.put, List.setIfInBounds_toArray, List.set_cons_zero, List.set_cons_succ]
          rfl
        refine takes_ (List.range' 2 22) 0 (bl_ [24]) rfl HT_.out (by kernel_rfl) hS1 (a' := ?_) ?_ ?_
        rotate_left
        · repeat (first | exact rfl | (refine tkN rfl rfl (fun _ _ _ h => h) (by rfl) (by simp only [Act.put, List.setIfInBounds_toArray, List.set_cons_zero, List.set_cons_succ, i64_w, i32_w]; rfl) ?_) | (refine tkY rfl rfl (fun _ _ _ h => h) (by rfl) (fun w' hw' => by (obtain ⟨⟨s0, s1, s2⟩, _⟩ := hw'; go_simp; with_reducible rfl)) (by simp only [Act.put, List.setIfInBounds_toArray, List.set_cons_zero, List.set_cons_succ, i64_w, i32_w]; rfl) ?_))
        refine done_ (done_of HT_.out (by kernel_rfl)) ?_
        go_wp2
        go_ret
        exact ⟨by simp, hS1.2.out.2⟩
theorem cell_May.calls (k : Nat) (a0_0 : Int) (a0_1 : Int) (a0_2 : Int) (r : Bool) (w : World) (h : cell_May.f k a0_0 a0_1 a0_2 = some r) :
    Calls Try.prog 53 #[.agg #[.int .i32 a0_0, .int .i64 a0_1, .int .i64 a0_2]] w fun e w' => e = .returned (.bool r) ∧ Below w.heap.size w w' := by
  rw [cell_May.f_eq h]
  exact cell_May.walk a0_0 a0_1 a0_2 w
end Go.Proofs.Ytkigdcihhlkkdaa.P
end
section
namespace Go.Proofs.Ytkigdcihhlkkdaa.P
open Go.RowKit Go.Proofs.YtkigdcihhlkkdaaW.PrintWords Go.Proofs.YtkigdcihhlkkdaaW.PrintLast Go.Proofs.YtkigdcihhlkkdaaW.PrintMore
attribute [local go_sem] max2_int min2_int max_two min_two max_three min_three max_four min_four   -- for this text's walks alone
set_option linter.unusedVariables false
set_option linter.unusedSimpArgs false
def pack_May.l0 : Nat → Bool → Int → List (S45) → Int → Int → Option (Bool)
  | 0, _, _, _, _, _ => none
  | k + 1, x3, x4, x12, x13, x14 => if x14 < x13 then (if 0 ≤ x14 then (if x14 < (x12.length : Int) then ((cell_May.f k ((rd_T45 x12 x14).f0) ((rd_T45 x12 x14).f1) ((rd_T45 x12 x14).f2)).bind fun t139 => (if t139 = true then (if (x3 != (((rd_T45 x12 x14).f1) == 0)) = true then (some false) else (if x3 = true then (if ((rd_T45 x12 x14).f2) = x4 then (pack_May.l0 k (((rd_T45 x12 x14).f1) == 2) ((rd_T45 x12 x14).f2) x12 x13 (wrap64 (x14 + 1))) else (some false)) else (pack_May.l0 k (((rd_T45 x12 x14).f1) == 2) ((rd_T45 x12 x14).f2) x12 x13 (wrap64 (x14 + 1))))) else (some false))) else (none)) else (none)) else (some (!x3))
def pack_May.f (k : Nat) (l0_0 : List (S45)) (a0_1 : Bool) : Option (Bool) := if (l0_0.length : Int) > 300 then (some false) else (pack_May.l0 k false 0 l0_0 (l0_0.length : Int) 0)
theorem pack_May.mono_l : ∀ k, (∀ y0 y1 y2 y3 y4, LeO (pack_May.l0 k y0 y1 y2 y3 y4) (pack_May.l0 (k + 1) y0 y1 y2 y3 y4))
  | 0 => fun _ _ _ _ _ r h => by simp [pack_May.l0] at h
  | k + 1 => by
    have ih0 := pack_May.mono_l k
    · intro y0 y1 y2 y3 y4
      unfold pack_May.l0
      repeat' first
      | (with_reducible exact ih0 _ _ _ _ _)
      | (with_reducible exact cell_May.mono _ _ _ _)
      | (with_reducible exact LeO.refl _)
      | (with_reducible exact LeO.none _)
      | (with_reducible refine LeO.ite ?_ ?_)
      | (with_reducible refine LeO.bind ?_ (fun _ => ?_))
      | exact ih0 _ _ _ _ _
      | exact cell_May.mono _ _ _ _
      | exact LeO.none _
      | refine LeO.ite ?_ ?_
      | refine LeO.bind ?_ (fun _ => ?_)
theorem pack_May.mono : ∀ a0 a1 k, LeO (pack_May.f k a0 a1) (pack_May.f (k + 1) a0 a1) := by
  intro a0 a1 k
  have ih0 := pack_May.mono_l k
  unfold pack_May.f
  repeat' first
      | (with_reducible exact ih0 _ _ _ _ _)
      | (with_reducible exact cell_May.mono _ _ _ _)
      | (with_reducible exact LeO.refl _)
      | (with_reducible exact LeO.none _)
      | (with_reducible refine LeO.ite ?_ ?_)
      | (with_reducible refine LeO.bind ?_ (fun _ => ?_))
      | exact ih0 _ _ _ _ _
      | exact cell_May.mono _ _ _ _
      | exact LeO.none _
      | refine LeO.ite ?_ ?_
      | refine LeO.bind ?_ (fun _ => ?_)
set_option maxHeartbeats 8000000 in
set_option maxRecDepth 100000 in
theorem pack_May.calls (k : Nat) (A0_0 : Option Addr) (c0_0 : Nat) (l : List (S45)) (a0_1 : Bool) (r : Bool) (w : World) (hr0_0 : Kd.C k45 w A0_0 l.length l) (hc0_0 : l.length ≤ c0_0) (h : pack_May.f k l a0_1 = some r) :
    Calls Try.prog 26 #[.agg #[.slice A0_0 l.length c0_0, .bool a0_1]] w fun e w' => e = .returned (.bool r) ∧ Below w.heap.size w w' := by
  have hb0 : Below w.heap.size w (w.alloc (.cells #[.slice A0_0 l.length c0_0, .bool a0_1] 31)) := below_alloc (Below.refl _ _) _
  obtain ⟨x0, x1⟩ : (w.alloc (.cells #[.slice A0_0 l.length c0_0, .bool a0_1] 31)).cell? ⟨w.heap.size, 0, none⟩ = some (.slice A0_0 l.length c0_0) ∧ (w.alloc (.cells #[.slice A0_0 l.length c0_0, .bool a0_1] 31)).cell? ⟨w.heap.size, 1, none⟩ = some (.bool a0_1) := ⟨(blk_cell (blk_new w _) 0).trans rfl, (blk_cell (blk_new w _) 1).trans rfl⟩
  unfold pack_May.f at h
  by_cases hl : (l.length : Int) > 300
  · rw [if_pos hl] at h
    obtain rfl := Option.some.inj h
    clear h
    go_enter Try.func26, Try.ntmps26
    go_wp2
    go_ret
    exact ⟨rfl, hb0⟩
  rw [if_neg hl] at h
  have hh := Aside0.mk h
  clear h
  go_enter Try.func26, Try.ntmps26
  go_wp2
  go_loopg [3, 4, 14] (l.length + 1) (fun kq v3 v4 v14 w' => ∃ (i f : Nat) (o : Bool) (a : Int), v3 = .bool o ∧ v4 = .int .i64 a ∧ v14 = .int .i64 i ∧ Aside0 (i ≤ l.length ∧ kq = l.length + 1 - i ∧ pack_May.l0 f o a l (l.length : Int) (i : Int) = some r ∧ Below w.heap.size w w'))
  case atStart => exact ⟨0, k, false, 0, rfl, rfl, rfl, ⟨Nat.zero_le _, rfl, hh.out, hb0⟩⟩
  case round =>
    obtain ⟨i, f, o, a, rfl, rfl, rfl, HA⟩ := hrel
    clear hh x0 x1
    have H := HA.out.2.2.1
    cases f with
    | zero => simp [pack_May.l0] at H
    | succ f =>
    unfold pack_May.l0 at H
    by_cases hlt : i < l.length
    · rw [if_pos (by omega), if_pos (by omega), if_pos (by omega)] at H
      obtain ⟨ad, rfl, q0, q1, q2⟩ := at_T45 (Kd.C_below hr0_0 HA.out.2.2.2) (i : Int) (by omega) (by omega)
      rw [Int.toNat_natCast] at q0 q1 q2
      generalize rd_T45 l (i : Int) = c at H q0 q1 q2
      obtain ⟨t, ht, H1⟩ := Option.bind_eq_some_iff.1 H
      clear H
      have H := H1
      clear H1
      obtain ⟨cr, cw, ca⟩ := c
      dsimp only at ht H q0 q1 q2
      have hbc : Below w.heap.size w (wr.alloc (.cells #[.int .i32 cr, .int .i64 cw, .int .i64 ca] 45)) := below_alloc HA.out.2.2.2 _
      have hBc := blk_new wr (.cells #[.int .i32 cr, .int .i64 cw, .int .i64 ca] 45)
      have hcm := cell_May.calls f cr cw ca t (wr.alloc (.cells #[.int .i32 cr, .int .i64 cw, .int .i64 ca] 45)) ht
      obtain ⟨x0, x1, x2⟩ := blk3 hBc
      have hw1 : IntKind.i64.wrap ((i : Int) + 1) = (i : Int) + 1 := by rw [IntKind.wrap_i64]; omega
      have hw64 : wrap64 ((i : Int) + 1) = (i : Int) + 1 := by unfold wrap64; omega
      rw [hw64] at H
      clear hw64
      cases t with
      | false =>
        rw [if_neg (by decide)] at H
        obtain rfl := Option.some.inj H
        clear H
        go_wp2_with (first
          | (go_at_call 53; refine hcm.mono ?_; rintro e w3 ⟨rfl, hb3⟩; obtain ⟨x0, x1, x2⟩ := blk3 (blk_below hBc hb3))
          | fail)
        go_ret
        exact ⟨rfl, hbc.trans (hb3.mono hbc.size)⟩
      | true =>
        rw [if_pos rfl] at H
        cases hz : (cw == 0) with
        | true =>
          rw [hz] at H
          cases o with
          | false =>
            rw [if_pos (by decide)] at H
            obtain rfl := Option.some.inj H
            clear H
            go_wp2_with (first
              | (go_at_call 53; refine hcm.mono ?_; rintro e w3 ⟨rfl, hb3⟩; obtain ⟨x0, x1, x2⟩ := blk3 (blk_below hBc hb3))
              | fail)
            go_ret
            exact ⟨rfl, hbc.trans (hb3.mono hbc.size)⟩
          | true =>
            rw [if_neg (by decide), if_pos rfl] at H
            by_cases ha : ca = a
            · subst ha
              rw [if_pos rfl] at H
              have hne : (ca != ca) = false := by simp
              have HH := Aside0.mk H
              clear H
              go_wp2_with (first
                | (go_at_call 53; refine hcm.mono ?_; rintro e w3 ⟨rfl, hb3⟩; obtain ⟨x0, x1, x2⟩ := blk3 (blk_below hBc hb3))
                | fail)
              go_quiet (fail)
              go_wp2
              go_roundg (l.length + 1 - (i + 1))
              case measure => rw [HA.out.2.1]; omega
              case rel => exact ⟨i + 1, f, _, _, rfl, rfl, by simp, ⟨hlt, rfl, by rw [show ((i + 1 : Nat) : Int) = (i : Int) + 1 by omega]; exact HH.out, pw_below_drewN (hbc.trans (hb3.mono hbc.size)) _⟩⟩
            · rw [if_neg ha] at H
              have hne : (ca != a) = true := by simp [ha]
              obtain rfl := Option.some.inj H
              clear H
              go_wp2_with (first
                | (go_at_call 53; refine hcm.mono ?_; rintro e w3 ⟨rfl, hb3⟩; obtain ⟨x0, x1, x2⟩ := blk3 (blk_below hBc hb3))
                | fail)
              go_ret
              exact ⟨rfl, hbc.trans (hb3.mono hbc.size)⟩
        | false =>
          rw [hz] at H
          cases o with
          | true =>
            rw [if_pos (by decide)] at H
            obtain rfl := Option.some.inj H
            clear H
            go_wp2_with (first
              | (go_at_call 53; refine hcm.mono ?_; rintro e w3 ⟨rfl, hb3⟩; obtain ⟨x0, x1, x2⟩ := blk3 (blk_below hBc hb3))
              | fail)
            go_ret
            exact ⟨rfl, hbc.trans (hb3.mono hbc.size)⟩
          | false =>
            rw [if_neg (by decide), if_neg (by decide)] at H
            have HH := Aside0.mk H
            clear H
            go_wp2_with (first
              | (go_at_call 53; refine hcm.mono ?_; rintro e w3 ⟨rfl, hb3⟩; obtain ⟨x0, x1, x2⟩ := blk3 (blk_below hBc hb3))
              | fail)
            go_quiet (fail)
            go_wp2
            go_roundg (l.length + 1 - (i + 1))
            case measure => rw [HA.out.2.1]; omega
            case rel => exact ⟨i + 1, f, _, _, rfl, rfl, by simp, ⟨hlt, rfl, by rw [show ((i + 1 : Nat) : Int) = (i : Int) + 1 by omega]; exact HH.out, pw_below_drewN (hbc.trans (hb3.mono hbc.size)) _⟩⟩
    · rw [if_neg (by omega)] at H
      obtain rfl := Option.some.inj H
      clear H
      go_wp2
      go_ret
      exact ⟨rfl, HA.out.2.2.2⟩
end Go.Proofs.Ytkigdcihhlkkdaa.P
end
