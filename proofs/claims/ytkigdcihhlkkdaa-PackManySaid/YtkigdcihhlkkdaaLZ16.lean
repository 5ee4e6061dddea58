/- own texts of this session, put together -/
import Derived.Test.YtkigdcihhlkkdaaLZ0
import Derived.Test.YtkigdcihhlkkdaaLZ15
import Derived.Test.YtkigdcihhlkkdaaLZ7
import Derived.Test.YtkigdcihhlkkdaaLZ14
import Derived.Deep.Strs
import Derived.ChangeSlices
import Derived.DataElems
import Derived.WideShapes
section
namespace Go.Proofs.Ytkigdcihhlkkdaa.P
open Go.RowKit Go.Proofs.YtkigdcihhlkkdaaW.PrintWords Go.Proofs.YtkigdcihhlkkdaaW.PrintLast Go.Proofs.YtkigdcihhlkkdaaW.PrintMore
attribute [local go_sem] max2_int min2_int max_two min_two max_three min_three max_four min_four   -- for this text's walks alone
set_option linter.unusedVariables false
set_option linter.unusedSimpArgs false
def rotulusref1_EqRow.f (k : Nat) (l0_0 : List (S45)) (a0_1 : Bool) (l1_0 : List (S45)) (a1_1 : Bool) : Option (Bool) := if (a0_1 == a1_1) = true then ((rotulusref1_EqCells.f k l0_0 l1_0).bind fun t551 => (some t551)) else (some false)
theorem rotulusref1_EqRow.mono : ∀ a0 a1 a2 a3 k, LeO (rotulusref1_EqRow.f k a0 a1 a2 a3) (rotulusref1_EqRow.f (k + 1) a0 a1 a2 a3) := by
  intro a0 a1 a2 a3 k
  unfold rotulusref1_EqRow.f
  repeat' first
      | (with_reducible exact rotulusref1_EqCells.mono _ _ _)
      | (with_reducible exact LeO.refl _)
      | (with_reducible exact LeO.none _)
      | (with_reducible refine LeO.ite ?_ ?_)
      | (with_reducible refine LeO.bind ?_ (fun _ => ?_))
      | exact rotulusref1_EqCells.mono _ _ _
      | exact LeO.none _
      | refine LeO.ite ?_ ?_
      | refine LeO.bind ?_ (fun _ => ?_)
set_option maxHeartbeats 8000000 in
set_option maxRecDepth 100000 in
theorem rotulusref1_EqRow.calls (k : Nat) (A0_0 : Option Addr) (c0_0 : Nat) (l0_0 : List (S45)) (a0_1 : Bool) (A1_0 : Option Addr) (c1_0 : Nat) (l1_0 : List (S45)) (a1_1 : Bool) (r : Bool) (w : World) (hr0_0 : Kd.C k45 w A0_0 l0_0.length l0_0) (hc0_0 : l0_0.length ≤ c0_0) (hr1_0 : Kd.C k45 w A1_0 l1_0.length l1_0) (hc1_0 : l1_0.length ≤ c1_0) (h : rotulusref1_EqRow.f k l0_0 a0_1 l1_0 a1_1 = some r) :
    Calls Try.prog 29 #[.agg #[.slice A0_0 l0_0.length c0_0, .bool a0_1], .agg #[.slice A1_0 l1_0.length c1_0, .bool a1_1]] w fun e w' => e = .returned (.bool r) ∧ Below w.heap.size w w' := by
  have hu31 := Try.underlying31
  have HR0_0 := Aside0.mk hr0_0
  have HC0_0 := Aside0.mk hc0_0
  clear hr0_0 hc0_0
  have HR1_0 := Aside0.mk hr1_0
  have HC1_0 := Aside0.mk hc1_0
  clear hr1_0 hc1_0
  have HB := Aside0.mk (Below.refl w.heap.size w)
  have H : (if (a0_1 == a1_1) = true then ((rotulusref1_EqCells.f k l0_0 l1_0).bind fun t551 => (some t551)) else (some false)) = some r := h
  clear h
  by_cases c3 : (a0_1 == a1_1) = true
  · rw [if_pos c3] at H
    have c3b0 : (a0_1 == a1_1) = true := c3
    (try (have c3b1 : decide (a0_1 = a1_1) = true := by simpa using c3))
    (try (have c3b2 : (a0_1 == a1_1) = true := by simpa using c3))
    clear c3
    replace H := Option.bind_eq_some_iff.mp H
    obtain ⟨t551, A40, H⟩ := H
    replace H : (some t551) = some r := H
    have A4 := Aside0.mk A40
    clear A40
    obtain rfl := Option.some.inj H
    go_enter Try.func29, Try.ntmps29
    go_wp2_with (first | ((with_reducible refine gate_dst (N := 2) rfl ?_); refine box_event ?hg (N := 2) ?hd (cs := #[.slice A0_0 l0_0.length c0_0, .bool a0_1]) (t := 31) ?hr ?_; (case hd => rfl); (case hg => rfl); (case hr => first | (go_simp; done) | (go_simp; rfl)); intro gb549 hg w5 hbox hb; have n0_ := Aside0.mk (below_step (by repeat (first | (with_reducible first | exact HB.out | apply below_alloc | apply pw_below_drewN | apply below_drew1) | exact HB.out)) hb); have n1_ := Aside0.mk (hbox); have n2_ := Aside0.mk ((by rw [hg]; exact (below_size (by repeat (first | (with_reducible first | exact HB.out | apply below_alloc | apply pw_below_drewN | apply below_drew1) | exact HB.out))) : w.heap.size ≤ gb549)); have n3_ := Aside0.mk ((by rw [hg]; exact (below_size (by repeat (first | (with_reducible first | exact HB.out | apply below_alloc | apply pw_below_drewN | apply below_drew1) | exact HB.out))) : w.heap.size ≤ gb549)); clear HB; have HB := n0_; have BK549 := n1_; have GW549 := n2_; have GE549 := n3_; clear n0_ n1_ n2_ n3_; clear hb hbox hg) | ((with_reducible refine gate_dst (N := 3) rfl ?_); refine box_event ?hg (N := 3) ?hd (cs := #[.slice A1_0 l1_0.length c1_0, .bool a1_1]) (t := 31) ?hr ?_; (case hd => rfl); (case hg => rfl); (case hr => first | (go_simp; done) | (go_simp; rfl)); intro gb550 hg w6 hbox hb; have n0_ := Aside0.mk (blk_below (g := gb549) (o := .cells #[.slice A0_0 l0_0.length c0_0, .bool a0_1] 31 (0, 0)) (by (with_reducible repeat (first | refine blk_drewN ?_ _ | refine blk_drew ?_ | refine blk_alloc ?_ _)); exact BK549.out) hb); have n1_ := Aside0.mk (below_step (by repeat (first | (with_reducible first | exact HB.out | apply below_alloc | apply pw_below_drewN | apply below_drew1 | refine below_set ?_ GE549.out) | exact HB.out)) hb); have n2_ := Aside0.mk (hbox); have n3_ := Aside0.mk ((by rw [hg]; exact (below_size (by repeat (first | (with_reducible first | exact HB.out | apply below_alloc | apply pw_below_drewN | apply below_drew1 | refine below_set ?_ GE549.out) | exact HB.out))) : w.heap.size ≤ gb550)); have n4_ := Aside0.mk ((by rw [hg]; exact (below_size (by repeat (first | (with_reducible first | exact HB.out | apply below_alloc | apply pw_below_drewN | apply below_drew1 | refine below_set ?_ GE549.out) | exact HB.out))) : w.heap.size ≤ gb550)); have n5_ := Aside0.mk ((by rw [hg]; exact Nat.ne_of_lt (blk_lt (g := gb549) (o := .cells #[.slice A0_0 l0_0.length c0_0, .bool a0_1] 31 (0, 0)) (by (with_reducible repeat (first | refine blk_drewN ?_ _ | refine blk_drew ?_ | refine blk_alloc ?_ _)); exact BK549.out)) : gb549 ≠ gb550)); have n6_ := Aside0.mk ((by rw [hg]; exact Nat.ne_of_gt (blk_lt (g := gb549) (o := .cells #[.slice A0_0 l0_0.length c0_0, .bool a0_1] 31 (0, 0)) (by (with_reducible repeat (first | refine blk_drewN ?_ _ | refine blk_drew ?_ | refine blk_alloc ?_ _)); exact BK549.out)) : gb550 ≠ gb549)); clear BK549; clear HB; have BK549 := n0_; have HB := n1_; have BK550 := n2_; have GW550 := n3_; have GE550 := n4_; have NB549_550 := n5_; have NB550_549 := n6_; clear n0_ n1_ n2_ n3_ n4_ n5_ n6_; clear hb hbox hg; have hnb7 := NB549_550.out; have hnc7 := NB550_549.out; have hcz8_0 : w6.cell? ⟨gb549, 0, none⟩ = some (.slice A0_0 l0_0.length c0_0) := (blk_cell BK549.out 0).trans rfl; have hcz8_1 : w6.cell? ⟨gb549, 1, none⟩ = some (.bool a0_1) := (blk_cell BK549.out 1).trans rfl; have hfz8_0 := blk_frozen BK549.out 0; have hfz8_1 := blk_frozen BK549.out 1; have hcz9_0 : w6.cell? ⟨gb550, 0, none⟩ = some (.slice A1_0 l1_0.length c1_0) := (blk_cell BK550.out 0).trans rfl; have hcz9_1 : w6.cell? ⟨gb550, 1, none⟩ = some (.bool a1_1) := (blk_cell BK550.out 1).trans rfl; have hfz9_0 := blk_frozen BK550.out 0; have hfz9_1 := blk_frozen BK550.out 1) | (go_at_call 56; (with_reducible refine (rotulusref1_EqCells.calls k _ _ l0_0 _ _ l1_0 t551 _ ?side1 ?side2 ?side3 ?side4 A4.out).mono ?_); (case side1 => repeat (first | exact (Kd.C_below HR0_0.out HB.out) | (with_reducible refine Kd.C_alloc ?_ _) | (with_reducible refine Kd.C_drewN ?_ _) | (with_reducible refine Kd.C_drew ?_) | exact Kd.C_drewN (Kd.C_below HR0_0.out HB.out) _ | exact Kd.C_drew (Kd.C_below HR0_0.out HB.out) | exact Kd.C_alloc (Kd.C_below HR0_0.out HB.out) _)); (case side2 => exact HC0_0.out); (case side3 => repeat (first | exact (Kd.C_below HR1_0.out HB.out) | (with_reducible refine Kd.C_alloc ?_ _) | (with_reducible refine Kd.C_drewN ?_ _) | (with_reducible refine Kd.C_drew ?_) | exact Kd.C_drewN (Kd.C_below HR1_0.out HB.out) _ | exact Kd.C_drew (Kd.C_below HR1_0.out HB.out) | exact Kd.C_alloc (Kd.C_below HR1_0.out HB.out) _)); (case side4 => exact HC1_0.out); rintro e w' ⟨rfl, ⟨nd, rfl⟩⟩))
    go_ret
    exact ⟨by first | rfl | (simp [errW_none, errW_some] <;> rfl) | (simp [*, errW_none, errW_some] <;> rfl), by repeat (first | (with_reducible first | exact HB.out | apply below_alloc | apply pw_below_drewN | apply below_drew1 | refine below_set ?_ GE549.out | refine below_set ?_ GE550.out) | exact HB.out)⟩
  · rw [if_neg c3] at H
    have c3b0 : (a0_1 == a1_1) = false := by simpa using c3
    (try (have c3b1 : decide (a0_1 = a1_1) = false := by simpa using c3))
    (try (have c3b2 : (a0_1 == a1_1) = false := by simpa using c3))
    (try (have c3b3 : ¬ (a0_1 = a1_1) := by simpa using c3))
    clear c3
    obtain rfl := Option.some.inj H
    go_enter Try.func29, Try.ntmps29
    go_wp2_with (first | ((with_reducible refine gate_dst (N := 2) rfl ?_); refine box_event ?hg (N := 2) ?hd (cs := #[.slice A0_0 l0_0.length c0_0, .bool a0_1]) (t := 31) ?hr ?_; (case hd => rfl); (case hg => rfl); (case hr => first | (go_simp; done) | (go_simp; rfl)); intro gb549 hg w10 hbox hb; have n0_ := Aside0.mk (below_step (by repeat (first | (with_reducible first | exact HB.out | apply below_alloc | apply pw_below_drewN | apply below_drew1) | exact HB.out)) hb); have n1_ := Aside0.mk (hbox); have n2_ := Aside0.mk ((by rw [hg]; exact (below_size (by repeat (first | (with_reducible first | exact HB.out | apply below_alloc | apply pw_below_drewN | apply below_drew1) | exact HB.out))) : w.heap.size ≤ gb549)); have n3_ := Aside0.mk ((by rw [hg]; exact (below_size (by repeat (first | (with_reducible first | exact HB.out | apply below_alloc | apply pw_below_drewN | apply below_drew1) | exact HB.out))) : w.heap.size ≤ gb549)); clear HB; have HB := n0_; have BK549 := n1_; have GW549 := n2_; have GE549 := n3_; clear n0_ n1_ n2_ n3_; clear hb hbox hg) | ((with_reducible refine gate_dst (N := 3) rfl ?_); refine box_event ?hg (N := 3) ?hd (cs := #[.slice A1_0 l1_0.length c1_0, .bool a1_1]) (t := 31) ?hr ?_; (case hd => rfl); (case hg => rfl); (case hr => first | (go_simp; done) | (go_simp; rfl)); intro gb550 hg w11 hbox hb; have n0_ := Aside0.mk (blk_below (g := gb549) (o := .cells #[.slice A0_0 l0_0.length c0_0, .bool a0_1] 31 (0, 0)) (by (with_reducible repeat (first | refine blk_drewN ?_ _ | refine blk_drew ?_ | refine blk_alloc ?_ _)); exact BK549.out) hb); have n1_ := Aside0.mk (below_step (by repeat (first | (with_reducible first | exact HB.out | apply below_alloc | apply pw_below_drewN | apply below_drew1 | refine below_set ?_ GE549.out) | exact HB.out)) hb); have n2_ := Aside0.mk (hbox); have n3_ := Aside0.mk ((by rw [hg]; exact (below_size (by repeat (first | (with_reducible first | exact HB.out | apply below_alloc | apply pw_below_drewN | apply below_drew1 | refine below_set ?_ GE549.out) | exact HB.out))) : w.heap.size ≤ gb550)); have n4_ := Aside0.mk ((by rw [hg]; exact (below_size (by repeat (first | (with_reducible first | exact HB.out | apply below_alloc | apply pw_below_drewN | apply below_drew1 | refine below_set ?_ GE549.out) | exact HB.out))) : w.heap.size ≤ gb550)); have n5_ := Aside0.mk ((by rw [hg]; exact Nat.ne_of_lt (blk_lt (g := gb549) (o := .cells #[.slice A0_0 l0_0.length c0_0, .bool a0_1] 31 (0, 0)) (by (with_reducible repeat (first | refine blk_drewN ?_ _ | refine blk_drew ?_ | refine blk_alloc ?_ _)); exact BK549.out)) : gb549 ≠ gb550)); have n6_ := Aside0.mk ((by rw [hg]; exact Nat.ne_of_gt (blk_lt (g := gb549) (o := .cells #[.slice A0_0 l0_0.length c0_0, .bool a0_1] 31 (0, 0)) (by (with_reducible repeat (first | refine blk_drewN ?_ _ | refine blk_drew ?_ | refine blk_alloc ?_ _)); exact BK549.out)) : gb550 ≠ gb549)); clear BK549; clear HB; have BK549 := n0_; have HB := n1_; have BK550 := n2_; have GW550 := n3_; have GE550 := n4_; have NB549_550 := n5_; have NB550_549 := n6_; clear n0_ n1_ n2_ n3_ n4_ n5_ n6_; clear hb hbox hg; have hnb12 := NB549_550.out; have hnc12 := NB550_549.out; have hcz13_0 : w11.cell? ⟨gb549, 0, none⟩ = some (.slice A0_0 l0_0.length c0_0) := (blk_cell BK549.out 0).trans rfl; have hcz13_1 : w11.cell? ⟨gb549, 1, none⟩ = some (.bool a0_1) := (blk_cell BK549.out 1).trans rfl; have hfz13_0 := blk_frozen BK549.out 0; have hfz13_1 := blk_frozen BK549.out 1; have hcz14_0 : w11.cell? ⟨gb550, 0, none⟩ = some (.slice A1_0 l1_0.length c1_0) := (blk_cell BK550.out 0).trans rfl; have hcz14_1 : w11.cell? ⟨gb550, 1, none⟩ = some (.bool a1_1) := (blk_cell BK550.out 1).trans rfl; have hfz14_0 := blk_frozen BK550.out 0; have hfz14_1 := blk_frozen BK550.out 1))
    go_ret
    exact ⟨by first | rfl | (simp [errW_none, errW_some] <;> rfl) | (simp [*, errW_none, errW_some] <;> rfl), by repeat (first | (with_reducible first | exact HB.out | apply below_alloc | apply pw_below_drewN | apply below_drew1 | refine below_set ?_ GE549.out | refine below_set ?_ GE550.out) | exact HB.out)⟩
end Go.Proofs.Ytkigdcihhlkkdaa.P
end
section
set_option linter.unusedVariables false
set_option linter.unusedSimpArgs false
namespace Go.Proofs.Ytkigdcihhlkkdaa.P
open Go.RowKit Go.Proofs.YtkigdcihhlkkdaaW.PrintWords Go.Proofs.YtkigdcihhlkkdaaW.PrintLast Go.Proofs.YtkigdcihhlkkdaaW.PrintMore Go.Proofs.Ytkigdcihhlkkdaa.Pure
theorem lawRow_ (A : Option Addr) (c : Nat) (l : List S45) (wr : Bool) (w : World) (hC : Kd.C k45 w A l.length l) (hc : l.length ≤ c) :
    Calls Try.prog 23 #[.agg #[.slice A l.length c, .bool wr]] w fun e w' => ∃ v0 : Value, e = .returned (.agg #[v0, .bool wr]) ∧ Kd.R k45 45 w' w.heap.size (fun _ => True) v0 (l.take 310) ∧ Below w.heap.size w w' := by
  refine rotuluslaw4_Row.calls A c l wr (l.take 310) wr w hC hc ?_
  unfold rotuluslaw4_Row.f
  have hmn : mn (l.length : Int) 310 = ((min l.length 310 : Nat) : Int) := by unfold mn; split <;> omega
  have e : l.take ((min l.length 310 : Nat) : Int).toNat = l.take 310 := by
    rw [Int.toNat_natCast]
    by_cases h : l.length ≤ 310
    · rw [Nat.min_eq_left h, List.take_of_length_le (Nat.le_refl _), List.take_of_length_le h]
    · rw [Nat.min_eq_right (by omega)]
  have hl : (l.take 310).length ≤ 310 := by rw [List.length_take]; omega
  rw [hmn, if_pos (by omega), if_pos (by omega), e]
  simp only [Option.bind_some, List.nil_append, List.length_nil]
  rw [if_pos (by omega)]
def putB (l : List S45) (wr : Bool) : List Int := if mayB l then rowB l wr else []
theorem put_ (A : Option Addr) (c : Nat) (l : List S45) (wr : Bool) (w : World) (hC : Kd.C k45 w A l.length l) (hc : l.length ≤ c) (hl : l.length ≤ 1000) :
    Calls Try.prog 24 #[.agg #[.slice A l.length c, .bool wr]] w fun e w' => ∃ v0 : Value, e = .returned (.tuple #[v0, .bool (mayB l)]) ∧ Kd.R (Kd.int .u8) 5 w' w.heap.size (fun _ => True) v0 (putB l wr) ∧ Below w.heap.size w w' := by
  have hm := may_ev l wr (by omega)
  unfold putB
  cases hb : mayB l with
  | true =>
    rw [hb] at hm
    obtain ⟨k, hk⟩ := Ev.rounds (put_ev l wr hl hm)
    exact pack_Put.calls k A c l wr _ _ w hC hc hk
  | false =>
    rw [hb] at hm
    obtain ⟨k, hk⟩ := Ev.rounds (put_no l wr hm)
    exact pack_Put.calls k A c l wr _ _ w hC hc hk
theorem get_ (A : Option Addr) (c : Nat) (l : List S45) (wr : Bool) (rest : List Int) (w : World) (hm : mayB l = true) (hr : ∀ x ∈ rest, 0 ≤ x ∧ x < 256) (hC : Kd.C (Kd.int .u8) w A (rowB l wr ++ rest).length (rowB l wr ++ rest)) (hc : (rowB l wr ++ rest).length ≤ c) :
    Calls Try.prog 30 #[.slice A (rowB l wr ++ rest).length c] w fun e w' => ∃ v0 : Value, e = .returned (.tuple #[.agg #[v0, .bool wr], .int .i64 (rowB l wr).length, .int .i64 0]) ∧ Kd.R k45 45 w' w.heap.size (fun _ => True) v0 l ∧ Below w.heap.size w w' := by
  obtain ⟨k, hk⟩ := Ev.rounds (get_ev l wr hm rest hr)
  exact pack_Get.calls k A c (rowB l wr ++ rest) l wr _ _ w hC hc hk
instance : DecidableEq S45 := fun a b => decidable_of_iff (a.f0 = b.f0 ∧ a.f1 = b.f1 ∧ a.f2 = b.f2) (by
  obtain ⟨a0, a1, a2⟩ := a
  obtain ⟨b0, b1, b2⟩ := b
  simp)
theorem ne45 (a b : S45) : ((!(a.f0 == b.f0) || (!(a.f1 == b.f1) || (!(a.f2 == b.f2)))) = true) ↔ a ≠ b := by
  obtain ⟨a0, a1, a2⟩ := a
  obtain ⟨b0, b1, b2⟩ := b
  simp only [Bool.or_eq_true, Bool.not_eq_true', beq_eq_false_iff_ne, ne_eq, S45.mk.injEq, not_and]
  constructor
  · intro h h0 h1 h2
    rcases h with h | h | h
    · exact h h0
    · exact h h1
    · exact h h2
  · intro h
    by_cases h0 : a0 = b0
    · by_cases h1 : a1 = b1
      · exact .inr (.inr (h h0 h1))
      · exact .inr (.inl h1)
    · exact .inl h0
theorem eqr_loop (a b : List S45) (hab : a.length = b.length) (hl : a.length ≤ 1000000000) : ∀ (d i : Nat), i + d = a.length → Ev (fun k => rotulusref1_EqCells.l0 k a b (i : Int)) (decide (a.drop i = b.drop i))
  | 0, i, hi => by
    refine Ev.step (f := _) (fun k => by rw [rotulusref1_EqCells.l0]) ?_
    refine ev_neg (by omega) ?_
    rw [List.drop_of_length_le (by omega), List.drop_of_length_le (by omega)]
    exact Ev.now _
  | d + 1, i, hi => by
    refine Ev.step (f := _) (fun k => by rw [rotulusref1_EqCells.l0]) ?_
    refine ev_pos (by omega) (ev_pos (by omega) (ev_pos (by omega) ?_))
    rw [rd45_at (by omega), rd45_at (by omega)]
    have e : wrap64 ((i : Int) + 1) = ((i + 1 : Nat) : Int) := by rw [w64_in_ _ (by omega)]; omega
    rw [e, List.drop_eq_getElem_cons (by omega : i < a.length), List.drop_eq_getElem_cons (by omega : i < b.length)]
    by_cases h : a[i] = b[i]
    · refine ev_neg (fun hh => (ne45 _ _).1 hh h) ?_
      have := eqr_loop a b hab hl d (i + 1) (by omega)
      rw [h]
      simp only [List.cons.injEq, true_and]
      exact this
    · refine ev_pos ((ne45 _ _).2 h) ?_
      have : decide (a[i] :: a.drop (i + 1) = b[i] :: b.drop (i + 1)) = false := by
        rw [decide_eq_false_iff_not]
        intro hh
        injection hh with h1 _
        exact h h1
      rw [this]
      exact Ev.now _
def eqB (l : List S45) (wr : Bool) (l' : List S45) (wr' : Bool) : Bool := wr == wr' && decide (l = l')
theorem eqRow_ (A : Option Addr) (c : Nat) (l : List S45) (wr : Bool) (A' : Option Addr) (c' : Nat) (l' : List S45) (wr' : Bool) (w : World) (hC : Kd.C k45 w A l.length l) (hc : l.length ≤ c) (hC' : Kd.C k45 w A' l'.length l') (hc' : l'.length ≤ c') (hl : l.length ≤ 1000) :
    Calls Try.prog 29 #[.agg #[.slice A l.length c, .bool wr], .agg #[.slice A' l'.length c', .bool wr']] w fun e w' => e = .returned (.bool (eqB l wr l' wr')) ∧ Below w.heap.size w w' := by
  have hE : Ev (fun k => rotulusref1_EqRow.f k l wr l' wr') (eqB l wr l' wr') := by
    unfold rotulusref1_EqRow.f eqB
    by_cases hw : (wr == wr') = true
    · refine ev_pos hw ?_
      rw [hw, Bool.true_and]
      refine Ev.bind (a := decide (l = l')) ?_ (Ev.now _)
      unfold rotulusref1_EqCells.f
      by_cases h : l.length = l'.length
      · refine ev_pos (by omega) ?_
        exact eqr_loop l l' h (by omega) l.length 0 (by omega)
      · refine ev_neg (by omega) ?_
        rw [decide_eq_false (fun hh => h (by rw [hh]))]
        exact Ev.now _
    · refine ev_neg hw ?_
      rw [Bool.eq_false_iff.2 hw, Bool.false_and]
      exact Ev.now _
  obtain ⟨k, hk⟩ := Ev.rounds hE
  exact rotulusref1_EqRow.calls k A c l wr A' c' l' wr' _ w hC hc hC' hc' hk
end Go.Proofs.Ytkigdcihhlkkdaa.P
end
section
set_option linter.unusedVariables false
set_option linter.unusedSimpArgs false
namespace Go.Proofs.Ytkigdcihhlkkdaa.P
open Go.RowKit Go.Proofs.YtkigdcihhlkkdaaW.PrintWords Go.Proofs.YtkigdcihhlkkdaaW.PrintLast Go.Proofs.YtkigdcihhlkkdaaW.PrintMore Go.Proofs.Ytkigdcihhlkkdaa.Pure
theorem eqB_self (l : List S45) (wr : Bool) : eqB l wr l wr = true := by simp [eqB]
end Go.Proofs.Ytkigdcihhlkkdaa.P
end
section
namespace Go.Proofs.Ytkigdcihhlkkdaa.P
open Go.RowKit Go.Proofs.YtkigdcihhlkkdaaW.PrintWords Go.Proofs.YtkigdcihhlkkdaaW.PrintLast Go.Proofs.YtkigdcihhlkkdaaW.PrintMore
attribute [local go_sem] max2_int min2_int max_two min_two max_three min_three max_four min_four   -- for this text's walks alone
set_option linter.unusedVariables false
set_option linter.unusedSimpArgs false
def rotulusref1_Uint.l0 : Nat → Int → List Int → Option (List Int)
  | 0, _, _ => none
  | k + 1, x0, x3 => if x0 ≥ 128 then (if x3.length < 140737488355328 then (rotulusref1_Uint.l0 k (IntKind.u64.wrap (Int.tdiv x0 128)) (x3 ++ [((Int.tmod x0 128) + 128) % 256])) else (none)) else (if x3.length < 140737488355328 then (some (x3 ++ [(x0) % 256])) else (none))
def rotulusref1_Uint.f (k : Nat) (a0 : Int) : Option (List Int) := rotulusref1_Uint.l0 k a0 ([] : List Int)
theorem rotulusref1_Uint.mono_l : ∀ k, (∀ y0 y1, LeO (rotulusref1_Uint.l0 k y0 y1) (rotulusref1_Uint.l0 (k + 1) y0 y1))
  | 0 => fun _ _ r h => by simp [rotulusref1_Uint.l0] at h
  | k + 1 => by
    have ih0 := rotulusref1_Uint.mono_l k
    · intro y0 y1
      unfold rotulusref1_Uint.l0
      repeat' first
      | (with_reducible exact ih0 _ _)
      | (with_reducible exact LeO.refl _)
      | (with_reducible exact LeO.none _)
      | (with_reducible refine LeO.ite ?_ ?_)
      | (with_reducible refine LeO.bind ?_ (fun _ => ?_))
      | exact ih0 _ _
      | exact LeO.none _
      | refine LeO.ite ?_ ?_
      | refine LeO.bind ?_ (fun _ => ?_)
theorem rotulusref1_Uint.mono : ∀ a0 k, LeO (rotulusref1_Uint.f k a0) (rotulusref1_Uint.f (k + 1) a0) := by
  intro a0 k
  have ih0 := rotulusref1_Uint.mono_l k
  unfold rotulusref1_Uint.f
  repeat' first
      | (with_reducible exact ih0 _ _)
      | (with_reducible exact LeO.refl _)
      | (with_reducible exact LeO.none _)
      | (with_reducible refine LeO.ite ?_ ?_)
      | (with_reducible refine LeO.bind ?_ (fun _ => ?_))
      | exact ih0 _ _
      | exact LeO.none _
      | refine LeO.ite ?_ ?_
      | refine LeO.bind ?_ (fun _ => ?_)
set_option maxHeartbeats 8000000 in
set_option maxRecDepth 100000 in
theorem rotulusref1_Uint.calls (k : Nat) (a0 : Int) (r : List Int) (w : World) (h : rotulusref1_Uint.f k a0 = some r) :
    Calls Try.prog 22 #[.int .u64 a0] w fun e w' => ∃ v0_ : Value, e = .returned (v0_) ∧ Kd.R (Kd.int .u8) 5 w' w.heap.size (fun _ => True) v0_ r ∧ Below w.heap.size w w' := by
  have HB := Aside0.mk (Below.refl w.heap.size w)
  have H : (rotulusref1_Uint.l0 k a0 ([] : List Int)) = some r := h
  clear h
  have H' := Aside0.mk H
  clear H
  go_enter Try.func22, Try.ntmps22
  go_wp2
  go_loopg [0, 3] k (fun kq v0 v3 w' => ∃ (x0_1 : Int) (x3_1 : List Int), v0 = .int .u64 x0_1 ∧ Aside0 (rotulusref1_Uint.l0 kq x0_1 x3_1 = some r) ∧ Aside0 (kq ≤ k) ∧ Aside0 (Kd.R (Kd.int .u8) 5 w' w.heap.size (fun _ => True) v3 x3_1) ∧ Aside0 (Below w.heap.size w w'))
  case atStart => exact ⟨(a0), (([] : List Int)), (by first | rfl | (simp; done) | (simp [*]; done)), H', ⟨Nat.le_refl _⟩, ⟨by first | exact Kd.R_nil _ _ _ _ _ | exact Kd.N_nil _ _ _ _ _ | exact Kd.V_nil _ _ _ _ _ | exact Kd.Q_nil _ _ _ _ _ | exact Kd.S_nil _ _ _ _ _⟩, ⟨by repeat (first | (with_reducible first | exact HB.out | apply below_alloc | apply pw_below_drewN | apply below_drew1) | exact HB.out)⟩⟩
  case round =>
    clear H'
    obtain ⟨x0_1, x3_1, rfl, HA, HK1, HO_3, HB⟩ := hrel
    cases gk with
    | zero => exact absurd HA.out (by simp [rotulusref1_Uint.l0])
    | succ k1 =>
      have H := HA.out
      clear HA
      simp only [rotulusref1_Uint.l0] at H
      by_cases c2 : x0_1 ≥ 128
      · rw [if_pos c2] at H
        have c2b0 : decide (128 ≤ x0_1) = true := decide_eq_true c2
        clear c2
        have c3 : x3_1.length < 140737488355328 := Decidable.byContradiction fun hc_ => absurd ((if_neg hc_).symm.trans H) (by simp)
        rw [if_pos c3] at H
        have LMc3 := Aside0.mk c3
        clear c3
        obtain ⟨y448, hy448⟩ : ∃ y_ : List Int, y_ = (x3_1 ++ [((Int.tmod x0_1 128) + 128) % 256]) := ⟨_, rfl⟩
        replace H : (rotulusref1_Uint.l0 k1 (IntKind.u64.wrap (Int.tdiv x0_1 128)) y448) = some r := by first | (rw [hy448]; with_reducible exact H) | (have H2_ := (Option.bind_some _ _).symm.trans H; rw [hy448]; with_reducible exact H2_) | (have H2_ := (Option.bind_some _ _).symm.trans H; with_reducible exact H2_) | with_reducible exact H | (rw [hy448]; exact H) | exact H
        have Ny448 := Aside0.mk hy448
        clear hy448
        have H' := Aside0.mk H
        clear H
        go_wp2_with (first | ((with_reducible refine gate_builtin (b := .append) (xs := #[.tmp 6, .tmp 11]) rfl ?_); at_builtin; refine Kd.R_append (Kd.int .u8) (w0 := w) w.heap.size rfl (.tmp 6) (.tmp 11) 23 5 (.int .u8 0) 1 rfl Try.underlying23 info5 rfl (by decide) (by omega) u3 x3_1 (((Int.tmod x0_1 128) + 128) % 256) [.int .u8 (((Int.tmod x0_1 128) + 128) % 256)] (fun _ => True) (fun _ => False) rfl rfl ?aP (fun _ hk => hk.elim) ?aF ?aO ?aB ?aS ?aL ?_; (case aP => exact rfl); (case aB => exact (by repeat (first | (with_reducible first | exact HB.out | apply below_alloc | apply pw_below_drewN | apply below_drew1) | exact HB.out))); (case aF => exact (fun _ _ => trivial)); (case aO => exact (by (with_reducible repeat (first | apply Kd.R_alloc | apply Kd.R_drewN | apply Kd.R_drew)); exact HO_3.out)); (case aS => exact (below_size (by repeat (first | (with_reducible first | exact HB.out | apply below_alloc | apply pw_below_drewN | apply below_drew1) | exact HB.out)))); (case aL => have := LMc3.out; omega); intro v449 w4 ho hb hg hat; rw [← Ny448.out] at ho; have n0_ := Aside0.mk (hb); have n1_ := Aside0.mk (ho); clear HB; clear HO_3; have HB := n0_; have HO450 := n1_; clear n0_ n1_; clear ho hb hg hat))
        go_roundg k1
        case measure => have := HK1.out; omega
        case rel => exact ⟨(IntKind.u64.wrap (Int.tdiv x0_1 128)), (y448), (by first | rfl | (simp; done) | (simp [*]; done)), H', ⟨by have := HK1.out; omega⟩, ⟨by (with_reducible repeat (first | apply Kd.R_alloc | apply Kd.R_drewN | apply Kd.R_drew)); exact HO450.out⟩, ⟨by repeat (first | (with_reducible first | exact HB.out | apply below_alloc | apply pw_below_drewN | apply below_drew1) | exact HB.out)⟩⟩
      · rw [if_neg c2] at H
        have c2b0 : decide (128 ≤ x0_1) = false := decide_eq_false c2
        clear c2
        have c5 : x3_1.length < 140737488355328 := Decidable.byContradiction fun hc_ => absurd ((if_neg hc_).symm.trans H) (by simp)
        rw [if_pos c5] at H
        have LMc5 := Aside0.mk c5
        clear c5
        obtain ⟨y451, hy451⟩ : ∃ y_ : List Int, y_ = (x3_1 ++ [(x0_1) % 256]) := ⟨_, rfl⟩
        replace H : (some y451) = some r := by first | (rw [hy451]; with_reducible exact H) | (have H2_ := (Option.bind_some _ _).symm.trans H; rw [hy451]; with_reducible exact H2_) | (have H2_ := (Option.bind_some _ _).symm.trans H; with_reducible exact H2_) | with_reducible exact H | (rw [hy451]; exact H) | exact H
        have Ny451 := Aside0.mk hy451
        clear hy451
        obtain rfl := Option.some.inj H
        go_wp2_with (first | ((with_reducible refine gate_builtin (b := .append) (xs := #[.tmp 15, .tmp 18]) rfl ?_); at_builtin; refine Kd.R_append (Kd.int .u8) (w0 := w) w.heap.size rfl (.tmp 15) (.tmp 18) 23 5 (.int .u8 0) 1 rfl Try.underlying23 info5 rfl (by decide) (by omega) u3 x3_1 ((x0_1) % 256) [.int .u8 ((x0_1) % 256)] (fun _ => True) (fun _ => False) rfl rfl ?aP (fun _ hk => hk.elim) ?aF ?aO ?aB ?aS ?aL ?_; (case aP => exact rfl); (case aB => exact (by repeat (first | (with_reducible first | exact HB.out | apply below_alloc | apply pw_below_drewN | apply below_drew1) | exact HB.out))); (case aF => exact (fun _ _ => trivial)); (case aO => exact (by (with_reducible repeat (first | apply Kd.R_alloc | apply Kd.R_drewN | apply Kd.R_drew)); exact HO_3.out)); (case aS => exact (below_size (by repeat (first | (with_reducible first | exact HB.out | apply below_alloc | apply pw_below_drewN | apply below_drew1) | exact HB.out)))); (case aL => have := LMc5.out; omega); intro v452 w6 ho hb hg hat; rw [← Ny451.out] at ho; have n0_ := Aside0.mk (hb); have n1_ := Aside0.mk (ho); clear HB; clear HO_3; have HB := n0_; have HO453 := n1_; clear n0_ n1_; clear ho hb hg hat))
        go_ret
        exact ⟨_, by first | rfl | (simp [errW_none, errW_some] <;> rfl) | (simp [*, errW_none, errW_some] <;> rfl), by (with_reducible repeat (first | apply Kd.R_alloc | apply Kd.R_drewN | apply Kd.R_drew)); exact HO453.out, by repeat (first | (with_reducible first | exact HB.out | apply below_alloc | apply pw_below_drewN | apply below_drew1) | exact HB.out)⟩
end Go.Proofs.Ytkigdcihhlkkdaa.P
end
section
set_option linter.unusedVariables false
set_option linter.unusedSimpArgs false
namespace Go.Proofs.Ytkigdcihhlkkdaa.Pure
open Go.RowKit Go.Proofs.Ytkigdcihhlkkdaa.P Go.Proofs.YtkigdcihhlkkdaaW.PrintWords Go.Proofs.YtkigdcihhlkkdaaW.PrintLast
end Go.Proofs.Ytkigdcihhlkkdaa.Pure
end
section
set_option linter.unusedVariables false
set_option linter.unusedSimpArgs false
namespace Go.Proofs.Ytkigdcihhlkkdaa.P
open Go.RowKit Go.Proofs.YtkigdcihhlkkdaaW.PrintWords Go.Proofs.YtkigdcihhlkkdaaW.PrintLast Go.Proofs.YtkigdcihhlkkdaaW.PrintMore Go.Proofs.Ytkigdcihhlkkdaa.Pure
attribute [local go_sem high] eqA45
structure SP (W : World) (bx : Nat) (o1 : Obj) (g : Nat) (c : S45) (w : World) : Prop where
  cb : w.heap[g]? = some (.cells #[.int .i32 c.f0, .int .i64 c.f1, .int .i64 c.f2] 45 (0, 0))
  rb : w.heap[bx]? = some o1
  be : Below W.heap.size W w
section
variable {W w w' : World} {bx g : Nat} {o1 : Obj} {c : S45}
theorem SP.next (h : SP W bx o1 g c w) (hb : Below w.heap.size w w') : SP W bx o1 g c w' :=
  ⟨blk_below h.cb hb, (hb.block bx (blk_lt h.rb)).trans h.rb, h.be.trans (hb.mono h.be.size)⟩
theorem SP.grown (h : SP W bx o1 g c w) {row : Option Nat} (hg : w.grownBy w' row) (h1 : some g ≠ row) (h2 : some bx ≠ row) (hb : Below W.heap.size W w') : SP W bx o1 g c w' :=
  ⟨blk_grown h.cb hg h1, (hg.block bx (blk_lt h.rb) h2).trans h.rb, hb⟩
end
theorem runsB_len : ∀ rs : List S78, ((rs.map runB).flatten).length ≤ 40 * rs.length
  | [] => by simp
  | r :: t => by
    have := runB_len r
    have := runsB_len t
    simp only [List.map_cons, List.flatten_cons, List.length_append, List.length_cons]
    omega
end Go.Proofs.Ytkigdcihhlkkdaa.P
end
section
set_option linter.unusedVariables false
set_option linter.unusedSimpArgs false
namespace Go.Proofs.YtkigdcihhlkkdaaW.PrintWords
open Go.RowKit
namespace Kd
section
variable {α : Type} {P : Program} {ops : Array Oper} {o : Oper} {a : Act} {Q' : Exit → Act → World → Prop} {Kc : Act → World → Prop}
theorem NQ_append_step (d : Kd α) {w0 W : World} (base : Nat) (hw : Region.wanted o (yielded ops a.tmps) = true) (s x : Operand) (t e : TypeId) (z : Value) (bytes : Nat)
    (ho : o.op = .call { callee := .builtin .append, args := #[s, x], argTypes := #[t, t] })
    (ht : P.underlying t = some (.slice e)) (hinfo : (P.info? e).map (fun i => (i.zero, i.size, i.bytes)) = some (some z, d.sz, bytes)) (hz : z.cells.size = d.sz) (hs0 : 0 < d.sz) (hb0 : 0 < bytes)
    (v : Value) (xs : List α) (p : α) (cs : List Value) (ok okp : Nat → Prop) (hs : a.eval s = v) (hx : a.eval x = .slice (some ⟨W.heap.size, 0, none⟩) 1 1) (hp : FK d W okp p cs) (hokp : ∀ k, okp k → ok k ∧ some k ≠ v.ownBlock) (hfresh : ∀ k, W.heap.size ≤ k → ok k)
    (HO : NQ d e W base ok v xs) (HB : Below base w0 W) (hbase : base ≤ W.heap.size) (hl : (xs.length + 1) * bytes ≤ 140737488355328)
    (h : ∀ v1 w1, NQ d e w1 base ok v1 (xs ++ [p]) → Below base w0 w1 → W.grownBy w1 v.ownBlock → (v1.ownBlock = v.ownBlock ∨ ∃ b, v1.ownBlock = some b ∧ W.heap.size ≤ b) → Kc (a.put o.dst v1) w1) :
    if Region.wanted o (yielded ops a.tmps) = true then Oper.wp P o a (W.alloc (.cells cs.toArray e)) Kc Q' else Kc (a.put o.dst undef) (W.alloc (.cells cs.toArray e)) := by
  obtain ⟨h0, rows, hlr, hR, hf⟩ := HO
  refine Q_append_step (raw d.sz) base hw s x t e z bytes ho ht hinfo hz hs0 hb0 v rows cs cs (fun _ => True) (fun _ => False) hs hx (FK_raw hp) (fun _ hk => hk.elim) (fun _ _ => trivial) (raw_anyQ hR) HB hbase (by rw [hlr]; exact hl) ?_
  intro v1 w1 hr hb hg hat
  exact h v1 w1 (NQ_appended h0 hlr hf (ys := [p]) (news := [cs]) rfl (fun j y c hy hc => by
    rcases j with _ | j
    · simp only [List.getElem?_cons_zero, Option.some.injEq] at hy hc
      rw [← hy, ← hc]; exact hp
    · simp at hy) hokp hfresh hr hg hat) hb hg hat
end
end Kd
end Go.Proofs.YtkigdcihhlkkdaaW.PrintWords
namespace Go.Proofs.Ytkigdcihhlkkdaa.P
open Go.RowKit Go.Shelf Go.Proofs.YtkigdcihhlkkdaaW.PrintWords Go.Proofs.YtkigdcihhlkkdaaW.PrintLast Go.Proofs.YtkigdcihhlkkdaaW.PrintMore Go.Proofs.Ytkigdcihhlkkdaa.Pure
attribute [local go_sem] Oper.semAt_some
def tab_12_11 : Bool × List (List Nat × List Nat) := (true, [([], []), ([], []), ([0, 1], [0, 1]), ([], []), ([], []), ([], []), ([4, 5], [4, 5]), ([6], [6]), ([7, 2], [7]), ([8], [8]), ([3, 9, 8], [3, 9]), ([2, 10, 0, 1, 2], [0, 2]), ([10, 11, 0, 1, 2, 3, 4, 5, 6, 7, 8, 9, 10, 11], [3, 10])])
theorem tab_12_11_ : rtab .any (opsOf Try.f12 11) = tab_12_11 := by kernel_rfl
def tab_12_16 : Bool × List (List Nat × List Nat) := (true, [([], []), ([0], [0]), ([1], [1]), ([2], [2]), ([3, 2], [2, 3]), ([2, 4], [2, 4]), ([5, 2], [5]), ([6], [6]), ([6], [6]), ([8, 6], [6, 8]), ([7, 9, 6], [6, 7, 9]), ([6, 10], [6, 10]), ([11, 6], [11]), ([12], [12]), ([12], [12]), ([12], [12]), ([14, 15, 12], [12, 14, 15]), ([16, 12], [12, 16]), ([13, 17, 12, 12], [12, 13, 17]), ([18, 12], [12, 18]), ([12, 19], [12, 19])])
theorem tab_12_16_ : rtab .any (opsOf Try.f12 16) = tab_12_16 := by kernel_rfl
theorem app8r_ {P : Program} {ops : Array Oper} {o : Oper} {a : Act} {Kc : Act → World → Prop} {Q : Exit → Act → World → Prop} {W w : World} {v : Value} {xs ys : List Int} {A : Option Addr} {m cc : Nat} {bok : Nat → Prop} (s x : Operand) (N : Tmp) (hN : o.dst = some N) (hw : Region.wanted o (yielded ops a.tmps) = true)
    (ho : o.op = .call { callee := .builtin .append, args := #[s, x], argTypes := #[23, 23] }) (hP : P = Try.prog) (hs : a.eval s = v) (hx : a.eval x = .slice A m cc)
    (HO : Kd.R (Kd.int .u8) 5 w W.heap.size (fun k => bok k) v xs) (HR : Kd.C (Kd.int .u8) w A m ys) (hfr : ∀ k, w.heap.size ≤ k → bok k) (HB : Below W.heap.size W w) (hl : xs.length + m ≤ 1000000000)
    (h : ∀ v1 w1, Kd.R (Kd.int .u8) 5 w1 W.heap.size (fun k => bok k) v1 (xs ++ ys) → Below W.heap.size W w1 → w.grownBy w1 v.ownBlock → (v1.ownBlock = v.ownBlock ∨ ∃ b, v1.ownBlock = some b ∧ w.heap.size ≤ b) → Kc (a.put (some N) v1) w1) :
    if Region.wanted o (yielded ops a.tmps) = true then Oper.wp P o a w Kc Q else Kc (a.put (some N) undef) w := by
  subst hP
  rw [← hN] at h ⊢
  exact Kd.R_append_rows_step (Kd.int .u8) (w0 := W) W.heap.size hw s x 23 5 (.int .u8 0) 1 ho Try.underlying23 info5 rfl (by decide) (by decide) v xs ys A m cc (fun k => bok k) (fun _ => False) hs hx HO HR (fun _ _ h => h) (fun _ h => h.elim) hfr HB HB.size (by omega) h
theorem rowB_pos (l : List S45) (b : Bool) : 1 ≤ (rowB l b).length := by
  unfold rowB
  have h4 := numB_pos (2 * ((runs78 l).length : Int) + (if b then 1 else 0))
  rw [List.length_append]
  omega
theorem rowB_len {l : List S45} {b : Bool} (hm : mayB l = true) : (rowB l b).length ≤ 20000 := by
  unfold rowB
  have h1 := runs78_le l
  have h2 := runsB_len (runs78 l)
  have h3 := mayB_len hm
  have h4 := numB_len (2 * ((runs78 l).length : Int) + (if b then 1 else 0))
  rw [List.length_append]
  omega
theorem info31m : (Try.prog.info? 31).map (fun i => (i.zero, i.size, i.bytes)) = some (some (.agg #[.slice none 0 0, .bool false]), 2, 32) := by kernel_rfl
def flatB : List S31 → List Int
  | [] => []
  | x :: t => rowB x.f0 x.f1 ++ flatB t
theorem flatB_app (a : List S31) (x : S31) : flatB (a ++ [x]) = flatB a ++ rowB x.f0 x.f1 := by
  induction a with
  | nil => simp [flatB]
  | cons y t ih => simp only [List.cons_append, flatB, ih, List.append_assoc]
theorem flatB_len : ∀ (a : List S31), (∀ z ∈ a, mayB z.f0 = true) → (flatB a).length ≤ 20000 * a.length
  | [], _ => by simp [flatB]
  | x :: t, h => by
    have h1 := rowB_len (b := x.f1) (h x (by simp))
    have h2 := flatB_len t (fun z hz => h z (by simp [hz]))
    simp only [flatB, List.length_append, List.length_cons]
    omega
theorem flatB_drop (xs : List S31) (j : Nat) (h : j < xs.length) : flatB (xs.drop j) = rowB (rd_T31 xs (j : Int)).f0 (rd_T31 xs (j : Int)).f1 ++ flatB (xs.drop (j + 1)) ∧ rd_T31 xs (j : Int) ∈ xs := by
  have e : rd_T31 xs (j : Int) = xs[j] := by simp [rd_T31, List.getD, h]
  rw [e, List.drop_eq_getElem_cons h]
  exact ⟨rfl, List.getElem_mem h⟩
theorem flatB_range : ∀ (a : List S31), ∀ x ∈ flatB a, 0 ≤ x ∧ x < 256
  | [], x, hx => by simp [flatB] at hx
  | y :: t, x, hx => by
    simp only [flatB, List.mem_append] at hx
    rcases hx with h | h
    · exact rowB_range _ _ x h
    · exact flatB_range t x h
structure I1 (W : World) (vb vw : Value) (xs : List S31) (w : World) : Prop where
  r : Kd.R (Kd.int .u8) 5 w W.heap.size (fun _ => True) vb (flatB xs)
  q : Kd.NQ k31 31 w W.heap.size (fun k => some k ≠ vb.ownBlock) vw xs
  be : Below W.heap.size W w
section
variable {W w w' : World} {vb vw vb' vw' : Value} {xs : List S31}
theorem I1.next (h : I1 W vb vw xs w) (hb : Below w.heap.size w w') : I1 W vb vw xs w' := ⟨Kd.R_below h.r hb, Kd.NQ_below h.q hb, Below.trans h.be (hb.mono h.be.size)⟩
theorem NQ_other (h : I1 W vb vw xs w) (hg : w.grownBy w' vb.ownBlock) (hat : vb'.ownBlock = vb.ownBlock ∨ ∃ b, vb'.ownBlock = some b ∧ w.heap.size ≤ b) : Kd.NQ k31 31 w' W.heap.size (fun k => some k ≠ vb'.ownBlock) vw xs := by
  refine Kd.NQ_mono (Kd.NQ_step (Kd.NQ_bound h.q) (fun k hk hlt => hg.block k hlt hk.1)) (fun k hk => ?_)
  rcases hat with e | ⟨b, e, hb⟩
  · rw [e]; exact hk.1
  · rw [e]; intro he; injection he with he; omega
theorem I1_last {d : S31} {X : List Int} (hX : rowB d.f0 d.f1 = X) (hR : Kd.R (Kd.int .u8) 5 w W.heap.size (fun _ => True) vb (flatB xs ++ X)) (hq : Kd.NQ k31 31 w W.heap.size (fun k => some k ≠ vb.ownBlock) vw xs)
    (hq' : Kd.NQ k31 31 w' W.heap.size (fun k => some k ≠ vb.ownBlock) vw' (xs ++ [d])) (hb : Below W.heap.size W w') (hg : w.grownBy w' vw.ownBlock) : I1 W vb vw' (xs ++ [d]) w' := by
  refine ⟨?_, hq', hb⟩
  rw [flatB_app, hX]
  refine Kd.R_mono (Kd.R_step (Kd.R_tight rfl hR) (fun k hk hlt => hg.block k hlt (fun e => hq.1 k e.symm hk))) (fun _ _ => trivial)
end
set_option maxHeartbeats 16000000 in
set_option maxRecDepth 100000 in
theorem packMany_ (A0 : Option Addr) (c0 : Nat) (l : List S31) (w : World) (hC : Kd.C k31 w A0 l.length l) (hc : l.length ≤ c0) (hz : ∀ z ∈ l, z.f0.length ≤ maxLen ∧ ∀ x ∈ z.f0, in32 x) :
    Calls Try.prog 12 #[.slice A0 l.length c0] w fun e w' => e = .returned (.bool true) ∧ Below w.heap.size w w' := by
  go_enter Try.func12, Try.ntmps12
  go_upto_region 7 with (first
    | (go_at_call 18; refine (begun4_ _).mono ?_; rintro e w1 ⟨rfl, hb1⟩)
    | fail)
  go_loopg [4, 5, 6] 9 (fun kq v4 v5 v6 w' => ∃ (i : Nat) (xs : List S31), v6 = .int .i64 i ∧ Aside0 (i ≤ l.length ∧ i ≤ 8 ∧ xs.length ≤ i ∧ kq = 9 - i ∧ (∀ z ∈ xs, mayB z.f0 = true) ∧ I1 w v4 v5 xs w'))
  case atStart => exact ⟨0, [], rfl, ⟨Nat.zero_le _, Nat.zero_le _, Nat.le_refl _, rfl, by simp, Kd.R_nil _ _ _ _ _, Kd.NQ_nil _ _ _ _ _, hb1⟩⟩
  case round =>
    obtain ⟨i, xs, rfl, HA⟩ := hrel
    by_cases hlt : i < l.length ∧ i < 8
    · obtain ⟨hlt1, hlt2⟩ := hlt
      have hw1 : IntKind.i64.wrap ((i : Int) + 1) = (i : Int) + 1 := by rw [IntKind.wrap_i64]; omega
      have HS0 : Below w.heap.size w wr := HA.out.2.2.2.2.2.be
      obtain ⟨ad, A1, c1, rfl, s0, s1, hc1, hC1⟩ := at_T31 hC (i : Int) (by omega) (by omega)
      rw [Int.toNat_natCast] at s0 s1
      have HC : ∀ w', Below w.heap.size w w' → w'.cell? (ad.add (i * 2)) = some (.slice A1 (rd_T31 l i).f0.length c1) ∧ w'.cell? ⟨(ad.add (i * 2)).block, (ad.add (i * 2)).off + 1, none⟩ = some (.bool (rd_T31 l i).f1) ∧ k45.C w' A1 (rd_T31 l i).f0.length (rd_T31 l i).f0 := fun w' h => ⟨pw_cell_below h s0, pw_cell_below h s1, Kd.C_below hC1 h⟩
      clear s0 s1 hC1
      generalize rd_T31 l (i : Int) = z at HC hc1
      obtain ⟨zs, zb⟩ := z
      dsimp only at HC hc1
      have hrow := fun (W : World) (h : Below w.heap.size w W) => lawRow_ A1 c1 zs zb W (HC W h).2.2 hc1
      have htk : (zs.take 310).length ≤ 310 := by rw [List.length_take]; omega
      generalize zs.take 310 = q at hrow htk
      have hput := fun (A : Option Addr) (c : Nat) (W : World) (hC : Kd.C k45 W A q.length q) (hc : q.length ≤ c) => put_ A c q zb W hC hc (by omega)
      unfold putB at hput
      have HCr := HC wr HS0
      obtain ⟨s0, s1, _⟩ := HCr
      cases hm : mayB q
      case false =>
        rw [hm] at hput
        go_wp2_with (first
          | (go_at_call 23; refine (hrow _ HS0).mono ?_; rintro e w2 ⟨v2, rfl, hR2, hb2⟩
             obtain ⟨A2, c2, hv2⟩ := Kd.R_slice hR2; subst hv2)
          | (go_at_call 24; refine (hput A2 c2 _ (Kd.R_reads' hR2).2.2 (Kd.R_reads' hR2).2.1).mono ?_; rintro e w3 ⟨v3, rfl, _, hb3⟩
             clear hrow hput HC
             obtain ⟨i0, hi0⟩ : ∃ q, q = v3 := ⟨_, rfl⟩)
          | fail)
        go_roundg (9 - (i + 1))
        case measure => rw [HA.out.2.2.2.1]; omega
        case rel => exact ⟨i + 1, xs, by simp, ⟨hlt1, hlt2, Nat.le_succ_of_le HA.out.2.2.1, rfl, HA.out.2.2.2.2.1, HA.out.2.2.2.2.2.next (hb2.trans (hb3.mono hb2.size))⟩⟩
      case true =>
        rw [hm] at hput
        simp only [if_true] at hput
        obtain ⟨X, hX⟩ : ∃ X, rowB q zb = X := ⟨_, rfl⟩
        rw [hX] at hput
        have hXl : X.length ≤ 20000 := by rw [← hX]; exact rowB_len hm
        go_upto_region 11 with (first
          | (go_at_call 23; refine (hrow _ HS0).mono ?_; rintro e w2 ⟨v2, rfl, hR2, hb2⟩
             obtain ⟨A2, c2, hv2⟩ := Kd.R_slice hR2; subst hv2)
          | (go_at_call 24; refine (hput A2 c2 _ (Kd.R_reads' hR2).2.2 (Kd.R_reads' hR2).2.1).mono ?_; rintro e w3 ⟨v3, rfl, hR3, hb3⟩
             obtain ⟨A3, c3, hv3⟩ := Kd.R_slice hR3; subst hv3
             clear hput)
          | fail)
        have hmay := HA.out.2.2.2.2.1
        have hxl := HA.out.2.2.1
        have hfl := flatB_len xs hmay
        have hI3 : I1 w u4 u5 xs w3.drew := HA.out.2.2.2.2.2.next (hb2.trans ((hb3.trans (below_drew1 (Below.refl _ _))).mono hb2.size))
        have hC3 : Kd.C (Kd.int .u8) w3.drew A3 X.length X := Kd.C_below (Kd.R_reads' hR3).2.2 (below_drew1 (Below.refl _ _))
        have hD0 : SB w w3.drew := hI3.be
        clear s0 s1 hR3 hb3 hb2 hR2 HS0
        refine start_ (n := 13) (S := SB w) (ds := []) (bl_ [0, 13]) (by kernel_rfl) (by kernel_rfl) rfl hD0 (fun _ => ?_)
        refine with_tab tab_12_11_ (fun HT_ => ?_)
        refine takes_ [0, 1, 3, 4, 5, 6, 7] 6 (bl_ [2, 1, 5, 5]) rfl HT_.out (by kernel_rfl) hD0 (a' := ?_) ?_ ?_
        rotate_left
        · repeat (first | exact rfl | (refine tkN rfl rfl (fun _ _ _ h => h) (by rfl) (by simp only [Act.put, List.setIfInBounds_toArray, List.set_cons_zero, List.set_cons_succ, i64_w, i32_w]; rfl) ?_) | (refine tkY rfl rfl (fun _ _ _ h => h) (by rfl) (fun w' hw' => by (obtain ⟨s0, s1, _⟩ := HC w' hw'; go_simp; with_reducible rfl)) (by simp only [Act.put, List.setIfInBounds_toArray, List.set_cons_zero, List.set_cons_succ, i64_w, i32_w]; rfl) ?_))
        refine one_ (i := 2) (N := some 38) (bl_ [8, 5]) rfl rfl (one_of HT_.out (by kernel_rfl)) (by decide) (fun K hK => ?_)
        refine app8r_ (W := w) (bok := fun _ => True) (.tmp 36) (.tmp 37) 38 rfl (by rfl) rfl rfl (by rfl) (by rfl) hI3.r hC3 (fun _ _ => trivial) hD0 (by omega) ?_
        intro v38 w4 hR4 hB4 hg4 hat4
        have hq4 := NQ_other hI3 hg4 hat4
        refine hK.out _ _ hB4 (fun _ => ?_)
        refine norm_ (a' := ?_) ?_ ?_
        rotate_left
        · show Act.put _ (some 38) _ = _
          simp only [Act.put, List.setIfInBounds_toArray, List.set_cons_zero, List.set_cons_succ]
          rfl
        refine one_ (i := 8) (N := some 44) (bl_ [9, 4]) rfl rfl (one_of HT_.out (by kernel_rfl)) (by decide) (fun K hK => ?_)
        refine goes_ Try.func23 (by kernel_rfl) rfl #[.agg #[.slice A1 zs.length c1, .bool zb]] (by rfl) rfl rfl (by (try simp only [List.map_toArray, List.map_cons, List.map_nil]); first | done | rfl) ?_
        refine (hrow _ hB4).mono ?_
        rintro e w5 ⟨v5, rfl, hR5, hb5⟩
        obtain ⟨A5, c5, hv5⟩ := Kd.R_slice hR5; subst hv5
        have hB5 : SB w w5 := SB.next hB4 hb5
        have hR5b := Kd.R_below hR4 hb5
        have hq5 := Kd.NQ_below hq4 hb5
        refine ⟨_, rfl, hK.out _ _ hB5 (fun _ => ?_)⟩
        refine norm_ (a' := ?_) ?_ ?_
        rotate_left
        · show Act.put _ (some 44) _ = _
          simp only [Act.put, List.setIfInBounds_toArray, List.set_cons_zero, List.set_cons_succ]
          rfl
        refine one_ (i := 9) (N := some 45) (bl_ [10, 3]) rfl rfl (one_of HT_.out (by kernel_rfl)) (by decide) (fun K hK => ?_)
        refine value_ (w1 := w5.alloc (.cells #[.slice A5 q.length c5, .bool zb] 31)) (v := .slice (some ⟨w5.heap.size, 0, none⟩) 1 1) (by rfl) rfl (by go_simp; try with_reducible rfl) ?_
        have hB6 : SB w (w5.alloc (.cells #[.slice A5 q.length c5, .bool zb] 31)) := below_alloc hB5 _
        refine hK.out _ _ hB6 (fun _ => ?_)
        refine norm_ (a' := ?_) ?_ ?_
        rotate_left
        · show Act.put _ (some 45) _ = _
          simp only [Act.put, List.setIfInBounds_toArray, List.set_cons_zero, List.set_cons_succ]
          rfl
        refine one_ (i := 10) (N := some 46) (bl_ [11, 2]) rfl rfl (one_of HT_.out (by kernel_rfl)) (by decide) (fun K hK => ?_)
        have hs5 : w.heap.size ≤ w5.heap.size := Below.size hB5
        refine Kd.NQ_append_step (W := w5) (w0 := w) k31 w.heap.size (by rfl) (.tmp 39) (.tmp 45) 47 31 _ 32 rfl Try.underlying47 info31m rfl (by decide) (by decide) u5 xs ⟨q, zb⟩ [.slice A5 q.length c5, .bool zb] (fun k => some k ≠ v38.ownBlock) (fun k => w4.heap.size ≤ k ∧ k < w5.heap.size) (by rfl) (by rfl) (fun W' hW => k31_mk W' ⟨q, zb⟩ (Kd.R_reads' hR5).2.1 (Kd.R_F (Kd.R_mono (ok' := fun k => w4.heap.size ≤ k ∧ k < w5.heap.size) (Kd.R_bound hR5) (fun k hk => ⟨hk.2.1, hk.2.2.1⟩)) W' hW)) (fun k hk => ⟨fun e => by have := Kd.R_lt hR4 k e.symm; omega, fun e => by have := Kd.NQ_lt hq4 k e.symm; omega⟩) (fun k hk e => by have := Kd.R_lt hR5b k e.symm; omega) hq5 hB5 hs5 (by omega) ?_
        intro v46 w6 hq6 hB7 hg6 hat6
        have hI6 := I1_last (d := ⟨q, zb⟩) hX hR5b hq5 hq6 hB7 hg6
        refine hK.out _ _ hB7 (fun _ => ?_)
        refine norm_ (a' := ?_) ?_ ?_
        rotate_left
        · show Act.put _ (some 46) _ = _
          simp only [Act.put, List.setIfInBounds_toArray, List.set_cons_zero, List.set_cons_succ]
          rfl
        refine takes_ [11, 12] 0 (bl_ [13]) rfl HT_.out (by kernel_rfl) hB7 (a' := ?_) ?_ ?_
        rotate_left
        · repeat (first | exact rfl | (refine tkN rfl rfl (fun _ _ _ h => h) (by rfl) (by simp only [Act.put, List.setIfInBounds_toArray, List.set_cons_zero, List.set_cons_succ, i64_w, i32_w]; rfl) ?_) | (refine tkY rfl rfl (fun _ _ _ h => h) (by rfl) (fun w' hw' => by (obtain ⟨s0, s1, _⟩ := HC w' hw'; go_simp; with_reducible rfl)) (by simp only [Act.put, List.setIfInBounds_toArray, List.set_cons_zero, List.set_cons_succ, i64_w, i32_w]; rfl) ?_))
        refine done_ (done_of HT_.out (by kernel_rfl)) ?_
        go_wp2
        go_roundg (9 - (i + 1))
        case measure => rw [HA.out.2.2.2.1]; omega
        case rel => exact ⟨i + 1, xs ++ [⟨q, zb⟩], by simp, ⟨hlt1, hlt2, by rw [List.length_append]; simp; omega, rfl, fun y hy => by rcases List.mem_append.1 hy with h | h; exact hmay y h; rw [List.mem_singleton.1 h]; exact hm, hI6⟩⟩
    · have hi8 := HA.out.1
      have hi9 := HA.out.2.1
      have hmay := HA.out.2.2.2.2.1
      have hxl := HA.out.2.2.1
      have hI := HA.out.2.2.2.2.2
      clear HA
      obtain ⟨Ab, cb, hvb⟩ := Kd.R_slice hI.r; subst hvb
      obtain ⟨Aw, cw, hvw, hcw⟩ := Kd.NQ_slice hI.q; subst hvw
      have hCb := (Kd.R_reads' hI.r).2.2
      have hcb := (Kd.R_reads' hI.r).2.1
      have hCw := (Kd.NQ_reads' hI.q).2.2
      have hBw : Below w.heap.size w wr := hI.be
      have hfl := flatB_len xs hmay
      clear hI
      have hex : (i < l.length ∧ ¬ i < 8) ∨ ¬ i < l.length := by omega
      rcases hex with ⟨hx1, hx2⟩ | hx1
      all_goals (try clear hlt); go_upto_region 13 with (fail)
      all_goals
        clear hx1; (try clear hx2)
        go_loopg [4, 9] (xs.length + 1) (fun kq v4 v9 w' => ∃ (j : Nat) (A : Option Addr) (c : Nat), v9 = .int .i64 j ∧ v4 = .slice A (flatB (xs.drop j)).length c ∧ Aside0 (j ≤ xs.length ∧ kq = xs.length + 1 - j ∧ Kd.C (Kd.int .u8) wr A (flatB (xs.drop j)).length (flatB (xs.drop j)) ∧ (flatB (xs.drop j)).length ≤ c ∧ SB wr w'))
        case atStart => exact ⟨0, Ab, cb, rfl, by rw [List.drop_zero], ⟨Nat.zero_le _, rfl, by rw [List.drop_zero]; exact hCb, by rw [List.drop_zero]; exact hcb, Below.refl _ _⟩⟩
        case round =>
          obtain ⟨j, A, c, rfl, rfl, HA⟩ := hrel
          rename World => wj
          by_cases hlt : j < xs.length
          · have hw1 : IntKind.i64.wrap ((j : Int) + 1) = (j : Int) + 1 := by rw [IntKind.wrap_i64]; omega
            have hBj : SB wr wj := HA.out.2.2.2.2
            obtain ⟨hdr, hmem⟩ := flatB_drop xs j hlt
            obtain ⟨ad, A1, c1, hAw, s0, s1, hc1, hC1⟩ := at_T31 hCw (j : Int) (by omega) (by omega)
            subst hAw
            rw [Int.toNat_natCast] at s0 s1
            have hm := hmay _ hmem
            clear hmem
            generalize rd_T31 xs (j : Int) = z at s0 s1 hc1 hC1 hm hdr
            obtain ⟨q, zb⟩ := z
            dsimp only at s0 s1 hc1 hC1 hm hdr
            have hql := mayB_len hm
            have htr := flatB_range (xs.drop (j + 1))
            obtain ⟨t, ht⟩ : ∃ t, flatB (xs.drop (j + 1)) = t := ⟨_, rfl⟩
            rw [ht] at hdr htr
            have hget := fun (W : World) => get_ A c q zb t W hm htr
            have hXl := rowB_len (b := zb) hm
            obtain ⟨X, hX⟩ : ∃ X, rowB q zb = X := ⟨_, rfl⟩
            rw [hX] at hdr hget hXl
            obtain ⟨Y, hY⟩ : ∃ Y, X ++ t = Y := ⟨_, rfl⟩
            rw [hY] at hdr hget
            have hHA := HA.out.2.2
            rw [hdr] at hHA ⊢
            obtain ⟨hCj, hcj, _⟩ := hHA
            go_upto_region 16 with (first
              | (go_at_call 30; refine (hget _ (Kd.C_below hCj hBj) hcj).mono ?_; rintro e w5 ⟨v5, rfl, hR5, hb5⟩
                 obtain ⟨A5, c5, hv5⟩ := Kd.R_slice hR5; subst hv5
                 clear hget)
              | fail)
            have hq0 : (0 : Int) ≤ (X.length : Int) := by omega
            have hq1 : ¬ (X.length : Int) < 1 := by rw [← hX]; have := rowB_pos q zb; omega
            have hq2 : ¬ (Y.length : Int) < (X.length : Int) := by rw [← hY, List.length_append]; omega
            have hq3 : decide ((X.length : Int) < 1) = false := decide_eq_false hq1
            have hq4 : decide ((Y.length : Int) < (X.length : Int)) = false := decide_eq_false hq2
            have hn : Y.length - X.length = t.length := by rw [← hY, List.length_append]; omega
            have hYd : Y.drop X.length = t := by rw [← hY, List.drop_left]
            obtain ⟨i0, hi, _, hsz, _⟩ := info_parts info5
            have hcut := cut_from (P := Try.prog) 23 5 .i64 Try.underlying23 hi 1 hsz A Y.length c (X.length : Int) hq0 (by omega)
            have hCd := Kd.C_drop (m := X.length) (c := c) hCj (by omega) hcj
            rw [hYd] at hCd
            rw [Int.toNat_natCast, hn] at hcut
            obtain ⟨A', hA'⟩ : ∃ A', (if c = X.length then A else A.map (·.add (X.length * 1))) = A' := ⟨_, rfl⟩
            rw [hA'] at hcut
            have hCd' : Kd.C (Kd.int .u8) wr A' t.length t := by rw [← hA']; exact hCd
            have hcd : t.length ≤ c - X.length := by omega
            clear hCd hCj hn hYd hi hsz hA' hY hXl
            obtain ⟨wa, hwa⟩ : ∃ wa, wa = w5.alloc (.cells #[.slice A5 q.length c5, .bool zb] 31) := ⟨_, rfl⟩
            rw [← hwa]
            have hXa : wa.heap[w5.heap.size]? = some (.cells #[.slice A5 q.length c5, .bool zb] 31 (0, 0)) := by rw [hwa]; exact blk_new _ _
            have hba : Below w5.heap.size w5 wa := by rw [hwa]; exact below_alloc (Below.refl _ _) _
            have hBa : SB wr wa := SB.next (SB.next hBj hb5) hba
            have hCa : Kd.C k45 wa A5 q.length q := Kd.C_below (Kd.R_reads' hR5).2.2 hba
            have hc5 := (Kd.R_reads' hR5).2.1
            have HX : ∀ w', SB wa w' → w'.cell? (ad.add (j * 2)) = some (.slice A1 q.length c1) ∧ w'.cell? ⟨(ad.add (j * 2)).block, (ad.add (j * 2)).off + 1, none⟩ = some (.bool zb) ∧ w'.cell? ⟨w5.heap.size, 0, none⟩ = some (.slice A5 q.length c5) ∧ w'.cell? ⟨w5.heap.size, 1, none⟩ = some (.bool zb) := fun w' h => ⟨pw_cell_below (SB.next hBa h) s0, pw_cell_below (SB.next hBa h) s1, (blk2 (blk_below hXa h)).1, (blk2 (blk_below hXa h)).2.1⟩
            have HD0 : SB wa wa.drew := below_drew1 (Below.refl _ _)
            clear hwa hXa hba hR5 hb5
            refine start_ (n := 21) (S := SB wa) (ds := []) (bl_ [0, 21]) (by kernel_rfl) (by kernel_rfl) rfl HD0 (fun _ => ?_)
            refine with_tab tab_12_16_ (fun HT_ => ?_)
            refine takes_ (List.range' 0 18) 3 (bl_ [18, 3]) rfl HT_.out (by kernel_rfl) HD0 (a' := ?_) ?_ ?_
            rotate_left
            · repeat (first | exact rfl | (refine tkN rfl rfl (fun _ _ _ h => h) (by rfl) (by simp only [Act.put, List.setIfInBounds_toArray, List.set_cons_zero, List.set_cons_succ, i64_w, i32_w]; rfl) ?_) | (refine tkY rfl rfl (fun _ _ _ h => h) (by rfl) (fun w' hw' => by (obtain ⟨s0, s1, t0, t1⟩ := HX w' hw'; go_simp; with_reducible rfl)) (by simp only [Act.put, List.setIfInBounds_toArray, List.set_cons_zero, List.set_cons_succ, i64_w, i32_w]; rfl) ?_))
            refine one_ (i := 18) (N := some 77) (bl_ [19, 2]) rfl rfl (one_of HT_.out (by kernel_rfl)) (by decide) (fun K hK => ?_)
            refine goes_ Try.func29 (by kernel_rfl) rfl #[.agg #[.slice A5 q.length c5, .bool zb], .agg #[.slice A1 q.length c1, .bool zb]] (by rfl) rfl rfl (by (try simp only [List.map_toArray, List.map_cons, List.map_nil]); first | done | rfl) ?_
            have h29 := eqRow_ A5 c5 q zb A1 c1 q zb wa.drew (Kd.C_below hCa HD0) hc5 (Kd.C_below hC1 (SB.next hBa HD0)) hc1 (by omega)
            rw [eqB_self] at h29
            refine h29.mono ?_
            rintro e w7 ⟨rfl, hb7⟩
            have HD7 := SB.next HD0 hb7
            refine ⟨_, rfl, hK.out _ _ HD7 (fun _ => ?_)⟩
            refine norm_ (a' := ?_) ?_ ?_
            rotate_left
            · show Act.put _ (some 77) _ = _
              simp only [Act.put, List.setIfInBounds_toArray, List.set_cons_zero, List.set_cons_succ]
              rfl
            refine takes_ [19, 20] 0 (bl_ [21]) rfl HT_.out (by kernel_rfl) HD7 (a' := ?_) ?_ ?_
            rotate_left
            · repeat (first | exact rfl | (refine tkN rfl rfl (fun _ _ _ h => h) (by rfl) (by simp only [Act.put, List.setIfInBounds_toArray, List.set_cons_zero, List.set_cons_succ, i64_w, i32_w]; rfl) ?_) | (refine tkY rfl rfl (fun _ _ _ h => h) (by rfl) (fun w' hw' => by (obtain ⟨s0, s1, t0, t1⟩ := HX w' hw'; go_simp; with_reducible rfl)) (by simp only [Act.put, List.setIfInBounds_toArray, List.set_cons_zero, List.set_cons_succ, i64_w, i32_w]; rfl) ?_))
            refine done_ (done_of HT_.out (by kernel_rfl)) ?_
            go_wp2
            go_roundg (xs.length + 1 - (j + 1))
            case measure => rw [HA.out.2.1]; omega
            case rel => exact ⟨j + 1, A', c - X.length, by simp, by rw [ht], ⟨hlt, rfl, by rw [ht]; exact hCd', by rw [ht]; exact hcd, SB.next hBa HD7⟩⟩
          · have hdr : flatB (xs.drop j) = [] := by rw [List.drop_of_length_le (by omega)]; rfl
            have hBj : SB wr wj := HA.out.2.2.2.2
            rw [hdr]
            clear HA hdr
            go_wp2
            go_ret
            exact ⟨by first | rfl | simp, hBw.trans (Below.mono (w := wr) hBj hBw.size)⟩
end Go.Proofs.Ytkigdcihhlkkdaa.P
end
section
set_option linter.unusedVariables false
set_option linter.unusedSimpArgs false
namespace Go.Proofs.Ytkigdcihhlkkdaa.Pure
open Go.ChangeShapes Go.WideShapes Go.RowKit Go.Proofs.Ytkigdcihhlkkdaa.P Go.Proofs.YtkigdcihhlkkdaaW.PrintWords Go.Proofs.YtkigdcihhlkkdaaW.PrintLast
theorem list_of {α : Type} {Q : Nat → α → Prop} : ∀ n : Nat, (∀ i, i < n → ∃ z, Q i z) → ∃ l : List α, l.length = n ∧ ∀ i z, l[i]? = some z → Q i z
  | 0, _ => ⟨[], rfl, fun i z h => by simp at h⟩
  | n + 1, h => by
    obtain ⟨l, hl, hq⟩ := list_of n (fun i hi => h i (by omega))
    obtain ⟨z, hz⟩ := h n (by omega)
    refine ⟨l ++ [z], by simp [hl], fun i x hx => ?_⟩
    by_cases c : i < n
    · exact hq i x (by rwa [List.getElem?_append_left (by omega)] at hx)
    · rw [List.getElem?_append_right (by omega)] at hx
      by_cases e : i = n
      · subst e
        rw [hl, Nat.sub_self] at hx
        simp at hx
        subst hx
        exact hz
      · obtain ⟨j, hj⟩ : ∃ j, i - l.length = j + 1 := ⟨i - l.length - 1, by omega⟩
        rw [hj] at hx
        simp at hx
def wf45 (z : S45) : Prop := (Lit.int .i32 z.f0).wf = true ∧ (Lit.int .i64 z.f1).wf = true ∧ (Lit.int .i64 z.f2).wf = true
set_option maxRecDepth 100000
section
variable {H : Type} {enc : TypeId × Value → H} {w : World} {base : Nat} {spare : Nat → Bool} {held : Bool}
theorem open_cells {fuel : Nat} {cs : List Value} {x : DataW H × List MemPlace} (h : DataW.trod enc Try.prog w base spare held fuel 29 cs = some x) :
    ∃ (a : Option Addr) (len cap : Nat) (zs : List S45), cs = [.slice a len cap] ∧ len = zs.length ∧ len ≤ cap ∧ len ≤ maxLen ∧ Kd.C k45 w a zs.length zs ∧ ∀ z ∈ zs, wf45 z := by
  have hc : Try.prog.cellsOf 45 = 3 := by kernel_rfl
  have hc21 : Try.prog.cellsOf 21 = 1 := by kernel_rfl
  have hc3 : Try.prog.cellsOf 3 = 1 := by kernel_rfl
  rcases DataW.trod_slice (e := 45) Try.underlying29 h with ⟨h0, _⟩ | ⟨a, len, cap, elems, rest, n, _, rfl, _, hb, hl, hm, hlen, hel, _, _⟩
  · exact ⟨none, 0, 0, [], h0, rfl, Nat.le_refl _, Nat.zero_le _, Kd.C_nil k45 w, by simp⟩
  have each : ∀ i, i < len → ∃ z : S45, w.cells? base (a.add (i * 3)) 3 = some [.int .i32 z.f0, .int .i64 z.f1, .int .i64 z.f2] ∧ wf45 z := by
    intro i hi
    have he := hel i hi
    rw [List.getElem?_eq_getElem (by omega), hc, Option.bind_eq_some_iff] at he
    obtain ⟨cs', hcs, hy⟩ := he
    obtain ⟨y0, y1, y2, m, _, hn, h0, h1, h2⟩ := Go.Deep.trod_struct3 Try.underlying45 hy
    rw [hc] at hn
    match cs', hn with
    | [c0, c1, c2], _ =>
      simp only [hc21, hc3, List.drop_zero, List.take_succ_cons, List.take_zero, List.drop_succ_cons] at h0 h1 h2
      obtain ⟨n0, e0, _, w0⟩ := DataW.trod_int Try.underlying21 h0
      obtain ⟨n1, e1, _, w1⟩ := DataW.trod_int Try.underlying3 h1
      obtain ⟨n2, e2, _, w2⟩ := DataW.trod_int Try.underlying3 h2
      simp only [List.cons.injEq, and_true] at e0 e1 e2
      subst e0 e1 e2
      exact ⟨⟨n0, n1, n2⟩, hcs, w0, w1, w2⟩
  obtain ⟨zs, hz, hq⟩ := list_of len each
  have hmm : len ≤ maxLen := Nat.le_trans hl hm
  subst hz
  refine ⟨some a, zs.length, cap, zs, rfl, rfl, hl, hmm, ⟨rfl, by unfold maxLen at hmm; omega, fun _ => ⟨a, rfl, fun j p hp => ?_⟩⟩, fun z hz' => ?_⟩
  · obtain ⟨hc, _⟩ := hq j p hp
    refine ⟨_, rfl, k45_mk w p, fun i u hu => ?_⟩
    have hi : i < 3 := by
      have := (List.getElem?_eq_some_iff.1 hu).1
      simpa using this
    have := (World.cells?_some hc).2.2 i hi
    rw [Addr.add_add] at this
    exact this.trans hu
  · obtain ⟨i, hi⟩ := List.getElem?_of_mem hz'
    exact (hq i z hi).2
theorem open_row {fuel : Nat} {cs : List Value} {x : DataW H × List MemPlace} (h : DataW.trod enc Try.prog w base spare held fuel 31 cs = some x) :
    ∃ (a : Option Addr) (cap : Nat) (z : S31), cs = [.slice a z.f0.length cap, .bool z.f1] ∧ z.f0.length ≤ cap ∧ z.f0.length ≤ maxLen ∧ Kd.C k45 w a z.f0.length z.f0 ∧ ∀ c ∈ z.f0, wf45 c := by
  have hc : Try.prog.cellsOf 31 = 2 := by kernel_rfl
  have hc29 : Try.prog.cellsOf 29 = 1 := by kernel_rfl
  have hc4 : Try.prog.cellsOf 4 = 1 := by kernel_rfl
  obtain ⟨y0, y1, m, _, hn, h0, h1⟩ := trod_struct2 Try.underlying31 h
  rw [hc] at hn
  match cs, hn with
  | [c0, c1], _ =>
    simp only [hc29, hc4, List.drop_zero, List.take_succ_cons, List.take_zero, List.drop_succ_cons] at h0 h1
    obtain ⟨a, len, cap, zs, e0, rfl, hl, hm, hC, hw⟩ := open_cells h0
    obtain ⟨b, e1, _⟩ := DataW.trod_bool Try.underlying4 h1
    simp only [List.cons.injEq, and_true] at e0 e1
    subst e0 e1
    exact ⟨a, cap, ⟨zs, b⟩, rfl, hl, hm, hC, hw⟩
theorem open_rows {fuel : Nat} {cs : List Value} {x : DataW H × List MemPlace} (h : DataW.trod enc Try.prog w base spare held fuel 47 cs = some x) :
    ∃ (a : Option Addr) (len cap : Nat) (zs : List S31), cs = [.slice a len cap] ∧ len = zs.length ∧ len ≤ cap ∧ len ≤ maxLen ∧ Kd.C k31 w a zs.length zs ∧ ∀ z ∈ zs, z.f0.length ≤ maxLen ∧ ∀ c ∈ z.f0, wf45 c := by
  have hc : Try.prog.cellsOf 31 = 2 := by kernel_rfl
  rcases DataW.trod_slice (e := 31) Try.underlying47 h with ⟨h0, _⟩ | ⟨a, len, cap, elems, rest, n, _, rfl, _, hb, hl, hm, hlen, hel, _, _⟩
  · exact ⟨none, 0, 0, [], h0, rfl, Nat.le_refl _, Nat.zero_le _, Kd.C_nil k31 w, by simp⟩
  have each : ∀ i, i < len → ∃ z : S31, (∃ (A : Option Addr) (cap : Nat), w.cells? base (a.add (i * 2)) 2 = some [.slice A z.f0.length cap, .bool z.f1] ∧ z.f0.length ≤ cap ∧ Kd.C k45 w A z.f0.length z.f0) ∧ z.f0.length ≤ maxLen ∧ ∀ c ∈ z.f0, wf45 c := by
    intro i hi
    have he := hel i hi
    rw [List.getElem?_eq_getElem (by omega), hc, Option.bind_eq_some_iff] at he
    obtain ⟨cs', hcs, hy⟩ := he
    obtain ⟨A, cap, z, rfl, h1, h2, h3, h4⟩ := open_row hy
    exact ⟨z, ⟨A, cap, hcs, h1, h3⟩, h2, h4⟩
  obtain ⟨zs, hz, hq⟩ := list_of len each
  have hmm : len ≤ maxLen := Nat.le_trans hl hm
  subst hz
  refine ⟨some a, zs.length, cap, zs, rfl, rfl, hl, hmm, ⟨rfl, by unfold maxLen at hmm; omega, fun _ => ⟨a, rfl, fun j p hp => ?_⟩⟩, fun z hz' => ?_⟩
  · obtain ⟨⟨A, c, hc, hle, hC⟩, _⟩ := hq j p hp
    refine ⟨_, rfl, k31_mk w p hle hC, fun i u hu => ?_⟩
    have hi : i < 2 := by
      have := (List.getElem?_eq_some_iff.1 hu).1
      simpa using this
    have := (World.cells?_some hc).2.2 i hi
    rw [Addr.add_add] at this
    exact this.trans hu
  · obtain ⟨i, hi⟩ := List.getElem?_of_mem hz'
    exact (hq i z hi).2
theorem arg_rows {a : Option Addr} {len cap : Nat} {d : DataW H} {ps : List MemPlace} (h : DataW.Trod enc Try.prog w base spare held 47 (.slice a len cap) d ps) :
    ∃ zs : List S31, len = zs.length ∧ zs.length ≤ cap ∧ zs.length ≤ maxLen ∧ Kd.C k31 w a zs.length zs ∧ ∀ z ∈ zs, z.f0.length ≤ maxLen ∧ ∀ c ∈ z.f0, wf45 c := by
  obtain ⟨fuel, hf⟩ := h
  obtain ⟨a', l', c', zs, hcs, h1, h2, h3, h4, h5⟩ := open_rows hf
  simp [Value.cells] at hcs
  obtain ⟨rfl, rfl, rfl⟩ := hcs
  subst h1
  exact ⟨zs, rfl, h2, h3, h4, h5⟩
end
end Go.Proofs.Ytkigdcihhlkkdaa.Pure
end
section
set_option linter.unusedVariables false
set_option linter.unusedSimpArgs false
namespace Go.Proofs.Ytkigdcihhlkkdaa.Pure
open Go.ChangeShapes Go.WideShapes Go.RowKit Go.Proofs.Ytkigdcihhlkkdaa.P Go.Proofs.YtkigdcihhlkkdaaW.PrintWords Go.Proofs.YtkigdcihhlkkdaaW.PrintLast
set_option maxRecDepth 100000
theorem in32_of {z : S45} (h : wf45 z) : in32 z := by
  have := h.1
  simp [Lit.wf] at this
  exact this
section
variable {H : Type} {enc : TypeId × Value → H} {w : World} {base : Nat} {spare : Nat → Bool} {held : Bool}
theorem arg_rows' {a : Option Addr} {len cap : Nat} {d : DataW H} {ps : List MemPlace} (h : DataW.Trod enc Try.prog w base spare held 47 (.slice a len cap) d ps) :
    ∃ zs : List S31, len = zs.length ∧ zs.length ≤ cap ∧ zs.length ≤ maxLen ∧ Kd.C k31 w a zs.length zs ∧ ∀ z ∈ zs, z.f0.length ≤ maxLen ∧ ∀ c ∈ z.f0, in32 c := by
  obtain ⟨zs, h1, h2, h3, h4, h5⟩ := arg_rows h
  exact ⟨zs, h1, h2, h3, h4, fun z hz => ⟨(h5 z hz).1, fun c hc => in32_of ((h5 z hz).2 c hc)⟩⟩
end
end Go.Proofs.Ytkigdcihhlkkdaa.Pure
end
