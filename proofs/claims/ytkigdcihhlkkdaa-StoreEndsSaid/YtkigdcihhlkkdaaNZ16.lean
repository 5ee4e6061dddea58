/- own texts of this session, put together -/
import Derived.Test.YtkigdcihhlkkdaaNZ0
import Derived.Test.YtkigdcihhlkkdaaNZ15
import Derived.Test.YtkigdcihhlkkdaaNZ7
import Derived.Test.YtkigdcihhlkkdaaNZ14
import Derived.Deep.Strs
import Derived.ChangeSlices
import Derived.DataElems
import Derived.WideShapes
section
namespace Go.Proofs.Ytkigdcihhlkkdaa.P
open Go.RowKit Go.Proofs.YtkigdcihhlkkdaaW.PrintWords Go.Proofs.YtkigdcihhlkkdaaW.PrintLast Go.Proofs.YtkigdcihhlkkdaaW.PrintMore
attribute [local go_sem] max2_int min2_int max_two min_two max_three min_three max_four min_four   -- for this text's walks alone
set_option linter.unusedVariables false
set_option linter.unusedSimpArgs false
def rotulusref1_EqRow.f (k : Nat) (l0_0 : List (S45)) (a0_1 : Bool) (l1_0 : List (S45)) (a1_1 : Bool) : Option (Bool) := if (a0_1 == a1_1) = true then ((rotulusref1_EqCells.f k l0_0 l1_0).bind fun t551 => (some t551)) else (some false)
theorem rotulusref1_EqRow.mono : ∀ a0 a1 a2 a3 k, LeO (rotulusref1_EqRow.f k a0 a1 a2 a3) (rotulusref1_EqRow.f (k + 1) a0 a1 a2 a3) := by
  intro a0 a1 a2 a3 k
  unfold rotulusref1_EqRow.f
  repeat' first
      | (with_reducible exact rotulusref1_EqCells.mono _ _ _)
      | (with_reducible exact LeO.refl _)
      | (with_reducible exact LeO.none _)
      | (with_reducible refine LeO.ite ?_ ?_)
      | (with_reducible refine LeO.bind ?_ (fun _ => ?_))
      | exact rotulusref1_EqCells.mono _ _ _
      | exact LeO.none _
      | refine LeO.ite ?_ ?_
      | refine LeO.bind ?_ (fun _ => ?_)
set_option maxHeartbeats 8000000 in
set_option maxRecDepth 100000 in
theorem rotulusref1_EqRow.calls (k : Nat) (A0_0 : Option Addr) (c0_0 : Nat) (l0_0 : List (S45)) (a0_1 : Bool) (A1_0 : Option Addr) (c1_0 : Nat) (l1_0 : List (S45)) (a1_1 : Bool) (r : Bool) (w : World) (hr0_0 : Kd.C k45 w A0_0 l0_0.length l0_0) (hc0_0 : l0_0.length ≤ c0_0) (hr1_0 : Kd.C k45 w A1_0 l1_0.length l1_0) (hc1_0 : l1_0.length ≤ c1_0) (h : rotulusref1_EqRow.f k l0_0 a0_1 l1_0 a1_1 = some r) :
    Calls Try.prog 29 #[.agg #[.slice A0_0 l0_0.length c0_0, .bool a0_1], .agg #[.slice A1_0 l1_0.length c1_0, .bool a1_1]] w fun e w' => e = .returned (.bool r) ∧ Below w.heap.size w w' := by
  have hu31 := Try.underlying31
  have HR0_0 := Aside0.mk hr0_0
  have HC0_0 := Aside0.mk hc0_0
  clear hr0_0 hc0_0
  have HR1_0 := Aside0.mk hr1_0
  have HC1_0 := Aside0.mk hc1_0
  clear hr1_0 hc1_0
  have HB := Aside0.mk (Below.refl w.heap.size w)
  have H : (if (a0_1 == a1_1) = true then ((rotulusref1_EqCells.f k l0_0 l1_0).bind fun t551 => (some t551)) else (some false)) = some r := h
  clear h
  by_cases c3 : (a0_1 == a1_1) = true
  · rw [if_pos c3] at H
    have c3b0 : (a0_1 == a1_1) = true := c3
    (try (have c3b1 : decide (a0_1 = a1_1) = true := by simpa using c3))
    (try (have c3b2 : (a0_1 == a1_1) = true := by simpa using c3))
    clear c3
    replace H := Option.bind_eq_some_iff.mp H
    obtain ⟨t551, A40, H⟩ := H
    replace H : (some t551) = some r := H
    have A4 := Aside0.mk A40
    clear A40
    obtain rfl := Option.some.inj H
    go_enter Try.func29, Try.ntmps29
    go_wp2_with (first | ((with_reducible refine gate_dst (N := 2) rfl ?_); refine box_event ?hg (N := 2) ?hd (cs := #[.slice A0_0 l0_0.length c0_0, .bool a0_1]) (t := 31) ?hr ?_; (case hd => rfl); (case hg => rfl); (case hr => first | (go_simp; done) | (go_simp; rfl)); intro gb549 hg w5 hbox hb; have n0_ := Aside0.mk (below_step (by repeat (first | (with_reducible first | exact HB.out | apply below_alloc | apply pw_below_drewN | apply below_drew1) | exact HB.out)) hb); have n1_ := Aside0.mk (hbox); have n2_ := Aside0.mk ((by rw [hg]; exact (below_size (by repeat (first | (with_reducible first | exact HB.out | apply below_alloc | apply pw_below_drewN | apply below_drew1) | exact HB.out))) : w.heap.size ≤ gb549)); have n3_ := Aside0.mk ((by rw [hg]; exact (below_size (by repeat (first | (with_reducible first | exact HB.out | apply below_alloc | apply pw_below_drewN | apply below_drew1) | exact HB.out))) : w.heap.size ≤ gb549)); clear HB; have HB := n0_; have BK549 := n1_; have GW549 := n2_; have GE549 := n3_; clear n0_ n1_ n2_ n3_; clear hb hbox hg) | ((with_reducible refine gate_dst (N := 3) rfl ?_); refine box_event ?hg (N := 3) ?hd (cs := #[.slice A1_0 l1_0.length c1_0, .bool a1_1]) (t := 31) ?hr ?_; (case hd => rfl); (case hg => rfl); (case hr => first | (go_simp; done) | (go_simp; rfl)); intro gb550 hg w6 hbox hb; have n0_ := Aside0.mk (blk_below (g := gb549) (o := .cells #[.slice A0_0 l0_0.length c0_0, .bool a0_1] 31 (0, 0)) (by (with_reducible repeat (first | refine blk_drewN ?_ _ | refine blk_drew ?_ | refine blk_alloc ?_ _)); exact BK549.out) hb); have n1_ := Aside0.mk (below_step (by repeat (first | (with_reducible first | exact HB.out | apply below_alloc | apply pw_below_drewN | apply below_drew1 | refine below_set ?_ GE549.out) | exact HB.out)) hb); have n2_ := Aside0.mk (hbox); have n3_ := Aside0.mk ((by rw [hg]; exact (below_size (by repeat (first | (with_reducible first | exact HB.out | apply below_alloc | apply pw_below_drewN | apply below_drew1 | refine below_set ?_ GE549.out) | exact HB.out))) : w.heap.size ≤ gb550)); have n4_ := Aside0.mk ((by rw [hg]; exact (below_size (by repeat (first | (with_reducible first | exact HB.out | apply below_alloc | apply pw_below_drewN | apply below_drew1 | refine below_set ?_ GE549.out) | exact HB.out))) : w.heap.size ≤ gb550)); have n5_ := Aside0.mk ((by rw [hg]; exact Nat.ne_of_lt (blk_lt (g := gb549) (o := .cells #[.slice A0_0 l0_0.length c0_0, .bool a0_1] 31 (0, 0)) (by (with_reducible repeat (first | refine blk_drewN ?_ _ | refine blk_drew ?_ | refine blk_alloc ?_ _)); exact BK549.out)) : gb549 ≠ gb550)); have n6_ := Aside0.mk ((by rw [hg]; exact Nat.ne_of_gt (blk_lt (g := gb549) (o := .cells #[.slice A0_0 l0_0.length c0_0, .bool a0_1] 31 (0, 0)) (by (with_reducible repeat (first | refine blk_drewN ?_ _ | refine blk_drew ?_ | refine blk_alloc ?_ _)); exact BK549.out)) : gb550 ≠ gb549)); clear BK549; clear HB; have BK549 := n0_; have HB := n1_; have BK550 := n2_; have GW550 := n3_; have GE550 := n4_; have NB549_550 := n5_; have NB550_549 := n6_; clear n0_ n1_ n2_ n3_ n4_ n5_ n6_; clear hb hbox hg; have hnb7 := NB549_550.out; have hnc7 := NB550_549.out; have hcz8_0 : w6.cell? ⟨gb549, 0, none⟩ = some (.slice A0_0 l0_0.length c0_0) := (blk_cell BK549.out 0).trans rfl; have hcz8_1 : w6.cell? ⟨gb549, 1, none⟩ = some (.bool a0_1) := (blk_cell BK549.out 1).trans rfl; have hfz8_0 := blk_frozen BK549.out 0; have hfz8_1 := blk_frozen BK549.out 1; have hcz9_0 : w6.cell? ⟨gb550, 0, none⟩ = some (.slice A1_0 l1_0.length c1_0) := (blk_cell BK550.out 0).trans rfl; have hcz9_1 : w6.cell? ⟨gb550, 1, none⟩ = some (.bool a1_1) := (blk_cell BK550.out 1).trans rfl; have hfz9_0 := blk_frozen BK550.out 0; have hfz9_1 := blk_frozen BK550.out 1) | (go_at_call 56; (with_reducible refine (rotulusref1_EqCells.calls k _ _ l0_0 _ _ l1_0 t551 _ ?side1 ?side2 ?side3 ?side4 A4.out).mono ?_); (case side1 => repeat (first | exact (Kd.C_below HR0_0.out HB.out) | (with_reducible refine Kd.C_alloc ?_ _) | (with_reducible refine Kd.C_drewN ?_ _) | (with_reducible refine Kd.C_drew ?_) | exact Kd.C_drewN (Kd.C_below HR0_0.out HB.out) _ | exact Kd.C_drew (Kd.C_below HR0_0.out HB.out) | exact Kd.C_alloc (Kd.C_below HR0_0.out HB.out) _)); (case side2 => exact HC0_0.out); (case side3 => repeat (first | exact (Kd.C_below HR1_0.out HB.out) | (with_reducible refine Kd.C_alloc ?_ _) | (with_reducible refine Kd.C_drewN ?_ _) | (with_reducible refine Kd.C_drew ?_) | exact Kd.C_drewN (Kd.C_below HR1_0.out HB.out) _ | exact Kd.C_drew (Kd.C_below HR1_0.out HB.out) | exact Kd.C_alloc (Kd.C_below HR1_0.out HB.out) _)); (case side4 => exact HC1_0.out); rintro e w' ⟨rfl, ⟨nd, rfl⟩⟩))
    go_ret
    exact ⟨by first | rfl | (simp [errW_none, errW_some] <;> rfl) | (simp [*, errW_none, errW_some] <;> rfl), by repeat (first | (with_reducible first | exact HB.out | apply below_alloc | apply pw_below_drewN | apply below_drew1 | refine below_set ?_ GE549.out | refine below_set ?_ GE550.out) | exact HB.out)⟩
  · rw [if_neg c3] at H
    have c3b0 : (a0_1 == a1_1) = false := by simpa using c3
    (try (have c3b1 : decide (a0_1 = a1_1) = false := by simpa using c3))
    (try (have c3b2 : (a0_1 == a1_1) = false := by simpa using c3))
    (try (have c3b3 : ¬ (a0_1 = a1_1) := by simpa using c3))
    clear c3
    obtain rfl := Option.some.inj H
    go_enter Try.func29, Try.ntmps29
    go_wp2_with (first | ((with_reducible refine gate_dst (N := 2) rfl ?_); refine box_event ?hg (N := 2) ?hd (cs := #[.slice A0_0 l0_0.length c0_0, .bool a0_1]) (t := 31) ?hr ?_; (case hd => rfl); (case hg => rfl); (case hr => first | (go_simp; done) | (go_simp; rfl)); intro gb549 hg w10 hbox hb; have n0_ := Aside0.mk (below_step (by repeat (first | (with_reducible first | exact HB.out | apply below_alloc | apply pw_below_drewN | apply below_drew1) | exact HB.out)) hb); have n1_ := Aside0.mk (hbox); have n2_ := Aside0.mk ((by rw [hg]; exact (below_size (by repeat (first | (with_reducible first | exact HB.out | apply below_alloc | apply pw_below_drewN | apply below_drew1) | exact HB.out))) : w.heap.size ≤ gb549)); have n3_ := Aside0.mk ((by rw [hg]; exact (below_size (by repeat (first | (with_reducible first | exact HB.out | apply below_alloc | apply pw_below_drewN | apply below_drew1) | exact HB.out))) : w.heap.size ≤ gb549)); clear HB; have HB := n0_; have BK549 := n1_; have GW549 := n2_; have GE549 := n3_; clear n0_ n1_ n2_ n3_; clear hb hbox hg) | ((with_reducible refine gate_dst (N := 3) rfl ?_); refine box_event ?hg (N := 3) ?hd (cs := #[.slice A1_0 l1_0.length c1_0, .bool a1_1]) (t := 31) ?hr ?_; (case hd => rfl); (case hg => rfl); (case hr => first | (go_simp; done) | (go_simp; rfl)); intro gb550 hg w11 hbox hb; have n0_ := Aside0.mk (blk_below (g := gb549) (o := .cells #[.slice A0_0 l0_0.length c0_0, .bool a0_1] 31 (0, 0)) (by (with_reducible repeat (first | refine blk_drewN ?_ _ | refine blk_drew ?_ | refine blk_alloc ?_ _)); exact BK549.out) hb); have n1_ := Aside0.mk (below_step (by repeat (first | (with_reducible first | exact HB.out | apply below_alloc | apply pw_below_drewN | apply below_drew1 | refine below_set ?_ GE549.out) | exact HB.out)) hb); have n2_ := Aside0.mk (hbox); have n3_ := Aside0.mk ((by rw [hg]; exact (below_size (by repeat (first | (with_reducible first | exact HB.out | apply below_alloc | apply pw_below_drewN | apply below_drew1 | refine below_set ?_ GE549.out) | exact HB.out))) : w.heap.size ≤ gb550)); have n4_ := Aside0.mk ((by rw [hg]; exact (below_size (by repeat (first | (with_reducible first | exact HB.out | apply below_alloc | apply pw_below_drewN | apply below_drew1 | refine below_set ?_ GE549.out) | exact HB.out))) : w.heap.size ≤ gb550)); have n5_ := Aside0.mk ((by rw [hg]; exact Nat.ne_of_lt (blk_lt (g := gb549) (o := .cells #[.slice A0_0 l0_0.length c0_0, .bool a0_1] 31 (0, 0)) (by (with_reducible repeat (first | refine blk_drewN ?_ _ | refine blk_drew ?_ | refine blk_alloc ?_ _)); exact BK549.out)) : gb549 ≠ gb550)); have n6_ := Aside0.mk ((by rw [hg]; exact Nat.ne_of_gt (blk_lt (g := gb549) (o := .cells #[.slice A0_0 l0_0.length c0_0, .bool a0_1] 31 (0, 0)) (by (with_reducible repeat (first | refine blk_drewN ?_ _ | refine blk_drew ?_ | refine blk_alloc ?_ _)); exact BK549.out)) : gb550 ≠ gb549)); clear BK549; clear HB; have BK549 := n0_; have HB := n1_; have BK550 := n2_; have GW550 := n3_; have GE550 := n4_; have NB549_550 := n5_; have NB550_549 := n6_; clear n0_ n1_ n2_ n3_ n4_ n5_ n6_; clear hb hbox hg; have hnb12 := NB549_550.out; have hnc12 := NB550_549.out; have hcz13_0 : w11.cell? ⟨gb549, 0, none⟩ = some (.slice A0_0 l0_0.length c0_0) := (blk_cell BK549.out 0).trans rfl; have hcz13_1 : w11.cell? ⟨gb549, 1, none⟩ = some (.bool a0_1) := (blk_cell BK549.out 1).trans rfl; have hfz13_0 := blk_frozen BK549.out 0; have hfz13_1 := blk_frozen BK549.out 1; have hcz14_0 : w11.cell? ⟨gb550, 0, none⟩ = some (.slice A1_0 l1_0.length c1_0) := (blk_cell BK550.out 0).trans rfl; have hcz14_1 : w11.cell? ⟨gb550, 1, none⟩ = some (.bool a1_1) := (blk_cell BK550.out 1).trans rfl; have hfz14_0 := blk_frozen BK550.out 0; have hfz14_1 := blk_frozen BK550.out 1))
    go_ret
    exact ⟨by first | rfl | (simp [errW_none, errW_some] <;> rfl) | (simp [*, errW_none, errW_some] <;> rfl), by repeat (first | (with_reducible first | exact HB.out | apply below_alloc | apply pw_below_drewN | apply below_drew1 | refine below_set ?_ GE549.out | refine below_set ?_ GE550.out) | exact HB.out)⟩
end Go.Proofs.Ytkigdcihhlkkdaa.P
end
section
set_option linter.unusedVariables false
set_option linter.unusedSimpArgs false
namespace Go.Proofs.Ytkigdcihhlkkdaa.P
open Go.RowKit Go.Proofs.YtkigdcihhlkkdaaW.PrintWords Go.Proofs.YtkigdcihhlkkdaaW.PrintLast Go.Proofs.YtkigdcihhlkkdaaW.PrintMore Go.Proofs.Ytkigdcihhlkkdaa.Pure
theorem lawRow_ (A : Option Addr) (c : Nat) (l : List S45) (wr : Bool) (w : World) (hC : Kd.C k45 w A l.length l) (hc : l.length ≤ c) :
    Calls Try.prog 23 #[.agg #[.slice A l.length c, .bool wr]] w fun e w' => ∃ v0 : Value, e = .returned (.agg #[v0, .bool wr]) ∧ Kd.R k45 45 w' w.heap.size (fun _ => True) v0 (l.take 310) ∧ Below w.heap.size w w' := by
  refine rotuluslaw4_Row.calls A c l wr (l.take 310) wr w hC hc ?_
  unfold rotuluslaw4_Row.f
  have hmn : mn (l.length : Int) 310 = ((min l.length 310 : Nat) : Int) := by unfold mn; split <;> omega
  have e : l.take ((min l.length 310 : Nat) : Int).toNat = l.take 310 := by
    rw [Int.toNat_natCast]
    by_cases h : l.length ≤ 310
    · rw [Nat.min_eq_left h, List.take_of_length_le (Nat.le_refl _), List.take_of_length_le h]
    · rw [Nat.min_eq_right (by omega)]
  have hl : (l.take 310).length ≤ 310 := by rw [List.length_take]; omega
  rw [hmn, if_pos (by omega), if_pos (by omega), e]
  simp only [Option.bind_some, List.nil_append, List.length_nil]
  rw [if_pos (by omega)]
theorem may_ (A : Option Addr) (c : Nat) (l : List S45) (wr : Bool) (w : World) (hC : Kd.C k45 w A l.length l) (hc : l.length ≤ c) (hl : l.length ≤ 1000) :
    Calls Try.prog 26 #[.agg #[.slice A l.length c, .bool wr]] w fun e w' => e = .returned (.bool (mayB l)) ∧ Below w.heap.size w w' := by
  obtain ⟨k, hk⟩ := Ev.rounds (may_ev l wr (by omega))
  exact pack_May.calls k A c l wr _ w hC hc hk
def putB (l : List S45) (wr : Bool) : List Int := if mayB l then rowB l wr else []
theorem put_ (A : Option Addr) (c : Nat) (l : List S45) (wr : Bool) (w : World) (hC : Kd.C k45 w A l.length l) (hc : l.length ≤ c) (hl : l.length ≤ 1000) :
    Calls Try.prog 24 #[.agg #[.slice A l.length c, .bool wr]] w fun e w' => ∃ v0 : Value, e = .returned (.tuple #[v0, .bool (mayB l)]) ∧ Kd.R (Kd.int .u8) 5 w' w.heap.size (fun _ => True) v0 (putB l wr) ∧ Below w.heap.size w w' := by
  have hm := may_ev l wr (by omega)
  unfold putB
  cases hb : mayB l with
  | true =>
    rw [hb] at hm
    obtain ⟨k, hk⟩ := Ev.rounds (put_ev l wr hl hm)
    exact pack_Put.calls k A c l wr _ _ w hC hc hk
  | false =>
    rw [hb] at hm
    obtain ⟨k, hk⟩ := Ev.rounds (put_no l wr hm)
    exact pack_Put.calls k A c l wr _ _ w hC hc hk
theorem get_ (A : Option Addr) (c : Nat) (l : List S45) (wr : Bool) (rest : List Int) (w : World) (hm : mayB l = true) (hr : ∀ x ∈ rest, 0 ≤ x ∧ x < 256) (hC : Kd.C (Kd.int .u8) w A (rowB l wr ++ rest).length (rowB l wr ++ rest)) (hc : (rowB l wr ++ rest).length ≤ c) :
    Calls Try.prog 30 #[.slice A (rowB l wr ++ rest).length c] w fun e w' => ∃ v0 : Value, e = .returned (.tuple #[.agg #[v0, .bool wr], .int .i64 (rowB l wr).length, .int .i64 0]) ∧ Kd.R k45 45 w' w.heap.size (fun _ => True) v0 l ∧ Below w.heap.size w w' := by
  obtain ⟨k, hk⟩ := Ev.rounds (get_ev l wr hm rest hr)
  exact pack_Get.calls k A c (rowB l wr ++ rest) l wr _ _ w hC hc hk
instance : DecidableEq S45 := fun a b => decidable_of_iff (a.f0 = b.f0 ∧ a.f1 = b.f1 ∧ a.f2 = b.f2) (by
  obtain ⟨a0, a1, a2⟩ := a
  obtain ⟨b0, b1, b2⟩ := b
  simp)
end Go.Proofs.Ytkigdcihhlkkdaa.P
end
section
set_option linter.unusedVariables false
set_option linter.unusedSimpArgs false
namespace Go.Proofs.Ytkigdcihhlkkdaa.P
open Go.RowKit Go.Proofs.YtkigdcihhlkkdaaW.PrintWords Go.Proofs.YtkigdcihhlkkdaaW.PrintLast Go.Proofs.YtkigdcihhlkkdaaW.PrintMore Go.Proofs.Ytkigdcihhlkkdaa.Pure
theorem may_t (l : List S45) (wr : Bool) (hm : mayB l = true) (A : Option Addr) (c : Nat) (hc : l.length ≤ c) (w : World) (hC : Kd.C k45 w A l.length l) :
    Calls Try.prog 26 #[.agg #[.slice A l.length c, .bool wr]] w fun e w' => e = .returned (.bool true) ∧ Below w.heap.size w w' := by
  have h := may_ A c l wr w hC hc (by have := mayB_len hm; omega)
  rwa [hm] at h
theorem put_t (l : List S45) (wr : Bool) (hm : mayB l = true) (A : Option Addr) (c : Nat) (hc : l.length ≤ c) (w : World) (hC : Kd.C k45 w A l.length l) :
    Calls Try.prog 24 #[.agg #[.slice A l.length c, .bool wr]] w fun e w' => ∃ v0 : Value, e = .returned (.tuple #[v0, .bool true]) ∧ Kd.R (Kd.int .u8) 5 w' w.heap.size (fun _ => True) v0 (rowB l wr) ∧ Below w.heap.size w w' := by
  have h := put_ A c l wr w hC hc (by have := mayB_len hm; omega)
  unfold putB at h
  rwa [hm] at h
theorem get_t (l : List S45) (wr : Bool) (hm : mayB l = true) (w : World) (A : Option Addr) (c : Nat) (hC : Kd.C (Kd.int .u8) w A (rowB l wr).length (rowB l wr)) (hc : (rowB l wr).length ≤ c) :
    Calls Try.prog 30 #[.slice A (rowB l wr).length c] w fun e w' => ∃ v0 : Value, e = .returned (.tuple #[.agg #[v0, .bool wr], .int .i64 (rowB l wr).length, .int .i64 0]) ∧ Kd.R k45 45 w' w.heap.size (fun _ => True) v0 l ∧ Below w.heap.size w w' := by
  have h := get_ A c l wr [] w hm (by simp)
  rw [List.append_nil] at h
  exact h hC hc
theorem may_no (l : List S45) (wr : Bool) (hm : mayB l = false) (hl : l.length ≤ 1000) (A : Option Addr) (c : Nat) (hc : l.length ≤ c) (w : World) (hC : Kd.C k45 w A l.length l) :
    Calls Try.prog 26 #[.agg #[.slice A l.length c, .bool wr]] w fun e w' => e = .returned (.bool false) ∧ Below w.heap.size w w' := by
  have h := may_ A c l wr w hC hc hl
  rwa [hm] at h
end Go.Proofs.Ytkigdcihhlkkdaa.P
end
section
set_option linter.unusedVariables false
set_option linter.unusedSimpArgs false
namespace Go.Proofs.Ytkigdcihhlkkdaa.P
open Go.RowKit Go.Shelf Go.Proofs.YtkigdcihhlkkdaaW.PrintWords Go.Proofs.YtkigdcihhlkkdaaW.PrintLast Go.Proofs.YtkigdcihhlkkdaaW.PrintMore Go.Proofs.Ytkigdcihhlkkdaa.Pure
attribute [local go_sem] Oper.semAt_some
theorem ne59 (W : World) (b : Array Value) : (binOp .neq 59 (.func (.func 63) #[] b) .nilFunc).run Try.prog W = .ok (.bool true) W := by kernel_rfl
def AllB (ps : List Pg) : Prop := ∀ b ∈ flat ps, ∃ q wr, mayB q = true ∧ rowB q wr = b
theorem AllB.rows {ps : List Pg} (h : AllB ps) : ∃ rowOf : Nat → List S45 × Bool, ∀ i b, (flat ps)[i]? = some b → mayB (rowOf i).1 = true ∧ rowB (rowOf i).1 (rowOf i).2 = b := by
  have : ∀ i : Nat, ∃ p : List S45 × Bool, ∀ b : List Int, (flat ps)[i]? = some b → mayB p.1 = true ∧ rowB p.1 p.2 = b := by
    intro i
    cases hb : (flat ps)[i]? with
    | none => exact ⟨([], false), fun b h => by cases h⟩
    | some b =>
      obtain ⟨q, wr, h1, h2⟩ := h b (List.mem_of_getElem? hb)
      exact ⟨(q, wr), fun b' h => by cases h; exact ⟨h1, h2⟩⟩
  exact Classical.axiomOfChoice this
theorem no_at {xs : List Rw} {n T : Nat} {f : Nat → Nat} (h : xs.map (fun x => (x.i, x.len)) = (List.range n).map (fun i => (i, f i))) (hT : T < n) (hne : ∀ x ∈ xs, x.i ≠ T) : False := by
  have h1 : (T, f T) ∈ (List.range n).map (fun i => (i, f i)) := List.mem_map.2 ⟨T, List.mem_range.2 hT, rfl⟩
  rw [← h] at h1
  obtain ⟨x, hx, he⟩ := List.mem_map.1 h1
  exact hne x hx (by injection he)
set_option maxHeartbeats 16000000 in
set_option maxRecDepth 100000 in
theorem storeEnds_ (A0 : Option Addr) (c0 : Nat) (l : List S31) (at_ : Int) (w : World) (hC : Kd.C k31 w A0 l.length l) (hc : l.length ≤ c0) (hz : ∀ z ∈ l, z.f0.length ≤ maxLen ∧ ∀ x ∈ z.f0, in32 x) :
    Calls Try.prog 8 #[.slice A0 l.length c0, .int .i64 at_] w fun e w' => e = .returned (.bool true) ∧ Below w.heap.size w w' := by
  have hx0 := blk_new w (.cells #[.int .i64 at_] 3)
  have hbw0 : Below w.heap.size w (w.alloc (.cells #[.int .i64 at_] 3)) := below_alloc (Below.refl _ _) _
  have hsz0 : (w.alloc (.cells #[.int .i64 at_] 3)).heap.size = w.heap.size + 1 := by simp
  refine (callsIn_wide (n := 4)).1 ?_
  refine callsIn_of_wp_marks Try.func8 rfl trivial ?_ rfl
  simp only [Try.ntmps8, List.size_toArray, List.length_cons, List.length_nil, Nat.reduceAdd, Nat.reduceSub, Array.replicate_succ, Array.replicate_zero, List.push_toArray, List.append_toArray, List.nil_append, List.cons_append]
  refine wpIn_wide.2 ?_
  go_upto_region 7 with (first
    | (go_at_call 18; refine (begun4_ _).mono ?_; rintro e w1 ⟨rfl, hb1⟩)
    | (go_at_call 39; refine (store_new _ _).mono ?_; rintro e w2 ⟨gs, rfl, hgs, hS, hb2⟩)
    | fail)
  rw [show min (max (100 : Int) 0) 1000000 = 100 by decide] at hS
  have hX2 := blk_below hx0 (hb1.trans (hb2.mono hb1.size))
  have hbw2 : Below w.heap.size w w2 := (hbw0.trans (hb1.mono hbw0.size)).trans (hb2.mono (hbw0.trans (hb1.mono hbw0.size)).size)
  have hs1 := hb1.size
  have hSb := hS.all_bnd
  rw [hsz0] at hs1
  clear hS hb1 hb2 hx0 hbw0 hsz0
  go_loopg [7, 8] 41 (fun kq v7 v8 w' => ∃ (i : Nat) (ps : List Pg), v8 = .int .i64 i ∧ v7 = .int .i64 ((flat ps).length : Nat) ∧ Aside0 (i ≤ l.length ∧ i ≤ 40 ∧ (flat ps).length ≤ i ∧ kq = 41 - i ∧ Inv ps ∧ StoreAt w' (fun k => w1.heap.size ≤ k ∧ k < w'.heap.size) gs 100 ((flat ps).length : Nat) 0 ps ∧ AllB ps ∧ w'.heap[w.heap.size]? = some (.cells #[.int .i64 at_] 3 (0, 0)) ∧ Below w.heap.size w w'))
  case atStart => exact ⟨0, [], rfl, rfl, ⟨Nat.zero_le _, Nat.zero_le _, Nat.le_refl _, rfl, ⟨fun p hp => by simp at hp, fun p hp => by simp at hp, trivial⟩, hSb, fun b hb => by simp [flat] at hb, hX2, hbw2⟩⟩
  case round =>
    obtain ⟨i, ps, rfl, rfl, HA⟩ := hrel
    by_cases hlt : i < l.length ∧ i < 40
    · obtain ⟨hlt1, hlt2⟩ := hlt
      have hHA := HA.out
      have hw1 : IntKind.i64.wrap ((i : Int) + 1) = (i : Int) + 1 := by rw [IntKind.wrap_i64]; omega
      obtain ⟨hi1, hi2, hnl, hkq, hI, hS, hAB, hX, hB⟩ := hHA
      have hw2 : IntKind.i64.wrap (((flat ps).length : Int) + 1) = ((flat ps).length : Int) + 1 := by rw [IntKind.wrap_i64]; omega
      obtain ⟨ad, A1, c1, rfl, s0, s1, hc1, hC1⟩ := at_T31 hC (i : Int) (by omega) (by omega)
      rw [Int.toNat_natCast] at s0 s1
      replace s0 := pw_cell_below hB s0
      replace s1 := pw_cell_below hB s1
      replace hC1 := Kd.C_below hC1 hB
      generalize rd_T31 l (i : Int) = z at s0 s1 hC1 hc1
      obtain ⟨zs, zb⟩ := z
      dsimp only at s0 s1 hC1 hc1
      have hrow := lawRow_ A1 c1 zs zb wr hC1 hc1
      have htk : (zs.take 310).length ≤ 310 := by rw [List.length_take]; omega
      generalize zs.take 310 = q at hrow htk
      clear hC1
      cases hm : mayB q
      case false =>
        go_wp2_with (first
          | (go_at_call 23; refine hrow.mono ?_; rintro e w2 ⟨v2, rfl, hR2, hb2⟩
             obtain ⟨A2, c2, hv2⟩ := Kd.R_slice hR2; subst hv2
             have hadd := store_add_no w2 _ gs 100 _ 0 ps A2 c2 q zb (hS.below hb2) (Kd.R_reads' hR2).2.2 (fun w h => may_no q zb hm (by omega) A2 c2 (Kd.R_reads' hR2).2.1 w h))
          | (go_at_call 40; refine hadd.mono ?_; rintro e w3 ⟨rfl, hb3⟩
             clear hrow hadd)
          | fail)
        have hb23 := hb2.trans (hb3.mono hb2.size)
        go_roundg (41 - (i + 1))
        case measure => rw [hkq]; omega
        case rel => exact ⟨i + 1, ps, by simp, rfl, ⟨hlt1, hlt2, Nat.le_succ_of_le hnl, rfl, hI, (hS.below hb23).mono (fun k hk => ⟨hk.1, Nat.lt_of_lt_of_le hk.2 hb23.size⟩), hAB, blk_below hX hb23, hB.trans (hb23.mono hB.size)⟩⟩
      case true =>
        go_wp2_with (first
          | (go_at_call 23; refine hrow.mono ?_; rintro e w2 ⟨v2, rfl, hR2, hb2⟩
             obtain ⟨A2, c2, hv2⟩ := Kd.R_slice hR2; subst hv2
             have hadd := store_add w2 _ gs 100 _ 0 ps A2 c2 q zb (rowB q zb) (hS.below hb2) hI rfl (by omega) (by omega) (by omega) (by omega) (fun k => wr.heap.size ≤ k ∧ k < w2.heap.size) (Kd.R_F (Kd.R_mono (Kd.R_bound hR2) (fun k hk => ⟨hk.2.1, hk.2.2.1⟩))) (fun k hk hk2 => by omega) (fun w h => may_t q zb hm A2 c2 (Kd.R_reads' hR2).2.1 w h) (fun w h => put_t q zb hm A2 c2 (Kd.R_reads' hR2).2.1 w h))
          | (go_at_call 40; refine hadd.mono ?_; rintro e w3 ⟨rfl, ps3, n3, g3, hS3, hI3, hfl3, hn3, hg3, hf3⟩
             obtain rfl : n3 = ((flat ps).length : Int) + 1 := by omega
             obtain rfl : g3 = 0 := by omega
             clear hrow hadd hn3 hg3)
          | fail)
        rw [show (((flat ps).length : Int) + 1 - (((flat ps).length : Int) + 1)).toNat = 0 by omega, List.drop_zero] at hfl3
        have hlen3 : (flat ps3).length = (flat ps).length + 1 := by rw [hfl3, List.length_append]; rfl
        have hsw := hX
        have hbw3 : Below w.heap.size w w3 := (hB.trans (hb2.mono hB.size)).trans (hf3.below (B := w.heap.size) (by have := hB.size; have := hb2.size; omega) (fun k hk => by omega))
        have hX3 := hf3.old (k := w.heap.size) (fun hk => by omega) (blk_below hX hb2)
        have hfs := hf3.size
        have hbs := hb2.size
        have hS3' := hS3.all_bnd.mono (ok' := fun k => w1.heap.size ≤ k ∧ k < w3.heap.size) (fun k hk => ⟨by have := hk.1; have := hS.lt; omega, hk.2⟩)
        go_roundg (41 - (i + 1))
        case measure => rw [hkq]; omega
        case rel => exact ⟨i + 1, ps3.map (P.bnd w3), by simp, by rw [flat_bnd, hlen3]; simp, ⟨hlt1, hlt2, by rw [flat_bnd, hlen3]; omega, rfl, hI3.bnd, by rw [flat_bnd, hlen3]; exact hS3', fun b hb => by rw [flat_bnd, hfl3, List.mem_append] at hb; rcases hb with h | h; exact hAB b h; rw [List.mem_singleton.1 h]; exact ⟨q, zb, hm, rfl⟩, hX3, hbw3⟩⟩
    · obtain ⟨hi1, hi2, hnl, hkq, hI, hS, hAB, hX, hB⟩ := HA.out
      clear HA hkq
      rename World => wv
      have hex : (i < l.length ∧ ¬ i < 40) ∨ ¬ i < l.length := by omega
      rcases hex with ⟨hx1, hx2⟩ | hx1
      all_goals (try clear hlt); go_upto_region 11 with (fail)
      all_goals
        clear hx1; (try clear hx2)
        have he59 := eq59
        have hn59 := ne59
        have hall := fun (W : World) => store_all (.pointer (some ⟨gs, 0, none⟩)) ⟨_, rfl⟩ W
        by_cases hn0 : (flat ps).length = 0
        · rw [hn0]
          go_wp2_with (first
            | (go_at_call 41; refine (hall _).mono ?_; rintro e w4 ⟨rfl, hw4⟩)
            | fail)
          exact ⟨_, results_tmp rfl _ _ _, rfl, below_alloc (below_alloc hB _) _⟩
        · have hn1 : (0 : Int) < ((flat ps).length : Nat) := by omega
          obtain ⟨n, hn⟩ : ∃ n, (flat ps).length = n := ⟨_, rfl⟩
          rw [hn] at hn0 hn1 hnl hS ⊢
          obtain ⟨T, hT, hTn⟩ := mod_nat at_ n hn1 (by omega)
          have hb4 : Below wv.heap.size wv (wv.alloc (.cells #[.pointer (some ⟨gs, 0, none⟩)] 56)) := below_alloc (Below.refl _ _) _
          have hX4 := blk_below hX hb4
          go_upto_region 14 with (first
            | (go_at_call 41; refine (hall _).mono ?_; rintro e w4 ⟨rfl, rfl⟩
               have z0 := (blk_cell hX4 0).trans rfl
               have zf := blk_frozen hX4 0)
            | fail)
          obtain ⟨w5, hw5⟩ : ∃ w5, w5 = (wv.alloc (.cells #[.pointer (some ⟨gs, 0, none⟩)] 56)).setCell ⟨w.heap.size, 0, none⟩ (.int .i64 T) := ⟨_, rfl⟩
          rw [← hw5]
          have hfr5 : Fr (fun k => k = w.heap.size) wv w5 := by rw [hw5]; exact Fr.setCell (S := fun k => k = w.heap.size) (p := ⟨w.heap.size, 0, none⟩) ((Fr.refl _ _).alloc _) rfl _
          have hX5 : w5.heap[w.heap.size]? = some (.cells #[.int .i64 T] 3 (0, 0)) := by rw [hw5]; exact (blk_set hX4 0 _).trans rfl
          have hlt0 := blk_lt hX
          have hS5 := hS.fr hfr5 (fun k hk h => by (try dsimp only at hk h); omega)
          have hB5 : Below w.heap.size w w5 := hB.trans (hfr5.below (B := w.heap.size) hB.size (fun k hk => by omega))
          have hs5 := hfr5.size
          clear hw5 hX4 hb4 hX hB z0 zf hT hS hfr5
          have hall1 := hall (w5.alloc (.cells #[.int .i64 (-1)] 3))
          rw [show (w5.alloc (.cells #[.int .i64 (-1)] 3)).heap.size = w5.heap.size + 1 by simp] at hall1
          go_wp2_with (first
            | (go_at_call 41; refine hall1.mono ?_; rintro e w6 ⟨rfl, rfl⟩; clear hall1)
            | fail)
          obtain ⟨w6, hw6⟩ : ∃ w6, w6 = (w5.alloc (.cells #[.int .i64 (-1)] 3)).alloc (.cells #[.pointer (some ⟨gs, 0, none⟩)] 56) := ⟨_, rfl⟩
          rw [← hw6]
          have hL6 : w6.heap[w5.heap.size]? = some (.cells #[.int .i64 (-1)] 3 (0, 0)) := by rw [hw6]; exact blk_alloc (blk_new _ _) _
          have hZ6 : w6.heap[w5.heap.size + 1]? = some (.cells #[.pointer (some ⟨gs, 0, none⟩)] 56 (0, 0)) := by
            have := blk_new (w5.alloc (.cells #[.int .i64 (-1)] 3)) (.cells #[.pointer (some ⟨gs, 0, none⟩)] 56)
            rw [hw6]
            simpa using this
          have hb56 : Below w5.heap.size w5 w6 := by rw [hw6]; exact below_alloc (below_alloc (Below.refl _ _) _) _
          have hX6 := blk_below hX5 hb56
          have hS6 := hS5.below hb56
          have hB6 := hB5.trans (hb56.mono hB5.size)
          have hs6 := blk_lt hZ6
          clear hw6 hX5 hS5 hB5 hb56
          obtain ⟨rowOf, hro⟩ := hAB.rows
          have hget : ∀ i b, (flat ps)[i]? = some b → ∃ m er, ∀ w A c, Kd.C (Kd.int .u8) w A b.length b → b.length ≤ c → Calls Try.prog 30 #[.slice A b.length c] w fun e w' => ∃ v0_ : Value, e = .returned (.tuple #[.agg #[v0_, .bool (rowOf i).2], .int .i64 m, .int .i64 er]) ∧ Kd.R k45 45 w' w.heap.size (fun _ => True) v0_ (rowOf i).1 ∧ Below w.heap.size w w' := by
            intro i b hb
            obtain ⟨hm, rfl⟩ := hro i b hb
            exact ⟨_, _, fun w A c hC hc => get_t _ _ hm w A c hC hc⟩
          have hseq := store_all_stops (4 - 1) (w5.heap.size + 1) (by decide) _ gs 100 n 0 ps rowOf w6 hI (by rw [hn]) (by omega) (fun k hk => by omega) hget hS6 hZ6
          rw [hn] at hseq
          refine (fun (a0 : Act) (ha0 : a0 = _) => ?_ : ∀ a0 : Act, a0 = _ → Code.wp Try.prog _ _ a0 _) _ rfl
          refine (wpIn_wide (n := 4)).1 ?_
          refine wpIn_rangeFunc_ownH (F := Fence.wide) (n := 4) rfl (by decide) (gf := 63) (lb := #[.pointer (some ⟨w5.heap.size + 1, 0, none⟩)]) (by rw [ha0]; rfl) trivial (enters_of Try.func63 (by kernel_rfl) rfl) hseq
            (fun h k => KeepOn.trans h k) ?hKb (Below.refl _ _) (fun _ => rfl)
            (fun pre W => (∃ last : Int, W.heap[w5.heap.size]? = some (.cells #[.int .i64 last] 3 (0, 0))) ∧ (∀ x ∈ pre, x.i ≠ T) ∧ Fr (fun k => k = w5.heap.size) w6 W)
            (fun c pre W => c = .exit 2 ∧ W.heap[w5.heap.size]? = some (.cells #[.int .i64 T] 3 (0, 0)) ∧ Fr (fun k => k = w5.heap.size) w6 W) ?hI ?hIx ⟨⟨_, hL6⟩, fun x hx => by simp at hx, Fr.refl _ _⟩
            (fun x a' W => a' = { tmps := ((a0.tmps.setIfInBounds 54 (.int .i64 (x.i : Int))).setIfInBounds 55 (.agg #[.slice x.A x.len x.c, .bool x.wr])).setIfInBounds 10 (.int .i64 (x.i : Int)), defers := [] }) (fun x a' _ A B row h _ _ => h) ?assign ?body ?done ?stop
          case hKb =>
            intro W l o o' hl ho hc hw
            refine ⟨by simp [World.putObj], fun k hk => World.putObj_heap_other ?_⟩
            omega
          case hI =>
            rintro xs A B row ⟨⟨last, h1⟩, h2, h3⟩ hg hr
            have hf : Fr (fun k => w6.heap.size ≤ k) A B := Fr.of_grown hg (fun k hk => (hr k hk).1)
            exact ⟨⟨last, hf.old (by omega) h1⟩, h2, h3.trans hf (fun i hi h => by omega)⟩
          case hIx =>
            rintro c xs A B row ⟨h1, h2, h3⟩ hg hr
            have hf : Fr (fun k => w6.heap.size ≤ k) A B := Fr.of_grown hg (fun k hk => (hr k hk).1)
            exact ⟨h1, hf.old (by omega) h2, h3.trans hf (fun i hi h => by omega)⟩
          case assign =>
            rintro l pre x W K hi hK
            have hK2 := hK
            clear hK
            subst ha0
            dsimp only [Rw.encs]
            gi_wp2
            exact hK2 _ _ (KeepsFrom.refl _ _) ⟨Nat.le_refl _, fun _ _ => rfl⟩ hi rfl
          case body =>
            rintro l pre x a' W hl _ ⟨⟨last, hi1⟩, hi2, hi3⟩ rfl hlt
            subst ha0
            simp only [List.setIfInBounds_toArray, List.set_cons_zero, List.set_cons_succ]
            have z0 : W.cell? ⟨w5.heap.size, 0, none⟩ = some (.int .i64 last) := (blk_cell hi1 0).trans rfl
            have zf := blk_frozen hi1 0
            have hXW := hi3.old (k := w.heap.size) (fun h => by omega) hX6
            have z1 : ∀ u : Value, (W.setCell ⟨w5.heap.size, 0, none⟩ u).cell? ⟨w.heap.size, 0, none⟩ = some (.int .i64 T) := fun u => (blk_cell ((Below.heap_setCell W ⟨w5.heap.size, 0, none⟩ _ _ (by show w.heap.size ≠ w5.heap.size; omega)).trans hXW) 0).trans rfl
            by_cases hxT : x.i = T
            · have hq : ((x.i : Int) == (T : Int)) = true := by simp [hxT]
              gi_wp2
              exact ⟨(KeepsOthers.setCell _ _ _).from _, rfl, (blk_set hi1 0 _).trans rfl, hi3.setCell (p := ⟨w5.heap.size, 0, none⟩) rfl _⟩
            · have hq : ((x.i : Int) == (T : Int)) = false := by simp; omega
              gi_wp2
              refine ⟨(KeepsOthers.setCell _ _ _).from _, ⟨by simp [World.setCell], fun k hk => Below.heap_setCell W ⟨w5.heap.size, 0, none⟩ _ k (by show k ≠ w5.heap.size; omega)⟩, ⟨_, (blk_set hi1 0 _).trans rfl⟩, fun y hy => ?_, hi3.setCell (p := ⟨w5.heap.size, 0, none⟩) rfl _⟩
              rcases List.mem_append.1 hy with h | h
              · exact hi2 y h
              · rw [List.mem_singleton.1 h]; exact hxT
          case done =>
            rintro D xs W hD hxs ⟨_, hne, _⟩ hK
            exact (no_at hxs (by omega) hne).elim
          case stop =>
            rintro D c pre W hD _ ⟨rfl, hL, hfr⟩ hK
            refine (wpIn_wide (n := 4)).2 ?_
            subst ha0
            dsimp only
            have hXW := hfr.old (k := w.heap.size) (fun h => by omega) hX6
            have hSW := hS6.fr hfr (fun k hk h => by (try dsimp only at hk h); omega)
            have hBW : Below w.heap.size w W := hB6.trans (hfr.below (B := w.heap.size) (by omega) (fun k hk => by omega))
            have hsW := hfr.size
            have hltL := blk_lt hL
            clear hseq hS6 hB6 hX6 hL6 hZ6 hfr
            have hall2 := hall (W.alloc (.cells #[.int .i64 0] 3))
            rw [show (W.alloc (.cells #[.int .i64 0] 3)).heap.size = W.heap.size + 1 by simp] at hall2
            go_wp2_with (first
              | (go_at_call 41; refine hall2.mono ?_; rintro e w8 ⟨rfl, rfl⟩; clear hall2)
              | fail)
            obtain ⟨w8, hw8⟩ : ∃ w8, w8 = (W.alloc (.cells #[.int .i64 0] 3)).alloc (.cells #[.pointer (some ⟨gs, 0, none⟩)] 56) := ⟨_, rfl⟩
            rw [← hw8]
            have hC8 : w8.heap[W.heap.size]? = some (.cells #[.int .i64 0] 3 (0, 0)) := by rw [hw8]; exact blk_alloc (blk_new _ _) _
            have hZ8 : w8.heap[W.heap.size + 1]? = some (.cells #[.pointer (some ⟨gs, 0, none⟩)] 56 (0, 0)) := by
              have := blk_new (W.alloc (.cells #[.int .i64 0] 3)) (.cells #[.pointer (some ⟨gs, 0, none⟩)] 56)
              rw [hw8]
              simpa using this
            have hbW8 : Below W.heap.size W w8 := by rw [hw8]; exact below_alloc (below_alloc (Below.refl _ _) _) _
            have hX8 := blk_below hXW hbW8
            have hL8 := blk_below hL hbW8
            have hS8 := hSW.below hbW8
            have hK8 := blk_below hK hbW8
            have hB8 := hBW.trans (hbW8.mono hBW.size)
            have hs8 := blk_lt hZ8
            have hDlt := blk_lt hK
            clear hw8 hXW hSW hBW hL hK hbW8
            have hseq := store_all_stops (4 - 1) (W.heap.size + 1) (by decide) _ gs 100 n 0 ps rowOf w8 hI (by rw [hn]) (by omega) (fun k hk => by omega) hget hS8 hZ8
            rw [hn] at hseq
            refine (fun (a0 : Act) (ha0 : a0 = _) => ?_ : ∀ a0 : Act, a0 = _ → Code.wp Try.prog _ _ a0 _) _ rfl
            refine (wpIn_wide (n := 4)).1 ?_
            refine wpIn_rangeFunc_ownH (F := Fence.wide) (n := 4) rfl (by decide) (gf := 63) (lb := #[.pointer (some ⟨W.heap.size + 1, 0, none⟩)]) (by rw [ha0]; rfl) trivial (enters_of Try.func63 (by kernel_rfl) rfl) hseq
              (fun h k => KeepOn.trans h k) ?hKb (Below.refl _ _) (fun _ => rfl)
              (fun pre V => V.heap[W.heap.size]? = some (.cells #[.int .i64 (pre.length : Nat)] 3 (0, 0)) ∧ Fr (fun k => k = W.heap.size) w8 V) (fun _ _ _ => False) ?hI (fun _ _ _ _ _ h _ _ => h) ⟨hC8, Fr.refl _ _⟩
              (fun x a' W => a' = { tmps := ((a0.tmps.setIfInBounds 62 (.int .i64 (x.i : Int))).setIfInBounds 63 (.agg #[.slice x.A x.len x.c, .bool x.wr])), defers := [] }) (fun x a' _ A B row h _ _ => h) ?assign ?body ?done ?stop
            case hKb =>
              intro W l o o' hl ho hc hw
              refine ⟨by simp [World.putObj], fun k hk => World.putObj_heap_other ?_⟩
              omega
            case hI =>
              rintro xs A B row ⟨h1, h3⟩ hg hr
              have hf : Fr (fun k => w8.heap.size ≤ k) A B := Fr.of_grown hg (fun k hk => (hr k hk).1)
              exact ⟨hf.old (by omega) h1, h3.trans hf (fun i hi h => by omega)⟩
            case assign =>
              rintro l pre x V K hi hK
              have hK2 := hK
              clear hK
              subst ha0
              dsimp only [Rw.encs]
              gi_wp2
              exact hK2 _ _ (KeepsFrom.refl _ _) ⟨Nat.le_refl _, fun _ _ => rfl⟩ hi rfl
            case body =>
              rintro l pre x a' V hl _ ⟨hi1, hi3⟩ rfl hlt
              subst ha0
              simp only [List.setIfInBounds_toArray, List.set_cons_zero, List.set_cons_succ]
              have z0 : V.cell? ⟨W.heap.size, 0, none⟩ = some (.int .i64 (pre.length : Nat)) := (blk_cell hi1 0).trans rfl
              have zf := blk_frozen hi1 0
              have hw1 : IntKind.i64.wrap ((pre.length : Int) + 1) = (pre.length : Int) + 1 := by rw [IntKind.wrap_i64]; omega
              gi_wp2
              refine ⟨(KeepsOthers.setCell _ _ _).from _, ⟨by simp [World.setCell], fun k hk => Below.heap_setCell V ⟨W.heap.size, 0, none⟩ _ k (by show k ≠ W.heap.size; omega)⟩, (blk_set hi1 0 _).trans ?_, hi3.setCell (p := ⟨W.heap.size, 0, none⟩) rfl _⟩
              simp
            case stop =>
              rintro D c pre W _ _ h _
              exact h.elim
            case done =>
              rintro D2 xs V hD2 hxs ⟨hi1, hi3⟩ hK2
              have hxl : xs.length = n := by have := congrArg List.length hxs; simpa using this
              rw [hxl] at hi1
              subst ha0
              dsimp only
              have hXV := hi3.old (k := w.heap.size) (fun h => by omega) hX8
              have hLV := hi3.old (k := w5.heap.size) (fun h => by omega) hL8
              have hKV := hi3.old (k := D) (fun h => by omega) hK8
              have hBV : Below w.heap.size w V := hB8.trans (hi3.below (B := w.heap.size) (by omega) (fun k hk => by omega))
              have z0 := (blk_cell hXV 0).trans rfl
              have z1 := (blk_cell hLV 0).trans rfl
              have z2 := (blk_cell hi1 0).trans rfl
              go_wp2
              have hsV := hi3.size
              have hBD : Below w.heap.size w (V.putObj D2 (.deferred none)) := hBV.trans (belowK_b (w := w) (Nat.le_refl _) V D2 _ _ (by have := hB8.size; omega) hK2 rfl rfl)
              have hKD : (V.putObj D2 (.deferred none)).heap[D]? = some (.deferred (some [])) := (World.putObj_heap_other (by omega)).trans hKV
              refine ⟨by simp, .inl ⟨_, _, rfl, run_takeDeferred hK2, ?_⟩⟩
              refine ⟨by simp, .inl ⟨_, _, rfl, run_takeDeferred hKD, ?_⟩⟩
              exact ⟨_, results_tmp rfl _ _ _, rfl, hBD.trans (belowK_b (w := w) (Nat.le_refl _) _ D _ _ (by have := hB8.size; omega) hKD rfl rfl)⟩
end Go.Proofs.Ytkigdcihhlkkdaa.P
end
section
set_option linter.unusedVariables false
set_option linter.unusedSimpArgs false
namespace Go.Proofs.Ytkigdcihhlkkdaa.Pure
open Go.ChangeShapes Go.WideShapes Go.RowKit Go.Proofs.Ytkigdcihhlkkdaa.P Go.Proofs.YtkigdcihhlkkdaaW.PrintWords Go.Proofs.YtkigdcihhlkkdaaW.PrintLast
theorem list_of {α : Type} {Q : Nat → α → Prop} : ∀ n : Nat, (∀ i, i < n → ∃ z, Q i z) → ∃ l : List α, l.length = n ∧ ∀ i z, l[i]? = some z → Q i z
  | 0, _ => ⟨[], rfl, fun i z h => by simp at h⟩
  | n + 1, h => by
    obtain ⟨l, hl, hq⟩ := list_of n (fun i hi => h i (by omega))
    obtain ⟨z, hz⟩ := h n (by omega)
    refine ⟨l ++ [z], by simp [hl], fun i x hx => ?_⟩
    by_cases c : i < n
    · exact hq i x (by rwa [List.getElem?_append_left (by omega)] at hx)
    · rw [List.getElem?_append_right (by omega)] at hx
      by_cases e : i = n
      · subst e
        rw [hl, Nat.sub_self] at hx
        simp at hx
        subst hx
        exact hz
      · obtain ⟨j, hj⟩ : ∃ j, i - l.length = j + 1 := ⟨i - l.length - 1, by omega⟩
        rw [hj] at hx
        simp at hx
def wf45 (z : S45) : Prop := (Lit.int .i32 z.f0).wf = true ∧ (Lit.int .i64 z.f1).wf = true ∧ (Lit.int .i64 z.f2).wf = true
set_option maxRecDepth 100000
section
variable {H : Type} {enc : TypeId × Value → H} {w : World} {base : Nat} {spare : Nat → Bool} {held : Bool}
theorem open_cells {fuel : Nat} {cs : List Value} {x : DataW H × List MemPlace} (h : DataW.trod enc Try.prog w base spare held fuel 29 cs = some x) :
    ∃ (a : Option Addr) (len cap : Nat) (zs : List S45), cs = [.slice a len cap] ∧ len = zs.length ∧ len ≤ cap ∧ len ≤ maxLen ∧ Kd.C k45 w a zs.length zs ∧ ∀ z ∈ zs, wf45 z := by
  have hc : Try.prog.cellsOf 45 = 3 := by kernel_rfl
  have hc21 : Try.prog.cellsOf 21 = 1 := by kernel_rfl
  have hc3 : Try.prog.cellsOf 3 = 1 := by kernel_rfl
  rcases DataW.trod_slice (e := 45) Try.underlying29 h with ⟨h0, _⟩ | ⟨a, len, cap, elems, rest, n, _, rfl, _, hb, hl, hm, hlen, hel, _, _⟩
  · exact ⟨none, 0, 0, [], h0, rfl, Nat.le_refl _, Nat.zero_le _, Kd.C_nil k45 w, by simp⟩
  have each : ∀ i, i < len → ∃ z : S45, w.cells? base (a.add (i * 3)) 3 = some [.int .i32 z.f0, .int .i64 z.f1, .int .i64 z.f2] ∧ wf45 z := by
    intro i hi
    have he := hel i hi
    rw [List.getElem?_eq_getElem (by omega), hc, Option.bind_eq_some_iff] at he
    obtain ⟨cs', hcs, hy⟩ := he
    obtain ⟨y0, y1, y2, m, _, hn, h0, h1, h2⟩ := Go.Deep.trod_struct3 Try.underlying45 hy
    rw [hc] at hn
    match cs', hn with
    | [c0, c1, c2], _ =>
      simp only [hc21, hc3, List.drop_zero, List.take_succ_cons, List.take_zero, List.drop_succ_cons] at h0 h1 h2
      obtain ⟨n0, e0, _, w0⟩ := DataW.trod_int Try.underlying21 h0
      obtain ⟨n1, e1, _, w1⟩ := DataW.trod_int Try.underlying3 h1
      obtain ⟨n2, e2, _, w2⟩ := DataW.trod_int Try.underlying3 h2
      simp only [List.cons.injEq, and_true] at e0 e1 e2
      subst e0 e1 e2
      exact ⟨⟨n0, n1, n2⟩, hcs, w0, w1, w2⟩
  obtain ⟨zs, hz, hq⟩ := list_of len each
  have hmm : len ≤ maxLen := Nat.le_trans hl hm
  subst hz
  refine ⟨some a, zs.length, cap, zs, rfl, rfl, hl, hmm, ⟨rfl, by unfold maxLen at hmm; omega, fun _ => ⟨a, rfl, fun j p hp => ?_⟩⟩, fun z hz' => ?_⟩
  · obtain ⟨hc, _⟩ := hq j p hp
    refine ⟨_, rfl, k45_mk w p, fun i u hu => ?_⟩
    have hi : i < 3 := by
      have := (List.getElem?_eq_some_iff.1 hu).1
      simpa using this
    have := (World.cells?_some hc).2.2 i hi
    rw [Addr.add_add] at this
    exact this.trans hu
  · obtain ⟨i, hi⟩ := List.getElem?_of_mem hz'
    exact (hq i z hi).2
theorem open_row {fuel : Nat} {cs : List Value} {x : DataW H × List MemPlace} (h : DataW.trod enc Try.prog w base spare held fuel 31 cs = some x) :
    ∃ (a : Option Addr) (cap : Nat) (z : S31), cs = [.slice a z.f0.length cap, .bool z.f1] ∧ z.f0.length ≤ cap ∧ z.f0.length ≤ maxLen ∧ Kd.C k45 w a z.f0.length z.f0 ∧ ∀ c ∈ z.f0, wf45 c := by
  have hc : Try.prog.cellsOf 31 = 2 := by kernel_rfl
  have hc29 : Try.prog.cellsOf 29 = 1 := by kernel_rfl
  have hc4 : Try.prog.cellsOf 4 = 1 := by kernel_rfl
  obtain ⟨y0, y1, m, _, hn, h0, h1⟩ := trod_struct2 Try.underlying31 h
  rw [hc] at hn
  match cs, hn with
  | [c0, c1], _ =>
    simp only [hc29, hc4, List.drop_zero, List.take_succ_cons, List.take_zero, List.drop_succ_cons] at h0 h1
    obtain ⟨a, len, cap, zs, e0, rfl, hl, hm, hC, hw⟩ := open_cells h0
    obtain ⟨b, e1, _⟩ := DataW.trod_bool Try.underlying4 h1
    simp only [List.cons.injEq, and_true] at e0 e1
    subst e0 e1
    exact ⟨a, cap, ⟨zs, b⟩, rfl, hl, hm, hC, hw⟩
theorem open_rows {fuel : Nat} {cs : List Value} {x : DataW H × List MemPlace} (h : DataW.trod enc Try.prog w base spare held fuel 47 cs = some x) :
    ∃ (a : Option Addr) (len cap : Nat) (zs : List S31), cs = [.slice a len cap] ∧ len = zs.length ∧ len ≤ cap ∧ len ≤ maxLen ∧ Kd.C k31 w a zs.length zs ∧ ∀ z ∈ zs, z.f0.length ≤ maxLen ∧ ∀ c ∈ z.f0, wf45 c := by
  have hc : Try.prog.cellsOf 31 = 2 := by kernel_rfl
  rcases DataW.trod_slice (e := 31) Try.underlying47 h with ⟨h0, _⟩ | ⟨a, len, cap, elems, rest, n, _, rfl, _, hb, hl, hm, hlen, hel, _, _⟩
  · exact ⟨none, 0, 0, [], h0, rfl, Nat.le_refl _, Nat.zero_le _, Kd.C_nil k31 w, by simp⟩
  have each : ∀ i, i < len → ∃ z : S31, (∃ (A : Option Addr) (cap : Nat), w.cells? base (a.add (i * 2)) 2 = some [.slice A z.f0.length cap, .bool z.f1] ∧ z.f0.length ≤ cap ∧ Kd.C k45 w A z.f0.length z.f0) ∧ z.f0.length ≤ maxLen ∧ ∀ c ∈ z.f0, wf45 c := by
    intro i hi
    have he := hel i hi
    rw [List.getElem?_eq_getElem (by omega), hc, Option.bind_eq_some_iff] at he
    obtain ⟨cs', hcs, hy⟩ := he
    obtain ⟨A, cap, z, rfl, h1, h2, h3, h4⟩ := open_row hy
    exact ⟨z, ⟨A, cap, hcs, h1, h3⟩, h2, h4⟩
  obtain ⟨zs, hz, hq⟩ := list_of len each
  have hmm : len ≤ maxLen := Nat.le_trans hl hm
  subst hz
  refine ⟨some a, zs.length, cap, zs, rfl, rfl, hl, hmm, ⟨rfl, by unfold maxLen at hmm; omega, fun _ => ⟨a, rfl, fun j p hp => ?_⟩⟩, fun z hz' => ?_⟩
  · obtain ⟨⟨A, c, hc, hle, hC⟩, _⟩ := hq j p hp
    refine ⟨_, rfl, k31_mk w p hle hC, fun i u hu => ?_⟩
    have hi : i < 2 := by
      have := (List.getElem?_eq_some_iff.1 hu).1
      simpa using this
    have := (World.cells?_some hc).2.2 i hi
    rw [Addr.add_add] at this
    exact this.trans hu
  · obtain ⟨i, hi⟩ := List.getElem?_of_mem hz'
    exact (hq i z hi).2
theorem arg_rows {a : Option Addr} {len cap : Nat} {d : DataW H} {ps : List MemPlace} (h : DataW.Trod enc Try.prog w base spare held 47 (.slice a len cap) d ps) :
    ∃ zs : List S31, len = zs.length ∧ zs.length ≤ cap ∧ zs.length ≤ maxLen ∧ Kd.C k31 w a zs.length zs ∧ ∀ z ∈ zs, z.f0.length ≤ maxLen ∧ ∀ c ∈ z.f0, wf45 c := by
  obtain ⟨fuel, hf⟩ := h
  obtain ⟨a', l', c', zs, hcs, h1, h2, h3, h4, h5⟩ := open_rows hf
  simp [Value.cells] at hcs
  obtain ⟨rfl, rfl, rfl⟩ := hcs
  subst h1
  exact ⟨zs, rfl, h2, h3, h4, h5⟩
end
end Go.Proofs.Ytkigdcihhlkkdaa.Pure
end
section
set_option linter.unusedVariables false
set_option linter.unusedSimpArgs false
namespace Go.Proofs.Ytkigdcihhlkkdaa.Pure
open Go.ChangeShapes Go.WideShapes Go.RowKit Go.Proofs.Ytkigdcihhlkkdaa.P Go.Proofs.YtkigdcihhlkkdaaW.PrintWords Go.Proofs.YtkigdcihhlkkdaaW.PrintLast
set_option maxRecDepth 100000
theorem in32_of {z : S45} (h : wf45 z) : in32 z := by
  have := h.1
  simp [Lit.wf] at this
  exact this
section
variable {H : Type} {enc : TypeId × Value → H} {w : World} {base : Nat} {spare : Nat → Bool} {held : Bool}
theorem arg_rows' {a : Option Addr} {len cap : Nat} {d : DataW H} {ps : List MemPlace} (h : DataW.Trod enc Try.prog w base spare held 47 (.slice a len cap) d ps) :
    ∃ zs : List S31, len = zs.length ∧ zs.length ≤ cap ∧ zs.length ≤ maxLen ∧ Kd.C k31 w a zs.length zs ∧ ∀ z ∈ zs, z.f0.length ≤ maxLen ∧ ∀ c ∈ z.f0, in32 c := by
  obtain ⟨zs, h1, h2, h3, h4, h5⟩ := arg_rows h
  exact ⟨zs, h1, h2, h3, h4, fun z hz => ⟨(h5 z hz).1, fun c hc => in32_of ((h5 z hz).2 c hc)⟩⟩
end
end Go.Proofs.Ytkigdcihhlkkdaa.Pure
end
