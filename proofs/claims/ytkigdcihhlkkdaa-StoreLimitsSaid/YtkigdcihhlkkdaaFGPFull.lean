/- PageFull's walk: it tells true. -/
import Derived.Test.YtkigdcihhlkkdaaFGLit
set_option linter.unusedVariables false
set_option linter.unusedSimpArgs false
namespace Go.Proofs.Ytkigdcihhlkkdaa.P
open Go.RowKit Go.Shelf Go.Proofs.YtkigdcihhlkkdaaW.PrintWords Go.Proofs.YtkigdcihhlkkdaaW.PrintLast Go.Proofs.YtkigdcihhlkkdaaW.PrintMore
attribute [local go_sem] Oper.semAt_some
theorem addA (i : Nat) : addRows ((List.range (min i 16)).map bytA) (bytA i) true = (List.range (min (i + 1) 16)).map bytA := by
  unfold addRows
  rw [List.length_map, List.length_range, if_pos rfl]
  by_cases h : i < 16
  · rw [if_pos (by omega), Nat.min_eq_left (by omega), Nat.min_eq_left (by omega), List.range_succ, List.map_append]
    rfl
  · rw [if_neg (by omega), Nat.min_eq_right (by omega), Nat.min_eq_right (by omega)]
theorem mod_nat (n m : Int) (h0 : 0 < m) (h1 : m < 1000) : ∃ k : Nat, (wrap64 (n.tmod m + m)).tmod m = (k : Int) ∧ (k : Int) < m := by
  have a := Int.tmod_lt_of_pos n h0
  have b := Int.lt_tmod_of_pos n h0
  have e : wrap64 (n.tmod m + m) = n.tmod m + m := by unfold wrap64; omega
  rw [e]
  have p : 0 ≤ n.tmod m + m := by omega
  have q := Int.tmod_lt_of_pos (n.tmod m + m) h0
  have r := Int.tmod_nonneg m p
  exact ⟨((n.tmod m + m).tmod m).toNat, by omega, by omega⟩
set_option maxHeartbeats 8000000 in
set_option maxRecDepth 100000 in
theorem pageFull_ (n cut : Int) (w : World) : Calls Try.prog 13 #[.int .i64 n, .int .i64 cut] w fun e w' => e = .returned (.bool true) ∧ Below w.heap.size w w' := by
  go_enter Try.func13, Try.ntmps13
  go_wp2_with (first
    | (go_at_call 18; refine (begun4_ _).mono ?_; rintro e w1 ⟨rfl, hb1⟩)
    | (go_at_call 33; refine (page_new _).mono ?_; rintro e w2 ⟨gp, rfl, hgp, hP, hb2⟩)
    | fail)
  obtain ⟨N, hN, hN25⟩ := mod_nat n 25 (by decide) (by decide)
  obtain ⟨C, hC, hC20⟩ := mod_nat cut 20 (by decide) (by decide)
  rw [hN, hC]
  have hb12 : Below w.heap.size w w2 := hb1.trans (hb2.mono hb1.size)
  have hs1 := hb1.size
  have hPb := hP.bound
  clear hP hb1 hb2
  go_loopg [7] (N + 1) (fun kq v7 w' => ∃ i : Nat, v7 = .int .i64 i ∧ Aside0 (i ≤ N ∧ kq = N + 1 - i ∧ PageAt w' (fun k => w1.heap.size ≤ k ∧ k < w'.heap.size) gp ((List.range (min i 16)).map bytA) ∧ Below w.heap.size w w'))
  case atStart => exact ⟨0, rfl, ⟨Nat.zero_le _, rfl, hPb, hb12⟩⟩
  case round =>
    obtain ⟨i, rfl, HA⟩ := hrel
    by_cases hlt : i < N
    · have hwi : IntKind.i32.wrap (i : Int) = i := by rw [IntKind.wrap_i32]; omega
      have hwa : IntKind.i32.wrap (97 + (i : Int)) = 97 + i := by rw [IntKind.wrap_i32]; omega
      have hw1 : IntKind.i64.wrap ((i : Int) + 1) = i + 1 := by rw [IntKind.wrap_i64]; omega
      have hlen : ((List.range (min i 16)).map bytA).length = min i 16 := by simp
      have hba : Below wr.heap.size wr (wr.alloc (.cells #[.int .i32 (97 + (i : Int)), .int .i64 1, .int .i64 0] 45)) := below_alloc (Below.refl _ _) _
      have hadd := page_add (wr.alloc (.cells #[.int .i32 (97 + (i : Int)), .int .i64 1, .int .i64 0] 45)) (fun k => w1.heap.size ≤ k ∧ k < wr.heap.size) gp ((List.range (min i 16)).map bytA) (some ⟨wr.heap.size, 0, none⟩) 1 (rowA i) false (bytA i) true (HA.out.2.2.1.below hba) (C_block (n := 0) (blk_new wr _) (by simp [rowA])) (fun w h => a_put i (by omega) w _ 1 (by simp [rowA]) h)
      rw [hlen, addA] at hadd
      rw [show (decide (min i 16 < 16) && true) = decide ((i : Int) < 16) by rw [Bool.and_true]; exact decide_eq_decide.2 (by omega)] at hadd
      have HX := Aside0.mk hb12
      clear hb12
      go_wp2_with (first
        | (go_at_call 34; refine hadd.mono ?_; rintro e w3 ⟨rfl, hP3, hf3⟩)
        | fail)
      have hAo := HA.out
      have hb3 : Below w.heap.size w w3 := (hAo.2.2.2.trans (hba.mono hAo.2.2.2.size)).trans (hf3.below (B := w.heap.size) (by have := hAo.2.2.2.size; have := hba.size; omega) (fun k hk => by omega))
      go_roundg (N + 1 - (i + 1))
      case measure => rw [hAo.2.1]; omega
      case rel => exact ⟨i + 1, by simp, ⟨hlt, rfl, hP3.bound.mono (fun k hk => ⟨by have := hk.1; have := hba.size; have := hAo.2.2.1.lt; omega, hk.2⟩), hb3⟩⟩
    · have hAo := HA.out
      obtain rfl : i = N := by omega
      have hlen : ((List.range (min i 16)).map bytA).length = min i 16 := by simp
      have hcut := page_cut wr _ gp _ (C : Int) hAo.2.2.1
      rw [hlen] at hcut
      have hm16 : min (i : Int) 16 = ((min i 16 : Nat) : Int) := by omega
      have hbw := hAo.2.2.2
      have hlt0 := hAo.2.2.1.lt
      clear hlt
      generalize hM : min i 16 = M at *
      have hM16 : M ≤ 16 := by omega
      by_cases hc : C ≤ M
      · rw [if_pos ⟨by omega, by omega⟩, show (decide ((0 : Int) ≤ (C : Int)) && decide ((C : Int) ≤ (M : Int))) = true by simp; omega] at hcut
        have hb4' := fun (w4 : World) (hf4 : Fr (fun k => w1.heap.size ≤ k ∧ k < wr.heap.size) wr w4) => (hbw.trans (hf4.below (B := w.heap.size) hbw.size (fun k hk => by omega)) : Below w.heap.size w w4)
        by_cases hc2 : C < M
        · go_wp2_with (first
            | (go_at_call 35; refine hcut.mono ?_; rintro e w4 ⟨rfl, hP4, hf4⟩
               have hb4 := hb4' w4 hf4
               have hg4 : (((List.range M).map bytA).drop C)[(0 : Int).toNat]? = some (bytA C) := by simp [List.getElem?_range, hc2]
               have hat := page_at_in w4 _ gp _ 0 (bytA C) (rowA C) false 5 0 hP4 (Int.le_refl _) hg4 (a_get C (by omega)))
            | (go_at_call 36; refine hat.mono ?_; rintro e w5 ⟨v5, rfl, hR5, hb5⟩
               obtain ⟨A5, c5, hv5⟩ := Kd.R_slice hR5; change v5 = .slice A5 1 c5 at hv5; subst hv5
               have hC5 := (Kd.R_reads' hR5).2.1
               have hF5 := Kd.R_F (Kd.R_bound hR5))
            | (go_at_call 37; refine (page_len _ _ gp _ (hP4.below (below_alloc hb5 _))).mono ?_; rintro e w6 ⟨rfl, hd6⟩; obtain ⟨m6, rfl⟩ := hd6.out
               have hb46 : Below w4.heap.size w4 ((w5.alloc (.cells #[.slice A5 1 c5, .bool false] 31)).drewN m6) := pw_below_drewN (below_alloc hb5 _) m6
               have hbx6 : ((w5.alloc (.cells #[.slice A5 1 c5, .bool false] 31)).drewN m6).heap[w5.heap.size]? = some (.cells #[.slice A5 1 c5, .bool false] 31 (0, 0)) := blk_drewN (blk_new _ _) m6
               have hadd := page_add _ _ gp _ none 0 [] false [0] true (hP4.below hb46) (Kd.C_nil _ _) put0_)
            | (go_at_call 34; refine hadd.mono ?_; rintro e w7 ⟨rfl, hP7, hf7⟩
               have hs4 := hf4.size
               have hs46 := hb46.size
               obtain ⟨z0, z1, z2, z3⟩ := blk2 (hf7.old (k := w5.heap.size) (fun hk => by have := hb5.size; omega) hbx6)
               have hC7 := Kd.F_now (Kd.F_step (Kd.F_bound (Kd.F_below hF5 (pw_below_drewN (below_alloc (Below.refl _ _) _) m6))) (fun k hk hlt => hf7.block k hlt (fun h => by have := hk.1.2.1; omega)))
               obtain ⟨ad7, hA7, hr7, _⟩ := at_T45 hC7 0 (by decide) (by simp [rowA])
               subst hA7
               have hr7' : w7.cell? ad7 = some (.int .i32 (97 + (C : Int))) := hr7
               have hwc : IntKind.i32.wrap (C : Int) = C := by rw [IntKind.wrap_i32]; omega
               have hwd : IntKind.i32.wrap (97 + (C : Int)) = 97 + C := by rw [IntKind.wrap_i32]; omega
               have hb7 : Below w.heap.size w w7 := (hb4.trans (hb46.mono hb4.size)).trans (hf7.below (B := w.heap.size) (by have := hb4.size; omega) (fun k hk => by have := hbw.size; omega)))
            | fail)
          go_ret
          exact ⟨rfl, hb7⟩
        · go_wp2_with (first
            | (go_at_call 35; refine hcut.mono ?_; rintro e w4 ⟨rfl, hP4, hf4⟩
               have hb4 := hb4' w4 hf4
               have hat := page_at_out w4 _ gp _ 0 hP4 (.inr (by simp; omega)))
            | (go_at_call 36; refine hat.mono ?_; rintro e w5 ⟨rfl, hb5⟩)
            | (go_at_call 37; refine (page_len _ _ gp _ (hP4.below (below_alloc hb5 _))).mono ?_; rintro e w6 ⟨rfl, hd6⟩; obtain ⟨m6, rfl⟩ := hd6.out
               have hb46 : Below w4.heap.size w4 ((w5.alloc (.cells #[.slice none 0 0, .bool false] 31)).drewN m6) := pw_below_drewN (below_alloc hb5 _) m6
               have hadd := page_add _ _ gp _ none 0 [] false [0] true (hP4.below hb46) (Kd.C_nil _ _) put0_)
            | (go_at_call 34; refine hadd.mono ?_; rintro e w7 ⟨rfl, hP7, hf7⟩
               have hs4 := hf4.size
               have hb7 : Below w.heap.size w w7 := (hb4.trans (hb46.mono hb4.size)).trans (hf7.below (B := w.heap.size) (by have := hb4.size; have := hb46.size; omega) (fun k hk => by have := hbw.size; omega)))
            | fail)
          go_ret
          exact ⟨rfl, hb7⟩
      · rw [if_neg (by omega), show (decide ((0 : Int) ≤ (C : Int)) && decide ((C : Int) ≤ (M : Int))) = false by simp; omega] at hcut
        go_wp2_with (first
          | (go_at_call 35; refine hcut.mono ?_; rintro e w4 ⟨rfl, hP4, hf4⟩)
          | (go_at_call 37; refine (page_len _ _ gp _ hP4).mono ?_; rintro e w5 ⟨rfl, hd5⟩)
          | fail)
        have hb4 : Below w.heap.size w w4 := hbw.trans (hf4.below (B := w.heap.size) hbw.size (fun k hk => by omega))
        go_ret
        exact ⟨rfl, hb4.trans (hd5.below.mono hb4.size)⟩
end Go.Proofs.Ytkigdcihhlkkdaa.P
