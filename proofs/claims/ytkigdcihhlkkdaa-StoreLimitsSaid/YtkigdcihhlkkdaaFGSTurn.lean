/- StoreTurn's walk: it tells true. -/
import Derived.Test.YtkigdcihhlkkdaaFGLit
import Derived.Test.YtkigdcihhlkkdaaFGPFull
set_option linter.unusedVariables false
set_option linter.unusedSimpArgs false
namespace Go.Proofs.Ytkigdcihhlkkdaa.P
open Go.RowKit Go.Shelf Go.Proofs.YtkigdcihhlkkdaaW.PrintWords Go.Proofs.YtkigdcihhlkkdaaW.PrintLast Go.Proofs.YtkigdcihhlkkdaaW.PrintMore
attribute [local go_sem] Oper.semAt_some
theorem addX (i L : Nat) : (((List.range i).map bytX).drop (i - min i L) ++ [bytX i]).drop (min i L + 1 - min (i + 1) L) = ((List.range (i + 1)).map bytX).drop (i + 1 - min (i + 1) L) := by
  rw [← List.drop_append_of_le_length (by simp), List.drop_drop, List.range_succ, List.map_append]
  congr 1
  omega
set_option maxHeartbeats 8000000 in
set_option maxRecDepth 100000 in
theorem storeTurn_ (limit n : Int) (w : World) : Calls Try.prog 14 #[.int .i64 limit, .int .i64 n] w fun e w' => e = .returned (.bool true) ∧ Below w.heap.size w w' := by
  obtain ⟨L, hL, hL40⟩ := mod_nat limit 40 (by decide) (by decide)
  obtain ⟨N, hN, hN90⟩ := mod_nat n 90 (by decide) (by decide)
  go_enter Try.func14, Try.ntmps14
  go_wp2_with (first
    | (go_at_call 18; refine (begun4_ _).mono ?_; rintro e w1 ⟨rfl, hb1⟩)
    | (go_at_call 39; refine (store_new _ _).mono ?_; rintro e w2 ⟨gs, rfl, hgs, hS, hb2⟩)
    | fail)
  rw [hN, hL] at *
  rw [show min (max (L : Int) 0) 1000000 = L by omega] at hS
  have hb12 : Below w.heap.size w w2 := hb1.trans (hb2.mono hb1.size)
  have hs1 := hb1.size
  have hSb := hS.all_bnd
  clear hS hb1 hb2
  go_loopg [7] (N + 1) (fun kq v7 w' => ∃ i : Nat, v7 = .int .i64 i ∧ Aside0 (i ≤ N ∧ kq = N + 1 - i ∧ (∃ ps, StoreAt w' (fun k => w1.heap.size ≤ k ∧ k < w'.heap.size) gs L ((min i L : Nat) : Int) ((i - min i L : Nat) : Int) ps ∧ Inv ps ∧ flat ps = ((List.range i).map bytX).drop (i - min i L)) ∧ Below w.heap.size w w'))
  case atStart => exact ⟨0, rfl, ⟨Nat.zero_le _, rfl, ⟨[], hSb, ⟨fun p hp => by simp at hp, fun p hp => by simp at hp, trivial⟩, rfl⟩, hb12⟩⟩
  case round =>
    obtain ⟨i, rfl, HA⟩ := hrel
    obtain ⟨ps, hS, hI, hfl⟩ := HA.out.2.2.1
    have hpl : (((min i L : Nat) : Int)) = (flat ps).length := by rw [hfl]; simp; omega
    by_cases hlt : i < N
    · have hwi : IntKind.i32.wrap (256 + (i : Int)) = 256 + i := by rw [IntKind.wrap_i32]; omega
      have hwa : IntKind.i64.wrap (256 + (i : Int)) = 256 + i := by rw [IntKind.wrap_i64]; omega
      have hw1 : IntKind.i64.wrap ((i : Int) + 1) = i + 1 := by rw [IntKind.wrap_i64]; omega
      have hw2 : IntKind.i64.wrap ((i : Int) + 1 - L) = i + 1 - L := by rw [IntKind.wrap_i64]; omega
      have hba : Below wr.heap.size wr (wr.alloc (.cells #[.int .i32 (256 + (i : Int)), .int .i64 1, .int .i64 0] 45)) := below_alloc (Below.refl _ _) _
      have hadd := store_add (wr.alloc (.cells #[.int .i32 (256 + (i : Int)), .int .i64 1, .int .i64 0] 45)) _ gs L ((min i L : Nat) : Int) ((i - min i L : Nat) : Int) ps (some ⟨wr.heap.size, 0, none⟩) 1 (rowX i) false (bytX i) (hS.below hba) hI hpl (by omega) (by omega) (by omega) (by omega) (fun k => k = wr.heap.size) (F_block (blk_new wr _) (by simp [rowX])) (fun k hk hk2 => by omega) (fun w h => x_may i (by omega) w _ 1 (by simp [rowX]) h) (fun w h => x_put i (by omega) w _ 1 (by simp [rowX]) h)
      have HX := Aside0.mk hb12
      have hS0 := hS
      clear hb12 hpl hS hI
      go_wp2_with (first
        | (go_at_call 40; refine hadd.mono ?_; rintro e w3 ⟨rfl, ps3, n3, g3, hS3, hI3, hfl3, hn3, hg3, hf3⟩
           obtain rfl : n3 = ((min (i + 1) L : Nat) : Int) := by omega
           obtain rfl : g3 = ((i + 1 - min (i + 1) L : Nat) : Int) := by omega
           have h45 := fun m => store_gone (w3.drewN m) _ gs _ _ _ _ (hS3.step (W' := w3.drewN m) (fun _ _ _ => rfl)))
        | (go_at_call 44; refine (store_len _ _ _ _ _ _ _ hS3).mono ?_; rintro e w4 ⟨rfl, hd4⟩; obtain ⟨m4, rfl⟩ := hd4.out)
        | (go_at_call 45; refine (h45 _).mono ?_; rintro e w5 ⟨rfl, hd5⟩; obtain ⟨m5, rfl⟩ := hd5.out)
        | fail)
      have hAo := HA.out
      have hb3 : Below w.heap.size w w3 := (hAo.2.2.2.trans (hba.mono hAo.2.2.2.size)).trans (hf3.below (B := w.heap.size) (by have := hAo.2.2.2.size; have := hba.size; omega) (fun k hk => by omega))
      go_roundg (N + 1 - (i + 1))
      case measure => rw [hAo.2.1]; omega
      case rel => exact ⟨i + 1, by simp, ⟨hlt, rfl, ⟨_, (hS3.all_bnd.mono (fun k hk => ⟨by have := hk.1; have := hba.size; have := hS0.lt; omega, hk.2⟩)).step (fun _ _ _ => rfl), hI3.bnd, by rw [flat_bnd, hfl3, hfl, show (((min i L : Nat) : Int) + 1 - ((min (i + 1) L : Nat) : Int)).toNat = min i L + 1 - min (i + 1) L by omega]; exact addX i L⟩, pw_below_drewN hb3 _⟩⟩
    · have hAo := HA.out
      obtain rfl : i = N := by omega
      clear hlt
      have hSw := hS
      have hbw := hAo.2.2.2
      generalize hM : min i L = M at *
      go_upto_region 12 with (fail)
      clear HA
      rename World => wv
      go_loopg [8] (M + 1) (fun kq v8 w' => ∃ j : Nat, v8 = .int .i64 j ∧ Aside0 (j ≤ M ∧ kq = M + 1 - j ∧ Below wv.heap.size wv w'))
      case atStart => exact ⟨0, rfl, ⟨Nat.zero_le _, rfl, Below.refl _ _⟩⟩
      case round =>
        obtain ⟨j, rfl, HB⟩ := hrel
        have hSr := hS.below HB.out.2.2
        have hB2 := Aside0.mk (And.intro hb12 hbw)
        have hM2 : M ≤ i ∧ M ≤ 40 := by omega
        clear hb12 hbw hAo
        by_cases hlt : j < M
        · have hb : (flat ps)[(j : Int).toNat]? = some (bytX (i - M + j)) := by
            rw [hfl, Int.toNat_natCast, List.getElem?_drop, List.getElem?_map, List.getElem?_range (by omega)]
            rfl
          have hat := fun m => store_at_in (wr.drewN m) _ gs L M _ ps j (bytX (i - M + j)) (rowX (i - M + j)) false 6 0 (hSr.step (W' := wr.drewN m) (fun _ _ _ => rfl)) hI hpl (by omega) (by omega) hb (x_get (i - M + j) (by omega))
          have hw1 : IntKind.i64.wrap ((j : Int) + 1) = j + 1 := by rw [IntKind.wrap_i64]; omega
          have hw2 : IntKind.i64.wrap ((i : Int) - L) = i - L := by rw [IntKind.wrap_i64]; omega
          have hw3 : IntKind.i64.wrap (256 + max 0 ((i : Int) - L)) = 256 + (i - M : Nat) := by rw [IntKind.wrap_i64]; omega
          have hw4 : IntKind.i64.wrap (256 + ((i - M : Nat) : Int) + j) = 256 + (i - M : Nat) + j := by rw [IntKind.wrap_i64]; omega
          have hw5 : IntKind.i32.wrap (256 + ((i - M : Nat) : Int) + j) = 256 + ((i - M + j : Nat) : Int) := by rw [IntKind.wrap_i32]; omega
          go_wp2_with (first
            | (go_at_call 44; refine (store_len _ _ _ _ _ _ _ hSr).mono ?_; rintro e w4 ⟨rfl, hd4⟩; obtain ⟨m4, rfl⟩ := hd4.out)
            | (go_at_call 43; refine (hat _).mono ?_; rintro e w5 ⟨v5, rfl, hR5, hb5⟩
               obtain ⟨A5, c5, hv5⟩ := Kd.R_slice hR5; change v5 = .slice A5 1 c5 at hv5; subst hv5
               have hC5 := (Kd.R_reads' hR5).2.2
               obtain ⟨ad5, hA5, _⟩ := hC5.2.2 (by simp [rowX])
               subst hA5
               obtain ⟨g5, hg5⟩ := Kd.R_head hR5
               subst hg5
               obtain ⟨ad6, hA6, hr6, _⟩ := at_T45 (Kd.C_below hC5 (below_alloc (Below.refl _ _) (.cells #[.slice (some ⟨g5, 0, none⟩) 1 c5, .bool false] 31))) 0 (by decide) (by simp [rowX])
               obtain rfl := Option.some.inj hA6
               have hr6' : (w5.alloc (.cells #[.slice (some ⟨g5, 0, none⟩) 1 c5, .bool false] 31)).cell? ⟨g5, 0, none⟩ = some (.int .i32 (256 + ((i - M + j : Nat) : Int))) := hr6
               clear hr6 hC5 hR5)
            | fail)
          go_roundg (M + 1 - (j + 1))
          case measure => rw [HB.out.2.1]; omega
          case rel => exact ⟨j + 1, by simp, ⟨hlt, rfl, (pw_below_drewN HB.out.2.2 m4).trans ((below_alloc hb5 _).mono HB.out.2.2.size)⟩⟩
        · go_wp2_with (first
            | (go_at_call 44; refine (store_len _ _ _ _ _ _ _ hSr).mono ?_; rintro e w4 ⟨rfl, hd4⟩; obtain ⟨m4, rfl⟩ := hd4.out)
            | fail)
          go_ret
          exact ⟨rfl, pw_below_drewN (hB2.out.2.trans (HB.out.2.2.mono hB2.out.2.size)) _⟩
end Go.Proofs.Ytkigdcihhlkkdaa.P
