/- StoreLimits' walk: it tells true. -/
import Derived.Test.YtkigdcihhlkkdaaFGSTurn
import Derived.Test.YtkigdcihhlkkdaaFGSLim
set_option linter.unusedVariables false
set_option linter.unusedSimpArgs false
namespace Go.Proofs.Ytkigdcihhlkkdaa.P
open Go.RowKit Go.Shelf Go.Proofs.YtkigdcihhlkkdaaW.PrintWords Go.Proofs.YtkigdcihhlkkdaaW.PrintLast Go.Proofs.YtkigdcihhlkkdaaW.PrintMore
attribute [local go_sem] Oper.semAt_some
set_option maxHeartbeats 8000000 in
set_option maxRecDepth 100000 in
theorem storeLimits_ (A0 : Option Addr) (c0 : Nat) (xs : List Int) (w : World) (hC : Kd.C (Kd.int .i64) w A0 xs.length xs) (hc0 : xs.length ≤ c0) : Calls Try.prog 15 #[.slice A0 xs.length c0] w fun e w' => e = .returned (.bool true) ∧ Below w.heap.size w w' := by
  have hl63 : xs.length ≤ 9223372036854775807 := hC.2.1
  go_enter Try.func15, Try.ntmps15
  go_wp2_with (first
    | (go_at_call 18; refine (begun4_ _).mono ?_; rintro e w1 ⟨rfl, hb1⟩)
    | (go_at_call 39; refine (store_new _ _).mono ?_; rintro e w2 ⟨gs, rfl, hgs, hS, hb2⟩)
    | fail)
  rw [show min (max (50 : Int) 0) 1000000 = 50 by decide] at hS
  have hb12 : Below w.heap.size w w2 := hb1.trans (hb2.mono hb1.size)
  have hs1 := hb1.size
  have hSb := hS.all_bnd
  clear hS hb1 hb2
  have hC0 := Aside0.mk hC
  clear hC
  go_loopg [5] (40 + 1) (fun kq v5 w' => ∃ i : Nat, v5 = .int .i64 i ∧ Aside0 (i ≤ 40 ∧ kq = 40 + 1 - i ∧ (∃ ps, StoreAt w' (fun k => w1.heap.size ≤ k ∧ k < w'.heap.size) gs 50 i 0 ps ∧ Inv ps ∧ flat ps = (List.range i).map bytX) ∧ Below w.heap.size w w'))
  case atStart => exact ⟨0, rfl, ⟨Nat.zero_le _, rfl, ⟨[], hSb, ⟨fun p hp => by simp at hp, fun p hp => by simp at hp, trivial⟩, rfl⟩, hb12⟩⟩
  case round =>
    obtain ⟨i, rfl, HA⟩ := hrel
    obtain ⟨ps, hS, hI, hfl⟩ := HA.out.2.2.1
    have hpl : (i : Int) = (flat ps).length := by rw [hfl]; simp
    by_cases hlt : i < 40
    · have hwi : IntKind.i32.wrap (256 + (i : Int)) = 256 + i := by rw [IntKind.wrap_i32]; omega
      have hwa : IntKind.i64.wrap (256 + (i : Int)) = 256 + i := by rw [IntKind.wrap_i64]; omega
      have hw1 : IntKind.i64.wrap ((i : Int) + 1) = i + 1 := by rw [IntKind.wrap_i64]; omega
      have hba : Below wr.heap.size wr (wr.alloc (.cells #[.int .i32 (256 + (i : Int)), .int .i64 1, .int .i64 0] 45)) := below_alloc (Below.refl _ _) _
      have hadd := store_add (wr.alloc (.cells #[.int .i32 (256 + (i : Int)), .int .i64 1, .int .i64 0] 45)) _ gs 50 i 0 ps (some ⟨wr.heap.size, 0, none⟩) 1 (rowX i) false (bytX i) (hS.below hba) hI hpl (by omega) (by omega) (by omega) (by omega) (fun k => k = wr.heap.size) (F_block (blk_new wr _) (by simp [rowX])) (fun k hk hk2 => by omega) (fun w h => x_may i (by omega) w _ 1 (by simp [rowX]) h) (fun w h => x_put i (by omega) w _ 1 (by simp [rowX]) h)
      have HX := Aside0.mk hb12
      have hS0 := hS
      have HL := Aside0.mk hl63
      clear hb12 hpl hS hI hl63
      go_wp2_with (first
        | (go_at_call 40; refine hadd.mono ?_; rintro e w3 ⟨rfl, ps3, n3, g3, hS3, hI3, hfl3, hn3, hg3, hf3⟩
           obtain rfl : n3 = (i : Int) + 1 := by omega
           obtain rfl : g3 = 0 := by omega
           clear hn3 hg3)
        | fail)
      have hAo := HA.out
      have hb3 : Below w.heap.size w w3 := (hAo.2.2.2.trans (hba.mono hAo.2.2.2.size)).trans (hf3.below (B := w.heap.size) (by have := hAo.2.2.2.size; have := hba.size; omega) (fun k hk => by omega))
      go_roundg (40 + 1 - (i + 1))
      case measure => rw [hAo.2.1]; omega
      case rel => exact ⟨i + 1, by simp, ⟨hlt, rfl, ⟨_, hS3.all_bnd.mono (fun k hk => ⟨by have := hk.1; have := hba.size; have := hS0.lt; omega, hk.2⟩), hI3.bnd, by rw [flat_bnd, hfl3, hfl, List.range_succ, List.map_append]; simp⟩, hb3⟩⟩
    · have hAo := HA.out
      obtain rfl : i = 40 := by omega
      clear hpl
      replace hfl := Aside0.mk hfl
      clear hlt
      have hbw := hAo.2.2.2
      clear HA hAo
      rename World => wv
      go_upto_region 12 with (fail)
      have hSx := Aside0.mk (And.intro hS (And.intro hI hfl.out))
      have hlv := hS.lt
      clear hS hI hfl hSb
      go_loopg [6, 7] (xs.length + 1) (fun kq v6 v7 w' => ∃ j l : Nat, v7 = .int .i64 j ∧ v6 = .int .i64 l ∧ Aside0 (j ≤ xs.length ∧ kq = xs.length + 1 - j ∧ l ≤ 40 ∧ (∃ ps lim, StoreAt w' (fun k => w1.heap.size ≤ k ∧ k < wv.heap.size) gs lim l (40 - (l : Int)) ps ∧ Inv ps ∧ flat ps = ((List.range 40).map bytX).drop (40 - l)) ∧ Below w.heap.size w w' ∧ wv.heap.size ≤ w'.heap.size))
      case atStart => exact ⟨0, 40, rfl, rfl, ⟨Nat.zero_le _, rfl, Nat.le_refl _, ⟨_, _, hSx.out.1, hSx.out.2.1, hSx.out.2.2⟩, hbw, Nat.le_refl _⟩⟩
      case round =>
        obtain ⟨j, l, rfl, rfl, HB⟩ := hrel
        obtain ⟨ps2, lim, hS, hI, hfl⟩ := HB.out.2.2.2.1
        have hC := Kd.C_below hC0.out HB.out.2.2.2.2.1
        have HX := Aside0.mk (And.intro hb12 (And.intro hs1 (And.intro hbw hlv)))
        clear hb12 hs1 hbw hlv
        by_cases hlt : j < xs.length ∧ j < 15
        · obtain ⟨hlt1, hlt2⟩ := hlt
          obtain ⟨ad, rfl, hrd⟩ := Kd.at_int hC (j : Int) (by omega) (by omega)
          have hrd0 := hrd
          rw [Int.toNat_natCast] at hrd
          obtain ⟨x, hrx⟩ : ∃ x, rd xs (j : Int) = x := ⟨_, rfl⟩
          rw [hrx] at hrd
          have hl40 : l ≤ 40 := HB.out.2.2.1
          have hset := store_setlim wr _ gs lim l (40 - (l : Int)) ps2 x hS hI (by rw [hfl]; simp; omega) (by omega) (by omega) (by omega)
          obtain ⟨l', hl'⟩ : ∃ k : Nat, min (l : Int) (max 0 x) = k := ⟨(min (l : Int) (max 0 x)).toNat, by omega⟩
          have hll : l' ≤ l := by omega
          have hcl : max 0 (min x 1000000) = min (max x 0) 1000000 := by omega
          have hws : IntKind.i64.wrap (40 - (l' : Int)) = 40 - l' := by rw [IntKind.wrap_i64]; omega
          have hwm : IntKind.i64.wrap ((l' : Int) - 1) = l' - 1 := by rw [IntKind.wrap_i64]; omega
          have hw1 : IntKind.i64.wrap ((j : Int) + 1) = j + 1 := by rw [IntKind.wrap_i64]; omega
          have HI := Aside0.mk (And.intro hS (And.intro hI (And.intro hfl hll)))
          have HC := Aside0.mk hC
          have hlx := Aside0.mk hl40
          clear hS hI hfl hC hrd0 hll hl40
          go_upto_region 15 with (first
            | (go_at_call 46; refine hset.mono ?_; rintro e w3 ⟨rfl, ps3, n3, g3, hS3, hI3, hf3, hn3, hg3, hfr3⟩
               obtain rfl : n3 = (l' : Int) := by have := hlx.out; omega
               obtain rfl : g3 = 40 - (l' : Int) := by omega
               have hf3' : flat ps3 = ((List.range 40).map bytX).drop (40 - l') := by
                 rw [hf3, HI.out.2.2.1, List.drop_drop]
                 congr 1
                 have := HI.out.2.2.2
                 have := hlx.out
                 omega
               have h44 := fun m => store_len (w3.drewN m) _ gs _ _ _ _ (hS3.step (W' := w3.drewN m) (fun _ _ _ => rfl))
               have h45 := fun m => store_gone (w3.drewN m) _ gs _ _ _ _ (hS3.step (W' := w3.drewN m) (fun _ _ _ => rfl))
               have h47 := fun m => store_limit (w3.drewN m) _ gs _ _ _ _ (hS3.step (W' := w3.drewN m) (fun _ _ _ => rfl))
               have hb3 : Below w.heap.size w w3 := HB.out.2.2.2.2.1.trans (hfr3.below (B := w.heap.size) HB.out.2.2.2.2.1.size (fun k hk => by have := HX.out.2.1; omega))
               obtain ⟨ad3, had3, hrd3⟩ := Kd.at_int (Kd.C_below hC0.out hb3) (j : Int) (by omega) (by omega)
               obtain rfl := Option.some.inj had3
               rw [hrx, Int.toNat_natCast] at hrd3
               have HF := Aside0.mk (And.intro hf3' (And.intro hI3 (And.intro hS3 (And.intro hfr3 hb3))))
               clear hb3
               clear hn3 hg3 hf3 hf3' hI3 hS3 hfr3 hset)
            | fail)
          rw [← hcl] at h47
          go_quiet ((first
            | (go_at_call 44; exact Calls.quiet_of ((h44 _).mono (fun e w1 h => ⟨h.1, h.2.out⟩)))
            | (go_at_call 45; exact Calls.quiet_of ((h45 _).mono (fun e w1 h => ⟨h.1, h.2.out⟩)))
            | (go_at_call 47; exact Calls.quiet_of ((h47 _).mono (fun e w1 h => ⟨h.1, h.2.out⟩)))))
          have hll := HI.out.2.2.2
          have hl40 := hlx.out
          by_cases hz : l' = 0
          · subst hz
            have hat := fun m => store_at_out (w3.drewN m) _ gs _ _ _ _ (-1) (HF.out.2.2.1.step (W' := w3.drewN m) (fun _ _ _ => rfl)) (.inl (by decide))
            go_upto_region 18 with (first
              | (go_at_call 43; refine (hat _).mono ?_; rintro e w5 ⟨rfl, hb5⟩)
              | fail)
            have hbe : Below w3.heap.size w3 (w5.alloc (.cells #[.slice none 0 0, .bool false] 31)) := below_alloc (Below.trans (pw_below_drewN (Below.refl _ _) nq) hb5) _
            have hSe := HF.out.2.2.1.below hbe
            have hb3 := HF.out.2.2.2.2
            have hbz := hb3.trans (hbe.mono hb3.size)
            have hkq := HB.out.2.1
            have hsv := HB.out.2.2.2.2.2
            have hs3 := HF.out.2.2.2.1.size
            have hse := hbe.size
            go_wp2
            go_roundg (xs.length + 1 - (j + 1))
            case measure => rw [hkq]; omega
            case rel => exact ⟨j + 1, 0, by simp, rfl, ⟨by omega, rfl, by omega, ⟨_, _, hSe, HF.out.2.1, HF.out.1⟩, hbz, by omega⟩⟩
          · have hb39 : (flat ps3)[((l' : Int) - 1).toNat]? = some (bytX 39) := by
              rw [HF.out.1, show ((l' : Int) - 1).toNat = l' - 1 by omega, List.getElem?_drop, List.getElem?_map, List.getElem?_range (by omega), show 40 - l' + (l' - 1) = 39 by omega]
              rfl
            have hat := fun m => store_at_in (w3.drewN m) _ gs _ _ _ ps3 ((l' : Int) - 1) (bytX 39) (rowX 39) false 6 0 (HF.out.2.2.1.step (W' := w3.drewN m) (fun _ _ _ => rfl)) HF.out.2.1 (by rw [HF.out.1]; simp; omega) (by omega) (by omega) hb39 (x_get 39 (by decide))
            go_upto_region 18 with (first
              | (go_at_call 43; refine (hat _).mono ?_; rintro e w5 ⟨v5, rfl, hR5, hb5⟩
                 obtain ⟨A5, c5, hv5⟩ := Kd.R_slice hR5; change v5 = .slice A5 1 c5 at hv5; subst hv5
                 have hC5 := (Kd.R_reads' hR5).2.2
                 obtain ⟨ad5, hA5, _⟩ := hC5.2.2 (by simp [rowX])
                 subst hA5
                 obtain ⟨g5, hg5⟩ := Kd.R_head hR5
                 subst hg5
                 obtain ⟨ad6, hA6, hr6, _⟩ := at_T45 (Kd.C_below hC5 (below_alloc (Below.refl _ _) (.cells #[.slice (some ⟨g5, 0, none⟩) 1 c5, .bool false] 31))) 0 (by decide) (by simp [rowX])
                 obtain rfl := Option.some.inj hA6
                 have hr6' : (w5.alloc (.cells #[.slice (some ⟨g5, 0, none⟩) 1 c5, .bool false] 31)).cell? ⟨g5, 0, none⟩ = some (.int .i32 295) := hr6
                 clear hr6 hC5 hR5)
              | fail)
            have hbe : Below w3.heap.size w3 (w5.alloc (.cells #[.slice (some ⟨g5, 0, none⟩) 1 c5, .bool false] 31)) := below_alloc (Below.trans (pw_below_drewN (Below.refl _ _) nq) hb5) _
            have hSe := HF.out.2.2.1.below hbe
            have hb3 := HF.out.2.2.2.2
            have hbz := hb3.trans (hbe.mono hb3.size)
            have hkq := HB.out.2.1
            have hsv := HB.out.2.2.2.2.2
            have hs3 := HF.out.2.2.2.1.size
            have hse := hbe.size
            go_wp2
            go_roundg (xs.length + 1 - (j + 1))
            case measure => rw [hkq]; omega
            case rel => exact ⟨j + 1, l', by simp, rfl, ⟨by omega, rfl, by omega, ⟨_, _, hSe, HF.out.2.1, HF.out.1⟩, hbz, by omega⟩⟩
        · by_cases hj : j < xs.length
          · have hj15 : ¬ j < 15 := fun h => hlt ⟨hj, h⟩
            go_wp2
            go_ret
            exact ⟨rfl, HB.out.2.2.2.2.1⟩
          · go_wp2
            go_ret
            exact ⟨rfl, HB.out.2.2.2.2.1⟩
end Go.Proofs.Ytkigdcihhlkkdaa.P
