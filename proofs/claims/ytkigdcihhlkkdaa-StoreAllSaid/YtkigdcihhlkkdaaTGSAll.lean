/- StoreAll's walk: it tells true. -/
import Derived.Test.YtkigdcihhlkkdaaTZ17
import Derived.Test.YtkigdcihhlkkdaaTZ18
set_option linter.unusedVariables false
set_option linter.unusedSimpArgs false
namespace Go.Proofs.Ytkigdcihhlkkdaa.P
open Go.RowKit Go.Shelf Go.Proofs.YtkigdcihhlkkdaaW.PrintWords Go.Proofs.YtkigdcihhlkkdaaW.PrintLast Go.Proofs.YtkigdcihhlkkdaaW.PrintMore Go.Proofs.Ytkigdcihhlkkdaa.Pure
attribute [local go_sem] Oper.semAt_some
attribute [local go_sem] max2_int min2_int max_two min_two
def tab_16_16 : Bool × List (List Nat × List Nat) := (true, [([], []), ([], []), ([0, 1], [0, 1]), ([], []), ([3, 2], [3]), ([2, 4], [2, 4])])
theorem tab_16_16_ : rtab .any (opsOf Try.f16 16) = tab_16_16 := by kernel_rfl
def tab_16_30 : Bool × List (List Nat × List Nat) := (true, [([], []), ([], []), ([1], [1]), ([2], [2]), ([3], [3]), ([3], [3]), ([5, 3], [3, 5]), ([4, 6, 3], [3, 4, 6]), ([3, 7], [3, 7]), ([0, 8], [0, 8]), ([9, 3], [9]), ([10], [10]), ([11, 10, 10], [10, 11]), ([12], [12]), ([12], [12]), ([12], [12]), ([14, 15, 12], [12, 14, 15]), ([16, 12], [12, 16]), ([13, 17, 12, 12], [12, 13, 17]), ([18, 12], [12, 18]), ([12, 19, 10], [10, 12, 19]), ([10, 20], [10, 20])])
theorem tab_16_30_ : rtab .any (opsOf Try.f16 30) = tab_16_30 := by kernel_rfl
structure IM (W : World) (gs : Nat) (vw : Value) (xs : List S31) (most : Nat) (n : Nat) (gone : Nat) (w : World) : Prop where
  ex : ∃ (okS okW : Nat → Prop) (ps : List Pg), StoreAt w okS gs (most : Int) (n : Int) (gone : Int) ps ∧ Inv ps ∧ flat ps = (xs.map rb).drop (xs.length - n) ∧ Kd.NQ k31 31 w 0 okW vw xs ∧ (∀ k, okS k → ¬ okW k) ∧ (∀ k, okS k → W.heap.size ≤ k ∧ k < w.heap.size) ∧ (∀ k, okW k → W.heap.size ≤ k ∧ k < w.heap.size)
  be : Below W.heap.size W w
  go : ∀ z ∈ xs, good z
  eq : n = min xs.length most
theorem clamp_ (x : Int) : ∃ (m : Nat) (y : Int), min (max x 0) 1000000 = (m : Int) ∧ m ≤ 1000000 ∧ (if 1000000 < x then 1000000 else x) = y ∧ (if 0 < y then y else 0) = (m : Int) := by
  refine ⟨(min (max x 0) 1000000).toNat, _, by omega, by omega, rfl, ?_⟩
  split <;> split <;> omega
section
variable {W w w' : World} {gs most n gone : Nat} {vw : Value} {xs : List S31}
theorem IM.next (h : IM W gs vw xs most n gone w) (hb : Below w.heap.size w w') : IM W gs vw xs most n gone w' := by
  obtain ⟨⟨okS, okW, ps, hS, hI, hf, hN, hd, hbS, hbW⟩, be, go, eq⟩ := h
  exact ⟨⟨okS, okW, ps, hS.below hb, hI, hf, Kd.NQ_below hN hb, hd, fun k hk => ⟨(hbS k hk).1, Nat.lt_of_lt_of_le (hbS k hk).2 hb.size⟩, fun k hk => ⟨(hbW k hk).1, Nat.lt_of_lt_of_le (hbW k hk).2 hb.size⟩⟩, be.trans (hb.mono be.size), go, eq⟩
theorem IM.slice (h : IM W gs vw xs most n gone w) : ∃ A c, vw = .slice A xs.length c ∧ xs.length ≤ c := by
  obtain ⟨_, okW, _, _, _, _, hN, _⟩ := h.ex
  exact Kd.NQ_slice hN
theorem IM_lim {wr : World} (h : IM W gs vw xs most xs.length gone wr) (hb : Below wr.heap.size wr w) (x : Int) (m : Nat) (hm : min (max x 0) 1000000 = (m : Int)) (hx : xs.length ≤ 1000) (hg : gone ≤ 1000) :
    Calls Try.prog 46 #[.pointer (some ⟨gs, 0, none⟩), .int .i64 x] w fun e w' => e = .returned (.tuple #[]) ∧ ∃ n' g' : Nat, IM W gs vw xs m n' g' w' ∧ g' + n' = gone + xs.length ∧ ∀ k o, wr.heap.size ≤ k → w.heap[k]? = some o → w'.heap[k]? = some o := by
  have h2 := h.next hb
  obtain ⟨⟨okS, okW, ps, hS, hI, hf, hN, hd, hbS, hbW⟩, be, go, eq⟩ := h
  have be2 := h2.be
  replace hS := hS.below hb
  replace hN := Kd.NQ_below hN hb
  rw [Nat.sub_self, List.drop_zero] at hf
  have hl : ((xs.length : Nat) : Int) = (flat ps).length := by rw [hf, List.length_map]
  refine (store_setlim w okS gs _ _ _ ps x hS hI hl (by omega) (by omega) (by omega)).mono ?_
  rintro e w' ⟨rfl, ps', n', g', hS', hI', hf', hn', hg', hfr⟩
  rw [hm] at hS' hn'
  obtain rfl : n' = ((min xs.length m : Nat) : Int) := by omega
  obtain rfl : g' = ((gone + xs.length - min xs.length m : Nat) : Int) := by omega
  have hsz := hfr.size
  have hs2 := be2.size
  have hsb := hb.size
  refine ⟨rfl, min xs.length m, gone + xs.length - min xs.length m, ⟨⟨okS, okW, ps', hS', hI', ?_, Kd.NQ_step hN (fun k hk hlt => hfr.block k hlt (fun h => hd k h hk)), hd, fun k hk => by have := hbS k hk; omega, fun k hk => by have := hbW k hk; omega⟩, be2.trans (hfr.below (B := W.heap.size) hs2 (fun k hk => (hbS k hk).1)), go, rfl⟩, by omega, fun k o hk ho => hfr.old (fun h => by have := (hbS k h).2; omega) ho⟩
  rw [hf', hf]
  congr 1
  omega
theorem IM_more {wa wb w3 w5 w6 : World} {okS okW : Nat → Prop} {ps3 : List Pg} {n3 g3 : Int} {p : S31} {X : List Int} {w2s : Nat} {v1 : Value} (hNa : Kd.NQ k31 31 wa 0 okW vw xs) (hab : Below wa.heap.size wa wb) (hS3 : StoreAt w3 (fun k => okS k ∨ wb.heap.size ≤ k) gs (most : Int) n3 g3 ps3) (hI3 : Inv ps3)
    (hf3 : flat ps3 = (xs.map rb ++ [X]).drop ((xs.length : Int) + 1 - n3).toNat) (hX : rb p = X) (hn3 : n3 = min ((xs.length : Int) + 1) most) (hg3 : g3 + n3 = gone + xs.length + 1) (hfr3 : Fr okS wb w3) (h35 : Below w3.heap.size w3 w5) (hd : ∀ k, okS k → ¬ okW k) (hbS : ∀ k, okS k → W.heap.size ≤ k ∧ k < wa.heap.size)
    (hbW : ∀ k, okW k → W.heap.size ≤ k ∧ k < wa.heap.size) (be : Below W.heap.size W wa) (hgo : ∀ z ∈ xs, good z) (hgp : good p) (h2s : w2s ≤ wb.heap.size) (hg : w5.grownBy w6 vw.ownBlock)
    (hN6 : Kd.NQ k31 31 w6 0 (fun k => okW k ∨ w5.heap.size ≤ k ∨ (wa.heap.size ≤ k ∧ k < w2s)) v1 (xs ++ [p])) : ∃ n' g' : Nat, IM W gs v1 (xs ++ [p]) most n' g' w6 ∧ g' + n' = gone + (xs ++ [p]).length := by
  have z1 := be.size
  have z2 := hab.size
  have z3 := hfr3.size
  have z5 := h35.size
  have hf6 : Fr okW w5 w6 := Fr.of_grown hg (fun k hk => hNa.1 k hk)
  have z6 := hf6.size
  have hS5 := hS3.all_bnd.below h35
  have hS6 := hS5.fr hf6 (fun k hk hW => by
    have := hbW k hW
    rcases hk.1 with h | h
    · exact hd k h hW
    · omega)
  have hlen : (xs ++ [p]).length = xs.length + 1 := by rw [List.length_append]; rfl
  obtain rfl : n3 = ((min (xs.length + 1) most : Nat) : Int) := by omega
  obtain rfl : g3 = ((gone + xs.length + 1 - min (xs.length + 1) most : Nat) : Int) := by omega
  refine ⟨min (xs.length + 1) most, gone + xs.length + 1 - min (xs.length + 1) most, ⟨⟨_, _, _, hS6, hI3.bnd, ?_, Kd.NQ_bound hN6, fun k hk hW => ?_, fun k hk => ?_, fun k hk => ?_⟩, (((be.trans (hab.mono z1)).trans (hfr3.below (B := W.heap.size) (by omega) (fun k hk => (hbS k hk).1))).trans (h35.mono (by omega))).trans (hf6.below (B := W.heap.size) (by omega) (fun k hk => (hbW k hk).1)), fun z hz => ?_, by rw [hlen]⟩, by rw [hlen]; omega⟩
  · rw [flat_bnd, hf3, hlen, List.map_append, ← hX]
    congr 1
    omega
  · rcases hk.1 with h | h
    · rcases hW.1 with h' | h' | h'
      · exact hd k h h'
      · have := hbS k h; omega
      · have := hbS k h; omega
    · have h3 := hk.2
      rcases hW.1 with h' | h' | h'
      · have := hbW k h'; omega
      · omega
      · omega
  · have h3 := hk.2
    rcases hk.1 with h | h
    · have := hbS k h; omega
    · omega
  · have h3 := hk.2
    rcases hk.1 with h | h | h
    · have := hbW k h; omega
    · omega
    · omega
  · rcases List.mem_append.1 hz with h | h
    · exact hgo z h
    · rw [List.mem_singleton.1 h]; exact hgp
theorem IM_drop1 {A : Option Addr} {c : Nat} (h : IM W gs (.slice A xs.length c) xs most n gone w) (hn : most < xs.length) : IM W gs (.slice (if c = 1 then A else A.map (·.add (1 * 2))) (xs.length - 1) (c - 1)) (xs.drop 1) most n gone w := by
  obtain ⟨⟨okS, okW, ps, hS, hI, hf, hN, hd, hbS, hbW⟩, be, go, eq⟩ := h
  refine ⟨⟨okS, okW, ps, hS, hI, ?_, Kd.NQ_drop hN (k := 1) (by omega), hd, hbS, hbW⟩, be, fun z hz => go z (List.mem_of_mem_drop hz), by rw [List.length_drop]; omega⟩
  rw [hf, List.map_drop, List.drop_drop, List.length_drop]
  congr 1
  omega
end
set_option maxHeartbeats 16000000 in
set_option maxRecDepth 100000 in
theorem storeAll_ (lim : Int) (A0 : Option Addr) (c0 : Nat) (l : List S70) (w : World) (hop : ∀ j x, l[j]? = some x → ∃ ad, A0 = some ad ∧ OpAt w (ad.add (j * 4)) x) (hc : l.length ≤ c0) (hz : ∀ x ∈ l, ∀ c ∈ x.z.f0, in32 c) :
    Calls Try.prog 16 #[.int .i64 lim, .slice A0 l.length c0] w fun e w' => e = .returned (.bool true) ∧ Below w.heap.size w w' := by
  obtain ⟨m0, y0, hm0, hm0l, hy0, hy1⟩ := clamp_ lim
  have hop' := Aside0.mk hop
  clear hop
  go_enter Try.func16, Try.ntmps16
  go_upto_region 9 with (first
    | (go_at_call 18; refine (begun4_ _).mono ?_; rintro e w1 ⟨rfl, hb1⟩)
    | (go_at_call 39; refine (store_new _ _).mono ?_; rintro e w2 ⟨gs, rfl, hgs, hS, hb2⟩)
    | fail)
  rw [hm0] at hS
  have hs1 := hb1.size
  have hI0 : IM w gs (.slice none 0 0) [] m0 0 0 w2 := ⟨⟨_, fun _ => False, _, hS.all_bnd, ⟨fun p hp => by simp at hp, fun p hp => by simp at hp, trivial⟩, rfl, Kd.NQ_nil _ _ _ _ _, fun _ _ h => h, fun k hk => ⟨by have := hk.1; omega, hk.2⟩, fun _ h => h.elim⟩, hb1.trans (hb2.mono hb1.size), by simp, by simp⟩
  clear hS hb1 hb2 hgs hy0 hy1
  go_loopg [7, 8, 9, 10] 61 (fun kq v7 v8 v9 v10 w' => ∃ (i most gone : Nat) (xs : List S31), v10 = .int .i64 i ∧ v7 = .int .i64 most ∧ v9 = .int .i64 gone ∧ Aside0 (i ≤ l.length ∧ i ≤ 60 ∧ kq = 61 - i ∧ gone + xs.length ≤ i ∧ most ≤ 1000000 ∧ IM w gs v8 xs most xs.length gone w'))
  case atStart => exact ⟨0, m0, 0, [], rfl, rfl, rfl, ⟨Nat.zero_le _, Nat.zero_le _, rfl, Nat.le_refl _, hm0l, hI0⟩⟩
  case round =>
    obtain ⟨i, most, gone, xs, rfl, rfl, rfl, HA⟩ := hrel
    obtain ⟨Av, cv, rfl, hcv⟩ := HA.out.2.2.2.2.2.slice
    by_cases hlt : i < l.length ∧ i < 60
    · obtain ⟨hlt1, hlt2⟩ := hlt
      have hw1 : IntKind.i64.wrap ((i : Int) + 1) = (i : Int) + 1 := by rw [IntKind.wrap_i64]; omega
      have hbw := HA.out.2.2.2.2.2.be
      obtain ⟨ad, rfl, A1, c1, o0, o1, o2, o3, hc1, hC1⟩ := hop'.out i _ (List.getElem?_eq_getElem hlt1)
      have hin := hz _ (List.getElem_mem hlt1)
      replace o0 := pw_cell_below hbw o0
      replace o1 := pw_cell_below hbw o1
      replace o2 := pw_cell_below hbw o2
      replace o3 := pw_cell_below hbw o3
      replace hC1 := Kd.C_below hC1 hbw
      generalize l[i] = x at o0 o1 o2 o3 hc1 hC1 hin
      obtain ⟨xk, xn, zs, zb⟩ := x
      dsimp only at o0 o1 o2 o3 hc1 hC1 hin
      go_upto_region 12 with (fail)
      obtain ⟨wa, hwa⟩ : ∃ wa, wa = wr.alloc (.cells #[.int .i64 xk, .int .i64 xn, .slice A1 zs.length c1, .bool zb] 70) := ⟨_, rfl⟩
      rw [← hwa]
      have hXa : wa.heap[wr.heap.size]? = some (.cells #[.int .i64 xk, .int .i64 xn, .slice A1 zs.length c1, .bool zb] 70 (0, 0)) := by rw [hwa]; exact blk_new _ _
      have hba : Below wr.heap.size wr wa := by rw [hwa]; exact below_alloc (Below.refl _ _) _
      have hIa := HA.out.2.2.2.2.2.next hba
      have hCa := Kd.C_below hC1 hba
      have hgl := HA.out.2.2.2.1
      have hml := HA.out.2.2.2.2.1
      clear hwa hC1 o0 o1 o2 o3 hbw
      obtain ⟨⟨b0, b1, b2, b3⟩, _⟩ := blk4 hXa
      have hIh := Aside0.mk hIa
      go_upto_if 43 with (fail)
      go_cut [7, 8, 12] (fun v7 v8 v12 wc => ∃ (most' n' g' : Nat) (xs' : List S31), v7 = .int .i64 most' ∧ g' + n' = gone + xs'.length ∧ gone + xs'.length ≤ i + 1 ∧ most' ≤ 1000000 ∧ IM w gs v8 xs' most' n' g' wc)
      case first =>
        by_cases hk : xk = 1
        · subst hk
          obtain ⟨m1, y1, hm1, hm1l, hy1, hy2⟩ := clamp_ xn
          have h46 := IM_lim HA.out.2.2.2.2.2 hba xn m1 hm1 (by omega) (by omega)
          clear hIa hm1
          go_wp2_with (first
            | (go_at_call 46; refine h46.mono ?_; rintro e w3 ⟨rfl, n', g', hI3, hgn, hkp⟩
               have hX3 := hkp _ _ (Nat.le_refl _) hXa
               obtain ⟨⟨e0, e1, e2, e3⟩, _⟩ := blk4 hX3
               clear h46 hkp)
            | fail)
          go_meet
          case rel => exact ⟨m1, n', g', xs, rfl, hgn, by omega, hm1l, hI3⟩
        · have hk2 : (xk == 1) = false := by simp [hk]
          have hrow := lawRow_ A1 c1 zs zb wa hCa hc1
          have htk : (zs.take 310).length ≤ 310 := by rw [List.length_take]; omega
          have hin' : ∀ x ∈ zs.take 310, in32 x := fun x hx => hin x (List.mem_of_mem_take hx)
          generalize zs.take 310 = q at hrow htk hin'
          have hmr := Aside0.mk (may_ref q hin')
          have hin2 := Aside0.mk hin'
          clear hin hin'
          go_upto_region 16 with (first
            | (go_at_call 23; refine hrow.mono ?_; rintro e w2 ⟨v2, rfl, hR2, hb2⟩
               obtain ⟨A2, c2, hv2⟩ := Kd.R_slice hR2; subst hv2
               clear hrow)
            | fail)
          obtain ⟨wb, hwb⟩ : ∃ wb, wb = w2.alloc (.cells #[.slice A2 q.length c2, .bool zb] 31) := ⟨_, rfl⟩
          rw [← hwb]
          have hXb : wb.heap[w2.heap.size]? = some (.cells #[.slice A2 q.length c2, .bool zb] 31 (0, 0)) := by rw [hwb]; exact blk_new _ _
          have hb2b : Below w2.heap.size w2 wb := by rw [hwb]; exact below_alloc (Below.refl _ _) _
          have hc2 := (Kd.R_reads' hR2).2.1
          have hFb := Kd.F_below (Kd.R_F (Kd.R_mono (ok' := fun k => wa.heap.size ≤ k ∧ k < w2.heap.size) (Kd.R_bound hR2) (fun k hk => ⟨hk.2.1, hk.2.2.1⟩))) hb2b
          have hab := hb2.trans (hb2b.mono hb2.size)
          have hsz2 := hb2.size
          have hszb := blk_lt hXb
          clear hwb hR2 hb2 hb2b
          obtain ⟨⟨okS, okW, ps, hS, hI, hf, hN, hd, hbS, hbW⟩, be, hgo, -⟩ := hIh.out
          rw [Nat.sub_self, List.drop_zero] at hf
          have hSw := hS.below hab
          have hFd := Kd.F_below hFb (show Below wb.heap.size wb wb.drew from below_drew1 (Below.refl _ _))
          have hmrq := hmr.out
          cases hm : mayB q
          case false =>
            rw [hm] at hmrq
            have h27 := fun (W : World) (h : Kd.C k45 W A2 q.length q) => refRow_ A2 c2 q zb W h hc2 (by omega)
            rw [← hmrq] at h27
            clear hmrq
            have hadd := store_add_no wb.drew okS gs _ _ _ ps A2 c2 q zb (hSw.below (below_drew1 (Below.refl _ _))) (Kd.F_now hFd) (fun w h => may_no q zb hm (by omega) A2 c2 hc2 w h)
            have HS0 : wb.drew.heap[w2.heap.size]? = some (.cells #[.slice A2 q.length c2, .bool zb] 31 (0, 0)) := blk_drew hXb
            refine start_ (n := 6) (S := (fun w' : World => w'.heap[w2.heap.size]? = some (.cells #[.slice A2 q.length c2, .bool zb] 31 (0, 0)))) (ds := []) (bl_ [0, 6]) (by kernel_rfl) (by kernel_rfl) rfl HS0 (fun _ => ?_)
            refine with_tab tab_16_16_ (fun HT_ => ?_)
            refine takes_ [0, 1, 3] 3 (bl_ [2, 1, 1, 2]) rfl HT_.out (by kernel_rfl) HS0 (a' := ?_) ?_ ?_
            rotate_left
            · repeat (first | exact rfl | (refine tkN rfl rfl (fun _ _ _ h => h) (by rfl) (by simp only [Act.put, List.setIfInBounds_toArray, List.set_cons_zero, List.set_cons_succ, i64_w, i32_w]; rfl) ?_) | (refine tkY rfl rfl (fun _ _ _ h => h) (by rfl) (fun w' hw' => by (obtain ⟨t0, t1, _, _⟩ := blk2 hw'; go_simp; with_reducible rfl)) (by simp only [Act.put, List.setIfInBounds_toArray, List.set_cons_zero, List.set_cons_succ, i64_w, i32_w]; rfl) ?_))
            refine one_ (i := 2) (N := some 57) (bl_ [4, 2]) rfl rfl (one_of HT_.out (by kernel_rfl)) (by decide) (fun K hK => ?_)
            refine goes_ Try.func40 (by kernel_rfl) rfl #[.pointer (some ⟨gs, 0, none⟩), .agg #[.slice A2 q.length c2, .bool zb]] (by rfl) rfl rfl (by (try simp only [List.map_toArray, List.map_cons, List.map_nil]); first | done | rfl) ?_
            refine hadd.mono ?_
            rintro e w3 ⟨rfl, hb3⟩
            have HS3 := blk_below HS0 hb3
            have hF3 := Kd.F_below hFd hb3
            refine ⟨_, rfl, hK.out _ _ HS3 (fun _ => ?_)⟩
            refine norm_ (a' := ?_) ?_ ?_
            rotate_left
            · show Act.put _ (some 57) _ = _
              simp only [Act.put, List.setIfInBounds_toArray, List.set_cons_zero, List.set_cons_succ]
              rfl
            refine one_ (i := 4) (N := some 59) (bl_ [5, 1]) rfl rfl (one_of HT_.out (by kernel_rfl)) (by decide) (fun K hK => ?_)
            refine goes_ Try.func27 (by kernel_rfl) rfl #[.agg #[.slice A2 q.length c2, .bool zb]] (by rfl) rfl rfl (by (try simp only [List.map_toArray, List.map_cons, List.map_nil]); first | done | rfl) ?_
            refine (h27 _ (Kd.F_now hF3)).mono ?_
            rintro e w4 ⟨rfl, hb4⟩
            have HS4 := blk_below HS3 hb4
            have hF4 := Kd.F_below hF3 hb4
            refine ⟨_, rfl, hK.out _ _ HS4 (fun _ => ?_)⟩
            refine norm_ (a' := ?_) ?_ ?_
            rotate_left
            · show Act.put _ (some 59) _ = _
              simp only [Act.put, List.setIfInBounds_toArray, List.set_cons_zero, List.set_cons_succ]
              rfl
            refine takes_ [5] 0 (bl_ [6]) rfl HT_.out (by kernel_rfl) HS4 (a' := ?_) ?_ ?_
            rotate_left
            · repeat (first | exact rfl | (refine tkN rfl rfl (fun _ _ _ h => h) (by rfl) (by simp only [Act.put, List.setIfInBounds_toArray, List.set_cons_zero, List.set_cons_succ, i64_w, i32_w]; rfl) ?_) | (refine tkY rfl rfl (fun _ _ _ h => h) (by rfl) (fun w' hw' => by (obtain ⟨t0, t1, _, _⟩ := blk2 hw'; go_simp; with_reducible rfl)) (by simp only [Act.put, List.setIfInBounds_toArray, List.set_cons_zero, List.set_cons_succ, i64_w, i32_w]; rfl) ?_))
            refine done_ (done_of HT_.out (by kernel_rfl)) ?_
            obtain ⟨t0, t1, _, _⟩ := blk2 HS4
            have h27b := h27 _ (Kd.F_now hF4)
            clear h27
            go_wp2_with (first
              | (go_at_call 27; refine h27b.mono ?_; rintro e w5 ⟨rfl, hb5⟩; clear h27b)
              | fail)
            have hb35 := (hb3.trans (hb4.mono hb3.size)).trans (hb5.mono (hb3.trans (hb4.mono hb3.size)).size)
            have hbd : Below wa.heap.size wa w5 := hab.trans ((SB.next (W := wb) (below_drew1 (Below.refl _ _)) hb35 : Below wb.heap.size wb w5).mono hab.size)
            go_meet
            case rel => exact ⟨most, xs.length, gone, xs, rfl, rfl, by omega, hml, hIh.out.next hbd⟩
          case true =>
            rw [hm] at hmrq
            have h27 := fun (W : World) (h : Kd.C k45 W A2 q.length q) => refRow_ A2 c2 q zb W h hc2 (by omega)
            rw [← hmrq] at h27
            clear hmrq
            have hadd := store_add wb.drew okS gs _ _ _ ps A2 c2 q zb (rowB q zb) (hSw.below (below_drew1 (Below.refl _ _))) hI (by rw [hf, List.length_map]) (by omega) (by omega) (by omega) (by omega) (fun k => wa.heap.size ≤ k ∧ k < w2.heap.size) hFd (fun k hk hk2 => by have := hbS k hk2; omega) (fun w h => may_t q zb hm A2 c2 hc2 w h) (fun w h => put_t q zb hm A2 c2 hc2 w h)
            have HS0 : wb.drew.heap[w2.heap.size]? = some (.cells #[.slice A2 q.length c2, .bool zb] 31 (0, 0)) := blk_drew hXb
            refine start_ (n := 6) (S := (fun w' : World => w'.heap[w2.heap.size]? = some (.cells #[.slice A2 q.length c2, .bool zb] 31 (0, 0)))) (ds := []) (bl_ [0, 6]) (by kernel_rfl) (by kernel_rfl) rfl HS0 (fun _ => ?_)
            refine with_tab tab_16_16_ (fun HT_ => ?_)
            refine takes_ [0, 1, 3] 3 (bl_ [2, 1, 1, 2]) rfl HT_.out (by kernel_rfl) HS0 (a' := ?_) ?_ ?_
            rotate_left
            · repeat (first | exact rfl | (refine tkN rfl rfl (fun _ _ _ h => h) (by rfl) (by simp only [Act.put, List.setIfInBounds_toArray, List.set_cons_zero, List.set_cons_succ, i64_w, i32_w]; rfl) ?_) | (refine tkY rfl rfl (fun _ _ _ h => h) (by rfl) (fun w' hw' => by (obtain ⟨t0, t1, _, _⟩ := blk2 hw'; go_simp; with_reducible rfl)) (by simp only [Act.put, List.setIfInBounds_toArray, List.set_cons_zero, List.set_cons_succ, i64_w, i32_w]; rfl) ?_))
            refine one_ (i := 2) (N := some 57) (bl_ [4, 2]) rfl rfl (one_of HT_.out (by kernel_rfl)) (by decide) (fun K hK => ?_)
            refine goes_ Try.func40 (by kernel_rfl) rfl #[.pointer (some ⟨gs, 0, none⟩), .agg #[.slice A2 q.length c2, .bool zb]] (by rfl) rfl rfl (by (try simp only [List.map_toArray, List.map_cons, List.map_nil]); first | done | rfl) ?_
            refine hadd.mono ?_
            rintro e w3 ⟨rfl, ps3, n3, g3, hS3, hI3, hf3, hn3, hg3, hfr3⟩
            have HS3 := hfr3.old (fun h => by have := hbS _ h; omega) HS0
            have hF3 := Kd.F_step hFd (fun k hk hlt => hfr3.block k hlt (fun h => by have := hbS _ h; omega))
            refine ⟨_, rfl, hK.out _ _ HS3 (fun _ => ?_)⟩
            refine norm_ (a' := ?_) ?_ ?_
            rotate_left
            · show Act.put _ (some 57) _ = _
              simp only [Act.put, List.setIfInBounds_toArray, List.set_cons_zero, List.set_cons_succ]
              rfl
            refine one_ (i := 4) (N := some 59) (bl_ [5, 1]) rfl rfl (one_of HT_.out (by kernel_rfl)) (by decide) (fun K hK => ?_)
            refine goes_ Try.func27 (by kernel_rfl) rfl #[.agg #[.slice A2 q.length c2, .bool zb]] (by rfl) rfl rfl (by (try simp only [List.map_toArray, List.map_cons, List.map_nil]); first | done | rfl) ?_
            refine (h27 _ (Kd.F_now hF3)).mono ?_
            rintro e w4 ⟨rfl, hb4⟩
            have HS4 := blk_below HS3 hb4
            have hF4 := Kd.F_below hF3 hb4
            refine ⟨_, rfl, hK.out _ _ HS4 (fun _ => ?_)⟩
            refine norm_ (a' := ?_) ?_ ?_
            rotate_left
            · show Act.put _ (some 59) _ = _
              simp only [Act.put, List.setIfInBounds_toArray, List.set_cons_zero, List.set_cons_succ]
              rfl
            refine takes_ [5] 0 (bl_ [6]) rfl HT_.out (by kernel_rfl) HS4 (a' := ?_) ?_ ?_
            rotate_left
            · repeat (first | exact rfl | (refine tkN rfl rfl (fun _ _ _ h => h) (by rfl) (by simp only [Act.put, List.setIfInBounds_toArray, List.set_cons_zero, List.set_cons_succ, i64_w, i32_w]; rfl) ?_) | (refine tkY rfl rfl (fun _ _ _ h => h) (by rfl) (fun w' hw' => by (obtain ⟨t0, t1, _, _⟩ := blk2 hw'; go_simp; with_reducible rfl)) (by simp only [Act.put, List.setIfInBounds_toArray, List.set_cons_zero, List.set_cons_succ, i64_w, i32_w]; rfl) ?_))
            refine done_ (done_of HT_.out (by kernel_rfl)) ?_
            obtain ⟨t0, t1, _, _⟩ := blk2 HS4
            have h27b := h27 _ (Kd.F_now hF4)
            have hQQ := Aside0.mk (And.intro hS3 (And.intro hI3 (And.intro hf3 (And.intro hn3 (And.intro hg3 hfr3)))))
            have hN4 := Kd.NQ_step (Kd.NQ_below hN hab) (w1 := w3) (fun k hk hlt => (hfr3.block k hlt (fun h => hd k h hk)))
            have hN4b := Kd.NQ_below hN4 hb4
            have hpp := Aside0.mk (And.intro hN (And.intro hd (And.intro hbS (And.intro hbW (And.intro be (And.intro hgo hf))))))
            have hz24 : wa.heap.size ≤ w4.heap.size := by have := hab.size; have := hfr3.size; have := hb4.size; simp at *; omega
            clear hS3 hI3 hf3 hn3 hg3 hfr3 hf hN4 h27 hd hgo
            go_wp2_with (first
              | (go_at_call 27; refine h27b.mono ?_; rintro e w5 ⟨rfl, hb5⟩; clear h27b t0 t1
                 obtain ⟨t0, t1, _, _⟩ := blk2 (blk_below HS4 hb5)
                 have hF5 := Kd.F_below hF4 hb5
                 have hN5 := Kd.NQ_below hN4b hb5
                 have hz45 := hb5.size)
              | ((with_reducible refine gate_builtin (b := .append) rfl ?_)
                 refine Kd.NQ_append (w0 := w5) (W := w5) k31 0 (by rfl) (.tmp 63) (.tmp 65) 47 31 _ 32 (by rfl) Try.underlying47 info31m rfl (by decide) (by decide) (.slice Av xs.length cv) xs ⟨q, zb⟩ [.slice A2 q.length c2, .bool zb] (fun k => okW k ∨ w5.heap.size ≤ k ∨ (wa.heap.size ≤ k ∧ k < w2.heap.size)) (fun k => wa.heap.size ≤ k ∧ k < w2.heap.size) (by rfl) (by rfl) (fun W' hW => k31_mk W' ⟨q, zb⟩ hc2 (hF5 W' hW)) (fun k hk => ⟨.inr (.inr hk), fun e => by have := hbW k (hN5.1 k e.symm); omega⟩) (fun k hk => .inr (.inl hk)) (Kd.NQ_mono hN5 (fun k hk => .inl hk)) (Below.refl _ _) (Nat.zero_le _) (by omega) ?_
                 intro v1 w6 hq6 hb6 hg6 hat6)
              | fail)
            have hp := hpp.out
            obtain ⟨hS3, hI3, hf3, hn3, hg3, hfr3⟩ := hQQ.out
            rw [hp.2.2.2.2.2.2] at hf3
            obtain ⟨n', g', hIM, hgn⟩ := IM_more (p := ⟨q, zb⟩) hp.1 (hab.trans ((below_drew1 (Below.refl _ _) : Below wb.heap.size wb wb.drew).mono hab.size)) hS3 hI3 hf3 rfl hn3 hg3 hfr3 (hb4.trans (hb5.mono hb4.size)) hp.2.1 hp.2.2.1 hp.2.2.2.1 hp.2.2.2.2.1 hp.2.2.2.2.2.1 ⟨hm, hin2.out⟩ (by simp; omega) hg6 hq6
            go_meet
            case rel => exact ⟨most, n', g', xs ++ [⟨q, zb⟩], rfl, hgn, by rw [List.length_append]; simp; omega, hml, hIM⟩
      case rest =>
        obtain ⟨most', n', g', xs', rfl, hgn, hgi, hml', hIM⟩ := hcut
        obtain ⟨A8, c8, rfl, hc8⟩ := hIM.slice
        have hHA := Aside0.mk (And.intro HA.out.1 (And.intro HA.out.2.1 HA.out.2.2.1))
        clear HA hIh hgl hml hcv hm0 hm0l b0 b1 b2 b3 hXa hCa hc1 hin
        rename World => wc
        go_upto_region 20 with (fail)
        go_loopg [8, 9] (xs'.length + 1) (fun kq v8 v9 w' => ∃ (g0 : Nat) (ys : List S31), v9 = .int .i64 g0 ∧ Aside0 (kq = ys.length + 1 ∧ g' + n' = g0 + ys.length ∧ g0 + ys.length ≤ i + 1 ∧ IM w gs v8 ys most' n' g' w'))
        case atStart => exact ⟨gone, xs', rfl, ⟨rfl, hgn, hgi, hIM⟩⟩
        case round =>
          obtain ⟨g0, ys, rfl, HB⟩ := hrel
          obtain ⟨A9, c9, rfl, hc9⟩ := HB.out.2.2.2.slice
          rename World => wd
          have hb1 := HB.out.2.1
          have hb2 := HB.out.2.2.1
          by_cases hlt : most' < ys.length
          · have hd1 := IM_drop1 HB.out.2.2.2 hlt
            obtain ⟨i0, hi0, _, hsz, _⟩ := info_parts info31m
            have hcut := cut_from (P := Try.prog) 47 31 .i64 Try.underlying47 hi0 2 hsz A9 ys.length c9 1 (by decide) (by omega)
            rw [show ((1 : Int)).toNat = 1 from rfl] at hcut
            obtain ⟨A', hA'⟩ : ∃ A', (if c9 = 1 then A9 else A9.map (·.add (1 * 2))) = A' := ⟨_, rfl⟩
            rw [hA'] at hd1 hcut
            have hlt2 : (most' : Int) < (ys.length : Int) := by omega
            have hwg : IntKind.i64.wrap ((g0 : Int) + 1) = (g0 : Int) + 1 := by rw [IntKind.wrap_i64]; omega
            clear hi0 hsz hA'
            go_wp2
            go_roundg ys.length
            case measure => rw [HB.out.1]; omega
            case rel => exact ⟨g0 + 1, ys.drop 1, by simp, ⟨by rw [List.length_drop]; omega, by rw [List.length_drop]; omega, by rw [List.length_drop]; omega, hd1⟩⟩
          · have hIy := HB.out.2.2.2
            have hny : n' = ys.length := by have := hIy.eq; omega
            subst hny
            obtain rfl : g' = g0 := by omega
            obtain ⟨okS, okW, ps, hS, _⟩ := hIy.ex
            have h44 := store_len wd _ gs _ _ _ ps hS
            have h47 := fun m => store_limit (wd.drewN m) _ gs _ _ _ ps (hS.step (W' := wd.drewN m) (fun _ _ _ => rfl))
            have h45 := fun m => store_gone (wd.drewN m) _ gs _ _ _ ps (hS.step (W' := wd.drewN m) (fun _ _ _ => rfl))
            have hlt2 : ¬ (most' : Int) < (ys.length : Int) := by omega
            have hIz := Aside0.mk hIy
            clear hIy hS HB
            go_wp2_with (first
              | (go_at_call 44; refine h44.mono ?_; rintro e w5 ⟨rfl, hd5⟩; obtain ⟨m5, rfl⟩ := hd5.out; clear h44 hd5)
              | (go_at_call 47; refine (h47 _).mono ?_; rintro e w6 ⟨rfl, hd6⟩; obtain ⟨m6, rfl⟩ := hd6.out; clear h47 hd6)
              | (go_at_call 45; refine (h45 _).mono ?_; rintro e w7 ⟨rfl, hd7⟩; obtain ⟨m7, rfl⟩ := hd7.out; clear h45 hd7)
              | fail)
            go_roundg (61 - (i + 1))
            case measure => rw [hHA.out.2.2]; omega
            case rel => exact ⟨i + 1, most', g', ys, by simp, rfl, rfl, ⟨by omega, by omega, rfl, hb2, hml', hIz.out.next (pw_below_drewN (Below.refl _ _) _)⟩⟩
    · have hIy := HA.out.2.2.2.2.2
      have hgl := HA.out.2.2.2.1
      have hi60 := HA.out.2.1
      clear HA
      have hex : (i < l.length ∧ ¬ i < 60) ∨ ¬ i < l.length := by omega
      rcases hex with ⟨hx1, hx2⟩ | hx1
      all_goals (try clear hlt); go_upto_region 27 with (fail)
      all_goals
        clear hx1; (try clear hx2)
        obtain ⟨⟨okS, okW, ps, hS, hI, hfl, hN, hdd, hbS, hbW⟩, hbe, hgo, -⟩ := hIy
        rw [Nat.sub_self, List.drop_zero] at hfl
        have hCw := (Kd.NQ_reads' hN).2.2
        clear hN
        rename World => wv
        go_loopg [13, 14] (xs.length + 3) (fun kq v13 v14 w' => ∃ j : Nat, v14 = .int .i64 ((j : Int) - 1) ∧ v13 = .int .i64 (sumLen ((xs.map rb).take (j - 1)) : Nat) ∧ Aside0 (j ≤ xs.length + 2 ∧ kq = xs.length + 3 - j ∧ SB wv w'))
        case atStart => exact ⟨0, rfl, by simp [sumLen], ⟨Nat.zero_le _, rfl, Below.refl _ _⟩⟩
        case round =>
          obtain ⟨j, rfl, rfl, HB⟩ := hrel
          rename World => wr2
          by_cases hlt : j ≤ xs.length + 1
          · by_cases hin : 1 ≤ j ∧ j ≤ xs.length
            · obtain ⟨n, rfl⟩ : ∃ n, j = n + 1 := ⟨j - 1, by omega⟩
              have hn : n < xs.length := by omega
              have hHB := HB.out.2.2
              rw [show ((((n + 1 : Nat) : Int)) - 1) = (n : Int) by omega, Nat.add_sub_cancel]
              have hsn := sum_next xs n hn
              have hrw := rd_row xs n hn
              have hsm := sum_small xs (fun z hz => (hgo z hz).1)
              have hsl := sumLen_le (xs.map rb) n
              have hgz := hgo _ (flatB_drop xs n hn).2
              obtain ⟨ad7, A2, c2, hA7, s0, s1, hc2, hC2⟩ := at_T31 hCw (n : Int) (by omega) (by omega)
              subst hA7
              rw [Int.toNat_natCast] at s0 s1
              generalize rd_T31 xs (n : Int) = z at s0 s1 hc2 hC2 hsn hrw hgz
              obtain ⟨q, zb⟩ := z
              obtain ⟨hm, hiq⟩ := hgz
              dsimp only at s0 s1 hc2 hC2 hm hiq
              have hql := mayB_len hm
              have hXl := rowB_len (b := zb) hm
              have hyes : refRowB q = true := by rw [← may_ref q hiq]; exact hm
              have hat := store_at_in wr2 okS gs _ _ _ ps (n : Int) (rb ⟨q, zb⟩) q zb _ 0 (hS.below hHB) hI (by rw [hfl, List.length_map]) (by omega) (by omega) (by rw [hfl]; exact hrw) (get_t q zb hm)
              rw [show decide ((0 : Int) = 0) = true from rfl] at hat
              have h25 := fun (W : World) (h : SB wv W) => putRow_yes A2 c2 q zb W (Kd.C_below hC2 h) hc2 (by omega) hiq hyes
              obtain ⟨X, hX⟩ : ∃ X, rowB q zb = X := ⟨_, rfl⟩
              rw [hX] at hXl h25
              rw [show rb ⟨q, zb⟩ = X from hX] at hsn
              obtain ⟨B, hB⟩ : ∃ B, sumLen ((xs.map rb).take n) = B := ⟨_, rfl⟩
              rw [hB] at hsn hsl ⊢
              have hwB : IntKind.i64.wrap ((B : Int) + (X.length : Int)) = (B : Int) + (X.length : Int) := by rw [IntKind.wrap_i64]; omega
              have hwn : IntKind.i64.wrap ((n : Int) + 1) = (n : Int) + 1 := by rw [IntKind.wrap_i64]; omega
              have hn0 : (0 : Int) ≤ (n : Int) := by omega
              have hn1 : (n : Int) ≤ xs.length := by omega
              have hn2 : (n : Int) < xs.length := by omega
              have hsx := Aside0.mk hsn
              clear hsn hrw hsm hsl hX hB hiq hyes hS hgo hin hlt
              go_upto_region 30 with (first
                | (go_at_call 43; refine hat.mono ?_; rintro e w5 ⟨v5, rfl, hR5, hb5⟩
                   obtain ⟨A5, c5, hv5⟩ := Kd.R_slice hR5; subst hv5
                   clear hat)
                | fail)
              obtain ⟨wa, hwa⟩ : ∃ wa, wa = w5.alloc (.cells #[.slice A5 q.length c5, .bool zb] 31) := ⟨_, rfl⟩
              rw [← hwa]
              have hXa : wa.heap[w5.heap.size]? = some (.cells #[.slice A5 q.length c5, .bool zb] 31 (0, 0)) := by rw [hwa]; exact blk_new _ _
              have hba : Below w5.heap.size w5 wa := by rw [hwa]; exact below_alloc (Below.refl _ _) _
              have hBa : SB wv wa := SB.next (SB.next hHB hb5) hba
              have hCa : Kd.C k45 wa A5 q.length q := Kd.C_below (Kd.R_reads' hR5).2.2 hba
              have hc5 := (Kd.R_reads' hR5).2.1
              have HX : ∀ w', SB wa w' → w'.cell? (ad7.add (n * 2)) = some (.slice A2 q.length c2) ∧ w'.cell? ⟨(ad7.add (n * 2)).block, (ad7.add (n * 2)).off + 1, none⟩ = some (.bool zb) ∧ w'.cell? ⟨w5.heap.size, 0, none⟩ = some (.slice A5 q.length c5) ∧ w'.cell? ⟨w5.heap.size, 1, none⟩ = some (.bool zb) := fun w' h => ⟨pw_cell_below (SB.next hBa h) s0, pw_cell_below (SB.next hBa h) s1, (blk2 (blk_below hXa h)).1, (blk2 (blk_below hXa h)).2.1⟩
              have HD0 : SB wa wa.drew := below_drew1 (Below.refl _ _)
              clear hwa hXa hba hR5 hb5 s0 s1
              refine start_ (n := 22) (S := SB wa) (ds := []) (bl_ [0, 22]) (by kernel_rfl) (by kernel_rfl) rfl HD0 (fun _ => ?_)
              refine with_tab tab_16_30_ (fun HT_ => ?_)
              refine takes_ (List.range' 0 18) 4 (bl_ [18, 4]) rfl HT_.out (by kernel_rfl) HD0 (a' := ?_) ?_ ?_
              rotate_left
              · repeat (first | exact rfl | (refine tkN rfl rfl (fun _ _ _ h => h) (by rfl) (by simp only [Act.put, List.setIfInBounds_toArray, List.set_cons_zero, List.set_cons_succ, i64_w, i32_w]; rfl) ?_) | (refine tkY rfl rfl (fun _ _ _ h => h) (by rfl) (fun w' hw' => by (obtain ⟨s0, s1, t0, t1⟩ := HX w' hw'; go_simp; with_reducible rfl)) (by simp only [Act.put, List.setIfInBounds_toArray, List.set_cons_zero, List.set_cons_succ, i64_w, i32_w]; rfl) ?_))
              refine one_ (i := 18) (N := some 122) (bl_ [19, 3]) rfl rfl (one_of HT_.out (by kernel_rfl)) (by decide) (fun K hK => ?_)
              refine goes_ Try.func29 (by kernel_rfl) rfl #[.agg #[.slice A5 q.length c5, .bool zb], .agg #[.slice A2 q.length c2, .bool zb]] (by rfl) rfl rfl (by (try simp only [List.map_toArray, List.map_cons, List.map_nil]); first | done | rfl) ?_
              have h29 := eqRow_ A5 c5 q zb A2 c2 q zb wa.drew (Kd.C_below hCa HD0) hc5 (Kd.C_below hC2 (SB.next hBa HD0)) hc2 (by omega)
              rw [eqB_self] at h29
              refine h29.mono ?_
              rintro e w7 ⟨rfl, hb7⟩
              have HD7 := SB.next HD0 hb7
              refine ⟨_, rfl, hK.out _ _ HD7 (fun _ => ?_)⟩
              refine norm_ (a' := ?_) ?_ ?_
              rotate_left
              · show Act.put _ (some 122) _ = _
                simp only [Act.put, List.setIfInBounds_toArray, List.set_cons_zero, List.set_cons_succ]
                rfl
              refine takes_ (List.range' 19 3) 0 (bl_ [22]) rfl HT_.out (by kernel_rfl) HD7 (a' := ?_) ?_ ?_
              rotate_left
              · repeat (first | exact rfl | (refine tkN rfl rfl (fun _ _ _ h => h) (by rfl) (by simp only [Act.put, List.setIfInBounds_toArray, List.set_cons_zero, List.set_cons_succ, i64_w, i32_w]; rfl) ?_) | (refine tkY rfl rfl (fun _ _ _ h => h) (by rfl) (fun w' hw' => by (obtain ⟨s0, s1, t0, t1⟩ := HX w' hw'; go_simp; with_reducible rfl)) (by simp only [Act.put, List.setIfInBounds_toArray, List.set_cons_zero, List.set_cons_succ, i64_w, i32_w]; rfl) ?_))
              refine done_ (done_of HT_.out (by kernel_rfl)) ?_
              obtain ⟨s0, s1, _, _⟩ := HX w7 HD7
              have h25b := h25 w7 (SB.next hBa HD7)
              clear h25 HX h29
              go_wp2_with (first
                | (go_at_call 25; refine h25b.mono ?_; rintro e w8 ⟨v8, rfl, hR8, hb8⟩
                   obtain ⟨A8, c8, hv8⟩ := Kd.R_slice hR8; subst hv8
                   clear h25b hR8)
                | fail)
              go_roundg (xs.length + 3 - (n + 1 + 1))
              case measure => rw [HB.out.2.1]; omega
              case rel => exact ⟨n + 1 + 1, by simp, by rw [Nat.add_sub_cancel, hsx.out]; simp, ⟨by omega, rfl, SB.next (SB.next hBa HD7) hb8⟩⟩
            · by_cases hj0 : j = 0
              · subst hj0
                have e1 : (((0 : Nat) : Int) - 1) = -1 := rfl
                rw [e1]
                have hHB := HB.out.2.2
                have hat := store_at_out wr2 okS gs _ _ _ ps (-1) (hS.below hHB) (by first | (left; omega) | (right; omega))
                go_upto_region 30 with (first
                  | (go_at_call 43; refine hat.mono ?_; rintro e w5 ⟨rfl, hb5⟩; clear hat)
                  | fail)
                obtain ⟨wa, hwa⟩ : ∃ wa, wa = w5.alloc (.cells #[.slice none 0 0, .bool false] 31) := ⟨_, rfl⟩
                rw [← hwa]
                have hXa : wa.heap[w5.heap.size]? = some (.cells #[.slice none 0 0, .bool false] 31 (0, 0)) := by rw [hwa]; exact blk_new _ _
                have hba : Below w5.heap.size w5 wa := by rw [hwa]; exact below_alloc (Below.refl _ _) _
                have hBa : SB wv wa := SB.next (SB.next hHB hb5) hba
                have HX : ∀ w', SB wa w' → w'.cell? ⟨w5.heap.size, 0, none⟩ = some (.slice none 0 0) ∧ w'.cell? ⟨w5.heap.size, 1, none⟩ = some (.bool false) := fun w' h => ⟨(blk2 (blk_below hXa h)).1, (blk2 (blk_below hXa h)).2.1⟩
                have HD0 : SB wa wa.drew := below_drew1 (Below.refl _ _)
                clear hwa hXa hba hb5
                refine start_ (n := 22) (S := SB wa) (ds := []) (bl_ [0, 22]) (by kernel_rfl) (by kernel_rfl) rfl HD0 (fun _ => ?_)
                refine with_tab tab_16_30_ (fun HT_ => ?_)
                refine takes_ (List.range' 0 18) 4 (bl_ [18, 4]) rfl HT_.out (by kernel_rfl) HD0 (a' := ?_) ?_ ?_
                rotate_left
                · repeat (first | exact rfl | (refine tkN rfl rfl (fun _ _ _ h => h) (by rfl) (by simp only [Act.put, List.setIfInBounds_toArray, List.set_cons_zero, List.set_cons_succ, i64_w, i32_w]; rfl) ?_) | (refine tkY rfl rfl (fun _ _ _ h => h) (by rfl) (fun w' hw' => by (obtain ⟨t0, t1⟩ := HX w' hw'; go_simp; with_reducible rfl)) (by simp only [Act.put, List.setIfInBounds_toArray, List.set_cons_zero, List.set_cons_succ, i64_w, i32_w]; rfl) ?_))
                refine takes_ (List.range' 18 4) 0 (bl_ [22]) rfl HT_.out (by kernel_rfl) HD0 (a' := ?_) ?_ ?_
                rotate_left
                · repeat (first | exact rfl | (refine tkN rfl rfl (fun _ _ _ h => h) (by rfl) (by simp only [Act.put, List.setIfInBounds_toArray, List.set_cons_zero, List.set_cons_succ, i64_w, i32_w]; rfl) ?_) | (refine tkY rfl rfl (fun _ _ _ h => h) (by rfl) (fun w' hw' => by (obtain ⟨t0, t1⟩ := HX w' hw'; go_simp; with_reducible rfl)) (by simp only [Act.put, List.setIfInBounds_toArray, List.set_cons_zero, List.set_cons_succ, i64_w, i32_w]; rfl) ?_))
                refine done_ (done_of HT_.out (by kernel_rfl)) ?_
                go_wp2
                go_roundg (xs.length + 3 - (0 + 1))
                case measure => rw [HB.out.2.1]; omega
                case rel => exact ⟨0 + 1, by simp, by simp [sumLen], ⟨by omega, rfl, SB.next hBa HD0⟩⟩
              · obtain ⟨n, rfl⟩ : ∃ n, j = n + 1 := ⟨j - 1, by omega⟩
                obtain rfl : n = xs.length := by omega
                rw [show ((((xs.length + 1 : Nat) : Int)) - 1) = (xs.length : Int) by omega, Nat.add_sub_cancel]
                have hwn : IntKind.i64.wrap ((xs.length : Int) + 1) = (xs.length : Int) + 1 := by rw [IntKind.wrap_i64]; omega
                have hn0 : (0 : Int) ≤ (xs.length : Int) := by omega
                have htk2 : (xs.map rb).take (xs.length + 1) = (xs.map rb).take xs.length := by rw [List.take_of_length_le (by rw [List.length_map]; omega), List.take_of_length_le (by rw [List.length_map]; omega)]
                have htk3 := Aside0.mk htk2
                clear htk2
                have hHB := HB.out.2.2
                have hat := store_at_out wr2 okS gs _ _ _ ps (xs.length : Int) (hS.below hHB) (by first | (left; omega) | (right; omega))
                go_upto_region 30 with (first
                  | (go_at_call 43; refine hat.mono ?_; rintro e w5 ⟨rfl, hb5⟩; clear hat)
                  | fail)
                obtain ⟨wa, hwa⟩ : ∃ wa, wa = w5.alloc (.cells #[.slice none 0 0, .bool false] 31) := ⟨_, rfl⟩
                rw [← hwa]
                have hXa : wa.heap[w5.heap.size]? = some (.cells #[.slice none 0 0, .bool false] 31 (0, 0)) := by rw [hwa]; exact blk_new _ _
                have hba : Below w5.heap.size w5 wa := by rw [hwa]; exact below_alloc (Below.refl _ _) _
                have hBa : SB wv wa := SB.next (SB.next hHB hb5) hba
                have HX : ∀ w', SB wa w' → w'.cell? ⟨w5.heap.size, 0, none⟩ = some (.slice none 0 0) ∧ w'.cell? ⟨w5.heap.size, 1, none⟩ = some (.bool false) := fun w' h => ⟨(blk2 (blk_below hXa h)).1, (blk2 (blk_below hXa h)).2.1⟩
                have HD0 : SB wa wa.drew := below_drew1 (Below.refl _ _)
                clear hwa hXa hba hb5
                refine start_ (n := 22) (S := SB wa) (ds := []) (bl_ [0, 22]) (by kernel_rfl) (by kernel_rfl) rfl HD0 (fun _ => ?_)
                refine with_tab tab_16_30_ (fun HT_ => ?_)
                refine takes_ (List.range' 0 18) 4 (bl_ [18, 4]) rfl HT_.out (by kernel_rfl) HD0 (a' := ?_) ?_ ?_
                rotate_left
                · repeat (first | exact rfl | (refine tkN rfl rfl (fun _ _ _ h => h) (by rfl) (by simp only [Act.put, List.setIfInBounds_toArray, List.set_cons_zero, List.set_cons_succ, i64_w, i32_w]; rfl) ?_) | (refine tkY rfl rfl (fun _ _ _ h => h) (by rfl) (fun w' hw' => by (obtain ⟨t0, t1⟩ := HX w' hw'; go_simp; with_reducible rfl)) (by simp only [Act.put, List.setIfInBounds_toArray, List.set_cons_zero, List.set_cons_succ, i64_w, i32_w]; rfl) ?_))
                refine takes_ (List.range' 18 4) 0 (bl_ [22]) rfl HT_.out (by kernel_rfl) HD0 (a' := ?_) ?_ ?_
                rotate_left
                · repeat (first | exact rfl | (refine tkN rfl rfl (fun _ _ _ h => h) (by rfl) (by simp only [Act.put, List.setIfInBounds_toArray, List.set_cons_zero, List.set_cons_succ, i64_w, i32_w]; rfl) ?_) | (refine tkY rfl rfl (fun _ _ _ h => h) (by rfl) (fun w' hw' => by (obtain ⟨t0, t1⟩ := HX w' hw'; go_simp; with_reducible rfl)) (by simp only [Act.put, List.setIfInBounds_toArray, List.set_cons_zero, List.set_cons_succ, i64_w, i32_w]; rfl) ?_))
                refine done_ (done_of HT_.out (by kernel_rfl)) ?_
                go_wp2
                go_roundg (xs.length + 3 - (xs.length + 1 + 1))
                case measure => rw [HB.out.2.1]; omega
                case rel => exact ⟨xs.length + 1 + 1, by simp, by rw [Nat.add_sub_cancel, htk3.out], ⟨by omega, rfl, SB.next hBa HD0⟩⟩
          · obtain ⟨n, rfl⟩ : ∃ n, j = n + 1 := ⟨j - 1, by omega⟩
            have hnl : n = xs.length + 1 := by have := HB.out.1; omega
            rw [show ((((n + 1 : Nat) : Int)) - 1) = (n : Int) by omega, Nat.add_sub_cancel, List.take_of_length_le (by rw [List.length_map]; omega)]
            have hBB : Below wv.heap.size wv wr2 := HB.out.2.2
            have hbw := hbe.trans (hBB.mono hbe.size)
            have hsm := sum_small xs (fun z hz => (hgo z hz).1)
            have hpl := len_le hI.some_
            have hll : (flat ps).length = xs.length := by rw [hfl, List.length_map]
            have h48 := store_bytes wr2 okS gs _ _ _ ps (hS.below hBB) hI (by rw [hfl]; omega) (by omega)
            rw [hfl] at h48
            have h49 := fun (V : World) (h : Below wr2.heap.size wr2 V) => all_ gs okS _ _ _ ps Av cv xs V ((hS.below hBB).below h) (fun k hk => by have := hbS k hk; have := hBB.size; have := h.size; omega) hI (by rw [hfl, List.length_map]) (by omega) hfl (fun z hz => (hgo z hz).1) (Kd.C_below (Kd.C_below hCw hBB) h) hcv
            have hn1 : ¬ (n : Int) ≤ xs.length := by omega
            generalize sumLen (xs.map rb) = B at h48 hsm
            clear HB hlt hS hgo hCw hfl hI hll hpl hnl hsm
            go_wp2_with (first
              | (go_at_call 48; refine h48.mono ?_; rintro e w5 ⟨rfl, hb5⟩; clear h48)
              | (go_at_call 49; refine (h49 _ hb5).mono ?_; rintro e w6 ⟨rfl, hb6⟩; clear h49)
              | fail)
            go_ret
            exact ⟨rfl, hbw.trans ((hb5.trans (hb6.mono hb5.size)).mono hbw.size)⟩
end Go.Proofs.Ytkigdcihhlkkdaa.P
