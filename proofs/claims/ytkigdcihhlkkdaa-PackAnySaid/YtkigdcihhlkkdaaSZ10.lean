/- own texts of this session, put together -/
import Derived.Test.YtkigdcihhlkkdaaSZ7
import Derived.Test.YtkigdcihhlkkdaaSZ9
import Derived.Test.YtkigdcihhlkkdaaSZ8
section
set_option linter.unusedVariables false
set_option linter.unusedSimpArgs false
namespace Go.Proofs.Ytkigdcihhlkkdaa.P
open Go.RowKit Go.Proofs.YtkigdcihhlkkdaaW.PrintWords Go.Proofs.YtkigdcihhlkkdaaW.PrintLast Go.Proofs.YtkigdcihhlkkdaaW.PrintMore Go.Proofs.Ytkigdcihhlkkdaa.Pure
attribute [local go_sem high] eqA45
def tab_25_11 : Bool × List (List Nat × List Nat) := (true, [([], []), ([], []), ([1], [1]), ([2], [2]), ([0, 3, 3], [0, 3]), ([], []), ([5], [5]), ([6], [6]), ([7, 4], [7]), ([4, 8, 8], [4, 8]), ([], []), ([10], [10]), ([11], [11]), ([12, 9], [12]), ([9, 13, 13], [9, 13]), ([], []), ([15], [15]), ([16], [16]), ([17, 14], [17]), ([14, 18, 18], [14, 18]), ([19, 19, 0, 1, 2, 3, 4, 5, 6, 7, 8, 9, 10, 11, 12, 13, 14, 15, 16, 17, 18, 19], [0, 19])])
theorem tab_25_11_ : rtab .any (opsOf Try.f25 11) = tab_25_11 := by kernel_rfl
structure SP (W : World) (bx : Nat) (o1 : Obj) (g : Nat) (c : S45) (w : World) : Prop where
  cb : w.heap[g]? = some (.cells #[.int .i32 c.f0, .int .i64 c.f1, .int .i64 c.f2] 45 (0, 0))
  rb : w.heap[bx]? = some o1
  be : Below W.heap.size W w
section
variable {W w w' : World} {bx g : Nat} {o1 : Obj} {c : S45}
theorem SP.next (h : SP W bx o1 g c w) (hb : Below w.heap.size w w') : SP W bx o1 g c w' :=
  ⟨blk_below h.cb hb, (hb.block bx (blk_lt h.rb)).trans h.rb, h.be.trans (hb.mono h.be.size)⟩
theorem SP.grown (h : SP W bx o1 g c w) {row : Option Nat} (hg : w.grownBy w' row) (h1 : some g ≠ row) (h2 : some bx ≠ row) (hb : Below W.heap.size W w') : SP W bx o1 g c w' :=
  ⟨blk_grown h.cb hg h1, (hg.block bx (blk_lt h.rb) h2).trans h.rb, hb⟩
theorem app8_ {P : Program} {ops : Array Oper} {o : Oper} {a : Act} {Kc : Act → World → Prop} {Q : Exit → Act → World → Prop} {v : Value} {xs ys : List Int} {A : Option Addr} {m cc : Nat} {bok : Nat → Prop} (s x : Operand) (N : Tmp) (hN : o.dst = some N) (hw : Region.wanted o (yielded ops a.tmps) = true)
    (ho : o.op = .call { callee := .builtin .append, args := #[s, x], argTypes := #[23, 23] }) (hP : P = Try.prog) (hs : a.eval s = v) (hx : a.eval x = .slice A m cc)
    (HO : Kd.R (Kd.int .u8) 5 w W.heap.size (fun k => bok k) v xs) (HR : Kd.C (Kd.int .u8) w A m ys) (hfr : ∀ k, w.heap.size ≤ k → bok k) (HB : Below W.heap.size W w) (hl : xs.length + m ≤ 1000000000)
    (h : ∀ v1 w1, Kd.R (Kd.int .u8) 5 w1 W.heap.size (fun k => bok k) v1 (xs ++ ys) → Below W.heap.size W w1 → w.grownBy w1 v.ownBlock → Kc (a.put (some N) v1) w1) :
    if Region.wanted o (yielded ops a.tmps) = true then Oper.wp P o a w Kc Q else Kc (a.put (some N) undef) w := by
  subst hP
  rw [← hN] at h ⊢
  exact Kd.R_append_rows_step (Kd.int .u8) (w0 := W) W.heap.size hw s x 23 5 (.int .u8 0) 1 ho Try.underlying23 info5 rfl (by decide) (by decide) v xs ys A m cc (fun k => bok k) (fun _ => False) hs hx HO HR (fun _ _ h => h) (fun _ h => h.elim) hfr HB HB.size (by omega) (fun v1 w1 h1 h2 h3 _ => h v1 w1 h1 h2 h3)
end
theorem same45_to {a b : S45} (h : same45 a b = true) : a = b := by
  obtain ⟨a0, a1, a2⟩ := a
  obtain ⟨b0, b1, b2⟩ := b
  unfold same45 at h
  simp only [Bool.and_eq_true, beq_iff_eq] at h
  obtain ⟨rfl, rfl, rfl⟩ := h
  rfl
theorem runsB_len : ∀ rs : List S78, ((rs.map runB).flatten).length ≤ 40 * rs.length
  | [] => by simp
  | r :: t => by
    have := runB_len r
    have := runsB_len t
    simp only [List.map_cons, List.flatten_cons, List.length_append, List.length_cons]
    omega
set_option maxHeartbeats 16000000 in
set_option maxRecDepth 100000 in
theorem putRow_yes (A : Option Addr) (cp : Nat) (l : List S45) (wr : Bool) (W : World) (hC : Kd.C k45 W A l.length l) (hcp : l.length ≤ cp) (hlen : l.length ≤ 1000000) (hwf : ∀ c ∈ l, -2147483648 ≤ c.f0 ∧ c.f0 ≤ 2147483647) (hyes : refRowB l = true) :
    Calls Try.prog 25 #[.agg #[.slice A l.length cp, .bool wr]] W fun e w' => ∃ v0 : Value, e = .returned (.tuple #[v0, .bool true]) ∧ Kd.R (Kd.int .u8) 5 w' W.heap.size (fun _ => True) v0 (rowB l wr) ∧ Below W.heap.size W w' := by
  have hb0 : Below W.heap.size W (W.alloc (.cells #[.slice A l.length cp, .bool wr] 31)) := below_alloc (Below.refl _ _) _
  have hB0 := blk_new W (.cells #[.slice A l.length cp, .bool wr] 31)
  have hrow := refRow_ A cp l wr (W.alloc (.cells #[.slice A l.length cp, .bool wr] 31)) (Kd.C_below hC hb0) hcp (by omega)
  rw [hyes] at hrow
  go_enter Try.func25, Try.ntmps25
  go_wp2_with (go_at_call 27; refine hrow.mono ?_; rintro e w1 ⟨rfl, hb1⟩)
  have hB1 := blk_below hB0 hb1
  have hbe1 := hb0.trans (hb1.mono hb0.size)
  clear hrow hb1 hb0 hB0
  go_loopg [4, 5, 6] (l.length + 1) (fun kq v4 v5 v6 w' => ∃ i : Nat, v6 = .int .i64 i ∧ v4 = .int .i64 ((runs78 (l.take i)).length : Int) ∧ Aside0 (i ≤ l.length ∧ kq = l.length + 1 - i ∧ (0 < i → i < l.length → same45 (rd_T45 l ((i : Int) - 1)) (rd_T45 l (i : Int)) = false) ∧ Kd.R (Kd.int .u8) 5 w' W.heap.size (fun k => k ≠ W.heap.size) v5 (((runs78 (l.take i)).map runB).flatten) ∧ w'.heap[W.heap.size]? = some (.cells #[.slice A l.length cp, .bool wr] 31 (0, 0)) ∧ Below W.heap.size W w'))
  case atStart => exact ⟨0, rfl, rfl, ⟨Nat.zero_le _, rfl, fun h => absurd h (by decide), Kd.R_nil _ _ _ _ _, hB1, hbe1⟩⟩
  case round =>
    obtain ⟨i, rfl, rfl, HA⟩ := hrel
    clear hB1 hbe1
    have hBr := HA.out.2.2.2.2.1
    obtain ⟨x0, x1, x2, x3⟩ := blk2 hBr
    by_cases hlt : i < l.length
    · obtain ⟨ad, rfl, _⟩ := at_T45 hC (i : Int) (by omega) (by omega)
      have HK : ∀ (j : Nat), j < l.length → ∀ w', Below W.heap.size W w' → w'.cell? (ad.add (j * 3)) = some (.int .i32 (rd_T45 l (j : Int)).f0) ∧ w'.cell? ⟨(ad.add (j * 3)).block, (ad.add (j * 3)).off + 1, none⟩ = some (.int .i64 (rd_T45 l (j : Int)).f1) ∧ w'.cell? ⟨(ad.add (j * 3)).block, (ad.add (j * 3)).off + 2, none⟩ = some (.int .i64 (rd_T45 l (j : Int)).f2) := by
        intro j h1 w' hb
        obtain ⟨ad', he, h⟩ := at_T45 (Kd.C_below hC hb) (j : Int) (by omega) (by omega)
        obtain rfl := Option.some.inj he
        exact h
      have HCi := HK i hlt
      generalize hc : rd_T45 l (i : Int) = c at HCi
      have HKx := Aside0.mk HK
      clear HK
      go_upto_region 8 with (fail)
      rename World => wv
      go_loopg [7] (l.length + 1) (fun kq v7 w' => ∃ n : Nat, v7 = .int .i64 n ∧ Aside0 (1 ≤ n ∧ i + n ≤ l.length ∧ kq = l.length + 2 - n ∧ (∀ j : Nat, j < n → rd_T45 l ((i : Int) + j) = c) ∧ ∃ m, w' = wv.drewN m))
      case atStart => exact ⟨1, rfl, ⟨Nat.le_refl _, hlt, rfl, fun j hj => by rw [show j = 0 by omega]; simpa using hc, 0, rfl⟩⟩
      case round =>
        obtain ⟨n, rfl, HN⟩ := hrel
        obtain ⟨m, rfl⟩ := HN.out.2.2.2.2
        have hw : IntKind.i64.wrap ((i : Int) + (n : Int)) = (i : Int) + n := by rw [IntKind.wrap_i64]; have := HN.out; omega
        obtain ⟨c0, c1, c2⟩ := HCi wv HA.out.2.2.2.2.2
        by_cases h1 : i + n < l.length
        · obtain ⟨d0, d1, d2⟩ := HKx.out (i + n) h1 wv HA.out.2.2.2.2.2
          have hq : (i : Int) + n < l.length := by omega
          have hq0 : 0 ≤ (i : Int) + n := by omega
          generalize hd : rd_T45 l ((i + n : Nat) : Int) = d at d0 d1 d2
          cases hs : (d.f0 == c.f0 && (d.f1 == c.f1 && d.f2 == c.f2))
          case true =>
            have hwn : IntKind.i64.wrap ((n : Int) + 1) = (n : Int) + 1 := by rw [IntKind.wrap_i64]; omega
            go_wp2
            go_quiet (fail)
            go_wp2
            go_roundg (l.length + 2 - (n + 1))
            case measure => have := HN.out; omega
            case rel =>
              refine ⟨n + 1, by simp, ⟨by omega, by omega, rfl, fun j hj => ?_, m + nq, rfl⟩⟩
              rcases Nat.lt_succ_iff_lt_or_eq.1 hj with h | h
              · exact HN.out.2.2.2.1 j h
              · rw [h, show (i : Int) + (n : Int) = ((i + n : Nat) : Int) by omega, hd]
                exact same45_to hs
          case false =>
            go_wp2
            go_quiet (fail)
            go_upto_region 10 with (fail)
            obtain ⟨wq, hwq⟩ : ∃ wq, wq = (wv.drewN m).drewN nq := ⟨_, rfl⟩
            rw [← hwq]
            have hBq : wq.heap[W.heap.size]? = some (.cells #[.slice (some ad) l.length cp, .bool wr] 31 (0, 0)) := by rw [hwq]; exact hBr
            have hBe : Below W.heap.size W wq := by rw [hwq]; exact pw_below_drewN (pw_below_drewN HA.out.2.2.2.2.2 _) _
            have hRq : Kd.R (Kd.int .u8) 5 wq W.heap.size (fun k => k ≠ W.heap.size) u5 (((runs78 (l.take i)).map runB).flatten) := by rw [hwq]; exact Kd.R_drewN (Kd.R_drewN HA.out.2.2.2.1 _) _
            have hBd : 0 < i + n → i + n < l.length → same45 (rd_T45 l (((i + n : Nat) : Int) - 1)) (rd_T45 l ((i + n : Nat) : Int)) = false := by
              intro _ h2
              rw [hd]
              have hp : rd_T45 l (((i + n : Nat) : Int) - 1) = c := by
                have := HN.out.2.2.2.1 (n - 1) (by have := HN.out.1; omega)
                rwa [show (i : Int) + ((n - 1 : Nat) : Int) = ((i + n : Nat) : Int) - 1 by have := HN.out.1; omega] at this
              rw [hp]
              cases hz : same45 c d with
              | false => rfl
              | true => rw [same45_to hz] at hs; simp at hs
            have hcl : -2147483648 ≤ c.f0 ∧ c.f0 ≤ 2147483647 := by
              have hm : c ∈ l := by
                rw [← hc, rd_T45, Int.toNat_natCast, List.getD_eq_getElem?_getD, List.getElem?_eq_getElem hlt]
                exact List.getElem_mem hlt
              exact hwf c hm
            obtain ⟨n', rfl⟩ : ∃ n', n = n' + 1 := ⟨n - 1, by have := HN.out.1; omega⟩
            have hrr := runs_run l i (fun h => HA.out.2.2.1 h hlt) n' HN.out.2.1 (by omega) (fun j hj => (HN.out.2.2.2.1 j hj).trans hc.symm)
            rw [hc] at hrr
            have hbl := runsB_len (runs78 (l.take i))
            have hrl := runs78_le (l.take i)
            rw [List.length_take] at hrl
            have hnn := HN.out.2.1
            clear hwq c0 c1 c2 x0 x1 x2 x3 hBr
            obtain ⟨c0, c1, c2⟩ := HCi wq hBe
            obtain ⟨x0, x1, x2, x3⟩ := blk2 hBq
            go_upto_region 11 with (fail)
            have hS0 : SP W W.heap.size (.cells #[.slice (some ad) l.length cp, .bool wr] 31 (0, 0)) wq.heap.size c (wq.alloc (.cells #[.int .i32 c.f0, .int .i64 c.f1, .int .i64 c.f2] 45)).drew := ⟨blk_new _ _, blk_alloc hBq _, below_drew1 (below_alloc hBe _)⟩
            have hR0 : Kd.R (Kd.int .u8) 5 (wq.alloc (.cells #[.int .i32 c.f0, .int .i64 c.f1, .int .i64 c.f2] 45)).drew W.heap.size (fun k => k ≠ W.heap.size ∧ k ≠ wq.heap.size) u5 (((runs78 (l.take i)).map runB).flatten) := Kd.R_drew (Kd.R_alloc (Kd.R_mono (Kd.R_bound hRq) (fun k hk => ⟨hk.1, by have := hk.2.2.1; omega⟩)) _)
            clear c0 c1 c2 x0 x1 x2 x3
            refine start_ (n := 21) (S := SP W W.heap.size (.cells #[.slice (some ad) l.length cp, .bool wr] 31 (0, 0)) wq.heap.size c) (ds := []) (bl_ [0, 21]) (by kernel_rfl) (by kernel_rfl) rfl hS0 (fun _ => ?_)
            refine with_tab tab_25_11_ (fun HT_ => ?_)
            refine takes_ [0, 1, 2, 5, 6, 7, 10, 11, 12, 15, 16, 17] 9 (bl_ [3, 2, 3, 2, 3, 2, 3, 3]) rfl HT_.out (by kernel_rfl) hS0 (a' := ?_) ?_ ?_
            rotate_left
            · repeat (first | exact rfl | (refine tkN rfl rfl (fun _ _ _ h => h) (by rfl) (by simp only [Act.put, List.setIfInBounds_toArray, List.set_cons_zero, List.set_cons_succ, i64_w, i32_w]; rfl) ?_) | (refine tkY rfl rfl (fun _ _ _ h => h) (by rfl) (fun w' hw' => by (obtain ⟨s0, s1, s2⟩ := blk3 hw'.cb; go_simp; with_reducible rfl)) (by simp only [Act.put, List.setIfInBounds_toArray, List.set_cons_zero, List.set_cons_succ, i64_w, i32_w]; rfl) ?_))
            refine one_ (i := 3) (N := some 50) (bl_ [4, 1, 3, 2, 3, 2, 3, 3]) rfl rfl (one_of HT_.out (by kernel_rfl)) (by decide) (fun K hK => ?_)
            refine goes_ Try.func22 (by kernel_rfl) rfl #[.int .u64 (IntKind.u64.wrap (((n' + 1 : Nat) : Int)))] (by rfl) rfl rfl (by (try simp only [List.map_toArray, List.map_cons, List.map_nil]); first | done | rfl) ?_
            refine (refUint_ (((n' + 1 : Nat) : Int)) _).mono ?_
            rintro e wc0 ⟨vu0, rfl, hu0, hb0⟩
            have hSc0 := hS0.next hb0
            have hRc0 := Kd.R_below hR0 hb0
            obtain ⟨Au0, cu0, hvu0⟩ := Kd.R_slice hu0
            subst hvu0
            refine ⟨_, rfl, hK.out _ _ hSc0 (fun _ => ?_)⟩
            refine norm_ (a' := ?_) ?_ ?_
            rotate_left
            · show Act.put _ (some 50) _ = _
              simp only [Act.put, List.setIfInBounds_toArray, List.set_cons_zero, List.set_cons_succ]
              rfl
            have hl0 : (numB (((n' + 1 : Nat) : Int))).length ≤ 10 := numB_len _
            refine one_ (i := 4) (N := some 51) (bl_ [8, 2, 3, 2, 3, 3]) rfl rfl (one_of HT_.out (by kernel_rfl)) (by decide) (fun K hK => ?_)
            refine app8_ (W := W) (bok := fun k => k ≠ W.heap.size ∧ k ≠ wq.heap.size) (.tmp 47) (.tmp 50) 51 rfl (by rfl) rfl rfl (by rfl) (by rfl) hRc0 (Kd.R_reads' hu0).2.2 (fun k hk => ⟨by have := blk_lt hSc0.rb; omega, by have := blk_lt hSc0.cb; omega⟩) hSc0.be (by (try simp only [List.length_append]); omega) ?_
            intro va0 wa0 hR0_ hBa0 hga0
            have hSa0 := hSc0.grown hga0 (fun e => ((hRc0).1 _ e.symm).2 rfl) (fun e => ((hRc0).1 _ e.symm).1 rfl) hBa0
            refine hK.out _ _ hSa0 (fun _ => ?_)
            refine norm_ (a' := ?_) ?_ ?_
            rotate_left
            · show Act.put _ (some 51) _ = _
              simp only [Act.put, List.setIfInBounds_toArray, List.set_cons_zero, List.set_cons_succ]
              rfl
            refine one_ (i := 8) (N := some 55) (bl_ [9, 1, 3, 2, 3, 3]) rfl rfl (one_of HT_.out (by kernel_rfl)) (by decide) (fun K hK => ?_)
            refine goes_ Try.func22 (by kernel_rfl) rfl #[.int .u64 (IntKind.u64.wrap (c.f0))] (by rfl) rfl rfl (by (try simp only [List.map_toArray, List.map_cons, List.map_nil]); first | done | rfl) ?_
            refine (refUint_ (c.f0) _).mono ?_
            rintro e wc1 ⟨vu1, rfl, hu1, hb1⟩
            have hSc1 := hSa0.next hb1
            have hRc1 := Kd.R_below hR0_ hb1
            obtain ⟨Au1, cu1, hvu1⟩ := Kd.R_slice hu1
            subst hvu1
            refine ⟨_, rfl, hK.out _ _ hSc1 (fun _ => ?_)⟩
            refine norm_ (a' := ?_) ?_ ?_
            rotate_left
            · show Act.put _ (some 55) _ = _
              simp only [Act.put, List.setIfInBounds_toArray, List.set_cons_zero, List.set_cons_succ]
              rfl
            have hl1 : (numB (c.f0)).length ≤ 10 := numB_len _
            refine one_ (i := 9) (N := some 56) (bl_ [13, 2, 3, 3]) rfl rfl (one_of HT_.out (by kernel_rfl)) (by decide) (fun K hK => ?_)
            refine app8_ (W := W) (bok := fun k => k ≠ W.heap.size ∧ k ≠ wq.heap.size) (.tmp 51) (.tmp 55) 56 rfl (by rfl) rfl rfl (by rfl) (by rfl) hRc1 (Kd.R_reads' hu1).2.2 (fun k hk => ⟨by have := blk_lt hSc1.rb; omega, by have := blk_lt hSc1.cb; omega⟩) hSc1.be (by (try simp only [List.length_append]); omega) ?_
            intro va1 wa1 hR1_ hBa1 hga1
            have hSa1 := hSc1.grown hga1 (fun e => ((hRc1).1 _ e.symm).2 rfl) (fun e => ((hRc1).1 _ e.symm).1 rfl) hBa1
            refine hK.out _ _ hSa1 (fun _ => ?_)
            refine norm_ (a' := ?_) ?_ ?_
            rotate_left
            · show Act.put _ (some 56) _ = _
              simp only [Act.put, List.setIfInBounds_toArray, List.set_cons_zero, List.set_cons_succ]
              rfl
            refine one_ (i := 13) (N := some 60) (bl_ [14, 1, 3, 3]) rfl rfl (one_of HT_.out (by kernel_rfl)) (by decide) (fun K hK => ?_)
            refine goes_ Try.func22 (by kernel_rfl) rfl #[.int .u64 (IntKind.u64.wrap (c.f1))] (by rfl) rfl rfl (by (try simp only [List.map_toArray, List.map_cons, List.map_nil]); first | done | rfl) ?_
            refine (refUint_ (c.f1) _).mono ?_
            rintro e wc2 ⟨vu2, rfl, hu2, hb2⟩
            have hSc2 := hSa1.next hb2
            have hRc2 := Kd.R_below hR1_ hb2
            obtain ⟨Au2, cu2, hvu2⟩ := Kd.R_slice hu2
            subst hvu2
            refine ⟨_, rfl, hK.out _ _ hSc2 (fun _ => ?_)⟩
            refine norm_ (a' := ?_) ?_ ?_
            rotate_left
            · show Act.put _ (some 60) _ = _
              simp only [Act.put, List.setIfInBounds_toArray, List.set_cons_zero, List.set_cons_succ]
              rfl
            have hl2 : (numB (c.f1)).length ≤ 10 := numB_len _
            refine one_ (i := 14) (N := some 61) (bl_ [18, 3]) rfl rfl (one_of HT_.out (by kernel_rfl)) (by decide) (fun K hK => ?_)
            refine app8_ (W := W) (bok := fun k => k ≠ W.heap.size ∧ k ≠ wq.heap.size) (.tmp 56) (.tmp 60) 61 rfl (by rfl) rfl rfl (by rfl) (by rfl) hRc2 (Kd.R_reads' hu2).2.2 (fun k hk => ⟨by have := blk_lt hSc2.rb; omega, by have := blk_lt hSc2.cb; omega⟩) hSc2.be (by (try simp only [List.length_append]); omega) ?_
            intro va2 wa2 hR2_ hBa2 hga2
            have hSa2 := hSc2.grown hga2 (fun e => ((hRc2).1 _ e.symm).2 rfl) (fun e => ((hRc2).1 _ e.symm).1 rfl) hBa2
            refine hK.out _ _ hSa2 (fun _ => ?_)
            refine norm_ (a' := ?_) ?_ ?_
            rotate_left
            · show Act.put _ (some 61) _ = _
              simp only [Act.put, List.setIfInBounds_toArray, List.set_cons_zero, List.set_cons_succ]
              rfl
            refine one_ (i := 18) (N := some 65) (bl_ [19, 2]) rfl rfl (one_of HT_.out (by kernel_rfl)) (by decide) (fun K hK => ?_)
            refine goes_ Try.func22 (by kernel_rfl) rfl #[.int .u64 (IntKind.u64.wrap (c.f2))] (by rfl) rfl rfl (by (try simp only [List.map_toArray, List.map_cons, List.map_nil]); first | done | rfl) ?_
            refine (refUint_ (c.f2) _).mono ?_
            rintro e wc3 ⟨vu3, rfl, hu3, hb3⟩
            have hSc3 := hSa2.next hb3
            have hRc3 := Kd.R_below hR2_ hb3
            obtain ⟨Au3, cu3, hvu3⟩ := Kd.R_slice hu3
            subst hvu3
            refine ⟨_, rfl, hK.out _ _ hSc3 (fun _ => ?_)⟩
            refine norm_ (a' := ?_) ?_ ?_
            rotate_left
            · show Act.put _ (some 65) _ = _
              simp only [Act.put, List.setIfInBounds_toArray, List.set_cons_zero, List.set_cons_succ]
              rfl
            have hl3 : (numB (c.f2)).length ≤ 10 := numB_len _
            refine one_ (i := 19) (N := some 66) (bl_ [20, 1]) rfl rfl (one_of HT_.out (by kernel_rfl)) (by decide) (fun K hK => ?_)
            refine app8_ (W := W) (bok := fun k => k ≠ W.heap.size ∧ k ≠ wq.heap.size) (.tmp 61) (.tmp 65) 66 rfl (by rfl) rfl rfl (by rfl) (by rfl) hRc3 (Kd.R_reads' hu3).2.2 (fun k hk => ⟨by have := blk_lt hSc3.rb; omega, by have := blk_lt hSc3.cb; omega⟩) hSc3.be (by (try simp only [List.length_append]); omega) ?_
            intro va3 wa3 hR3_ hBa3 hga3
            have hSa3 := hSc3.grown hga3 (fun e => ((hRc3).1 _ e.symm).2 rfl) (fun e => ((hRc3).1 _ e.symm).1 rfl) hBa3
            refine hK.out _ _ hSa3 (fun _ => ?_)
            refine norm_ (a' := ?_) ?_ ?_
            rotate_left
            · show Act.put _ (some 66) _ = _
              simp only [Act.put, List.setIfInBounds_toArray, List.set_cons_zero, List.set_cons_succ]
              rfl
            refine takes_ [20] 0 (bl_ [21]) rfl HT_.out (by kernel_rfl) hSa3 (a' := ?_) ?_ ?_
            rotate_left
            · repeat (first | exact rfl | (refine tkN rfl rfl (fun _ _ _ h => h) (by rfl) (by simp only [Act.put, List.setIfInBounds_toArray, List.set_cons_zero, List.set_cons_succ, i64_w, i32_w]; rfl) ?_) | (refine tkY rfl rfl (fun _ _ _ h => h) (by rfl) (fun w' hw' => by (obtain ⟨s0, s1, s2⟩ := blk3 hw'.cb; go_simp; with_reducible rfl)) (by simp only [Act.put, List.setIfInBounds_toArray, List.set_cons_zero, List.set_cons_succ, i64_w, i32_w]; rfl) ?_))
            refine done_ (done_of HT_.out (by kernel_rfl)) ?_
            have hw3 : IntKind.i64.wrap (((runs78 (l.take i)).length : Int) + 1) = ((runs78 (l.take i)).length : Int) + 1 := by rw [IntKind.wrap_i64]; omega
            have hw4 : IntKind.i64.wrap ((i : Int) + ((n' + 1 : Nat) : Int)) = (i : Int) + ((n' + 1 : Nat) : Int) := by rw [IntKind.wrap_i64]; omega
            go_wp2
            go_roundg (l.length + 1 - (i + (n' + 1)))
            case measure => rw [HA.out.2.1]; omega
            case rel =>
              refine ⟨i + (n' + 1), by simp, by rw [hrr]; simp, ⟨hnn, rfl, hBd, ?_, hSa3.rb, hSa3.be⟩⟩
              rw [hrr, List.map_append, List.flatten_append]
              have hw5 : wrap64 c.f0 = c.f0 := w64_in _ (by omega)
              have e : ([(⟨((n' + 1 : Nat) : Int), c⟩ : S78)].map runB).flatten = numB ((n' + 1 : Nat) : Int) ++ (numB c.f0 ++ (numB c.f1 ++ numB c.f2)) := by simp [runB, hw5]
              rw [e]
              simp only [← List.append_assoc]
              exact Kd.R_mono hR3_ (fun k hk => hk.1)
        · have hq : ¬ (i : Int) + n < l.length := by omega
          have hq2 : decide ((i : Int) + n < l.length) = false := decide_eq_false hq
          go_wp2
          go_quiet (fail)
          go_upto_region 10 with (fail)
          obtain ⟨wq, hwq⟩ : ∃ wq, wq = (wv.drewN m).drewN nq := ⟨_, rfl⟩
          rw [← hwq]
          have hBq : wq.heap[W.heap.size]? = some (.cells #[.slice (some ad) l.length cp, .bool wr] 31 (0, 0)) := by rw [hwq]; exact hBr
          have hBe : Below W.heap.size W wq := by rw [hwq]; exact pw_below_drewN (pw_below_drewN HA.out.2.2.2.2.2 _) _
          have hRq : Kd.R (Kd.int .u8) 5 wq W.heap.size (fun k => k ≠ W.heap.size) u5 (((runs78 (l.take i)).map runB).flatten) := by rw [hwq]; exact Kd.R_drewN (Kd.R_drewN HA.out.2.2.2.1 _) _
          have hBd : 0 < i + n → i + n < l.length → same45 (rd_T45 l (((i + n : Nat) : Int) - 1)) (rd_T45 l ((i + n : Nat) : Int)) = false := by
            intro _ h2
            omega
          have hcl : -2147483648 ≤ c.f0 ∧ c.f0 ≤ 2147483647 := by
            have hm : c ∈ l := by
              rw [← hc, rd_T45, Int.toNat_natCast, List.getD_eq_getElem?_getD, List.getElem?_eq_getElem hlt]
              exact List.getElem_mem hlt
            exact hwf c hm
          obtain ⟨n', rfl⟩ : ∃ n', n = n' + 1 := ⟨n - 1, by have := HN.out.1; omega⟩
          have hrr := runs_run l i (fun h => HA.out.2.2.1 h hlt) n' HN.out.2.1 (by omega) (fun j hj => (HN.out.2.2.2.1 j hj).trans hc.symm)
          rw [hc] at hrr
          have hbl := runsB_len (runs78 (l.take i))
          have hrl := runs78_le (l.take i)
          rw [List.length_take] at hrl
          have hnn := HN.out.2.1
          clear hwq c0 c1 c2 x0 x1 x2 x3 hBr
          obtain ⟨c0, c1, c2⟩ := HCi wq hBe
          obtain ⟨x0, x1, x2, x3⟩ := blk2 hBq
          go_upto_region 11 with (fail)
          have hS0 : SP W W.heap.size (.cells #[.slice (some ad) l.length cp, .bool wr] 31 (0, 0)) wq.heap.size c (wq.alloc (.cells #[.int .i32 c.f0, .int .i64 c.f1, .int .i64 c.f2] 45)).drew := ⟨blk_new _ _, blk_alloc hBq _, below_drew1 (below_alloc hBe _)⟩
          have hR0 : Kd.R (Kd.int .u8) 5 (wq.alloc (.cells #[.int .i32 c.f0, .int .i64 c.f1, .int .i64 c.f2] 45)).drew W.heap.size (fun k => k ≠ W.heap.size ∧ k ≠ wq.heap.size) u5 (((runs78 (l.take i)).map runB).flatten) := Kd.R_drew (Kd.R_alloc (Kd.R_mono (Kd.R_bound hRq) (fun k hk => ⟨hk.1, by have := hk.2.2.1; omega⟩)) _)
          clear c0 c1 c2 x0 x1 x2 x3
          refine start_ (n := 21) (S := SP W W.heap.size (.cells #[.slice (some ad) l.length cp, .bool wr] 31 (0, 0)) wq.heap.size c) (ds := []) (bl_ [0, 21]) (by kernel_rfl) (by kernel_rfl) rfl hS0 (fun _ => ?_)
          refine with_tab tab_25_11_ (fun HT_ => ?_)
          refine takes_ [0, 1, 2, 5, 6, 7, 10, 11, 12, 15, 16, 17] 9 (bl_ [3, 2, 3, 2, 3, 2, 3, 3]) rfl HT_.out (by kernel_rfl) hS0 (a' := ?_) ?_ ?_
          rotate_left
          · repeat (first | exact rfl | (refine tkN rfl rfl (fun _ _ _ h => h) (by rfl) (by simp only [Act.put, List.setIfInBounds_toArray, List.set_cons_zero, List.set_cons_succ, i64_w, i32_w]; rfl) ?_) | (refine tkY rfl rfl (fun _ _ _ h => h) (by rfl) (fun w' hw' => by (obtain ⟨s0, s1, s2⟩ := blk3 hw'.cb; go_simp; with_reducible rfl)) (by simp only [Act.put, List.setIfInBounds_toArray, List.set_cons_zero, List.set_cons_succ, i64_w, i32_w]; rfl) ?_))
          refine one_ (i := 3) (N := some 50) (bl_ [4, 1, 3, 2, 3, 2, 3, 3]) rfl rfl (one_of HT_.out (by kernel_rfl)) (by decide) (fun K hK => ?_)
          refine goes_ Try.func22 (by kernel_rfl) rfl #[.int .u64 (IntKind.u64.wrap (((n' + 1 : Nat) : Int)))] (by rfl) rfl rfl (by (try simp only [List.map_toArray, List.map_cons, List.map_nil]); first | done | rfl) ?_
          refine (refUint_ (((n' + 1 : Nat) : Int)) _).mono ?_
          rintro e wc0 ⟨vu0, rfl, hu0, hb0⟩
          have hSc0 := hS0.next hb0
          have hRc0 := Kd.R_below hR0 hb0
          obtain ⟨Au0, cu0, hvu0⟩ := Kd.R_slice hu0
          subst hvu0
          refine ⟨_, rfl, hK.out _ _ hSc0 (fun _ => ?_)⟩
          refine norm_ (a' := ?_) ?_ ?_
          rotate_left
          · show Act.put _ (some 50) _ = _
            simp only [Act.put, List.setIfInBounds_toArray, List.set_cons_zero, List.set_cons_succ]
            rfl
          have hl0 : (numB (((n' + 1 : Nat) : Int))).length ≤ 10 := numB_len _
          refine one_ (i := 4) (N := some 51) (bl_ [8, 2, 3, 2, 3, 3]) rfl rfl (one_of HT_.out (by kernel_rfl)) (by decide) (fun K hK => ?_)
          refine app8_ (W := W) (bok := fun k => k ≠ W.heap.size ∧ k ≠ wq.heap.size) (.tmp 47) (.tmp 50) 51 rfl (by rfl) rfl rfl (by rfl) (by rfl) hRc0 (Kd.R_reads' hu0).2.2 (fun k hk => ⟨by have := blk_lt hSc0.rb; omega, by have := blk_lt hSc0.cb; omega⟩) hSc0.be (by (try simp only [List.length_append]); omega) ?_
          intro va0 wa0 hR0_ hBa0 hga0
          have hSa0 := hSc0.grown hga0 (fun e => ((hRc0).1 _ e.symm).2 rfl) (fun e => ((hRc0).1 _ e.symm).1 rfl) hBa0
          refine hK.out _ _ hSa0 (fun _ => ?_)
          refine norm_ (a' := ?_) ?_ ?_
          rotate_left
          · show Act.put _ (some 51) _ = _
            simp only [Act.put, List.setIfInBounds_toArray, List.set_cons_zero, List.set_cons_succ]
            rfl
          refine one_ (i := 8) (N := some 55) (bl_ [9, 1, 3, 2, 3, 3]) rfl rfl (one_of HT_.out (by kernel_rfl)) (by decide) (fun K hK => ?_)
          refine goes_ Try.func22 (by kernel_rfl) rfl #[.int .u64 (IntKind.u64.wrap (c.f0))] (by rfl) rfl rfl (by (try simp only [List.map_toArray, List.map_cons, List.map_nil]); first | done | rfl) ?_
          refine (refUint_ (c.f0) _).mono ?_
          rintro e wc1 ⟨vu1, rfl, hu1, hb1⟩
          have hSc1 := hSa0.next hb1
          have hRc1 := Kd.R_below hR0_ hb1
          obtain ⟨Au1, cu1, hvu1⟩ := Kd.R_slice hu1
          subst hvu1
          refine ⟨_, rfl, hK.out _ _ hSc1 (fun _ => ?_)⟩
          refine norm_ (a' := ?_) ?_ ?_
          rotate_left
          · show Act.put _ (some 55) _ = _
            simp only [Act.put, List.setIfInBounds_toArray, List.set_cons_zero, List.set_cons_succ]
            rfl
          have hl1 : (numB (c.f0)).length ≤ 10 := numB_len _
          refine one_ (i := 9) (N := some 56) (bl_ [13, 2, 3, 3]) rfl rfl (one_of HT_.out (by kernel_rfl)) (by decide) (fun K hK => ?_)
          refine app8_ (W := W) (bok := fun k => k ≠ W.heap.size ∧ k ≠ wq.heap.size) (.tmp 51) (.tmp 55) 56 rfl (by rfl) rfl rfl (by rfl) (by rfl) hRc1 (Kd.R_reads' hu1).2.2 (fun k hk => ⟨by have := blk_lt hSc1.rb; omega, by have := blk_lt hSc1.cb; omega⟩) hSc1.be (by (try simp only [List.length_append]); omega) ?_
          intro va1 wa1 hR1_ hBa1 hga1
          have hSa1 := hSc1.grown hga1 (fun e => ((hRc1).1 _ e.symm).2 rfl) (fun e => ((hRc1).1 _ e.symm).1 rfl) hBa1
          refine hK.out _ _ hSa1 (fun _ => ?_)
          refine norm_ (a' := ?_) ?_ ?_
          rotate_left
          · show Act.put _ (some 56) _ = _
            simp only [Act.put, List.setIfInBounds_toArray, List.set_cons_zero, List.set_cons_succ]
            rfl
          refine one_ (i := 13) (N := some 60) (bl_ [14, 1, 3, 3]) rfl rfl (one_of HT_.out (by kernel_rfl)) (by decide) (fun K hK => ?_)
          refine goes_ Try.func22 (by kernel_rfl) rfl #[.int .u64 (IntKind.u64.wrap (c.f1))] (by rfl) rfl rfl (by (try simp only [List.map_toArray, List.map_cons, List.map_nil]); first | done | rfl) ?_
          refine (refUint_ (c.f1) _).mono ?_
          rintro e wc2 ⟨vu2, rfl, hu2, hb2⟩
          have hSc2 := hSa1.next hb2
          have hRc2 := Kd.R_below hR1_ hb2
          obtain ⟨Au2, cu2, hvu2⟩ := Kd.R_slice hu2
          subst hvu2
          refine ⟨_, rfl, hK.out _ _ hSc2 (fun _ => ?_)⟩
          refine norm_ (a' := ?_) ?_ ?_
          rotate_left
          · show Act.put _ (some 60) _ = _
            simp only [Act.put, List.setIfInBounds_toArray, List.set_cons_zero, List.set_cons_succ]
            rfl
          have hl2 : (numB (c.f1)).length ≤ 10 := numB_len _
          refine one_ (i := 14) (N := some 61) (bl_ [18, 3]) rfl rfl (one_of HT_.out (by kernel_rfl)) (by decide) (fun K hK => ?_)
          refine app8_ (W := W) (bok := fun k => k ≠ W.heap.size ∧ k ≠ wq.heap.size) (.tmp 56) (.tmp 60) 61 rfl (by rfl) rfl rfl (by rfl) (by rfl) hRc2 (Kd.R_reads' hu2).2.2 (fun k hk => ⟨by have := blk_lt hSc2.rb; omega, by have := blk_lt hSc2.cb; omega⟩) hSc2.be (by (try simp only [List.length_append]); omega) ?_
          intro va2 wa2 hR2_ hBa2 hga2
          have hSa2 := hSc2.grown hga2 (fun e => ((hRc2).1 _ e.symm).2 rfl) (fun e => ((hRc2).1 _ e.symm).1 rfl) hBa2
          refine hK.out _ _ hSa2 (fun _ => ?_)
          refine norm_ (a' := ?_) ?_ ?_
          rotate_left
          · show Act.put _ (some 61) _ = _
            simp only [Act.put, List.setIfInBounds_toArray, List.set_cons_zero, List.set_cons_succ]
            rfl
          refine one_ (i := 18) (N := some 65) (bl_ [19, 2]) rfl rfl (one_of HT_.out (by kernel_rfl)) (by decide) (fun K hK => ?_)
          refine goes_ Try.func22 (by kernel_rfl) rfl #[.int .u64 (IntKind.u64.wrap (c.f2))] (by rfl) rfl rfl (by (try simp only [List.map_toArray, List.map_cons, List.map_nil]); first | done | rfl) ?_
          refine (refUint_ (c.f2) _).mono ?_
          rintro e wc3 ⟨vu3, rfl, hu3, hb3⟩
          have hSc3 := hSa2.next hb3
          have hRc3 := Kd.R_below hR2_ hb3
          obtain ⟨Au3, cu3, hvu3⟩ := Kd.R_slice hu3
          subst hvu3
          refine ⟨_, rfl, hK.out _ _ hSc3 (fun _ => ?_)⟩
          refine norm_ (a' := ?_) ?_ ?_
          rotate_left
          · show Act.put _ (some 65) _ = _
            simp only [Act.put, List.setIfInBounds_toArray, List.set_cons_zero, List.set_cons_succ]
            rfl
          have hl3 : (numB (c.f2)).length ≤ 10 := numB_len _
          refine one_ (i := 19) (N := some 66) (bl_ [20, 1]) rfl rfl (one_of HT_.out (by kernel_rfl)) (by decide) (fun K hK => ?_)
          refine app8_ (W := W) (bok := fun k => k ≠ W.heap.size ∧ k ≠ wq.heap.size) (.tmp 61) (.tmp 65) 66 rfl (by rfl) rfl rfl (by rfl) (by rfl) hRc3 (Kd.R_reads' hu3).2.2 (fun k hk => ⟨by have := blk_lt hSc3.rb; omega, by have := blk_lt hSc3.cb; omega⟩) hSc3.be (by (try simp only [List.length_append]); omega) ?_
          intro va3 wa3 hR3_ hBa3 hga3
          have hSa3 := hSc3.grown hga3 (fun e => ((hRc3).1 _ e.symm).2 rfl) (fun e => ((hRc3).1 _ e.symm).1 rfl) hBa3
          refine hK.out _ _ hSa3 (fun _ => ?_)
          refine norm_ (a' := ?_) ?_ ?_
          rotate_left
          · show Act.put _ (some 66) _ = _
            simp only [Act.put, List.setIfInBounds_toArray, List.set_cons_zero, List.set_cons_succ]
            rfl
          refine takes_ [20] 0 (bl_ [21]) rfl HT_.out (by kernel_rfl) hSa3 (a' := ?_) ?_ ?_
          rotate_left
          · repeat (first | exact rfl | (refine tkN rfl rfl (fun _ _ _ h => h) (by rfl) (by simp only [Act.put, List.setIfInBounds_toArray, List.set_cons_zero, List.set_cons_succ, i64_w, i32_w]; rfl) ?_) | (refine tkY rfl rfl (fun _ _ _ h => h) (by rfl) (fun w' hw' => by (obtain ⟨s0, s1, s2⟩ := blk3 hw'.cb; go_simp; with_reducible rfl)) (by simp only [Act.put, List.setIfInBounds_toArray, List.set_cons_zero, List.set_cons_succ, i64_w, i32_w]; rfl) ?_))
          refine done_ (done_of HT_.out (by kernel_rfl)) ?_
          have hw3 : IntKind.i64.wrap (((runs78 (l.take i)).length : Int) + 1) = ((runs78 (l.take i)).length : Int) + 1 := by rw [IntKind.wrap_i64]; omega
          have hw4 : IntKind.i64.wrap ((i : Int) + ((n' + 1 : Nat) : Int)) = (i : Int) + ((n' + 1 : Nat) : Int) := by rw [IntKind.wrap_i64]; omega
          go_wp2
          go_roundg (l.length + 1 - (i + (n' + 1)))
          case measure => rw [HA.out.2.1]; omega
          case rel =>
            refine ⟨i + (n' + 1), by simp, by rw [hrr]; simp, ⟨hnn, rfl, hBd, ?_, hSa3.rb, hSa3.be⟩⟩
            rw [hrr, List.map_append, List.flatten_append]
            have hw5 : wrap64 c.f0 = c.f0 := w64_in _ (by omega)
            have e : ([(⟨((n' + 1 : Nat) : Int), c⟩ : S78)].map runB).flatten = numB ((n' + 1 : Nat) : Int) ++ (numB c.f0 ++ (numB c.f1 ++ numB c.f2)) := by simp [runB, hw5]
            rw [e]
            simp only [← List.append_assoc]
            exact Kd.R_mono hR3_ (fun k hk => hk.1)
    · have hall := HA.out
      obtain rfl : i = l.length := by omega
      rename World => wv
      have hRv := Kd.R_mono (ok' := fun _ => True) hall.2.2.2.1 (fun _ _ => trivial)
      have hbl := runsB_len (runs78 (l.take l.length))
      have hrl := runs78_le l
      rw [List.take_length] at hRv hbl
      rw [List.take_length]
      have hrb : rowB l wr = numB (2 * ((runs78 l).length : Int) + (if wr then 1 else 0)) ++ ((runs78 l).map runB).flatten := rfl
      generalize ((runs78 l).map runB).flatten = bs at hRv hbl hrb
      obtain ⟨Av, cv, hvv⟩ := Kd.R_slice hRv
      subst hvv
      have hC81 := (Kd.R_reads' hRv).2.2
      generalize hrl2 : (runs78 l).length = rn at hrl hbl hrb
      have hz0 : IntKind.i64.wrap (2 * (rn : Int)) = 2 * (rn : Int) := by rw [IntKind.wrap_i64]; omega
      have hz1 : IntKind.u64.wrap (2 * (rn : Int)) = 2 * (rn : Int) := by rw [IntKind.wrap_u64]; omega
      have hz2 : IntKind.u64.wrap (2 * (rn : Int) + 1) = 2 * (rn : Int) + 1 := by rw [IntKind.wrap_u64]; omega
      have hbev := hall.2.2.2.2.2
      have hlt0 : ¬ (l.length : Int) < l.length := by omega
      clear HA hall hlt
      have hU0 := refUint_ (2 * (rn : Int)) wv
      have hU1 := refUint_ (2 * (rn : Int) + 1) wv
      rw [hz1] at hU0
      rw [hz2] at hU1
      cases wr
      case false =>
        go_wp2_with (first
          | (go_at_call 22; refine hU0.mono ?_; rintro e w2 ⟨v2, rfl, hR2, hb2⟩
             obtain ⟨A2, c2, hv2⟩ := Kd.R_slice hR2; subst hv2
             have hRl := Kd.R_lower hR2 hbev.size
             have hn2 := numB_len (2 * (rn : Int))
             have hb02 := hbev.trans (hb2.mono hbev.size))
          | ((with_reducible refine gate_builtin (b := .append) rfl ?_)
             refine Kd.R_append_rows (Kd.int .u8) (w0 := W) (W := w2) W.heap.size (by rfl) (.tmp 80) (.tmp 81) 23 5 (.int .u8 0) 1 (by rfl) Try.underlying23 info5 rfl (by decide) (by decide) (.slice A2 (numB (2 * (rn : Int))).length c2) (numB (2 * (rn : Int))) bs Av bs.length cv (fun _ => True) (fun _ => False) (by rfl) (by rfl) hRl (Kd.C_below hC81 hb2) (fun _ _ h => h) (fun _ h => h.elim) (fun _ _ => trivial) hb02 hb02.size (by omega) ?_
             intro v3 w3 hO3 hB3 hg3 hat3)
          | fail)
        go_ret2
        rw [hrb]
        exact ⟨_, rfl, by simpa using hO3, hB3⟩
      case true =>
        go_wp2_with (first
          | (go_at_call 22; refine hU1.mono ?_; rintro e w2 ⟨v2, rfl, hR2, hb2⟩
             obtain ⟨A2, c2, hv2⟩ := Kd.R_slice hR2; subst hv2
             have hRl := Kd.R_lower hR2 hbev.size
             have hn2 := numB_len (2 * (rn : Int) + 1)
             have hb02 := hbev.trans (hb2.mono hbev.size))
          | ((with_reducible refine gate_builtin (b := .append) rfl ?_)
             refine Kd.R_append_rows (Kd.int .u8) (w0 := W) (W := w2) W.heap.size (by rfl) (.tmp 80) (.tmp 81) 23 5 (.int .u8 0) 1 (by rfl) Try.underlying23 info5 rfl (by decide) (by decide) (.slice A2 (numB (2 * (rn : Int) + 1)).length c2) (numB (2 * (rn : Int) + 1)) bs Av bs.length cv (fun _ => True) (fun _ => False) (by rfl) (by rfl) hRl (Kd.C_below hC81 hb2) (fun _ _ h => h) (fun _ h => h.elim) (fun _ _ => trivial) hb02 hb02.size (by omega) ?_
             intro v3 w3 hO3 hB3 hg3 hat3)
          | fail)
        go_ret2
        rw [hrb]
        exact ⟨_, rfl, by simpa using hO3, hB3⟩
end Go.Proofs.Ytkigdcihhlkkdaa.P
end
section
set_option linter.unusedVariables false
set_option linter.unusedSimpArgs false
namespace Go.Proofs.Ytkigdcihhlkkdaa.P
open Go.RowKit Go.Proofs.YtkigdcihhlkkdaaW.PrintWords Go.Proofs.YtkigdcihhlkkdaaW.PrintLast Go.Proofs.YtkigdcihhlkkdaaW.PrintMore Go.Proofs.Ytkigdcihhlkkdaa.Pure
attribute [local go_sem] Oper.semAt_some
def tab_31_5 : Bool × List (List Nat × List Nat) := (true, [([], []), ([0], [0]), ([1], [1]), ([1], [1]), ([3, 1], [1, 3]), ([2, 4, 1], [1, 2, 4]), ([1, 5], [1, 5]), ([6, 1], [6]), ([7], [7]), ([7], [7]), ([9, 7], [7, 9]), ([8, 10, 7], [7, 8, 10]), ([7, 11], [7, 11]), ([12, 7], [12]), ([13], [13]), ([13], [13]), ([14, 15, 13], [13, 14, 15]), ([16, 13], [13, 16]), ([13], [13]), ([18, 13], [13, 18]), ([17, 19, 13], [13, 17, 19]), ([13, 20], [13, 20]), ([21, 13, 0, 1, 2, 3, 4, 5, 6, 7, 8, 9, 10, 11, 12, 13, 14, 15, 16, 17, 18, 19, 20, 21], [21])])
theorem tab_31_5_ : rtab .any (opsOf Try.f31 5) = tab_31_5 := by kernel_rfl
set_option maxHeartbeats 16000000 in
set_option maxRecDepth 100000 in
theorem tells_ (b : List Int) (hx : ∀ x ∈ b, 0 ≤ x ∧ x < 256) (hl : b.length ≤ 1000000) (A : Option Addr) (c : Nat) (w : World) (hC : Kd.C (Kd.int .u8) w A b.length b) (hc : b.length ≤ c) :
    Calls Try.prog 31 #[.slice A b.length c] w fun e w' => e = .returned (.bool true) ∧ Below w.heap.size w w' := by
  obtain ⟨⟨q, wr, n, er⟩, hE, hT⟩ := get_any b hx hl
  obtain ⟨k, hk⟩ := Ev.rounds hE
  have hget := fun (W : World) (h : Kd.C (Kd.int .u8) W A b.length b) => pack_Get.calls k A c b q wr n er W h hc hk
  clear hk hE
  rcases hT with hT | ⟨q', wr', m, hT, hm, hiq, hrb, hmb⟩
  · simp only [Prod.mk.injEq] at hT
    obtain ⟨rfl, rfl, rfl, rfl⟩ := hT
    go_enter Try.func31, Try.ntmps31
    go_upto_region 2 with (first
      | (go_at_call 30; refine (hget _ hC).mono ?_; rintro e w5 ⟨v5, rfl, hR5, hb5⟩
         obtain ⟨A5, c5, hv5⟩ := Kd.R_slice hR5; subst hv5
         clear hget)
      | fail)
    obtain ⟨wa, hwa⟩ : ∃ wa, wa = w5.alloc (.cells #[.slice A5 ([] : List S45).length c5, .bool false] 31) := ⟨_, rfl⟩
    have hXa : wa.heap[w5.heap.size]? = some (.cells #[.slice A5 ([] : List S45).length c5, .bool false] 31 (0, 0)) := by rw [hwa]; exact blk_new _ _
    have hba : Below w5.heap.size w5 wa := by rw [hwa]; exact below_alloc (Below.refl _ _) _
    simp only [List.length_nil] at hwa hXa
    try simp only [List.length_nil]
    rw [← hwa]
    have hbw := hb5.trans (hba.mono hb5.size)
    clear hwa hba hb5 hR5
    obtain ⟨t0, t1, _, _⟩ := blk2 hXa
    go_wp2
    go_ret
    exact ⟨rfl, hbw⟩
  · simp only [Prod.mk.injEq] at hT
    obtain ⟨rfl, rfl, rfl, rfl⟩ := hT
    obtain ⟨t, ht⟩ : ∃ t, b.take m = t := ⟨_, rfl⟩
    have htl : t.length = m := by rw [← ht, List.length_take]; omega
    have hql := mayB_len hm
    have hyes : refRowB q = true := by rw [← may_ref q hiq]; exact hm
    have hCt := Kd.C_take (m := m) hC hmb
    obtain ⟨i0, hi, _, hsz, _⟩ := info_parts info5
    have hcut := cut_to (P := Try.prog) 23 5 .i64 Try.underlying23 hi A b.length c (m : Int) (by omega) (by omega) hc
    rw [Int.toNat_natCast] at hcut
    rw [ht] at hCt hrb
    rw [← htl] at hcut hget hmb
    have hm1 : (t.length : Int) ≤ (b.length : Int) := by omega
    clear ht htl hi hsz
    go_enter Try.func31, Try.ntmps31
    go_upto_region 4 with (first
      | (go_at_call 30; refine (hget _ hC).mono ?_; rintro e w5 ⟨v5, rfl, hR5, hb5⟩
         obtain ⟨A5, c5, hv5⟩ := Kd.R_slice hR5; subst hv5
         clear hget)
      | fail)
    obtain ⟨wa, hwa⟩ : ∃ wa, wa = w5.alloc (.cells #[.slice A5 q.length c5, .bool wr] 31) := ⟨_, rfl⟩
    rw [← hwa]
    have hXa : wa.heap[w5.heap.size]? = some (.cells #[.slice A5 q.length c5, .bool wr] 31 (0, 0)) := by rw [hwa]; exact blk_new _ _
    have hba : Below w5.heap.size w5 wa := by rw [hwa]; exact below_alloc (Below.refl _ _) _
    have hbw := hb5.trans (hba.mono hb5.size)
    have hCa : Kd.C k45 wa A5 q.length q := Kd.C_below (Kd.R_reads' hR5).2.2 hba
    have hc5 := (Kd.R_reads' hR5).2.1
    have h25 := putRow_yes A5 c5 q wr wa hCa hc5 (by omega) hiq hyes
    rw [hrb] at h25
    clear hwa hba hb5 hR5
    obtain ⟨t0, t1, _, _⟩ := blk2 hXa
    go_upto_region 5 with (first
      | (go_at_call 25; refine h25.mono ?_; rintro e w8 ⟨v8, rfl, hR8, hb8⟩
         obtain ⟨A8, c8, hv8⟩ := Kd.R_slice hR8; subst hv8
         clear h25)
      | fail)
    have hbw8 := hbw.trans (hb8.mono hbw.size)
    have hC8 := (Kd.R_reads' hR8).2.2
    have HV1 : ∀ w', SB w8 w' → (convert 23 9 (.slice A t.length c)).run Try.prog w' = .ok (.string (strOfNums t)) w' := fun w' h => Kd.C_string Try.underlying23 Try.underlying5 Try.underlying9 (Kd.C_below hCt (hbw8.trans (Below.mono (w := w8) h hbw8.size)))
    have HV2 : ∀ w', SB w8 w' → (convert 23 9 (.slice A8 t.length c8)).run Try.prog w' = .ok (.string (strOfNums t)) w' := fun w' h => Kd.C_string Try.underlying23 Try.underlying5 Try.underlying9 (Kd.C_below hC8 h)
    have HB0 : SB w8 w8.drew := below_drew1 (Below.refl _ _)
    clear t0 t1 hR8 hb8 hCt hXa
    refine start_ (n := 23) (S := SB w8) (ds := []) (bl_ [0, 23]) (by kernel_rfl) (by kernel_rfl) rfl HB0 (fun _ => ?_)
    refine with_tab tab_31_5_ (fun HT_ => ?_)
    refine takes_ [0, 1, 2, 3, 4, 5, 6, 7, 8, 9, 10, 11, 12, 13, 14, 15, 18, 16, 19, 17, 20, 21, 22] 0 (bl_ [23]) rfl HT_.out (by kernel_rfl) HB0 (a' := ?_) ?_ ?_
    rotate_left
    · repeat (first | exact rfl | (refine tkN rfl rfl (fun _ _ _ h => h) (by rfl) (by simp only [Act.put, List.setIfInBounds_toArray, List.set_cons_zero, List.set_cons_succ, i64_w, i32_w]; rfl) ?_) | (refine tkY rfl rfl (fun _ _ _ h => h) (by rfl) (fun w' hw' => by (obtain _ := hw'; have cv1 := HV1 w' hw'; have cv2 := HV2 w' hw'; go_simp; with_reducible rfl)) (by simp only [Act.put, List.setIfInBounds_toArray, List.set_cons_zero, List.set_cons_succ, i64_w, i32_w]; rfl) ?_))
    refine done_ (done_of HT_.out (by kernel_rfl)) ?_
    go_wp2
    go_ret
    exact ⟨rfl, hbw8.trans (Below.mono (w := w8) HB0 hbw8.size)⟩
end Go.Proofs.Ytkigdcihhlkkdaa.P
end
section
set_option linter.unusedVariables false
set_option linter.unusedSimpArgs false
namespace Go.Proofs.Ytkigdcihhlkkdaa.P
open Go.RowKit Go.Proofs.YtkigdcihhlkkdaaW.PrintWords Go.Proofs.YtkigdcihhlkkdaaW.PrintLast Go.Proofs.YtkigdcihhlkkdaaW.PrintMore
structure Pg where
  blk : Nat
  ok : Nat → Prop
  rows : List (List Int)
def Pg.cell (p : Pg) : List Value := [.pointer (some ⟨p.blk, 0, none⟩)]
def flat (ps : List Pg) : List (List Int) := (ps.map Pg.rows).flatten
def mid : List Pg → Prop
  | [] => True
  | [_] => True
  | p :: q :: r => p.rows.length = 16 ∧ mid (q :: r)
structure Inv (ps : List Pg) : Prop where
  some_ : ∀ p ∈ ps, p.rows ≠ []
  most : ∀ p ∈ ps, p.rows.length ≤ 16
  full : mid ps.tail
theorem mid_tail : ∀ {ps : List Pg}, mid ps → mid ps.tail
  | [], _ => trivial
  | [_], _ => trivial
  | _ :: _ :: _, h => h.2
theorem Inv.tail {ps : List Pg} (h : Inv ps) : Inv ps.tail :=
  ⟨fun p hp => h.some_ p (List.mem_of_mem_tail hp), fun p hp => h.most p (List.mem_of_mem_tail hp), mid_tail h.full⟩
def StoreAt (W : World) (ok : Nat → Prop) (s : Nat) (lim n gone : Int) (ps : List Pg) : Prop :=
  ok s ∧ ∃ v, W.heap[s]? = some (.cells #[.int .i64 lim, v, .int .i64 n, .int .i64 gone] 91 (0, 0)) ∧ (Kd.raw 1).Q 49 W 0 (fun k => ok k ∧ k ≠ s) v (ps.map Pg.cell) ∧
    (∀ p ∈ ps, PageAt W p.ok p.blk p.rows ∧ ∀ k, p.ok k → ok k ∧ k ≠ s ∧ some k ≠ v.ownBlock) ∧ ps.Pairwise (fun p q => ∀ k, p.ok k → ¬ q.ok k)
namespace StoreAt
variable {W W' : World} {ok ok' S : Nat → Prop} {s : Nat} {lim n gone : Int} {ps : List Pg}
theorem step (h : StoreAt W ok s lim n gone ps) (hm : ∀ k, ok k → k < W.heap.size → W'.heap[k]? = W.heap[k]?) : StoreAt W' ok s lim n gone ps := by
  obtain ⟨h0, v, hg, hv, hp, hd⟩ := h
  exact ⟨h0, v, (hm s h0 (blk_lt hg)).trans hg, Kd.Q_step hv (fun k hk hlt => hm k hk.1 hlt), fun p hpm => ⟨(hp p hpm).1.step (fun k hk hlt => hm k ((hp p hpm).2 k hk).1 hlt), (hp p hpm).2⟩, hd⟩
theorem mono (h : StoreAt W ok s lim n gone ps) (hok : ∀ k, ok k → ok' k) : StoreAt W ok' s lim n gone ps := by
  obtain ⟨h0, v, hg, hv, hp, hd⟩ := h
  exact ⟨hok s h0, v, hg, Kd.Q_mono hv (fun k hk => ⟨hok k hk.1, hk.2⟩), fun p hpm => ⟨(hp p hpm).1, fun k hk => ⟨hok k ((hp p hpm).2 k hk).1, ((hp p hpm).2 k hk).2⟩⟩, hd⟩
theorem below (h : StoreAt W ok s lim n gone ps) (hf : Below W.heap.size W W') : StoreAt W' ok s lim n gone ps := h.step (fun k hk hlt => hf.block k hlt)
theorem fr (h : StoreAt W ok s lim n gone ps) (hf : Fr S W W') (hs : ∀ k, ok k → ¬ S k) : StoreAt W' ok s lim n gone ps := h.step (fun k hk hlt => hf.block k hlt (hs k hk))
theorem lt (h : StoreAt W ok s lim n gone ps) : s < W.heap.size := by
  obtain ⟨h0, v, hg, _⟩ := h
  exact blk_lt hg
end StoreAt
theorem blk4 {W : World} {g t : Nat} {a b c d : Value} (h : W.heap[g]? = some (.cells #[a, b, c, d] t (0, 0))) : (W.cell? ⟨g, 0, none⟩ = some a ∧ W.cell? ⟨g, 1, none⟩ = some b ∧ W.cell? ⟨g, 2, none⟩ = some c ∧ W.cell? ⟨g, 3, none⟩ = some d) ∧ W.frozen? ⟨g, 0, none⟩ = false ∧ W.frozen? ⟨g, 1, none⟩ = false ∧ W.frozen? ⟨g, 2, none⟩ = false ∧ W.frozen? ⟨g, 3, none⟩ = false :=
  ⟨⟨(blk_cell h 0).trans rfl, (blk_cell h 1).trans rfl, (blk_cell h 2).trans rfl, (blk_cell h 3).trans rfl⟩, blk_frozen h 0, blk_frozen h 1, blk_frozen h 2, blk_frozen h 3⟩
theorem Addr.add_zero_ (ad : Addr) : ad.add 0 = ad := rfl
theorem PageAt.drewN {W : World} {ok : Nat → Prop} {g : Nat} {rows : List (List Int)} (h : PageAt W ok g rows) (m : Nat) : PageAt (W.drewN m) ok g rows := h.step (fun _ _ _ => rfl)
theorem PageAt.set {W : World} {ok : Nat → Prop} {g s : Nat} {rows : List (List Int)} (h : PageAt W ok g rows) (hs : ¬ ok s) (j : Nat) (u : Value) : PageAt (W.setCell ⟨s, j, none⟩ u) ok g rows :=
  h.step (fun k hk _ => Below.heap_setCell W ⟨s, j, none⟩ u k (fun e => hs (by have e' : k = s := e; rw [← e']; exact hk)))
theorem cell_far_ {W : World} {ad : Addr} {v : Value} {s : Nat} (h : W.cell? ad = some v) (hne : ad.block ≠ s) (j : Nat) (u : Value) : (W.setCell ⟨s, j, none⟩ u).cell? ad = some v := by
  rw [← h]
  unfold World.cell?
  rw [Below.heap_setCell W ⟨s, j, none⟩ u ad.block hne]
theorem quiet_of2 {P : Program} {f : FuncId} {args : Array Value} {w : World} {a b : Nat} {v : Value}
    (h : Calls P f args (w.drewN (a + b)) fun e w' => e = .returned v ∧ ∃ m, w' = (w.drewN (a + b)).drewN m) : Calls P f args (w.drewN (a + b)) fun e w'' => e = .returned v ∧ ∃ n, w'' = w.drewN (a + n) :=
  h.mono fun _ _ ⟨he, m, hm⟩ => ⟨he, b + m, by rw [hm, World.drewN_drewN, Nat.add_assoc]⟩
theorem ptr_at {W : World} {okv : Nat → Prop} {A : Option Addr} {n c : Nat} {ps : List Pg} (h : (Kd.raw 1).Q 49 W 0 okv (.slice A n c) (ps.map Pg.cell)) {i : Nat} {p : Pg} (hp : ps[i]? = some p) : ∃ ad, A = some ad ∧ W.cell? (ad.add i) = some (.pointer (some ⟨p.blk, 0, none⟩)) := by
  obtain ⟨hn, hc, hC⟩ := Kd.Q_reads' h
  have hil := (List.getElem?_eq_some_iff.1 hp).1
  obtain ⟨ad, cs, hA, hcl, hK, hcc⟩ := ReadsRow.get_ hC [] (i : Int) (by omega) (by simp; omega)
  refine ⟨ad, hA, ?_⟩
  have hcs : cs = p.cell := by
    have := hK.1
    rw [this, List.getD_eq_getElem?_getD, Int.toNat_natCast, List.getElem?_map, hp]
    rfl
  subst hcs
  simpa [Kd.raw] using hcc 0 _ rfl
theorem StoreAt.rebuild {w2 w3 : World} {ok : Nat → Prop} {s : Nat} {lim n gone : Int} {v : Value} {ps : List Pg} (h0 : ok s) (hg : w3.heap[s]? = some (.cells #[.int .i64 lim, v, .int .i64 n, .int .i64 gone] 91 (0, 0)))
    (hoth : ∀ k, k ≠ s → w3.heap[k]? = w2.heap[k]?) (hQ : (Kd.raw 1).Q 49 w2 0 (fun k => ok k ∧ k ≠ s) v (ps.map Pg.cell))
    (hp : ∀ p ∈ ps, PageAt w2 p.ok p.blk p.rows ∧ ∀ k, p.ok k → ok k ∧ k ≠ s ∧ some k ≠ v.ownBlock) (hd : ps.Pairwise (fun p q => ∀ k, p.ok k → ¬ q.ok k)) : StoreAt w3 ok s lim n gone ps :=
  ⟨h0, v, hg, Kd.Q_step hQ (fun k hk _ => hoth k hk.2), fun p hpm => ⟨(hp p hpm).1.step (fun k hk _ => hoth k ((hp p hpm).2 k hk).2.1), (hp p hpm).2⟩, hd⟩
theorem flat_cons (p : Pg) (ps : List Pg) : flat (p :: ps) = p.rows ++ flat ps := rfl
theorem cut_inv {p0 : Pg} {rest : List Pg} {F : List (List Int)} {n n' gone gone' lim K : Int} {ok : Nat → Prop} {gk : Nat} (hI : Inv (p0 :: rest)) (hF : flat (p0 :: rest) = F.drop (n - n').toNat) (hN : n' = (flat (p0 :: rest)).length) (hnn : n' ≤ n) (hgn : gone' + n' = gone + n) (hk : (p0 :: rest).length < gk)
    (hK0 : 0 ≤ K ∧ K ≤ n' - lim ∧ K ≤ p0.rows.length ∧ (K = n' - lim ∨ K = p0.rows.length)) (ps2 : List Pg) (hps : (ps2 = rest ∧ p0.rows.length - K.toNat = 0) ∨ (ps2 = { p0 with rows := p0.rows.drop K.toNat } :: rest ∧ p0.rows.length - K.toNat ≠ 0)) :
    Inv ps2 ∧ flat ps2 = F.drop (n - (n' - K)).toNat ∧ n' - K = (flat ps2).length ∧ n' - K ≤ n ∧ (lim ≤ n' - K ∨ n' - K = n) ∧ (gone' + K) + (n' - K) = gone + n ∧ (lim < n' - K → ps2.length < gk - 1) := by
  have hfl : flat ps2 = (flat (p0 :: rest)).drop K.toNat := by
    rw [flat_cons]
    rcases hps with ⟨rfl, he⟩ | ⟨rfl, he⟩
    · rw [List.drop_append_of_le_length (by omega), List.drop_of_length_le (by omega), List.nil_append]
    · rw [flat_cons, List.drop_append_of_le_length (by omega)]
  have hlen : p0.rows.length ≤ (flat (p0 :: rest)).length := by rw [flat_cons, List.length_append]; omega
  refine ⟨?_, ?_, ?_, by omega, .inl (by omega), by omega, ?_⟩
  · rcases hps with ⟨rfl, he⟩ | ⟨rfl, he⟩
    · exact hI.tail
    · refine ⟨fun p hp => ?_, fun p hp => ?_, hI.full⟩
      · rcases List.mem_cons.1 hp with rfl | hp
        · intro h0
          have := congrArg List.length h0
          simp only [List.length_drop, List.length_nil] at this
          omega
        · exact hI.some_ p (by simp [hp])
      · rcases List.mem_cons.1 hp with rfl | hp
        · have := hI.most p0 (by simp)
          simp only [List.length_drop]
          omega
        · exact hI.most p (by simp [hp])
  · rw [hfl, hF, List.drop_drop]
    congr 1
    omega
  · rw [hfl, List.length_drop]
    omega
  · intro hlt
    simp only [List.length_cons] at hk
    rcases hps with ⟨rfl, he⟩ | ⟨rfl, he⟩
    · omega
    · omega
set_option maxHeartbeats 2000000 in
set_option maxRecDepth 100000 in
theorem store_len (W : World) (ok : Nat → Prop) (s : Nat) (lim n gone : Int) (ps : List Pg) (h : StoreAt W ok s lim n gone ps) :
    Calls Try.prog 44 #[.pointer (some ⟨s, 0, none⟩)] W fun e w' => e = .returned (.int .i64 n) ∧ Drawn0 W w' := by
  obtain ⟨_, v, hg, _⟩ := h
  obtain ⟨⟨h0, h1, h2, h3⟩, _⟩ := blk4 hg
  go_enter Try.func44, Try.ntmps44
  go_wp2
  all_goals go_ret
  all_goals exact ⟨by first | rfl | simp, Drawn0.refl _⟩
set_option maxHeartbeats 2000000 in
set_option maxRecDepth 100000 in
theorem store_gone (W : World) (ok : Nat → Prop) (s : Nat) (lim n gone : Int) (ps : List Pg) (h : StoreAt W ok s lim n gone ps) :
    Calls Try.prog 45 #[.pointer (some ⟨s, 0, none⟩)] W fun e w' => e = .returned (.int .i64 gone) ∧ Drawn0 W w' := by
  obtain ⟨_, v, hg, _⟩ := h
  obtain ⟨⟨h0, h1, h2, h3⟩, _⟩ := blk4 hg
  go_enter Try.func45, Try.ntmps45
  go_wp2
  all_goals go_ret
  all_goals exact ⟨by first | rfl | simp, Drawn0.refl _⟩
set_option maxHeartbeats 2000000 in
set_option maxRecDepth 100000 in
theorem store_new (W : World) (lim : Int) : Calls Try.prog 39 #[.int .i64 lim] W fun e w' => ∃ s, e = .returned (.pointer (some ⟨s, 0, none⟩)) ∧ W.heap.size ≤ s ∧ StoreAt w' (fun k => W.heap.size ≤ k) s (min (max lim 0) 1000000) 0 0 [] ∧ Below W.heap.size W w' := by
  go_enter Try.func39, Try.ntmps39
  go_wp2
  go_ret
  exact ⟨W.heap.size, rfl, Nat.le_refl _, ⟨Nat.le_refl _, .slice none 0 0, by simp [World.alloc, -World.alloc_eq], Kd.Q_nil _ _ _ _ _, fun p hp => by simp at hp, List.Pairwise.nil⟩, below_alloc (Below.refl _ _) _⟩
set_option maxHeartbeats 2000000 in
set_option maxRecDepth 100000 in
theorem store_cuts (W : World) (ok : Nat → Prop) (s : Nat) (lim n gone : Int) (ps : List Pg) (h : StoreAt W ok s lim n gone ps) (hi : Inv ps) (hn : n = (flat ps).length) (hn2 : n ≤ 1000000000) (hl : 0 ≤ lim) (hg0 : 0 ≤ gone) (hg1 : gone ≤ 1000000000) :
    Calls Try.prog 62 #[.pointer (some ⟨s, 0, none⟩)] W fun e w' => e = .returned (.tuple #[]) ∧ ∃ ps' n' gone', StoreAt w' ok s lim n' gone' ps' ∧ Inv ps' ∧ flat ps' = (flat ps).drop (n - n').toNat ∧ n' = min n lim ∧ gone' + n' = gone + n ∧ Fr ok W w' := by
  go_enter Try.func62, Try.ntmps62
  go_wp2
  go_loopg [2] (ps.length + 1) (fun kq v2 w' => ∃ (ps' : List Pg) (n' gone' : Int), Aside0 (StoreAt w' ok s lim n' gone' ps' ∧ Inv ps' ∧ flat ps' = (flat ps).drop (n - n').toNat ∧ n' = (flat ps').length ∧ n' ≤ n ∧ (lim ≤ n' ∨ n' = n) ∧ gone' + n' = gone + n ∧ Fr ok W w' ∧ (lim < n' → ps'.length < kq)))
  case atStart => exact ⟨ps, n, gone, ⟨h, hi, by simp, hn, Int.le_refl _, .inr rfl, rfl, Fr.refl _ _, fun _ => Nat.lt_succ_self _⟩⟩
  case round =>
    have HX := Aside0.mk hn
    clear hn
    obtain ⟨ps', n', gone', HA⟩ := hrel
    obtain ⟨hs0, v, hg, hv, hp, hd⟩ := HA.out.1
    obtain ⟨A, c, rfl, hc⟩ := Kd.Q_slice hv
    rw [List.length_map] at hg hv hc
    obtain ⟨⟨h0, h1, h2, h3⟩, f0, f1, f2, f3⟩ := blk4 hg
    by_cases hlt : lim < n'
    · have hne : ps' ≠ [] := by rintro rfl; have := HA.out.2.2.2.1; simp [flat] at this; omega
      obtain ⟨p0, rest, rfl⟩ := List.exists_cons_of_ne_nil hne
      obtain ⟨ad, rfl, hp0⟩ := ptr_at hv (i := 0) (p := p0) rfl
      rw [Addr.add_zero_] at hp0
      obtain ⟨hP0, hP0n⟩ := hp p0 (by simp)
      have hsn : ¬ p0.ok s := fun hq => (hP0n s hq).2.1 rfl
      have hvn : ∀ k, (Value.slice (some ad) (p0 :: rest).length c).ownBlock = some k → ¬ p0.ok k := fun k hk hq => (hP0n k hq).2.2 hk.symm
      have hw1 : IntKind.i64.wrap (n' - lim) = n' - lim := by have := HA.out; rw [IntKind.wrap_i64]; omega
      go_wp2
      go_quiet (fail)
      go_wp2
      go_quiet ((go_at_call 37; exact quiet_of2 ((page_len _ p0.ok p0.blk p0.rows (hP0.drewN _)).mono (fun e w1 h => ⟨h.1, h.2.out⟩))))
      go_wp2_with (first
        | (go_at_call 35
           generalize hKe : min (n' - lim) (p0.rows.length : Int) = K
           refine (page_cut _ p0.ok p0.blk p0.rows K (hP0.drewN _)).mono ?_
           rintro e w2 ⟨rfl, hP2, hfr2⟩
           have hK0 : 0 ≤ K ∧ K ≤ n' - lim ∧ K ≤ p0.rows.length ∧ (K = n' - lim ∨ K = p0.rows.length) := by omega
           rw [if_pos ⟨hK0.1, hK0.2.2.1⟩] at hP2
           have hg2 := hfr2.old hsn hg
           obtain ⟨⟨k0, k1, k2, k3⟩, j0, j1, j2, j3⟩ := blk4 hg2
           have hQ2 := Kd.Q_step (Kd.Q_tight rfl hv) (fun k hk hlt => hfr2.block k hlt (hvn k hk.symm))
           obtain ⟨ad2, hadq, hp2⟩ := ptr_at hQ2 (i := 0) (p := p0) rfl
           obtain rfl := Option.some.inj hadq
           rw [Addr.add_zero_] at hp2
           have hw2 : IntKind.i64.wrap (n' - K) = n' - K := by have := HA.out; rw [IntKind.wrap_i64]; omega
           have hw3 : IntKind.i64.wrap (gone' + K) = gone' + K := by have := HA.out; rw [IntKind.wrap_i64]; omega
           have hadn : ad.block ≠ s := (hv.1 ad.block rfl).2
           have hp3 := cell_far_ (cell_far_ hp2 hadn 2 (.int .i64 (n' - K))) hadn 3 (.int .i64 (gone' + K)))
        | (go_at_call 37
           refine (page_len _ p0.ok p0.blk (p0.rows.drop K.toNat) ((hP2.set hsn 2 _).set hsn 3 _)).mono ?_
           rintro e w3 ⟨rfl, hd3⟩
           obtain ⟨m3, rfl⟩ := hd3.out))
      all_goals
        have hall := HA.out
        have hkk := hall.2.2.2.2.2.2.2.2 hlt
        have hne1 : gk - 1 < gk := by simp only [List.length_cons] at hkk; omega
        have hdis : ∀ q ∈ rest, ∀ k, p0.ok k → ¬ q.ok k := (List.pairwise_cons.1 hd).1
        have hfr2b : Fr p0.ok wr w2 := ((Fr.refl p0.ok wr).drewN _).trans hfr2 (fun _ _ h => h)
        have hfr3 : Fr ok wr w2 := (hfr2b.mono (fun k hk => (hP0n k hk).1))
        have hfr4 : Fr ok W w2 := (hall.2.2.2.2.2.2.2.1).trans hfr3 (fun _ _ h => h)
        have hrest : ∀ q ∈ rest, PageAt w2 q.ok q.blk q.rows := fun q hq => (hp q (by simp [hq])).1.fr hfr2b (fun k hk hk2 => hdis q hq k hk2 hk)
        have hQ3 := Kd.Q_mono (ok' := fun k => ok k ∧ k ≠ s) hQ2 (fun k hk => hv.1 k hk.symm)
        have hQd := Kd.Q_drop (k := 1) hQ3 (by simp)
        simp only [List.map_cons, List.drop_succ_cons, List.drop_zero, List.length_cons, Nat.add_sub_cancel] at hQd
        have hz1 : (Kd.raw 1).sz = 1 := rfl
        have hlow : Fr ok W (((w2.setCell ⟨s, 2, none⟩ (.int .i64 (n' - K))).setCell ⟨s, 3, none⟩ (.int .i64 (gone' + K))).drewN m3) := ((hfr4.setCell (p := ⟨s, 2, none⟩) hs0 _).setCell (p := ⟨s, 3, none⟩) hs0 _).drewN m3
        have hblk := blk_drewN (blk_set (blk_set hg2 2 (.int .i64 (n' - K))) 3 (.int .i64 (gone' + K))) m3
        have hoth : ∀ k, k ≠ s → (((w2.setCell ⟨s, 2, none⟩ (.int .i64 (n' - K))).setCell ⟨s, 3, none⟩ (.int .i64 (gone' + K))).drewN m3).heap[k]? = w2.heap[k]? := fun k hk => (Below.heap_setCell _ ⟨s, 3, none⟩ _ k hk).trans (Below.heap_setCell _ ⟨s, 2, none⟩ _ k hk)
      · rename_i hz0
        have hz : p0.rows.length - K.toNat = 0 := by simpa using hz0
        have hcut := cut_inv (ok := ok) (gk := gk) hall.2.1 hall.2.2.1 hall.2.2.2.1 hall.2.2.2.2.1 hall.2.2.2.2.2.2.1 hkk hK0 rest (.inl ⟨rfl, hz⟩)
        go_roundg (gk - 1)
        case measure => exact hne1
        case rel =>
          refine ⟨rest, n' - K, gone' + K, ⟨StoreAt.rebuild (w2 := w2) hs0 ((blk_set hblk 1 _).trans rfl) (fun k hk => (Below.heap_setCell _ ⟨s, 1, none⟩ _ k hk).trans (hoth k hk)) (v := .slice (some ad) rest.length 0) ?_ (fun q hq => ⟨hrest q hq, fun k hk => (hp q (by simp [hq])).2 k hk⟩) (List.pairwise_cons.1 hd).2, hcut.1, hcut.2.1, hcut.2.2.1, hcut.2.2.2.1, hcut.2.2.2.2.1, hcut.2.2.2.2.2.1, hlow.setCell (p := ⟨s, 1, none⟩) hs0 _, hcut.2.2.2.2.2.2⟩⟩
          have hc1 : c = 1 := by first | assumption | omega
          subst hc1
          exact hQd
      · rename_i hz0
        have hz : p0.rows.length - K.toNat = 0 := by simpa using hz0
        have hcut := cut_inv (ok := ok) (gk := gk) hall.2.1 hall.2.2.1 hall.2.2.2.1 hall.2.2.2.2.1 hall.2.2.2.2.2.2.1 hkk hK0 rest (.inl ⟨rfl, hz⟩)
        go_roundg (gk - 1)
        case measure => exact hne1
        case rel =>
          refine ⟨rest, n' - K, gone' + K, ⟨StoreAt.rebuild (w2 := w2) hs0 ((blk_set hblk 1 _).trans rfl) (fun k hk => (Below.heap_setCell _ ⟨s, 1, none⟩ _ k hk).trans (hoth k hk)) (v := .slice (some ⟨ad.block, ad.off + 1, none⟩) rest.length (c - 1)) ?_ (fun q hq => ⟨hrest q hq, fun k hk => (hp q (by simp [hq])).2 k hk⟩) (List.pairwise_cons.1 hd).2, hcut.1, hcut.2.1, hcut.2.2.1, hcut.2.2.2.1, hcut.2.2.2.2.1, hcut.2.2.2.2.2.1, hlow.setCell (p := ⟨s, 1, none⟩) hs0 _, hcut.2.2.2.2.2.2⟩⟩
          rw [if_neg (by first | assumption | omega)] at hQd
          exact hQd
      · rename_i hz0
        have hz : p0.rows.length - K.toNat ≠ 0 := by simpa using hz0
        have hcut := cut_inv (ok := ok) (gk := gk) hall.2.1 hall.2.2.1 hall.2.2.2.1 hall.2.2.2.2.1 hall.2.2.2.2.2.2.1 hkk hK0 ({ p0 with rows := p0.rows.drop K.toNat } :: rest) (.inr ⟨rfl, hz⟩)
        go_roundg (gk - 1)
        case measure => exact hne1
        case rel =>
          refine ⟨{ p0 with rows := p0.rows.drop K.toNat } :: rest, n' - K, gone' + K, ⟨StoreAt.rebuild (w2 := w2) hs0 (hblk.trans rfl) hoth (v := .slice (some ad) (rest.length + 1) c) hQ3 (fun q hq => ?_) ?_, hcut.1, hcut.2.1, hcut.2.2.1, hcut.2.2.2.1, hcut.2.2.2.2.1, hcut.2.2.2.2.2.1, hlow, hcut.2.2.2.2.2.2⟩⟩
          · rcases List.mem_cons.1 hq with rfl | hq
            · exact ⟨hP2, hP0n⟩
            · exact ⟨hrest q hq, fun k hk => (hp q (by simp [hq])).2 k hk⟩
          · exact List.pairwise_cons.2 ⟨hdis, (List.pairwise_cons.1 hd).2⟩
    · go_wp2
      go_quiet (fail)
      go_wp2
      have hall := HA.out
      go_end0
      exact ⟨rfl, ps', n', gone', hall.1.step (fun _ _ _ => rfl), hall.2.1, hall.2.2.1, by have := HX.out; omega, hall.2.2.2.2.2.2.1, hall.2.2.2.2.2.2.2.1.drewN _⟩
end Go.Proofs.Ytkigdcihhlkkdaa.P
end
