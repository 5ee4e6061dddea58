/- own texts of this session, put together -/
import Derived.Test.YtkigdcihhlkkdaaTZ0
import Derived.Test.YtkigdcihhlkkdaaTZ15
import Derived.Test.YtkigdcihhlkkdaaTZ14
import Derived.Test.YtkigdcihhlkkdaaTZ16
import Derived.Deep.DeepCutAuto
import Derived.Test.YtkigdcihhlkkdaaTZ1
section
namespace Go.Proofs.Ytkigdcihhlkkdaa.P
open Go.RowKit Go.Proofs.YtkigdcihhlkkdaaW.PrintWords Go.Proofs.YtkigdcihhlkkdaaW.PrintLast Go.Proofs.YtkigdcihhlkkdaaW.PrintMore
attribute [local go_sem] max2_int min2_int max_two min_two max_three min_three max_four min_four   -- for this text's walks alone
set_option linter.unusedVariables false
set_option linter.unusedSimpArgs false
def rotulusref1_Uint.l0 : Nat → Int → List Int → Option (List Int)
  | 0, _, _ => none
  | k + 1, x0, x3 => if x0 ≥ 128 then (if x3.length < 140737488355328 then (rotulusref1_Uint.l0 k (IntKind.u64.wrap (Int.tdiv x0 128)) (x3 ++ [((Int.tmod x0 128) + 128) % 256])) else (none)) else (if x3.length < 140737488355328 then (some (x3 ++ [(x0) % 256])) else (none))
def rotulusref1_Uint.f (k : Nat) (a0 : Int) : Option (List Int) := rotulusref1_Uint.l0 k a0 ([] : List Int)
theorem rotulusref1_Uint.mono_l : ∀ k, (∀ y0 y1, LeO (rotulusref1_Uint.l0 k y0 y1) (rotulusref1_Uint.l0 (k + 1) y0 y1))
  | 0 => fun _ _ r h => by simp [rotulusref1_Uint.l0] at h
  | k + 1 => by
    have ih0 := rotulusref1_Uint.mono_l k
    · intro y0 y1
      unfold rotulusref1_Uint.l0
      repeat' first
      | (with_reducible exact ih0 _ _)
      | (with_reducible exact LeO.refl _)
      | (with_reducible exact LeO.none _)
      | (with_reducible refine LeO.ite ?_ ?_)
      | (with_reducible refine LeO.bind ?_ (fun _ => ?_))
      | exact ih0 _ _
      | exact LeO.none _
      | refine LeO.ite ?_ ?_
      | refine LeO.bind ?_ (fun _ => ?_)
theorem rotulusref1_Uint.mono : ∀ a0 k, LeO (rotulusref1_Uint.f k a0) (rotulusref1_Uint.f (k + 1) a0) := by
  intro a0 k
  have ih0 := rotulusref1_Uint.mono_l k
  unfold rotulusref1_Uint.f
  repeat' first
      | (with_reducible exact ih0 _ _)
      | (with_reducible exact LeO.refl _)
      | (with_reducible exact LeO.none _)
      | (with_reducible refine LeO.ite ?_ ?_)
      | (with_reducible refine LeO.bind ?_ (fun _ => ?_))
      | exact ih0 _ _
      | exact LeO.none _
      | refine LeO.ite ?_ ?_
      | refine LeO.bind ?_ (fun _ => ?_)
set_option maxHeartbeats 8000000 in
set_option maxRecDepth 100000 in
theorem rotulusref1_Uint.calls (k : Nat) (a0 : Int) (r : List Int) (w : World) (h : rotulusref1_Uint.f k a0 = some r) :
    Calls Try.prog 22 #[.int .u64 a0] w fun e w' => ∃ v0_ : Value, e = .returned (v0_) ∧ Kd.R (Kd.int .u8) 5 w' w.heap.size (fun _ => True) v0_ r ∧ Below w.heap.size w w' := by
  have HB := Aside0.mk (Below.refl w.heap.size w)
  have H : (rotulusref1_Uint.l0 k a0 ([] : List Int)) = some r := h
  clear h
  have H' := Aside0.mk H
  clear H
  go_enter Try.func22, Try.ntmps22
  go_wp2
  go_loopg [0, 3] k (fun kq v0 v3 w' => ∃ (x0_1 : Int) (x3_1 : List Int), v0 = .int .u64 x0_1 ∧ Aside0 (rotulusref1_Uint.l0 kq x0_1 x3_1 = some r) ∧ Aside0 (kq ≤ k) ∧ Aside0 (Kd.R (Kd.int .u8) 5 w' w.heap.size (fun _ => True) v3 x3_1) ∧ Aside0 (Below w.heap.size w w'))
  case atStart => exact ⟨(a0), (([] : List Int)), (by first | rfl | (simp; done) | (simp [*]; done)), H', ⟨Nat.le_refl _⟩, ⟨by first | exact Kd.R_nil _ _ _ _ _ | exact Kd.N_nil _ _ _ _ _ | exact Kd.V_nil _ _ _ _ _ | exact Kd.Q_nil _ _ _ _ _ | exact Kd.S_nil _ _ _ _ _⟩, ⟨by repeat (first | (with_reducible first | exact HB.out | apply below_alloc | apply pw_below_drewN | apply below_drew1) | exact HB.out)⟩⟩
  case round =>
    clear H'
    obtain ⟨x0_1, x3_1, rfl, HA, HK1, HO_3, HB⟩ := hrel
    cases gk with
    | zero => exact absurd HA.out (by simp [rotulusref1_Uint.l0])
    | succ k1 =>
      have H := HA.out
      clear HA
      simp only [rotulusref1_Uint.l0] at H
      by_cases c2 : x0_1 ≥ 128
      · rw [if_pos c2] at H
        have c2b0 : decide (128 ≤ x0_1) = true := decide_eq_true c2
        clear c2
        have c3 : x3_1.length < 140737488355328 := Decidable.byContradiction fun hc_ => absurd ((if_neg hc_).symm.trans H) (by simp)
        rw [if_pos c3] at H
        have LMc3 := Aside0.mk c3
        clear c3
        obtain ⟨y448, hy448⟩ : ∃ y_ : List Int, y_ = (x3_1 ++ [((Int.tmod x0_1 128) + 128) % 256]) := ⟨_, rfl⟩
        replace H : (rotulusref1_Uint.l0 k1 (IntKind.u64.wrap (Int.tdiv x0_1 128)) y448) = some r := by first | (rw [hy448]; with_reducible exact H) | (have H2_ := (Option.bind_some _ _).symm.trans H; rw [hy448]; with_reducible exact H2_) | (have H2_ := (Option.bind_some _ _).symm.trans H; with_reducible exact H2_) | with_reducible exact H | (rw [hy448]; exact H) | exact H
        have Ny448 := Aside0.mk hy448
        clear hy448
        have H' := Aside0.mk H
        clear H
        go_wp2_with (first | ((with_reducible refine gate_builtin (b := .append) (xs := #[.tmp 6, .tmp 11]) rfl ?_); at_builtin; refine Kd.R_append (Kd.int .u8) (w0 := w) w.heap.size rfl (.tmp 6) (.tmp 11) 23 5 (.int .u8 0) 1 rfl Try.underlying23 info5 rfl (by decide) (by omega) u3 x3_1 (((Int.tmod x0_1 128) + 128) % 256) [.int .u8 (((Int.tmod x0_1 128) + 128) % 256)] (fun _ => True) (fun _ => False) rfl rfl ?aP (fun _ hk => hk.elim) ?aF ?aO ?aB ?aS ?aL ?_; (case aP => exact rfl); (case aB => exact (by repeat (first | (with_reducible first | exact HB.out | apply below_alloc | apply pw_below_drewN | apply below_drew1) | exact HB.out))); (case aF => exact (fun _ _ => trivial)); (case aO => exact (by (with_reducible repeat (first | apply Kd.R_alloc | apply Kd.R_drewN | apply Kd.R_drew)); exact HO_3.out)); (case aS => exact (below_size (by repeat (first | (with_reducible first | exact HB.out | apply below_alloc | apply pw_below_drewN | apply below_drew1) | exact HB.out)))); (case aL => have := LMc3.out; omega); intro v449 w4 ho hb hg hat; rw [← Ny448.out] at ho; have n0_ := Aside0.mk (hb); have n1_ := Aside0.mk (ho); clear HB; clear HO_3; have HB := n0_; have HO450 := n1_; clear n0_ n1_; clear ho hb hg hat))
        go_roundg k1
        case measure => have := HK1.out; omega
        case rel => exact ⟨(IntKind.u64.wrap (Int.tdiv x0_1 128)), (y448), (by first | rfl | (simp; done) | (simp [*]; done)), H', ⟨by have := HK1.out; omega⟩, ⟨by (with_reducible repeat (first | apply Kd.R_alloc | apply Kd.R_drewN | apply Kd.R_drew)); exact HO450.out⟩, ⟨by repeat (first | (with_reducible first | exact HB.out | apply below_alloc | apply pw_below_drewN | apply below_drew1) | exact HB.out)⟩⟩
      · rw [if_neg c2] at H
        have c2b0 : decide (128 ≤ x0_1) = false := decide_eq_false c2
        clear c2
        have c5 : x3_1.length < 140737488355328 := Decidable.byContradiction fun hc_ => absurd ((if_neg hc_).symm.trans H) (by simp)
        rw [if_pos c5] at H
        have LMc5 := Aside0.mk c5
        clear c5
        obtain ⟨y451, hy451⟩ : ∃ y_ : List Int, y_ = (x3_1 ++ [(x0_1) % 256]) := ⟨_, rfl⟩
        replace H : (some y451) = some r := by first | (rw [hy451]; with_reducible exact H) | (have H2_ := (Option.bind_some _ _).symm.trans H; rw [hy451]; with_reducible exact H2_) | (have H2_ := (Option.bind_some _ _).symm.trans H; with_reducible exact H2_) | with_reducible exact H | (rw [hy451]; exact H) | exact H
        have Ny451 := Aside0.mk hy451
        clear hy451
        obtain rfl := Option.some.inj H
        go_wp2_with (first | ((with_reducible refine gate_builtin (b := .append) (xs := #[.tmp 15, .tmp 18]) rfl ?_); at_builtin; refine Kd.R_append (Kd.int .u8) (w0 := w) w.heap.size rfl (.tmp 15) (.tmp 18) 23 5 (.int .u8 0) 1 rfl Try.underlying23 info5 rfl (by decide) (by omega) u3 x3_1 ((x0_1) % 256) [.int .u8 ((x0_1) % 256)] (fun _ => True) (fun _ => False) rfl rfl ?aP (fun _ hk => hk.elim) ?aF ?aO ?aB ?aS ?aL ?_; (case aP => exact rfl); (case aB => exact (by repeat (first | (with_reducible first | exact HB.out | apply below_alloc | apply pw_below_drewN | apply below_drew1) | exact HB.out))); (case aF => exact (fun _ _ => trivial)); (case aO => exact (by (with_reducible repeat (first | apply Kd.R_alloc | apply Kd.R_drewN | apply Kd.R_drew)); exact HO_3.out)); (case aS => exact (below_size (by repeat (first | (with_reducible first | exact HB.out | apply below_alloc | apply pw_below_drewN | apply below_drew1) | exact HB.out)))); (case aL => have := LMc5.out; omega); intro v452 w6 ho hb hg hat; rw [← Ny451.out] at ho; have n0_ := Aside0.mk (hb); have n1_ := Aside0.mk (ho); clear HB; clear HO_3; have HB := n0_; have HO453 := n1_; clear n0_ n1_; clear ho hb hg hat))
        go_ret
        exact ⟨_, by first | rfl | (simp [errW_none, errW_some] <;> rfl) | (simp [*, errW_none, errW_some] <;> rfl), by (with_reducible repeat (first | apply Kd.R_alloc | apply Kd.R_drewN | apply Kd.R_drew)); exact HO453.out, by repeat (first | (with_reducible first | exact HB.out | apply below_alloc | apply pw_below_drewN | apply below_drew1) | exact HB.out)⟩
end Go.Proofs.Ytkigdcihhlkkdaa.P
end
section
set_option linter.unusedVariables false
set_option linter.unusedSimpArgs false
namespace Go.Proofs.Ytkigdcihhlkkdaa.Pure
open Go.RowKit Go.Proofs.Ytkigdcihhlkkdaa.P Go.Proofs.YtkigdcihhlkkdaaW.PrintWords Go.Proofs.YtkigdcihhlkkdaaW.PrintLast
theorem refUint_loop : ∀ (f n : Nat) (acc : List Int), 0 < f → n < 128 ^ f → n < 18446744073709551616 → acc.length + f < 140737488355328 → Ev (fun k => rotulusref1_Uint.l0 k (n : Int) acc) (acc ++ uintL f n)
  | 0, n, acc, hf, _, _, _ => absurd hf (by decide)
  | f + 1, n, acc, hf, h, h64, hl => by
    refine Ev.step (f := _) (fun k => by simp only [rotulusref1_Uint.l0]; rfl) ?_
    unfold uintL
    by_cases h128 : 128 ≤ n
    · refine ev_pos (by omega) (ev_pos (by omega) ?_)
      rw [if_pos h128]
      have e : IntKind.u64.wrap (Int.tdiv (n : Int) 128) = ((n / 128 : Nat) : Int) := by rw [Int.tdiv_eq_ediv_of_nonneg (by omega), IntKind.wrap_u64]; omega
      have e2 : (Int.tmod (n : Int) 128 + 128) % 256 = ((n % 128 + 128 : Nat) : Int) := by rw [Int.tmod_eq_emod_of_nonneg (by omega)]; omega
      rw [e, e2]
      have h3 : n / 128 < 128 ^ f := by
        rw [Nat.div_lt_iff_lt_mul (by decide), ← Nat.pow_succ]
        exact h
      have hf1 : 0 < f := by
        rcases Nat.eq_zero_or_pos f with h0 | h0
        · subst h0; simp at h; omega
        · exact h0
      have := refUint_loop f (n / 128) (acc ++ [((n % 128 + 128 : Nat) : Int)]) hf1 h3 (by omega) (by simp; omega)
      rw [List.append_assoc] at this
      exact this
    · refine ev_neg (by omega) (ev_pos (by omega) ?_)
      rw [if_neg h128, show (n : Int) % 256 = (n : Int) by omega]
      exact Ev.now _
theorem refUint_ev (n : Nat) (h : n < 18446744073709551616) : Ev (fun k => rotulusref1_Uint.f k (n : Int)) (uintL 10 n) := by
  have := refUint_loop 10 n [] (by decide) (Nat.lt_of_lt_of_le h (by decide)) h (by decide)
  simpa [rotulusref1_Uint.f] using this
theorem refUint_ (x : Int) (w : World) : Calls Try.prog 22 #[.int .u64 (IntKind.u64.wrap x)] w fun e w' => ∃ v0 : Value, e = .returned v0 ∧ Kd.R (Kd.int .u8) 5 w' w.heap.size (fun _ => True) v0 (numB x) ∧ Below w.heap.size w w' := by
  have h := u64_wrap_range x
  obtain ⟨k, hk⟩ := Ev.rounds (refUint_ev (IntKind.u64.wrap x).toNat (by omega))
  rw [Int.toNat_of_nonneg h.1] at hk
  exact rotulusref1_Uint.calls k _ _ w hk
theorem runs_last (l : List S45) (i : Nat) (hi : i < l.length) : ∃ rs r, runs78 (l.take (i + 1)) = rs ++ [r] ∧ r.f1 = rd_T45 l (i : Int) := by
  rw [runs_take l i hi]
  generalize runs78 (l.take i) = q
  generalize rd_T45 l (i : Int) = c
  unfold step78
  split
  · rename_i hc
    rcases List.eq_nil_or_concat q with h0 | ⟨a, r, h0⟩
    · subst h0; simp at hc
    · rw [List.concat_eq_append] at h0
      subst h0
      have e1 : (a ++ [r]).length - 1 = a.length := by simp
      have e2 : rd_T78 (a ++ [r]) ((a.length : Nat) : Int) = r := by rw [rd_T78, Int.toNat_natCast, List.getD_eq_getElem?_getD]; simp
      rw [e1, e2] at hc ⊢
      obtain ⟨c0, c1, c2⟩ := c
      have hs := hc.2
      unfold same45 at hs
      simp only [Bool.and_eq_true, beq_iff_eq] at hs
      refine ⟨a, ⟨wrap64 (r.f0 + 1), r.f1⟩, by simp, ?_⟩
      obtain ⟨r0, ⟨d0, d1, d2⟩⟩ := r
      obtain ⟨h1, h2, h3⟩ := hs
      simp only at h1 h2 h3
      subst h1 h2 h3
      rfl
  · exact ⟨q, ⟨1, c⟩, rfl, rfl⟩
theorem runs_run (l : List S45) (i : Nat) (hb : 0 < i → same45 (rd_T45 l ((i : Int) - 1)) (rd_T45 l (i : Int)) = false) : ∀ n : Nat, i + (n + 1) ≤ l.length → l.length ≤ 1000000000 → (∀ j, j < n + 1 → rd_T45 l ((i : Int) + j) = rd_T45 l (i : Int)) →
    runs78 (l.take (i + (n + 1))) = runs78 (l.take i) ++ [⟨((n + 1 : Nat) : Int), rd_T45 l (i : Int)⟩]
  | 0, hl, _, _ => by
    rw [runs_take l i (by omega)]
    unfold step78
    rw [if_neg]
    · rfl
    · rintro ⟨h0, hs⟩
      rcases Nat.eq_zero_or_pos i with hz | hz
      · subst hz; simp [runs78] at h0
      · obtain ⟨j, rfl⟩ : ∃ j, i = j + 1 := ⟨i - 1, by omega⟩
        obtain ⟨rs, r, hr, hr1⟩ := runs_last l j (by omega)
        rw [hr] at hs
        have e1 : (rs ++ [r]).length - 1 = rs.length := by simp
        have e2 : rd_T78 (rs ++ [r]) ((rs.length : Nat) : Int) = r := by rw [rd_T78, Int.toNat_natCast, List.getD_eq_getElem?_getD]; simp
        rw [e1, e2, hr1] at hs
        have h2 := hb hz
        have e3 : ((j + 1 : Nat) : Int) - 1 = (j : Int) := by omega
        rw [e3, hs] at h2
        cases h2
  | n + 1, hl, hb9, hall => by
    have ih := runs_run l i hb n (by omega) hb9 (fun j hj => hall j (by omega))
    rw [show i + (n + 1 + 1) = (i + (n + 1)) + 1 by omega, runs_take l (i + (n + 1)) (by omega), ih]
    have hc := hall (n + 1) (by omega)
    rw [show (((i + (n + 1) : Nat)) : Int) = (i : Int) + ((n + 1 : Nat) : Int) by omega, hc]
    unfold step78
    have e1 : (runs78 (l.take i) ++ [(⟨((n + 1 : Nat) : Int), rd_T45 l (i : Int)⟩ : S78)]).length - 1 = (runs78 (l.take i)).length := by simp
    have e2 : rd_T78 (runs78 (l.take i) ++ [(⟨((n + 1 : Nat) : Int), rd_T45 l (i : Int)⟩ : S78)]) (((runs78 (l.take i)).length : Nat) : Int) = ⟨((n + 1 : Nat) : Int), rd_T45 l (i : Int)⟩ := by rw [rd_T78, Int.toNat_natCast, List.getD_eq_getElem?_getD]; simp
    rw [e1, e2, if_pos ⟨by simp, by simp [same45]⟩, w64_in _ (by simp only; omega)]
    simp
end Go.Proofs.Ytkigdcihhlkkdaa.Pure
end
section
set_option linter.unusedVariables false
set_option linter.unusedSimpArgs false
namespace Go.Proofs.Ytkigdcihhlkkdaa.P
open Go.RowKit Go.Proofs.YtkigdcihhlkkdaaW.PrintWords Go.Proofs.YtkigdcihhlkkdaaW.PrintLast Go.Proofs.YtkigdcihhlkkdaaW.PrintMore Go.Proofs.Ytkigdcihhlkkdaa.Pure
attribute [local go_sem high] eqA45
def tab_25_11 : Bool × List (List Nat × List Nat) := (true, [([], []), ([], []), ([1], [1]), ([2], [2]), ([0, 3, 3], [0, 3]), ([], []), ([5], [5]), ([6], [6]), ([7, 4], [7]), ([4, 8, 8], [4, 8]), ([], []), ([10], [10]), ([11], [11]), ([12, 9], [12]), ([9, 13, 13], [9, 13]), ([], []), ([15], [15]), ([16], [16]), ([17, 14], [17]), ([14, 18, 18], [14, 18]), ([19, 19, 0, 1, 2, 3, 4, 5, 6, 7, 8, 9, 10, 11, 12, 13, 14, 15, 16, 17, 18, 19], [0, 19])])
theorem tab_25_11_ : rtab .any (opsOf Try.f25 11) = tab_25_11 := by kernel_rfl
structure SP (W : World) (bx : Nat) (o1 : Obj) (g : Nat) (c : S45) (w : World) : Prop where
  cb : w.heap[g]? = some (.cells #[.int .i32 c.f0, .int .i64 c.f1, .int .i64 c.f2] 45 (0, 0))
  rb : w.heap[bx]? = some o1
  be : Below W.heap.size W w
section
variable {W w w' : World} {bx g : Nat} {o1 : Obj} {c : S45}
theorem SP.next (h : SP W bx o1 g c w) (hb : Below w.heap.size w w') : SP W bx o1 g c w' :=
  ⟨blk_below h.cb hb, (hb.block bx (blk_lt h.rb)).trans h.rb, h.be.trans (hb.mono h.be.size)⟩
theorem SP.grown (h : SP W bx o1 g c w) {row : Option Nat} (hg : w.grownBy w' row) (h1 : some g ≠ row) (h2 : some bx ≠ row) (hb : Below W.heap.size W w') : SP W bx o1 g c w' :=
  ⟨blk_grown h.cb hg h1, (hg.block bx (blk_lt h.rb) h2).trans h.rb, hb⟩
theorem app8_ {P : Program} {ops : Array Oper} {o : Oper} {a : Act} {Kc : Act → World → Prop} {Q : Exit → Act → World → Prop} {v : Value} {xs ys : List Int} {A : Option Addr} {m cc : Nat} {bok : Nat → Prop} (s x : Operand) (N : Tmp) (hN : o.dst = some N) (hw : Region.wanted o (yielded ops a.tmps) = true)
    (ho : o.op = .call { callee := .builtin .append, args := #[s, x], argTypes := #[23, 23] }) (hP : P = Try.prog) (hs : a.eval s = v) (hx : a.eval x = .slice A m cc)
    (HO : Kd.R (Kd.int .u8) 5 w W.heap.size (fun k => bok k) v xs) (HR : Kd.C (Kd.int .u8) w A m ys) (hfr : ∀ k, w.heap.size ≤ k → bok k) (HB : Below W.heap.size W w) (hl : xs.length + m ≤ 1000000000)
    (h : ∀ v1 w1, Kd.R (Kd.int .u8) 5 w1 W.heap.size (fun k => bok k) v1 (xs ++ ys) → Below W.heap.size W w1 → w.grownBy w1 v.ownBlock → Kc (a.put (some N) v1) w1) :
    if Region.wanted o (yielded ops a.tmps) = true then Oper.wp P o a w Kc Q else Kc (a.put (some N) undef) w := by
  subst hP
  rw [← hN] at h ⊢
  exact Kd.R_append_rows_step (Kd.int .u8) (w0 := W) W.heap.size hw s x 23 5 (.int .u8 0) 1 ho Try.underlying23 info5 rfl (by decide) (by decide) v xs ys A m cc (fun k => bok k) (fun _ => False) hs hx HO HR (fun _ _ h => h) (fun _ h => h.elim) hfr HB HB.size (by omega) (fun v1 w1 h1 h2 h3 _ => h v1 w1 h1 h2 h3)
end
theorem same45_to {a b : S45} (h : same45 a b = true) : a = b := by
  obtain ⟨a0, a1, a2⟩ := a
  obtain ⟨b0, b1, b2⟩ := b
  unfold same45 at h
  simp only [Bool.and_eq_true, beq_iff_eq] at h
  obtain ⟨rfl, rfl, rfl⟩ := h
  rfl
theorem runsB_len : ∀ rs : List S78, ((rs.map runB).flatten).length ≤ 40 * rs.length
  | [] => by simp
  | r :: t => by
    have := runB_len r
    have := runsB_len t
    simp only [List.map_cons, List.flatten_cons, List.length_append, List.length_cons]
    omega
set_option maxHeartbeats 16000000 in
set_option maxRecDepth 100000 in
theorem putRow_yes (A : Option Addr) (cp : Nat) (l : List S45) (wr : Bool) (W : World) (hC : Kd.C k45 W A l.length l) (hcp : l.length ≤ cp) (hlen : l.length ≤ 1000000) (hwf : ∀ c ∈ l, -2147483648 ≤ c.f0 ∧ c.f0 ≤ 2147483647) (hyes : refRowB l = true) :
    Calls Try.prog 25 #[.agg #[.slice A l.length cp, .bool wr]] W fun e w' => ∃ v0 : Value, e = .returned (.tuple #[v0, .bool true]) ∧ Kd.R (Kd.int .u8) 5 w' W.heap.size (fun _ => True) v0 (rowB l wr) ∧ Below W.heap.size W w' := by
  have hb0 : Below W.heap.size W (W.alloc (.cells #[.slice A l.length cp, .bool wr] 31)) := below_alloc (Below.refl _ _) _
  have hB0 := blk_new W (.cells #[.slice A l.length cp, .bool wr] 31)
  have hrow := refRow_ A cp l wr (W.alloc (.cells #[.slice A l.length cp, .bool wr] 31)) (Kd.C_below hC hb0) hcp (by omega)
  rw [hyes] at hrow
  go_enter Try.func25, Try.ntmps25
  go_wp2_with (go_at_call 27; refine hrow.mono ?_; rintro e w1 ⟨rfl, hb1⟩)
  have hB1 := blk_below hB0 hb1
  have hbe1 := hb0.trans (hb1.mono hb0.size)
  clear hrow hb1 hb0 hB0
  go_loopg [4, 5, 6] (l.length + 1) (fun kq v4 v5 v6 w' => ∃ i : Nat, v6 = .int .i64 i ∧ v4 = .int .i64 ((runs78 (l.take i)).length : Int) ∧ Aside0 (i ≤ l.length ∧ kq = l.length + 1 - i ∧ (0 < i → i < l.length → same45 (rd_T45 l ((i : Int) - 1)) (rd_T45 l (i : Int)) = false) ∧ Kd.R (Kd.int .u8) 5 w' W.heap.size (fun k => k ≠ W.heap.size) v5 (((runs78 (l.take i)).map runB).flatten) ∧ w'.heap[W.heap.size]? = some (.cells #[.slice A l.length cp, .bool wr] 31 (0, 0)) ∧ Below W.heap.size W w'))
  case atStart => exact ⟨0, rfl, rfl, ⟨Nat.zero_le _, rfl, fun h => absurd h (by decide), Kd.R_nil _ _ _ _ _, hB1, hbe1⟩⟩
  case round =>
    obtain ⟨i, rfl, rfl, HA⟩ := hrel
    clear hB1 hbe1
    have hBr := HA.out.2.2.2.2.1
    obtain ⟨x0, x1, x2, x3⟩ := blk2 hBr
    by_cases hlt : i < l.length
    · obtain ⟨ad, rfl, _⟩ := at_T45 hC (i : Int) (by omega) (by omega)
      have HK : ∀ (j : Nat), j < l.length → ∀ w', Below W.heap.size W w' → w'.cell? (ad.add (j * 3)) = some (.int .i32 (rd_T45 l (j : Int)).f0) ∧ w'.cell? ⟨(ad.add (j * 3)).block, (ad.add (j * 3)).off + 1, none⟩ = some (.int .i64 (rd_T45 l (j : Int)).f1) ∧ w'.cell? ⟨(ad.add (j * 3)).block, (ad.add (j * 3)).off + 2, none⟩ = some (.int .i64 (rd_T45 l (j : Int)).f2) := by
        intro j h1 w' hb
        obtain ⟨ad', he, h⟩ := at_T45 (Kd.C_below hC hb) (j : Int) (by omega) (by omega)
        obtain rfl := Option.some.inj he
        exact h
      have HCi := HK i hlt
      generalize hc : rd_T45 l (i : Int) = c at HCi
      have HKx := Aside0.mk HK
      clear HK
      go_upto_region 8 with (fail)
      rename World => wv
      go_loopg [7] (l.length + 1) (fun kq v7 w' => ∃ n : Nat, v7 = .int .i64 n ∧ Aside0 (1 ≤ n ∧ i + n ≤ l.length ∧ kq = l.length + 2 - n ∧ (∀ j : Nat, j < n → rd_T45 l ((i : Int) + j) = c) ∧ ∃ m, w' = wv.drewN m))
      case atStart => exact ⟨1, rfl, ⟨Nat.le_refl _, hlt, rfl, fun j hj => by rw [show j = 0 by omega]; simpa using hc, 0, rfl⟩⟩
      case round =>
        obtain ⟨n, rfl, HN⟩ := hrel
        obtain ⟨m, rfl⟩ := HN.out.2.2.2.2
        have hw : IntKind.i64.wrap ((i : Int) + (n : Int)) = (i : Int) + n := by rw [IntKind.wrap_i64]; have := HN.out; omega
        obtain ⟨c0, c1, c2⟩ := HCi wv HA.out.2.2.2.2.2
        by_cases h1 : i + n < l.length
        · obtain ⟨d0, d1, d2⟩ := HKx.out (i + n) h1 wv HA.out.2.2.2.2.2
          have hq : (i : Int) + n < l.length := by omega
          have hq0 : 0 ≤ (i : Int) + n := by omega
          generalize hd : rd_T45 l ((i + n : Nat) : Int) = d at d0 d1 d2
          cases hs : (d.f0 == c.f0 && (d.f1 == c.f1 && d.f2 == c.f2))
          case true =>
            have hwn : IntKind.i64.wrap ((n : Int) + 1) = (n : Int) + 1 := by rw [IntKind.wrap_i64]; omega
            go_wp2
            go_quiet (fail)
            go_wp2
            go_roundg (l.length + 2 - (n + 1))
            case measure => have := HN.out; omega
            case rel =>
              refine ⟨n + 1, by simp, ⟨by omega, by omega, rfl, fun j hj => ?_, m + nq, rfl⟩⟩
              rcases Nat.lt_succ_iff_lt_or_eq.1 hj with h | h
              · exact HN.out.2.2.2.1 j h
              · rw [h, show (i : Int) + (n : Int) = ((i + n : Nat) : Int) by omega, hd]
                exact same45_to hs
          case false =>
            go_wp2
            go_quiet (fail)
            go_upto_region 10 with (fail)
            obtain ⟨wq, hwq⟩ : ∃ wq, wq = (wv.drewN m).drewN nq := ⟨_, rfl⟩
            rw [← hwq]
            have hBq : wq.heap[W.heap.size]? = some (.cells #[.slice (some ad) l.length cp, .bool wr] 31 (0, 0)) := by rw [hwq]; exact hBr
            have hBe : Below W.heap.size W wq := by rw [hwq]; exact pw_below_drewN (pw_below_drewN HA.out.2.2.2.2.2 _) _
            have hRq : Kd.R (Kd.int .u8) 5 wq W.heap.size (fun k => k ≠ W.heap.size) u5 (((runs78 (l.take i)).map runB).flatten) := by rw [hwq]; exact Kd.R_drewN (Kd.R_drewN HA.out.2.2.2.1 _) _
            have hBd : 0 < i + n → i + n < l.length → same45 (rd_T45 l (((i + n : Nat) : Int) - 1)) (rd_T45 l ((i + n : Nat) : Int)) = false := by
              intro _ h2
              rw [hd]
              have hp : rd_T45 l (((i + n : Nat) : Int) - 1) = c := by
                have := HN.out.2.2.2.1 (n - 1) (by have := HN.out.1; omega)
                rwa [show (i : Int) + ((n - 1 : Nat) : Int) = ((i + n : Nat) : Int) - 1 by have := HN.out.1; omega] at this
              rw [hp]
              cases hz : same45 c d with
              | false => rfl
              | true => rw [same45_to hz] at hs; simp at hs
            have hcl : -2147483648 ≤ c.f0 ∧ c.f0 ≤ 2147483647 := by
              have hm : c ∈ l := by
                rw [← hc, rd_T45, Int.toNat_natCast, List.getD_eq_getElem?_getD, List.getElem?_eq_getElem hlt]
                exact List.getElem_mem hlt
              exact hwf c hm
            obtain ⟨n', rfl⟩ : ∃ n', n = n' + 1 := ⟨n - 1, by have := HN.out.1; omega⟩
            have hrr := runs_run l i (fun h => HA.out.2.2.1 h hlt) n' HN.out.2.1 (by omega) (fun j hj => (HN.out.2.2.2.1 j hj).trans hc.symm)
            rw [hc] at hrr
            have hbl := runsB_len (runs78 (l.take i))
            have hrl := runs78_le (l.take i)
            rw [List.length_take] at hrl
            have hnn := HN.out.2.1
            clear hwq c0 c1 c2 x0 x1 x2 x3 hBr
            obtain ⟨c0, c1, c2⟩ := HCi wq hBe
            obtain ⟨x0, x1, x2, x3⟩ := blk2 hBq
            go_upto_region 11 with (fail)
            have hS0 : SP W W.heap.size (.cells #[.slice (some ad) l.length cp, .bool wr] 31 (0, 0)) wq.heap.size c (wq.alloc (.cells #[.int .i32 c.f0, .int .i64 c.f1, .int .i64 c.f2] 45)).drew := ⟨blk_new _ _, blk_alloc hBq _, below_drew1 (below_alloc hBe _)⟩
            have hR0 : Kd.R (Kd.int .u8) 5 (wq.alloc (.cells #[.int .i32 c.f0, .int .i64 c.f1, .int .i64 c.f2] 45)).drew W.heap.size (fun k => k ≠ W.heap.size ∧ k ≠ wq.heap.size) u5 (((runs78 (l.take i)).map runB).flatten) := Kd.R_drew (Kd.R_alloc (Kd.R_mono (Kd.R_bound hRq) (fun k hk => ⟨hk.1, by have := hk.2.2.1; omega⟩)) _)
            clear c0 c1 c2 x0 x1 x2 x3
            refine start_ (n := 21) (S := SP W W.heap.size (.cells #[.slice (some ad) l.length cp, .bool wr] 31 (0, 0)) wq.heap.size c) (ds := []) (bl_ [0, 21]) (by kernel_rfl) (by kernel_rfl) rfl hS0 (fun _ => ?_)
            refine with_tab tab_25_11_ (fun HT_ => ?_)
            refine takes_ [0, 1, 2, 5, 6, 7, 10, 11, 12, 15, 16, 17] 9 (bl_ [3, 2, 3, 2, 3, 2, 3, 3]) rfl HT_.out (by kernel_rfl) hS0 (a' := ?_) ?_ ?_
            rotate_left
            · repeat (first | exact rfl | (refine tkN rfl rfl (fun _ _ _ h => h) (by rfl) (by simp only [Act.put, List.setIfInBounds_toArray, List.set_cons_zero, List.set_cons_succ, i64_w, i32_w]; rfl) ?_) | (refine tkY rfl rfl (fun _ _ _ h => h) (by rfl) (fun w' hw' => by (obtain ⟨s0, s1, s2⟩ := blk3 hw'.cb; go_simp; with_reducible rfl)) (by simp only [Act.put, List.setIfInBounds_toArray, List.set_cons_zero, List.set_cons_succ, i64_w, i32_w]; rfl) ?_))
            refine one_ (i := 3) (N := some 50) (bl_ [4, 1, 3, 2, 3, 2, 3, 3]) rfl rfl (one_of HT_.out (by kernel_rfl)) (by decide) (fun K hK => ?_)
            refine goes_ Try.func22 (by kernel_rfl) rfl #[.int .u64 (IntKind.u64.wrap (((n' + 1 : Nat) : Int)))] (by rfl) rfl rfl (by (try simp only [List.map_toArray, List.map_cons, List.map_nil]); first | done | rfl) ?_
            refine (refUint_ (((n' + 1 : Nat) : Int)) _).mono ?_
            rintro e wc0 ⟨vu0, rfl, hu0, hb0⟩
            have hSc0 := hS0.next hb0
            have hRc0 := Kd.R_below hR0 hb0
            obtain ⟨Au0, cu0, hvu0⟩ := Kd.R_slice hu0
            subst hvu0
            refine ⟨_, rfl, hK.out _ _ hSc0 (fun _ => ?_)⟩
            refine norm_ (a' := ?_) ?_ ?_
            rotate_left
            · show Act.put _ (some 50) _ = _
              simp only [Act.put, List.setIfInBounds_toArray, List.set_cons_zero, List.set_cons_succ]
              rfl
            have hl0 : (numB (((n' + 1 : Nat) : Int))).length ≤ 10 := numB_len _
            refine one_ (i := 4) (N := some 51) (bl_ [8, 2, 3, 2, 3, 3]) rfl rfl (one_of HT_.out (by kernel_rfl)) (by decide) (fun K hK => ?_)
            refine app8_ (W := W) (bok := fun k => k ≠ W.heap.size ∧ k ≠ wq.heap.size) (.tmp 47) (.tmp 50) 51 rfl (by rfl) rfl rfl (by rfl) (by rfl) hRc0 (Kd.R_reads' hu0).2.2 (fun k hk => ⟨by have := blk_lt hSc0.rb; omega, by have := blk_lt hSc0.cb; omega⟩) hSc0.be (by (try simp only [List.length_append]); omega) ?_
            intro va0 wa0 hR0_ hBa0 hga0
            have hSa0 := hSc0.grown hga0 (fun e => ((hRc0).1 _ e.symm).2 rfl) (fun e => ((hRc0).1 _ e.symm).1 rfl) hBa0
            refine hK.out _ _ hSa0 (fun _ => ?_)
            refine norm_ (a' := ?_) ?_ ?_
            rotate_left
            · show Act.put _ (some 51) _ = _
              simp only [Act.put, List.setIfInBounds_toArray, List.set_cons_zero, List.set_cons_succ]
              rfl
            refine one_ (i := 8) (N := some 55) (bl_ [9, 1, 3, 2, 3, 3]) rfl rfl (one_of HT_.out (by kernel_rfl)) (by decide) (fun K hK => ?_)
            refine goes_ Try.func22 (by kernel_rfl) rfl #[.int .u64 (IntKind.u64.wrap (c.f0))] (by rfl) rfl rfl (by (try simp only [List.map_toArray, List.map_cons, List.map_nil]); first | done | rfl) ?_
            refine (refUint_ (c.f0) _).mono ?_
            rintro e wc1 ⟨vu1, rfl, hu1, hb1⟩
            have hSc1 := hSa0.next hb1
            have hRc1 := Kd.R_below hR0_ hb1
            obtain ⟨Au1, cu1, hvu1⟩ := Kd.R_slice hu1
            subst hvu1
            refine ⟨_, rfl, hK.out _ _ hSc1 (fun _ => ?_)⟩
            refine norm_ (a' := ?_) ?_ ?_
            rotate_left
            · show Act.put _ (some 55) _ = _
              simp only [Act.put, List.setIfInBounds_toArray, List.set_cons_zero, List.set_cons_succ]
              rfl
            have hl1 : (numB (c.f0)).length ≤ 10 := numB_len _
            refine one_ (i := 9) (N := some 56) (bl_ [13, 2, 3, 3]) rfl rfl (one_of HT_.out (by kernel_rfl)) (by decide) (fun K hK => ?_)
            refine app8_ (W := W) (bok := fun k => k ≠ W.heap.size ∧ k ≠ wq.heap.size) (.tmp 51) (.tmp 55) 56 rfl (by rfl) rfl rfl (by rfl) (by rfl) hRc1 (Kd.R_reads' hu1).2.2 (fun k hk => ⟨by have := blk_lt hSc1.rb; omega, by have := blk_lt hSc1.cb; omega⟩) hSc1.be (by (try simp only [List.length_append]); omega) ?_
            intro va1 wa1 hR1_ hBa1 hga1
            have hSa1 := hSc1.grown hga1 (fun e => ((hRc1).1 _ e.symm).2 rfl) (fun e => ((hRc1).1 _ e.symm).1 rfl) hBa1
            refine hK.out _ _ hSa1 (fun _ => ?_)
            refine norm_ (a' := ?_) ?_ ?_
            rotate_left
            · show Act.put _ (some 56) _ = _
              simp only [Act.put, List.setIfInBounds_toArray, List.set_cons_zero, List.set_cons_succ]
              rfl
            refine one_ (i := 13) (N := some 60) (bl_ [14, 1, 3, 3]) rfl rfl (one_of HT_.out (by kernel_rfl)) (by decide) (fun K hK => ?_)
            refine goes_ Try.func22 (by kernel_rfl) rfl #[.int .u64 (IntKind.u64.wrap (c.f1))] (by rfl) rfl rfl (by (try simp only [List.map_toArray, List.map_cons, List.map_nil]); first | done | rfl) ?_
            refine (refUint_ (c.f1) _).mono ?_
            rintro e wc2 ⟨vu2, rfl, hu2, hb2⟩
            have hSc2 := hSa1.next hb2
            have hRc2 := Kd.R_below hR1_ hb2
            obtain ⟨Au2, cu2, hvu2⟩ := Kd.R_slice hu2
            subst hvu2
            refine ⟨_, rfl, hK.out _ _ hSc2 (fun _ => ?_)⟩
            refine norm_ (a' := ?_) ?_ ?_
            rotate_left
            · show Act.put _ (some 60) _ = _
              simp only [Act.put, List.setIfInBounds_toArray, List.set_cons_zero, List.set_cons_succ]
              rfl
            have hl2 : (numB (c.f1)).length ≤ 10 := numB_len _
            refine one_ (i := 14) (N := some 61) (bl_ [18, 3]) rfl rfl (one_of HT_.out (by kernel_rfl)) (by decide) (fun K hK => ?_)
            refine app8_ (W := W) (bok := fun k => k ≠ W.heap.size ∧ k ≠ wq.heap.size) (.tmp 56) (.tmp 60) 61 rfl (by rfl) rfl rfl (by rfl) (by rfl) hRc2 (Kd.R_reads' hu2).2.2 (fun k hk => ⟨by have := blk_lt hSc2.rb; omega, by have := blk_lt hSc2.cb; omega⟩) hSc2.be (by (try simp only [List.length_append]); omega) ?_
            intro va2 wa2 hR2_ hBa2 hga2
            have hSa2 := hSc2.grown hga2 (fun e => ((hRc2).1 _ e.symm).2 rfl) (fun e => ((hRc2).1 _ e.symm).1 rfl) hBa2
            refine hK.out _ _ hSa2 (fun _ => ?_)
            refine norm_ (a' := ?_) ?_ ?_
            rotate_left
            · show Act.put _ (some 61) _ = _
              simp only [Act.put, List.setIfInBounds_toArray, List.set_cons_zero, List.set_cons_succ]
              rfl
            refine one_ (i := 18) (N := some 65) (bl_ [19, 2]) rfl rfl (one_of HT_.out (by kernel_rfl)) (by decide) (fun K hK => ?_)
            refine goes_ Try.func22 (by kernel_rfl) rfl #[.int .u64 (IntKind.u64.wrap (c.f2))] (by rfl) rfl rfl (by (try simp only [List.map_toArray, List.map_cons, List.map_nil]); first | done | rfl) ?_
            refine (refUint_ (c.f2) _).mono ?_
            rintro e wc3 ⟨vu3, rfl, hu3, hb3⟩
            have hSc3 := hSa2.next hb3
            have hRc3 := Kd.R_below hR2_ hb3
            obtain ⟨Au3, cu3, hvu3⟩ := Kd.R_slice hu3
            subst hvu3
            refine ⟨_, rfl, hK.out _ _ hSc3 (fun _ => ?_)⟩
            refine norm_ (a' := ?_) ?_ ?_
            rotate_left
            · show Act.put _ (some 65) _ = _
              simp only [Act.put, List.setIfInBounds_toArray, List.set_cons_zero, List.set_cons_succ]
              rfl
            have hl3 : (numB (c.f2)).length ≤ 10 := numB_len _
            refine one_ (i := 19) (N := some 66) (bl_ [20, 1]) rfl rfl (one_of HT_.out (by kernel_rfl)) (by decide) (fun K hK => ?_)
            refine app8_ (W := W) (bok := fun k => k ≠ W.heap.size ∧ k ≠ wq.heap.size) (.tmp 61) (.tmp 65) 66 rfl (by rfl) rfl rfl (by rfl) (by rfl) hRc3 (Kd.R_reads' hu3).2.2 (fun k hk => ⟨by have := blk_lt hSc3.rb; omega, by have := blk_lt hSc3.cb; omega⟩) hSc3.be (by (try simp only [List.length_append]); omega) ?_
            intro va3 wa3 hR3_ hBa3 hga3
            have hSa3 := hSc3.grown hga3 (fun e => ((hRc3).1 _ e.symm).2 rfl) (fun e => ((hRc3).1 _ e.symm).1 rfl) hBa3
            refine hK.out _ _ hSa3 (fun _ => ?_)
            refine norm_ (a' := ?_) ?_ ?_
            rotate_left
            · show Act.put _ (some 66) _ = _
              simp only [Act.put, List.setIfInBounds_toArray, List.set_cons_zero, List.set_cons_succ]
              rfl
            refine takes_ [20] 0 (bl_ [21]) rfl HT_.out (by kernel_rfl) hSa3 (a' := ?_) ?_ ?_
            rotate_left
            · repeat (first | exact rfl | (refine tkN rfl rfl (fun _ _ _ h => h) (by rfl) (by simp only [Act.put, List.setIfInBounds_toArray, List.set_cons_zero, List.set_cons_succ, i64_w, i32_w]; rfl) ?_) | (refine tkY rfl rfl (fun _ _ _ h => h) (by rfl) (fun w' hw' => by (obtain ⟨s0, s1, s2⟩ := blk3 hw'.cb; go_simp; with_reducible rfl)) (by simp only [Act.put, List.setIfInBounds_toArray, List.set_cons_zero, List.set_cons_succ, i64_w, i32_w]; rfl) ?_))
            refine done_ (done_of HT_.out (by kernel_rfl)) ?_
            have hw3 : IntKind.i64.wrap (((runs78 (l.take i)).length : Int) + 1) = ((runs78 (l.take i)).length : Int) + 1 := by rw [IntKind.wrap_i64]; omega
            have hw4 : IntKind.i64.wrap ((i : Int) + ((n' + 1 : Nat) : Int)) = (i : Int) + ((n' + 1 : Nat) : Int) := by rw [IntKind.wrap_i64]; omega
            go_wp2
            go_roundg (l.length + 1 - (i + (n' + 1)))
            case measure => rw [HA.out.2.1]; omega
            case rel =>
              refine ⟨i + (n' + 1), by simp, by rw [hrr]; simp, ⟨hnn, rfl, hBd, ?_, hSa3.rb, hSa3.be⟩⟩
              rw [hrr, List.map_append, List.flatten_append]
              have hw5 : wrap64 c.f0 = c.f0 := w64_in _ (by omega)
              have e : ([(⟨((n' + 1 : Nat) : Int), c⟩ : S78)].map runB).flatten = numB ((n' + 1 : Nat) : Int) ++ (numB c.f0 ++ (numB c.f1 ++ numB c.f2)) := by simp [runB, hw5]
              rw [e]
              simp only [← List.append_assoc]
              exact Kd.R_mono hR3_ (fun k hk => hk.1)
        · have hq : ¬ (i : Int) + n < l.length := by omega
          have hq2 : decide ((i : Int) + n < l.length) = false := decide_eq_false hq
          go_wp2
          go_quiet (fail)
          go_upto_region 10 with (fail)
          obtain ⟨wq, hwq⟩ : ∃ wq, wq = (wv.drewN m).drewN nq := ⟨_, rfl⟩
          rw [← hwq]
          have hBq : wq.heap[W.heap.size]? = some (.cells #[.slice (some ad) l.length cp, .bool wr] 31 (0, 0)) := by rw [hwq]; exact hBr
          have hBe : Below W.heap.size W wq := by rw [hwq]; exact pw_below_drewN (pw_below_drewN HA.out.2.2.2.2.2 _) _
          have hRq : Kd.R (Kd.int .u8) 5 wq W.heap.size (fun k => k ≠ W.heap.size) u5 (((runs78 (l.take i)).map runB).flatten) := by rw [hwq]; exact Kd.R_drewN (Kd.R_drewN HA.out.2.2.2.1 _) _
          have hBd : 0 < i + n → i + n < l.length → same45 (rd_T45 l (((i + n : Nat) : Int) - 1)) (rd_T45 l ((i + n : Nat) : Int)) = false := by
            intro _ h2
            omega
          have hcl : -2147483648 ≤ c.f0 ∧ c.f0 ≤ 2147483647 := by
            have hm : c ∈ l := by
              rw [← hc, rd_T45, Int.toNat_natCast, List.getD_eq_getElem?_getD, List.getElem?_eq_getElem hlt]
              exact List.getElem_mem hlt
            exact hwf c hm
          obtain ⟨n', rfl⟩ : ∃ n', n = n' + 1 := ⟨n - 1, by have := HN.out.1; omega⟩
          have hrr := runs_run l i (fun h => HA.out.2.2.1 h hlt) n' HN.out.2.1 (by omega) (fun j hj => (HN.out.2.2.2.1 j hj).trans hc.symm)
          rw [hc] at hrr
          have hbl := runsB_len (runs78 (l.take i))
          have hrl := runs78_le (l.take i)
          rw [List.length_take] at hrl
          have hnn := HN.out.2.1
          clear hwq c0 c1 c2 x0 x1 x2 x3 hBr
          obtain ⟨c0, c1, c2⟩ := HCi wq hBe
          obtain ⟨x0, x1, x2, x3⟩ := blk2 hBq
          go_upto_region 11 with (fail)
          have hS0 : SP W W.heap.size (.cells #[.slice (some ad) l.length cp, .bool wr] 31 (0, 0)) wq.heap.size c (wq.alloc (.cells #[.int .i32 c.f0, .int .i64 c.f1, .int .i64 c.f2] 45)).drew := ⟨blk_new _ _, blk_alloc hBq _, below_drew1 (below_alloc hBe _)⟩
          have hR0 : Kd.R (Kd.int .u8) 5 (wq.alloc (.cells #[.int .i32 c.f0, .int .i64 c.f1, .int .i64 c.f2] 45)).drew W.heap.size (fun k => k ≠ W.heap.size ∧ k ≠ wq.heap.size) u5 (((runs78 (l.take i)).map runB).flatten) := Kd.R_drew (Kd.R_alloc (Kd.R_mono (Kd.R_bound hRq) (fun k hk => ⟨hk.1, by have := hk.2.2.1; omega⟩)) _)
          clear c0 c1 c2 x0 x1 x2 x3
          refine start_ (n := 21) (S := SP W W.heap.size (.cells #[.slice (some ad) l.length cp, .bool wr] 31 (0, 0)) wq.heap.size c) (ds := []) (bl_ [0, 21]) (by kernel_rfl) (by kernel_rfl) rfl hS0 (fun _ => ?_)
          refine with_tab tab_25_11_ (fun HT_ => ?_)
          refine takes_ [0, 1, 2, 5, 6, 7, 10, 11, 12, 15, 16, 17] 9 (bl_ [3, 2, 3, 2, 3, 2, 3, 3]) rfl HT_.out (by kernel_rfl) hS0 (a' := ?_) ?_ ?_
          rotate_left
          · repeat (first | exact rfl | (refine tkN rfl rfl (fun _ _ _ h => h) (by rfl) (by simp only [Act.put, List.setIfInBounds_toArray, List.set_cons_zero, List.set_cons_succ, i64_w, i32_w]; rfl) ?_) | (refine tkY rfl rfl (fun _ _ _ h => h) (by rfl) (fun w' hw' => by (obtain ⟨s0, s1, s2⟩ := blk3 hw'.cb; go_simp; with_reducible rfl)) (by simp only [Act.put, List.setIfInBounds_toArray, List.set_cons_zero, List.set_cons_succ, i64_w, i32_w]; rfl) ?_))
          refine one_ (i := 3) (N := some 50) (bl_ [4, 1, 3, 2, 3, 2, 3, 3]) rfl rfl (one_of HT_.out (by kernel_rfl)) (by decide) (fun K hK => ?_)
          refine goes_ Try.func22 (by kernel_rfl) rfl #[.int .u64 (IntKind.u64.wrap (((n' + 1 : Nat) : Int)))] (by rfl) rfl rfl (by (try simp only [List.map_toArray, List.map_cons, List.map_nil]); first | done | rfl) ?_
          refine (refUint_ (((n' + 1 : Nat) : Int)) _).mono ?_
          rintro e wc0 ⟨vu0, rfl, hu0, hb0⟩
          have hSc0 := hS0.next hb0
          have hRc0 := Kd.R_below hR0 hb0
          obtain ⟨Au0, cu0, hvu0⟩ := Kd.R_slice hu0
          subst hvu0
          refine ⟨_, rfl, hK.out _ _ hSc0 (fun _ => ?_)⟩
          refine norm_ (a' := ?_) ?_ ?_
          rotate_left
          · show Act.put _ (some 50) _ = _
            simp only [Act.put, List.setIfInBounds_toArray, List.set_cons_zero, List.set_cons_succ]
            rfl
          have hl0 : (numB (((n' + 1 : Nat) : Int))).length ≤ 10 := numB_len _
          refine one_ (i := 4) (N := some 51) (bl_ [8, 2, 3, 2, 3, 3]) rfl rfl (one_of HT_.out (by kernel_rfl)) (by decide) (fun K hK => ?_)
          refine app8_ (W := W) (bok := fun k => k ≠ W.heap.size ∧ k ≠ wq.heap.size) (.tmp 47) (.tmp 50) 51 rfl (by rfl) rfl rfl (by rfl) (by rfl) hRc0 (Kd.R_reads' hu0).2.2 (fun k hk => ⟨by have := blk_lt hSc0.rb; omega, by have := blk_lt hSc0.cb; omega⟩) hSc0.be (by (try simp only [List.length_append]); omega) ?_
          intro va0 wa0 hR0_ hBa0 hga0
          have hSa0 := hSc0.grown hga0 (fun e => ((hRc0).1 _ e.symm).2 rfl) (fun e => ((hRc0).1 _ e.symm).1 rfl) hBa0
          refine hK.out _ _ hSa0 (fun _ => ?_)
          refine norm_ (a' := ?_) ?_ ?_
          rotate_left
          · show Act.put _ (some 51) _ = _
            simp only [Act.put, List.setIfInBounds_toArray, List.set_cons_zero, List.set_cons_succ]
            rfl
          refine one_ (i := 8) (N := some 55) (bl_ [9, 1, 3, 2, 3, 3]) rfl rfl (one_of HT_.out (by kernel_rfl)) (by decide) (fun K hK => ?_)
          refine goes_ Try.func22 (by kernel_rfl) rfl #[.int .u64 (IntKind.u64.wrap (c.f0))] (by rfl) rfl rfl (by (try simp only [List.map_toArray, List.map_cons, List.map_nil]); first | done | rfl) ?_
          refine (refUint_ (c.f0) _).mono ?_
          rintro e wc1 ⟨vu1, rfl, hu1, hb1⟩
          have hSc1 := hSa0.next hb1
          have hRc1 := Kd.R_below hR0_ hb1
          obtain ⟨Au1, cu1, hvu1⟩ := Kd.R_slice hu1
          subst hvu1
          refine ⟨_, rfl, hK.out _ _ hSc1 (fun _ => ?_)⟩
          refine norm_ (a' := ?_) ?_ ?_
          rotate_left
          · show Act.put _ (some 55) _ = _
            simp only [Act.put, List.setIfInBounds_toArray, List.set_cons_zero, List.set_cons_succ]
            rfl
          have hl1 : (numB (c.f0)).length ≤ 10 := numB_len _
          refine one_ (i := 9) (N := some 56) (bl_ [13, 2, 3, 3]) rfl rfl (one_of HT_.out (by kernel_rfl)) (by decide) (fun K hK => ?_)
          refine app8_ (W := W) (bok := fun k => k ≠ W.heap.size ∧ k ≠ wq.heap.size) (.tmp 51) (.tmp 55) 56 rfl (by rfl) rfl rfl (by rfl) (by rfl) hRc1 (Kd.R_reads' hu1).2.2 (fun k hk => ⟨by have := blk_lt hSc1.rb; omega, by have := blk_lt hSc1.cb; omega⟩) hSc1.be (by (try simp only [List.length_append]); omega) ?_
          intro va1 wa1 hR1_ hBa1 hga1
          have hSa1 := hSc1.grown hga1 (fun e => ((hRc1).1 _ e.symm).2 rfl) (fun e => ((hRc1).1 _ e.symm).1 rfl) hBa1
          refine hK.out _ _ hSa1 (fun _ => ?_)
          refine norm_ (a' := ?_) ?_ ?_
          rotate_left
          · show Act.put _ (some 56) _ = _
            simp only [Act.put, List.setIfInBounds_toArray, List.set_cons_zero, List.set_cons_succ]
            rfl
          refine one_ (i := 13) (N := some 60) (bl_ [14, 1, 3, 3]) rfl rfl (one_of HT_.out (by kernel_rfl)) (by decide) (fun K hK => ?_)
          refine goes_ Try.func22 (by kernel_rfl) rfl #[.int .u64 (IntKind.u64.wrap (c.f1))] (by rfl) rfl rfl (by (try simp only [List.map_toArray, List.map_cons, List.map_nil]); first | done | rfl) ?_
          refine (refUint_ (c.f1) _).mono ?_
          rintro e wc2 ⟨vu2, rfl, hu2, hb2⟩
          have hSc2 := hSa1.next hb2
          have hRc2 := Kd.R_below hR1_ hb2
          obtain ⟨Au2, cu2, hvu2⟩ := Kd.R_slice hu2
          subst hvu2
          refine ⟨_, rfl, hK.out _ _ hSc2 (fun _ => ?_)⟩
          refine norm_ (a' := ?_) ?_ ?_
          rotate_left
          · show Act.put _ (some 60) _ = _
            simp only [Act.put, List.setIfInBounds_toArray, List.set_cons_zero, List.set_cons_succ]
            rfl
          have hl2 : (numB (c.f1)).length ≤ 10 := numB_len _
          refine one_ (i := 14) (N := some 61) (bl_ [18, 3]) rfl rfl (one_of HT_.out (by kernel_rfl)) (by decide) (fun K hK => ?_)
          refine app8_ (W := W) (bok := fun k => k ≠ W.heap.size ∧ k ≠ wq.heap.size) (.tmp 56) (.tmp 60) 61 rfl (by rfl) rfl rfl (by rfl) (by rfl) hRc2 (Kd.R_reads' hu2).2.2 (fun k hk => ⟨by have := blk_lt hSc2.rb; omega, by have := blk_lt hSc2.cb; omega⟩) hSc2.be (by (try simp only [List.length_append]); omega) ?_
          intro va2 wa2 hR2_ hBa2 hga2
          have hSa2 := hSc2.grown hga2 (fun e => ((hRc2).1 _ e.symm).2 rfl) (fun e => ((hRc2).1 _ e.symm).1 rfl) hBa2
          refine hK.out _ _ hSa2 (fun _ => ?_)
          refine norm_ (a' := ?_) ?_ ?_
          rotate_left
          · show Act.put _ (some 61) _ = _
            simp only [Act.put, List.setIfInBounds_toArray, List.set_cons_zero, List.set_cons_succ]
            rfl
          refine one_ (i := 18) (N := some 65) (bl_ [19, 2]) rfl rfl (one_of HT_.out (by kernel_rfl)) (by decide) (fun K hK => ?_)
          refine goes_ Try.func22 (by kernel_rfl) rfl #[.int .u64 (IntKind.u64.wrap (c.f2))] (by rfl) rfl rfl (by (try simp only [List.map_toArray, List.map_cons, List.map_nil]); first | done | rfl) ?_
          refine (refUint_ (c.f2) _).mono ?_
          rintro e wc3 ⟨vu3, rfl, hu3, hb3⟩
          have hSc3 := hSa2.next hb3
          have hRc3 := Kd.R_below hR2_ hb3
          obtain ⟨Au3, cu3, hvu3⟩ := Kd.R_slice hu3
          subst hvu3
          refine ⟨_, rfl, hK.out _ _ hSc3 (fun _ => ?_)⟩
          refine norm_ (a' := ?_) ?_ ?_
          rotate_left
          · show Act.put _ (some 65) _ = _
            simp only [Act.put, List.setIfInBounds_toArray, List.set_cons_zero, List.set_cons_succ]
            rfl
          have hl3 : (numB (c.f2)).length ≤ 10 := numB_len _
          refine one_ (i := 19) (N := some 66) (bl_ [20, 1]) rfl rfl (one_of HT_.out (by kernel_rfl)) (by decide) (fun K hK => ?_)
          refine app8_ (W := W) (bok := fun k => k ≠ W.heap.size ∧ k ≠ wq.heap.size) (.tmp 61) (.tmp 65) 66 rfl (by rfl) rfl rfl (by rfl) (by rfl) hRc3 (Kd.R_reads' hu3).2.2 (fun k hk => ⟨by have := blk_lt hSc3.rb; omega, by have := blk_lt hSc3.cb; omega⟩) hSc3.be (by (try simp only [List.length_append]); omega) ?_
          intro va3 wa3 hR3_ hBa3 hga3
          have hSa3 := hSc3.grown hga3 (fun e => ((hRc3).1 _ e.symm).2 rfl) (fun e => ((hRc3).1 _ e.symm).1 rfl) hBa3
          refine hK.out _ _ hSa3 (fun _ => ?_)
          refine norm_ (a' := ?_) ?_ ?_
          rotate_left
          · show Act.put _ (some 66) _ = _
            simp only [Act.put, List.setIfInBounds_toArray, List.set_cons_zero, List.set_cons_succ]
            rfl
          refine takes_ [20] 0 (bl_ [21]) rfl HT_.out (by kernel_rfl) hSa3 (a' := ?_) ?_ ?_
          rotate_left
          · repeat (first | exact rfl | (refine tkN rfl rfl (fun _ _ _ h => h) (by rfl) (by simp only [Act.put, List.setIfInBounds_toArray, List.set_cons_zero, List.set_cons_succ, i64_w, i32_w]; rfl) ?_) | (refine tkY rfl rfl (fun _ _ _ h => h) (by rfl) (fun w' hw' => by (obtain ⟨s0, s1, s2⟩ := blk3 hw'.cb; go_simp; with_reducible rfl)) (by simp only [Act.put, List.setIfInBounds_toArray, List.set_cons_zero, List.set_cons_succ, i64_w, i32_w]; rfl) ?_))
          refine done_ (done_of HT_.out (by kernel_rfl)) ?_
          have hw3 : IntKind.i64.wrap (((runs78 (l.take i)).length : Int) + 1) = ((runs78 (l.take i)).length : Int) + 1 := by rw [IntKind.wrap_i64]; omega
          have hw4 : IntKind.i64.wrap ((i : Int) + ((n' + 1 : Nat) : Int)) = (i : Int) + ((n' + 1 : Nat) : Int) := by rw [IntKind.wrap_i64]; omega
          go_wp2
          go_roundg (l.length + 1 - (i + (n' + 1)))
          case measure => rw [HA.out.2.1]; omega
          case rel =>
            refine ⟨i + (n' + 1), by simp, by rw [hrr]; simp, ⟨hnn, rfl, hBd, ?_, hSa3.rb, hSa3.be⟩⟩
            rw [hrr, List.map_append, List.flatten_append]
            have hw5 : wrap64 c.f0 = c.f0 := w64_in _ (by omega)
            have e : ([(⟨((n' + 1 : Nat) : Int), c⟩ : S78)].map runB).flatten = numB ((n' + 1 : Nat) : Int) ++ (numB c.f0 ++ (numB c.f1 ++ numB c.f2)) := by simp [runB, hw5]
            rw [e]
            simp only [← List.append_assoc]
            exact Kd.R_mono hR3_ (fun k hk => hk.1)
    · have hall := HA.out
      obtain rfl : i = l.length := by omega
      rename World => wv
      have hRv := Kd.R_mono (ok' := fun _ => True) hall.2.2.2.1 (fun _ _ => trivial)
      have hbl := runsB_len (runs78 (l.take l.length))
      have hrl := runs78_le l
      rw [List.take_length] at hRv hbl
      rw [List.take_length]
      have hrb : rowB l wr = numB (2 * ((runs78 l).length : Int) + (if wr then 1 else 0)) ++ ((runs78 l).map runB).flatten := rfl
      generalize ((runs78 l).map runB).flatten = bs at hRv hbl hrb
      obtain ⟨Av, cv, hvv⟩ := Kd.R_slice hRv
      subst hvv
      have hC81 := (Kd.R_reads' hRv).2.2
      generalize hrl2 : (runs78 l).length = rn at hrl hbl hrb
      have hz0 : IntKind.i64.wrap (2 * (rn : Int)) = 2 * (rn : Int) := by rw [IntKind.wrap_i64]; omega
      have hz1 : IntKind.u64.wrap (2 * (rn : Int)) = 2 * (rn : Int) := by rw [IntKind.wrap_u64]; omega
      have hz2 : IntKind.u64.wrap (2 * (rn : Int) + 1) = 2 * (rn : Int) + 1 := by rw [IntKind.wrap_u64]; omega
      have hbev := hall.2.2.2.2.2
      have hlt0 : ¬ (l.length : Int) < l.length := by omega
      clear HA hall hlt
      have hU0 := refUint_ (2 * (rn : Int)) wv
      have hU1 := refUint_ (2 * (rn : Int) + 1) wv
      rw [hz1] at hU0
      rw [hz2] at hU1
      cases wr
      case false =>
        go_wp2_with (first
          | (go_at_call 22; refine hU0.mono ?_; rintro e w2 ⟨v2, rfl, hR2, hb2⟩
             obtain ⟨A2, c2, hv2⟩ := Kd.R_slice hR2; subst hv2
             have hRl := Kd.R_lower hR2 hbev.size
             have hn2 := numB_len (2 * (rn : Int))
             have hb02 := hbev.trans (hb2.mono hbev.size))
          | ((with_reducible refine gate_builtin (b := .append) rfl ?_)
             refine Kd.R_append_rows (Kd.int .u8) (w0 := W) (W := w2) W.heap.size (by rfl) (.tmp 80) (.tmp 81) 23 5 (.int .u8 0) 1 (by rfl) Try.underlying23 info5 rfl (by decide) (by decide) (.slice A2 (numB (2 * (rn : Int))).length c2) (numB (2 * (rn : Int))) bs Av bs.length cv (fun _ => True) (fun _ => False) (by rfl) (by rfl) hRl (Kd.C_below hC81 hb2) (fun _ _ h => h) (fun _ h => h.elim) (fun _ _ => trivial) hb02 hb02.size (by omega) ?_
             intro v3 w3 hO3 hB3 hg3 hat3)
          | fail)
        go_ret2
        rw [hrb]
        exact ⟨_, rfl, by simpa using hO3, hB3⟩
      case true =>
        go_wp2_with (first
          | (go_at_call 22; refine hU1.mono ?_; rintro e w2 ⟨v2, rfl, hR2, hb2⟩
             obtain ⟨A2, c2, hv2⟩ := Kd.R_slice hR2; subst hv2
             have hRl := Kd.R_lower hR2 hbev.size
             have hn2 := numB_len (2 * (rn : Int) + 1)
             have hb02 := hbev.trans (hb2.mono hbev.size))
          | ((with_reducible refine gate_builtin (b := .append) rfl ?_)
             refine Kd.R_append_rows (Kd.int .u8) (w0 := W) (W := w2) W.heap.size (by rfl) (.tmp 80) (.tmp 81) 23 5 (.int .u8 0) 1 (by rfl) Try.underlying23 info5 rfl (by decide) (by decide) (.slice A2 (numB (2 * (rn : Int) + 1)).length c2) (numB (2 * (rn : Int) + 1)) bs Av bs.length cv (fun _ => True) (fun _ => False) (by rfl) (by rfl) hRl (Kd.C_below hC81 hb2) (fun _ _ h => h) (fun _ h => h.elim) (fun _ _ => trivial) hb02 hb02.size (by omega) ?_
             intro v3 w3 hO3 hB3 hg3 hat3)
          | fail)
        go_ret2
        rw [hrb]
        exact ⟨_, rfl, by simpa using hO3, hB3⟩
end Go.Proofs.Ytkigdcihhlkkdaa.P
end
section
set_option linter.unusedVariables false
set_option linter.unusedSimpArgs false
namespace Go.Proofs.YtkigdcihhlkkdaaW.PrintWords
open Go.RowKit
namespace Kd
section
variable {α : Type} {P : Program} {ops : Array Oper} {o : Oper} {a : Act} {Q' : Exit → Act → World → Prop} {Kc : Act → World → Prop}
end
end Kd
end Go.Proofs.YtkigdcihhlkkdaaW.PrintWords
namespace Go.Proofs.Ytkigdcihhlkkdaa.P
open Go.RowKit Go.Shelf Go.Proofs.YtkigdcihhlkkdaaW.PrintWords Go.Proofs.YtkigdcihhlkkdaaW.PrintLast Go.Proofs.YtkigdcihhlkkdaaW.PrintMore Go.Proofs.Ytkigdcihhlkkdaa.Pure
attribute [local go_sem] Oper.semAt_some
theorem rowB_len {l : List S45} {b : Bool} (hm : mayB l = true) : (rowB l b).length ≤ 20000 := by
  unfold rowB
  have h1 := runs78_le l
  have h2 := runsB_len (runs78 l)
  have h3 := mayB_len hm
  have h4 := numB_len (2 * ((runs78 l).length : Int) + (if b then 1 else 0))
  rw [List.length_append]
  omega
theorem info31m : (Try.prog.info? 31).map (fun i => (i.zero, i.size, i.bytes)) = some (some (.agg #[.slice none 0 0, .bool false]), 2, 32) := by kernel_rfl
def flatB : List S31 → List Int
  | [] => []
  | x :: t => rowB x.f0 x.f1 ++ flatB t
theorem flatB_drop (xs : List S31) (j : Nat) (h : j < xs.length) : flatB (xs.drop j) = rowB (rd_T31 xs (j : Int)).f0 (rd_T31 xs (j : Int)).f1 ++ flatB (xs.drop (j + 1)) ∧ rd_T31 xs (j : Int) ∈ xs := by
  have e : rd_T31 xs (j : Int) = xs[j] := by simp [rd_T31, List.getD, h]
  rw [e, List.drop_eq_getElem_cons h]
  exact ⟨rfl, List.getElem_mem h⟩
structure I1 (W : World) (vb vw : Value) (xs : List S31) (w : World) : Prop where
  r : Kd.R (Kd.int .u8) 5 w W.heap.size (fun _ => True) vb (flatB xs)
  q : Kd.NQ k31 31 w W.heap.size (fun k => some k ≠ vb.ownBlock) vw xs
  be : Below W.heap.size W w
section
variable {W w w' : World} {vb vw vb' vw' : Value} {xs : List S31}
theorem I1.next (h : I1 W vb vw xs w) (hb : Below w.heap.size w w') : I1 W vb vw xs w' := ⟨Kd.R_below h.r hb, Kd.NQ_below h.q hb, Below.trans h.be (hb.mono h.be.size)⟩
end
end Go.Proofs.Ytkigdcihhlkkdaa.P
end
section
set_option linter.unusedVariables false
set_option linter.unusedSimpArgs false
namespace Go.Proofs.Ytkigdcihhlkkdaa.P
open Go.RowKit Go.Shelf Go.Proofs.YtkigdcihhlkkdaaW.PrintWords Go.Proofs.YtkigdcihhlkkdaaW.PrintLast Go.Proofs.YtkigdcihhlkkdaaW.PrintMore Go.Proofs.Ytkigdcihhlkkdaa.Pure
attribute [local go_sem] Oper.semAt_some
def rb (z : S31) : List Int := rowB z.f0 z.f1
theorem rd_row (ys : List S31) (n : Nat) (h : n < ys.length) : (ys.map rb)[((n : Nat) : Int).toNat]? = some (rb (rd_T31 ys (n : Int))) := by
  rw [Int.toNat_natCast, List.getElem?_map, List.getElem?_eq_getElem h]
  simp [rd_T31, List.getD, h]
theorem sum_next (ys : List S31) (n : Nat) (h : n < ys.length) : sumLen ((ys.map rb).take (n + 1)) = sumLen ((ys.map rb).take n) + (rb (rd_T31 ys (n : Int))).length := by
  rw [sumLen_take _ n (by rw [List.length_map]; exact h)]
  congr 2
  rw [List.getD_eq_getElem?_getD]
  have := rd_row ys n h
  rw [Int.toNat_natCast] at this
  rw [this]
  rfl
theorem sum_small : ∀ (ys : List S31), (∀ z ∈ ys, mayB z.f0 = true) → sumLen (ys.map rb) ≤ 20000 * ys.length
  | [], _ => by simp [sumLen]
  | z :: t, h => by
    have h1 := rowB_len (b := z.f1) (h z (by simp))
    have h2 := sum_small t (fun y hy => h y (by simp [hy]))
    unfold sumLen at h2 ⊢
    simp only [List.map_cons, List.sum_cons, List.length_cons, rb] at h2 ⊢
    omega
def good (z : S31) : Prop := mayB z.f0 = true ∧ ∀ c ∈ z.f0, in32 c
structure IP (W : World) (gp : Nat) (vw : Value) (xs : List S31) (w : World) : Prop where
  ex : ∃ okP okW : Nat → Prop, PageAt w okP gp (xs.map rb) ∧ Kd.NQ k31 31 w 0 okW vw xs ∧ (∀ k, okP k → ¬ okW k) ∧ (∀ k, okP k → W.heap.size ≤ k ∧ k < w.heap.size) ∧ (∀ k, okW k → W.heap.size ≤ k ∧ k < w.heap.size)
  be : Below W.heap.size W w
  go : ∀ z ∈ xs, good z
  le : xs.length ≤ 16
section
variable {W wr w2 w3 w4 w5 w w' : World} {gp w2s : Nat} {vw v1 : Value} {xs : List S31} {p : S31} {X : List Int} {okP okW : Nat → Prop}
theorem IP.next (h : IP W gp vw xs w) (hb : Below w.heap.size w w') : IP W gp vw xs w' := by
  obtain ⟨⟨okP, okW, hP, hN, hd, hbP, hbW⟩, be, go, le⟩ := h
  exact ⟨⟨okP, okW, hP.below hb, Kd.NQ_below hN hb, hd, fun k hk => ⟨(hbP k hk).1, Nat.lt_of_lt_of_le (hbP k hk).2 hb.size⟩, fun k hk => ⟨(hbW k hk).1, Nat.lt_of_lt_of_le (hbW k hk).2 hb.size⟩⟩, be.trans (hb.mono be.size), go, le⟩
theorem IP.slice (h : IP W gp vw xs w) : ∃ A c, vw = .slice A xs.length c ∧ xs.length ≤ c := by
  obtain ⟨_, okW, _, hN, _⟩ := h.ex
  exact Kd.NQ_slice hN
end
end Go.Proofs.Ytkigdcihhlkkdaa.P
end
section
set_option linter.unusedVariables false
set_option linter.unusedSimpArgs false
namespace Go.Proofs.Ytkigdcihhlkkdaa.P
open Go.RowKit Go.Proofs.YtkigdcihhlkkdaaW.PrintWords Go.Proofs.YtkigdcihhlkkdaaW.PrintLast Go.Proofs.YtkigdcihhlkkdaaW.PrintMore
set_option maxHeartbeats 2000000
set_option maxRecDepth 100000
theorem store_limit (W : World) (ok : Nat → Prop) (s : Nat) (lim n gone : Int) (ps : List Pg) (h : StoreAt W ok s lim n gone ps) :
    Calls Try.prog 47 #[.pointer (some ⟨s, 0, none⟩)] W fun e w' => e = .returned (.int .i64 lim) ∧ Drawn0 W w' := by
  obtain ⟨_, v, hg, _⟩ := h
  obtain ⟨⟨h0, h1, h2, h3⟩, _⟩ := blk4 hg
  go_enter Try.func47, Try.ntmps47
  go_wp2
  all_goals go_ret
  all_goals exact ⟨by first | rfl | simp, Drawn0.refl _⟩
theorem store_clamped_ (W : World) (x : Int) : Calls Try.prog 61 #[.int .i64 x] W fun e w' => e = .returned (.int .i64 (min (max x 0) 1000000)) ∧ Drawn0 W w' := by
  go_enter Try.func61, Try.ntmps61
  go_wp2
  go_ret
  exact ⟨by first | rfl | simp, Drawn0.refl _⟩
theorem store_setlim (W : World) (ok : Nat → Prop) (s : Nat) (lim n gone : Int) (ps : List Pg) (x : Int) (h : StoreAt W ok s lim n gone ps) (hi : Inv ps) (hn : n = (flat ps).length) (hn2 : n ≤ 1000000000) (hg0 : 0 ≤ gone) (hg1 : gone ≤ 1000000000) :
    Calls Try.prog 46 #[.pointer (some ⟨s, 0, none⟩), .int .i64 x] W fun e w' => e = .returned (.tuple #[]) ∧ ∃ ps' n' gone', StoreAt w' ok s (min (max x 0) 1000000) n' gone' ps' ∧ Inv ps' ∧ flat ps' = (flat ps).drop (n - n').toNat ∧ n' = min n (min (max x 0) 1000000) ∧ gone' + n' = gone + n ∧ Fr ok W w' := by
  obtain ⟨hs0, v, hg, hv, hp, hd⟩ := h
  obtain ⟨⟨h0, h1, h2, h3⟩, f0, f1, f2, f3⟩ := blk4 hg
  have hS := fun m => StoreAt.rebuild (w3 := (W.drewN m).setCell ⟨s, 0, none⟩ (.int .i64 (min (max x 0) 1000000))) hs0 ((blk_set (blk_drewN hg m) 0 _).trans rfl) (fun k hk => Below.heap_setCell (W.drewN m) ⟨s, 0, none⟩ _ k hk) hv hp hd
  have hcuts := fun m => store_cuts _ ok s _ n gone ps (hS m) hi hn hn2 (by omega) hg0 hg1
  go_enter Try.func46, Try.ntmps46
  go_wp2_with (first
    | (go_at_call 61; refine (store_clamped_ _ _).mono ?_; rintro e w0 ⟨rfl, hd0⟩; obtain ⟨m0, rfl⟩ := hd0.out)
    | (go_at_call 62; refine (hcuts _).mono ?_; rintro e w1 ⟨rfl, ps', n', g', hS', hI', hf', hn', hg', hfr⟩)
    | fail)
  all_goals go_end0
  exact ⟨rfl, ps', n', g', hS', hI', hf', hn', hg', (((Fr.refl ok W).drewN _).setCell (p := ⟨s, 0, none⟩) hs0 _).trans hfr (fun _ _ h => h)⟩
theorem store_at_out (W : World) (ok : Nat → Prop) (s : Nat) (lim n gone : Int) (ps : List Pg) (i : Int) (h : StoreAt W ok s lim n gone ps) (hi : i < 0 ∨ n ≤ i) :
    Calls Try.prog 43 #[.pointer (some ⟨s, 0, none⟩), .int .i64 i] W fun e W' => e = .returned (.tuple #[.agg #[.slice none 0 0, .bool false], .bool false]) ∧ Below W.heap.size W W' := by
  have hb0 : Below W.heap.size W (W.alloc (.cells #[.slice none 0 0, .bool false] 31)) := below_alloc (Below.refl _ _) _
  have hB0 := blk_new W (.cells #[.slice none 0 0, .bool false] 31)
  have hlen := store_len _ ok s lim n gone ps (h.below hb0)
  go_enter Try.func43, Try.ntmps43
  go_wp2_with (go_at_call 44; refine hlen.mono ?_; rintro e w1 ⟨rfl, hd1⟩; obtain ⟨h00, h01, f00, f01⟩ := blk2 (blk_below hB0 hd1.below); have hb1 : Below W.heap.size W w1 := hb0.trans (hd1.below.mono (by simp)))
  all_goals (first
    | refine bodyPost_ret (results_ct rfl _ _ W.heap.size 31 #[.slice none 0 0, .bool false] (0, 0) _ rfl ((blk_set (blk_set (blk_below hB0 hd1.below) 0 _) 1 _).trans rfl) Try.underlying31 rfl info31s) rfl ?_
    | refine bodyPost_ret (results_ct rfl _ _ W.heap.size 31 #[.slice none 0 0, .bool false] (0, 0) _ rfl hB0 Try.underlying31 rfl info31s) rfl ?_)
  all_goals (refine ⟨rfl, ?_⟩)
  all_goals first | exact below_set (below_set hb1 (Nat.le_refl _)) (Nat.le_refl _) | exact hb0
end Go.Proofs.Ytkigdcihhlkkdaa.P
end
section
set_option linter.unusedVariables false
set_option linter.unusedSimpArgs false
namespace Go.Proofs.Ytkigdcihhlkkdaa.P
open Go.RowKit Go.Proofs.YtkigdcihhlkkdaaW.PrintWords Go.Proofs.YtkigdcihhlkkdaaW.PrintLast Go.Proofs.YtkigdcihhlkkdaaW.PrintMore
attribute [local go_sem] Oper.semAt_some
theorem sumLen_app (a b : List (List Int)) : sumLen (a ++ b) = sumLen a + sumLen b := by
  unfold sumLen
  rw [List.map_append, List.sum_append]
theorem flat_take (ps : List Pg) (j : Nat) (p : Pg) (h : ps[j]? = some p) : sumLen (flat (ps.take (j + 1))) = sumLen (flat (ps.take j)) + sumLen p.rows := by
  have hl := (List.getElem?_eq_some_iff.1 h).1
  rw [List.take_add_one, h, Option.toList_some]
  unfold flat
  rw [List.map_append, List.flatten_append, sumLen_app]
  simp
theorem flat_take_le (ps : List Pg) (j : Nat) : sumLen (flat (ps.take j)) ≤ sumLen (flat ps) := by
  have h : flat ps = flat (ps.take j) ++ flat (ps.drop j) := by
    conv => lhs; rw [← List.take_append_drop j ps]
    unfold flat
    rw [List.map_append, List.flatten_append]
  rw [h, sumLen_app]
  omega
set_option maxHeartbeats 4000000 in
set_option maxRecDepth 100000 in
theorem store_bytes (W : World) (ok : Nat → Prop) (s : Nat) (lim n gone : Int) (ps : List Pg) (h : StoreAt W ok s lim n gone ps) (hI : Inv ps) (hs : sumLen (flat ps) ≤ 100000000) (hl : ps.length ≤ 100000000) :
    Calls Try.prog 48 #[.pointer (some ⟨s, 0, none⟩)] W fun e w' => e = .returned (.int .i64 (sumLen (flat ps) : Nat)) ∧ Below W.heap.size W w' := by
  obtain ⟨hs0, v, hg, hv, hp, _⟩ := h
  obtain ⟨A0, c0, rfl, hc0⟩ := Kd.Q_slice hv
  rw [List.length_map] at hg hv hc0
  obtain ⟨⟨h0, h1, h2, h3⟩, _⟩ := blk4 hg
  have hmost := Aside0.mk hI.most
  clear hI
  go_enter Try.func48, Try.ntmps48
  go_wp2
  go_loopg [3, 13] (ps.length + 1) (fun kq v3 v13 w' => ∃ j : Nat, v13 = .int .i64 j ∧ v3 = .int .i64 (sumLen (flat (ps.take j)) : Nat) ∧ Aside0 (j ≤ ps.length ∧ kq = ps.length + 1 - j ∧ Below W.heap.size W w'))
  case atStart => exact ⟨0, rfl, by simp [flat, sumLen], ⟨Nat.zero_le _, rfl, Below.refl _ _⟩⟩
  case round =>
    obtain ⟨j, rfl, rfl, HA⟩ := hrel
    rename World => wj
    by_cases hlt : j < ps.length
    · obtain ⟨p, hpj⟩ : ∃ p, ps[j]? = some p := ⟨_, List.getElem?_eq_getElem hlt⟩
      have hpm := List.mem_of_getElem? hpj
      have hB := HA.out.2.2
      obtain ⟨ad, rfl, hpc⟩ := ptr_at (Kd.Q_below hv hB) hpj
      have hnx := Aside0.mk (flat_take ps j p hpj)
      have hle := flat_take_le ps (j + 1)
      rw [hnx.out] at hle
      have h38 := page_bytes wj p.ok p.blk p.rows ((hp p hpm).1.below hB) (by omega) (by have := hmost.out p hpm; omega)
      have hw1 : IntKind.i64.wrap ((j : Int) + 1) = (j : Int) + 1 := by rw [IntKind.wrap_i64]; omega
      obtain ⟨B, hBB⟩ : ∃ B, sumLen (flat (ps.take j)) = B := ⟨_, rfl⟩
      obtain ⟨D, hD⟩ : ∃ D, sumLen p.rows = D := ⟨_, rfl⟩
      rw [hBB, hD] at hle
      rw [hD] at h38
      rw [hBB]
      have hw2 : IntKind.i64.wrap ((B : Int) + (D : Int)) = (B : Int) + (D : Int) := by rw [IntKind.wrap_i64]; omega
      have hBD := Aside0.mk (And.intro hBB hD)
      clear hBB hD hle hpj hpm
      go_wp2_with (first
        | (go_at_call 38; refine h38.mono ?_; rintro e w5 ⟨rfl, hb5⟩; clear h38)
        | fail)
      go_roundg (ps.length + 1 - (j + 1))
      case measure => rw [HA.out.2.1]; omega
      case rel => exact ⟨j + 1, by simp, by rw [hnx.out, hBD.out.1, hBD.out.2]; simp, ⟨hlt, rfl, hB.trans (hb5.mono hB.size)⟩⟩
    · have hB := HA.out.2.2
      have hj : j = ps.length := by have := HA.out.1; omega
      rw [List.take_of_length_le (by omega)]
      go_wp2
      go_ret
      exact ⟨rfl, hB⟩
end Go.Proofs.Ytkigdcihhlkkdaa.P
end
