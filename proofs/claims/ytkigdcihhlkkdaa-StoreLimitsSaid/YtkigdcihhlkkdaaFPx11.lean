-- written by a print that this session turned (wip/tools/turnprint.py)
import Derived.Test.YtkigdcihhlkkdaaFPx0
import Derived.Test.YtkigdcihhlkkdaaFPx1
namespace Go.Proofs.Ytkigdcihhlkkdaa.P
open Go.RowKit Go.Proofs.YtkigdcihhlkkdaaW.PrintWords Go.Proofs.YtkigdcihhlkkdaaW.PrintLast Go.Proofs.YtkigdcihhlkkdaaW.PrintMore
attribute [local go_sem] max2_int min2_int max_two min_two max_three min_three max_four min_four   -- for this text's walks alone
set_option linter.unusedVariables false
set_option linter.unusedSimpArgs false
attribute [local go_sem high] eqA45
def same45 (a b : S45) : Bool := a.f0 == b.f0 && (a.f1 == b.f1 && a.f2 == b.f2)
def step78 (l : List S78) (c : S45) : List S78 :=
  if 0 < l.length ∧ same45 (rd_T78 l ((l.length - 1 : Nat) : Int)).f1 c = true then l.set (l.length - 1) ⟨wrap64 ((rd_T78 l ((l.length - 1 : Nat) : Int)).f0 + 1), (rd_T78 l ((l.length - 1 : Nat) : Int)).f1⟩ else l ++ [⟨1, c⟩]
def runs78 (l : List S45) : List S78 := l.foldl step78 []
def pack_runs.f (l0 : List S45) (_a1 : Bool) : Option (List S78) := if l0.length ≤ 1000000000 then some (runs78 l0) else none
theorem step78_len (l : List S78) (c : S45) : (step78 l c).length ≤ l.length + 1 := by
  unfold step78
  split <;> simp
theorem runs78_len : ∀ (l : List S45) (a : List S78), (l.foldl step78 a).length ≤ a.length + l.length
  | [], a => by simp
  | c :: l, a => by
    have h1 := runs78_len l (step78 a c)
    have h2 := step78_len a c
    simp only [List.foldl_cons, List.length_cons]
    omega
theorem runs_take (l : List S45) (i : Nat) (hi : i < l.length) : runs78 (l.take (i + 1)) = step78 (runs78 (l.take i)) (rd_T45 l (i : Int)) := by
  unfold runs78
  rw [List.take_add_one, List.getElem?_eq_getElem hi, Option.toList_some, List.foldl_append, rd_T45, List.getD_eq_getElem?_getD, Int.toNat_natCast, List.getElem?_eq_getElem hi]
  rfl
set_option maxHeartbeats 8000000 in
set_option maxRecDepth 100000 in
theorem pack_runs.calls (A0_0 : Option Addr) (c0_0 : Nat) (l0_0 : List (S45)) (a0_1 : Bool) (r : List (S78)) (w : World) (hr0_0 : Kd.C k45 w A0_0 l0_0.length l0_0) (hc0_0 : l0_0.length ≤ c0_0) (h : pack_runs.f l0_0 a0_1 = some r) :
    Calls Try.prog 52 #[.agg #[.slice A0_0 l0_0.length c0_0, .bool a0_1]] w fun e w' => ∃ v0_ : Value, e = .returned (v0_) ∧ Kd.R k78 78 w' w.heap.size (fun _ => True) v0_ r ∧ Below w.heap.size w w' := by
  unfold pack_runs.f at h
  split at h
  case isFalse => cases h
  case isTrue hlen =>
  obtain rfl := Option.some.inj h
  have hu78 := Try.underlying78
  go_enter Try.func52, Try.ntmps52
  go_wp2
  go_loopg [3, 9] (l0_0.length + 1) (fun kq v3 v9 w' => ∃ (i : Nat), v9 = .int .i64 (i : Int) ∧ Aside0 (i ≤ l0_0.length ∧ Kd.R k78 78 w' w.heap.size (fun _ => True) v3 (runs78 (l0_0.take i)) ∧ Below w.heap.size w w' ∧ l0_0.length < kq + i))
  case atStart => exact ⟨0, rfl, ⟨Nat.zero_le _, by rw [List.take_zero]; exact Kd.R_nil _ _ _ _ _, below_alloc (Below.refl _ _) _, by omega⟩⟩
  case round =>
    obtain ⟨i, rfl, HA⟩ := hrel
    by_cases hi : i < l0_0.length
    · obtain ⟨ad, rfl, hx0, hx1, hx2⟩ := at_T45 (Kd.C_below hr0_0 HA.out.2.2.1) (i : Int) (by omega) (by omega)
      rw [Int.toNat_natCast] at hx0 hx1 hx2
      have hR := HA.out.2.1
      have hll := runs78_len (l0_0.take i) []
      have htk := runs_take l0_0 i hi
      generalize hgx : rd_T45 l0_0 (i : Int) = cx at hx0 hx1 hx2 htk
      change (runs78 (l0_0.take i)).length ≤ 0 + (l0_0.take i).length at hll
      rw [List.length_take] at hll
      generalize hge : runs78 (l0_0.take i) = x3 at hR hll htk
      clear hge
      obtain ⟨A3, c3, rfl⟩ := Kd.R_slice hR
      have hw9 : IntKind.i64.wrap ((i : Int) + 1) = (i : Int) + 1 := by rw [IntKind.wrap_i64]; omega
      have hWs : ∀ q, ((wr.alloc (.cells #[.int .i32 cx.f0, .int .i64 cx.f1, .int .i64 cx.f2] 45)).drewN q).heap.size = wr.heap.size + 1 := fun q => by show (wr.alloc _).heap.size = _; simp
      rcases Nat.eq_zero_or_pos x3.length with hz | hz
      · rw [hz]
        rw [hz] at hR
        have hst : step78 x3 cx = x3 ++ [⟨1, cx⟩] := by unfold step78; rw [if_neg (fun h => by omega)]
        have hRd := Kd.R_drewN (Kd.R_alloc hR (.cells #[.int .i32 cx.f0, .int .i64 cx.f1, .int .i64 cx.f2] 45))
        have hBd0 := below_alloc HA.out.2.2.1 (.cells #[.int .i32 cx.f0, .int .i64 cx.f1, .int .i64 cx.f2] 45)
        go_wp2
        go_quiet (fail)
        have hBd := pw_below_drewN hBd0 nq
        have hRd := hRd nq
        go_wp2_with (first
          | ((with_reducible refine gate_builtin (b := .append) rfl ?_)
             refine Kd.R_append k78 (w0 := w) (W := (wr.alloc (.cells #[.int .i32 cx.f0, .int .i64 cx.f1, .int .i64 cx.f2] 45)).drewN nq) w.heap.size (by rfl) (.tmp 37) (.tmp 40) 75 78 (.agg #[(.int .i64 0), (.int .i32 0), (.int .i64 0), (.int .i64 0)]) 32 (by rfl) Try.underlying75 info78 rfl (by decide) (by decide) (.slice A3 0 c3) x3 ⟨1, cx⟩ [.int .i64 1, .int .i32 cx.f0, .int .i64 cx.f1, .int .i64 cx.f2] (fun _ => True) (fun _ => False) (by rfl) (by rw [hWs nq]; rfl) (k78_mkM _ _ _ ⟨1, cx⟩) (fun _ hk => hk.elim) (fun _ _ => trivial) hRd hBd hBd.size (by omega) ?_
             intro v5 w5 hO5 hB5 hg5 hat5)
          | fail)
        go_roundg (gk - 1)
        case measure => have := HA.out.2.2.2; omega
        case rel => exact ⟨i + 1, by simp, ⟨by omega, by rw [htk, hst]; exact hO5, hB5, by have := HA.out.2.2.2; omega⟩⟩
      · have hRa := Kd.R_alloc hR (.cells #[.int .i32 cx.f0, .int .i64 cx.f1, .int .i64 cx.f2] 45)
        obtain ⟨ad3, hA3, _⟩ := at_T78 (Kd.R_reads' hRa).2.2 ((x3.length - 1 : Nat) : Int) (by omega) (by omega)
        subst hA3
        obtain ⟨g3, rfl⟩ := Kd.R_head hRa
        obtain ⟨m, hm⟩ : ∃ m, x3.length = m + 1 := ⟨x3.length - 1, by omega⟩
        obtain ⟨cs, hcl, hM, hcc, hfz⟩ := Kd.R_elem hRa z78 (m : Int) (by omega) (by omega)
        generalize hgy : x3.getD (m : Int).toNat z78 = y at hM
        rw [Int.toNat_natCast] at hgy
        have hGY := Aside0.mk hgy
        clear hgy
        obtain rfl := k78_openM hM
        have hsz : k78.sz = 4 := rfl
        rw [Int.toNat_natCast, hsz] at hcc hfz
        have q0 := hcc 0 _ rfl
        have q1 := hcc 1 _ rfl
        have q2 := hcc 2 _ rfl
        have q3 := hcc 3 _ rfl
        have f0 := hfz 0
        rw [Nat.add_zero] at q0 f0
        rw [hm]
        have hw1 : IntKind.i64.wrap (m : Int) = m := by rw [IntKind.wrap_i64]; omega
        have hw2 : (m : Int) < (m : Int) + 1 := by omega
        have hw3 : (0 : Int) < (m : Int) + 1 := by omega
        have hw4 : (0 : Int) ≤ (m : Int) := by omega
        cases hsm : same45 y.f1 cx with
        | true =>
          have hsm' := hsm
          unfold same45 at hsm'
          have hst : step78 x3 cx = x3.set m ⟨wrap64 (y.f0 + 1), y.f1⟩ := by
            unfold step78
            have e : rd_T78 x3 ((x3.length - 1 : Nat) : Int) = y := by rw [rd_T78, Int.toNat_natCast, hm, Nat.add_sub_cancel]; exact hGY.out
            rw [e, if_pos ⟨hz, hsm⟩, hm, Nat.add_sub_cancel]
          go_wp2
          go_quiet (fail)
          go_wp2
          have hRd := Kd.R_drewN hRa nq
          have hb3 := Kd.R_base hRa g3 rfl
          rw [hm] at hRd
          have hcc2 : ∀ j u, [Value.int .i64 y.f0, .int .i32 y.f1.f0, .int .i64 y.f1.f1, .int .i64 y.f1.f2][j]? = some u → ((wr.alloc (.cells #[.int .i32 cx.f0, .int .i64 cx.f1, .int .i64 cx.f2] 45)).drewN nq).cell? ⟨g3, (m : Int).toNat * k78.sz + j, none⟩ = some u := fun j u hu => by rw [Int.toNat_natCast, hsz]; exact hcc j u hu
          have hseg := (Kd.R_seg hRd (m : Int) (by omega) (by omega) (j := 0) (seg := [.int .i64 (wrap64 (y.f0 + 1))]) rfl hcc2 (by rw [hsz]; simp) (okp := fun _ => False) (x' := ⟨wrap64 (y.f0 + 1), y.f1⟩) (k78_mkM _ _ _ ⟨wrap64 (y.f0 + 1), y.f1⟩) (fun _ hk => hk.elim)).1
          rw [Int.toNat_natCast, hsz, Nat.add_zero] at hseg
          go_roundg (gk - 1)
          case measure => have := HA.out.2.2.2; omega
          case rel => exact ⟨i + 1, by simp, ⟨by omega, by rw [htk, hst]; exact hseg, below_set (pw_below_drewN (below_alloc HA.out.2.2.1 _) nq) hb3, by have := HA.out.2.2.2; omega⟩⟩
        | false =>
          have hsm' := hsm
          unfold same45 at hsm'
          rw [hm] at hR
          have hst : step78 x3 cx = x3 ++ [⟨1, cx⟩] := by
            unfold step78
            have e : rd_T78 x3 ((x3.length - 1 : Nat) : Int) = y := by rw [rd_T78, Int.toNat_natCast, hm, Nat.add_sub_cancel]; exact hGY.out
            rw [e, if_neg (fun h => by rw [hsm] at h; exact absurd h.2 (by simp))]
          have hRd := Kd.R_drewN (Kd.R_alloc hR (.cells #[.int .i32 cx.f0, .int .i64 cx.f1, .int .i64 cx.f2] 45))
          have hBd0 := below_alloc HA.out.2.2.1 (.cells #[.int .i32 cx.f0, .int .i64 cx.f1, .int .i64 cx.f2] 45)
          go_wp2
          go_quiet (fail)
          have hBd := pw_below_drewN hBd0 nq
          have hRd := hRd nq
          go_wp2_with (first
            | ((with_reducible refine gate_builtin (b := .append) rfl ?_)
               refine Kd.R_append k78 (w0 := w) (W := (wr.alloc (.cells #[.int .i32 cx.f0, .int .i64 cx.f1, .int .i64 cx.f2] 45)).drewN nq) w.heap.size (by rfl) (.tmp 37) (.tmp 40) 75 78 (.agg #[(.int .i64 0), (.int .i32 0), (.int .i64 0), (.int .i64 0)]) 32 (by rfl) Try.underlying75 info78 rfl (by decide) (by decide) (.slice (some ⟨g3, 0, none⟩) (m + 1) c3) x3 ⟨1, cx⟩ [.int .i64 1, .int .i32 cx.f0, .int .i64 cx.f1, .int .i64 cx.f2] (fun _ => True) (fun _ => False) (by rfl) (by rw [hWs nq]; rfl) (k78_mkM _ _ _ ⟨1, cx⟩) (fun _ hk => hk.elim) (fun _ _ => trivial) hRd hBd hBd.size (by omega) ?_
               intro v5 w5 hO5 hB5 hg5 hat5)
            | fail)
          go_roundg (gk - 1)
          case measure => have := HA.out.2.2.2; omega
          case rel => exact ⟨i + 1, by simp, ⟨by omega, by rw [htk, hst]; exact hO5, hB5, by have := HA.out.2.2.2; omega⟩⟩
    · go_wp2
      go_ret
      have he : i = l0_0.length := by have := HA.out.1; omega
      subst he
      have hall := HA.out
      rw [List.take_length] at hall
      exact ⟨_, rfl, hall.2.1, hall.2.2.1⟩
end Go.Proofs.Ytkigdcihhlkkdaa.P
