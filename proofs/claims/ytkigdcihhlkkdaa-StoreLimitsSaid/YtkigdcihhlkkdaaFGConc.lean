/- slices.Concat of rows of bytes, and a page's bytes. -/
import Derived.Test.YtkigdcihhlkkdaaFGPage
set_option linter.unusedVariables false
set_option linter.unusedSimpArgs false
namespace Go.Proofs.Ytkigdcihhlkkdaa.P
open Go.RowKit Go.Proofs.YtkigdcihhlkkdaaW.PrintWords Go.Proofs.YtkigdcihhlkkdaaW.PrintLast Go.Proofs.YtkigdcihhlkkdaaW.PrintMore
def sumLen (l : List (List Int)) : Nat := (l.map List.length).sum
theorem sumLen_take (l : List (List Int)) (i : Nat) (hi : i < l.length) : sumLen (l.take (i + 1)) = sumLen (l.take i) + (l.getD i []).length := by
  unfold sumLen
  rw [List.take_add_one, List.getElem?_eq_getElem hi, Option.toList_some, List.map_append, List.sum_append, List.getD_eq_getElem?_getD, List.getElem?_eq_getElem hi]
  simp
theorem sumLen_le (l : List (List Int)) (i : Nat) : sumLen (l.take i) ≤ sumLen l := by
  have h : l = l.take i ++ l.drop i := (List.take_append_drop i l).symm
  conv => rhs; rw [h]
  unfold sumLen
  rw [List.map_append, List.sum_append]
  omega
theorem flatten_take (l : List (List Int)) (i : Nat) (hi : i < l.length) : (l.take (i + 1)).flatten = (l.take i).flatten ++ l.getD i [] := by
  rw [List.take_add_one, List.getElem?_eq_getElem hi, Option.toList_some, List.flatten_append, List.getD_eq_getElem?_getD, List.getElem?_eq_getElem hi]
  simp
theorem flatten_len (l : List (List Int)) : l.flatten.length = sumLen l := by simp [sumLen, List.length_flatten]
set_option maxHeartbeats 4000000 in
set_option maxRecDepth 100000 in
theorem slices_grow (w : World) (n : Nat) (hn : n ≤ 100000000000) :
    Calls Try.prog 69 #[.slice none 0 0, .int .i64 (n : Int)] w fun e w' => ∃ v : Value, e = .returned v ∧ Kd.R (Kd.int .u8) 5 w' w.heap.size (fun _ => True) v ([] : List Int) ∧ Below w.heap.size w w' := by
  have hw1 : IntKind.i64.wrap (n : Int) = n := by rw [IntKind.wrap_i64]; omega
  go_enter Try.func69, Try.ntmps69
  by_cases h0 : n = 0
  · subst h0
    go_wp2
    go_ret
    exact ⟨_, rfl, Kd.R_nil _ _ _ _ _, Below.refl _ _⟩
  · have hp : (0 : Int) < (n : Int) := by omega
    go_wp2_with (first
      | ((with_reducible refine gate_builtin (b := .append) rfl ?_)
         refine Kd.R_append_zeros (Kd.int .u8) (w0 := w) (W := w) w.heap.size (by rfl) (.tmp 20) (.tmp 21) 23 3 5 (.int .u8 0) 1 (by rfl) Try.underlying23 Try.underlying3 info5 rfl (by decide) (by decide) (.slice none 0 0) ([] : List Int) (0 : Int) (n : Int) (fun _ => True) (by rfl) (by rfl) rfl (fun _ _ => trivial) (Kd.R_nil _ _ _ _ _) (by omega) (Below.refl _ _) (Nat.le_refl _) (by simp; omega) ?_
         intro v1 w1 hO hB hg hat
         obtain ⟨A1, c1, rfl⟩ := Kd.R_slice hO
         have hT := Kd.R_take hO (m := 0) (Nat.zero_le _))
      | fail)
    go_ret
    exact ⟨_, rfl, hT, hB⟩
set_option maxHeartbeats 4000000 in
set_option maxRecDepth 100000 in
theorem slices_concat (w : World) (A : Option Addr) (c : Nat) (rows : List (List Int)) (hC : Kd.C (Kd.slice 5 (Kd.int .u8)) w A rows.length rows) (hs : sumLen rows ≤ 100000000000) (hl : rows.length ≤ 100000000000) :
    Calls Try.prog 60 #[.slice A rows.length c] w fun e w' => ∃ v : Value, e = .returned v ∧ Kd.R (Kd.int .u8) 5 w' w.heap.size (fun _ => True) v rows.flatten ∧ Below w.heap.size w w' := by
  go_enter Try.func60, Try.ntmps60
  go_wp2
  go_loopg [3, 11] (rows.length + 1) (fun kq v3 v11 w' => ∃ (i : Nat), v11 = .int .i64 (i : Int) ∧ v3 = .int .i64 (sumLen (rows.take i) : Int) ∧ Aside0 (i ≤ rows.length ∧ Below w.heap.size w w' ∧ rows.length < kq + i))
  case atStart => exact ⟨0, rfl, rfl, ⟨Nat.zero_le _, Below.refl _ _, by omega⟩⟩
  case round =>
    obtain ⟨i, rfl, rfl, HA⟩ := hrel
    have hw9 : IntKind.i64.wrap ((i : Int) + 1) = (i : Int) + 1 := by have := HA.out.1; rw [IntKind.wrap_i64]; omega
    by_cases hi : i < rows.length
    · have hst := sumLen_take rows i hi
      have hsl := sumLen_le rows (i + 1)
      obtain ⟨ad, A0, c0, rfl, hx, hc0, _⟩ := at_L5 (Kd.C_below hC HA.out.2.1) (i : Int) (by omega) (by omega)
      rw [Int.toNat_natCast] at hx
      change _ = some (Value.slice A0 (rows.getD i []).length c0) at hx
      generalize hgl : (rows.getD i []).length = q at hx hst
      have hw3 : IntKind.i64.wrap ((sumLen (rows.take i) : Int) + (q : Int)) = (sumLen (rows.take (i + 1)) : Int) := by rw [IntKind.wrap_i64]; omega
      go_wp2
      go_roundg (gk - 1)
      case measure => have := HA.out.2.2; omega
      case rel => exact ⟨i + 1, by simp, by rw [hst]; simp, ⟨by omega, HA.out.2.1, by have := HA.out.2.2; omega⟩⟩
    · have hsl := sumLen_le rows i
      have hgr := slices_grow wr (sumLen (rows.take i)) (by omega)
      go_wp2_with (first
        | (go_at_call 69; refine hgr.mono ?_; rintro e w1 ⟨v0, rfl, hO0, hB0⟩; obtain ⟨A1, c1, rfl⟩ := Kd.R_slice hO0)
        | fail)
      have hBw := HA.out.2.1
      have hOw := Kd.R_lower hO0 hBw.size
      have hBw1 : Below w.heap.size w w1 := hBw.trans (hB0.mono hBw.size)
      clear hgr hO0 hB0
      go_loopg [6, 27] (rows.length + 1) (fun kq v6 v27 w' => ∃ (i : Nat), v27 = .int .i64 (i : Int) ∧ Aside0 (i ≤ rows.length ∧ Kd.R (Kd.int .u8) 5 w' w.heap.size (fun _ => True) v6 (rows.take i).flatten ∧ Below w.heap.size w w' ∧ rows.length < kq + i))
      case atStart => exact ⟨0, rfl, ⟨Nat.zero_le _, by rw [List.take_zero]; exact hOw, hBw1, by omega⟩⟩
      case round =>
        obtain ⟨i, rfl, HA⟩ := hrel
        have hw9 : IntKind.i64.wrap ((i : Int) + 1) = (i : Int) + 1 := by have := HA.out.1; rw [IntKind.wrap_i64]; omega
        by_cases hi : i < rows.length
        · have hst := flatten_take rows i hi
          have hl2 := sumLen_take rows i hi
          have hsl := sumLen_le rows (i + 1)
          have hfl := flatten_len (rows.take i)
          obtain ⟨ad, A0, c0, rfl, hx, hc0, hC0⟩ := at_L5 (Kd.C_below hC HA.out.2.2.1) (i : Int) (by omega) (by omega)
          rw [Int.toNat_natCast] at hx
          change _ = some (Value.slice A0 (rows.getD i []).length c0) at hx
          change Kd.C (Kd.int .u8) _ A0 (rows.getD i []).length (rows.getD i []) at hC0
          have hO := HA.out.2.1
          have hB := HA.out.2.2.1
          obtain ⟨A2, c2, rfl⟩ := Kd.R_slice hO
          generalize hgl : rows.getD i [] = q at hx hst hC0 hl2
          generalize hgm : (rows.take i).flatten = acc at hO hst hfl
          go_wp2_with (first
            | ((with_reducible refine gate_builtin (b := .append) rfl ?_)
               refine Kd.R_append_rows (Kd.int .u8) (w0 := w) (W := wr) w.heap.size (by rfl) (.tmp 31) (.tmp 32) 23 5 (.int .u8 0) 1 (by rfl) Try.underlying23 info5 rfl (by decide) (by decide) (.slice A2 acc.length c2) acc q A0 q.length c0 (fun _ => True) (fun _ => False) (by rfl) (by rfl) hO hC0 (fun _ _ h => h) (fun _ h => h.elim) (fun _ _ => trivial) hB hB.size (by omega) ?_
               intro v5 w5 hO5 hB5 hg5 hat5)
            | fail)
          go_roundg (gk - 1)
          case measure => have := HA.out.2.2.2; omega
          case rel => exact ⟨i + 1, by simp, ⟨by omega, by rw [hst]; exact hO5, hB5, by have := HA.out.2.2.2; omega⟩⟩
        · go_wp2
          go_ret
          have he : i = rows.length := by have := HA.out.1; omega
          subst he
          have hall := HA.out
          rw [List.take_length] at hall
          exact ⟨_, rfl, hall.2.1, hall.2.2.1⟩
set_option maxHeartbeats 4000000 in
set_option maxRecDepth 100000 in
theorem page_bytes (W : World) (ok : Nat → Prop) (g : Nat) (rows : List (List Int)) (hpage : PageAt W ok g rows) (hs : sumLen rows ≤ 100000000000) (hl : rows.length ≤ 100000000000) :
    Calls Try.prog 38 #[.pointer (some ⟨g, 0, none⟩)] W fun e w' => e = .returned (.int .i64 (sumLen rows : Int)) ∧ Below W.heap.size W w' := by
  obtain ⟨hokg, v, hg, hv⟩ := hpage
  obtain ⟨A0, c0, rfl, hc0⟩ := Kd.NQ_slice hv
  have hcell : W.cell? ⟨g, 0, none⟩ = some (.slice A0 rows.length c0) := by simp [World.cell?, hg]
  have hcon := slices_concat W A0 c0 rows (Kd.NQ_reads' hv).2.2 hs hl
  have hfl := flatten_len rows
  go_enter Try.func38, Try.ntmps38
  go_wp2_with (first
    | (go_at_call 60; refine hcon.mono ?_; rintro e w1 ⟨v0, rfl, hO0, hB0⟩; obtain ⟨A1, c1, rfl⟩ := Kd.R_slice hO0; rw [hfl] at hO0 ⊢)
    | fail)
  go_ret
  exact ⟨rfl, hB0⟩
end Go.Proofs.Ytkigdcihhlkkdaa.P
