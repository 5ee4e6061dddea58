/- rotuluslaw4.begun: what its calls tell, and the small words. -/
import Derived.Test.YtkigdcihhlkkdaaFGIter
import Derived.Test.YtkigdcihhlkkdaaFGConc
import Derived.Test.YtkigdcihhlkkdaaFPx17
import Derived.Test.YtkigdcihhlkkdaaFPx14
import Derived.Test.YtkigdcihhlkkdaaFPx12
import Derived.Test.YtkigdcihhlkkdaaFPx4
import Derived.Test.YtkigdcihhlkkdaaFPx38
set_option linter.unusedVariables false
set_option linter.unusedSimpArgs false
namespace Go.Proofs.Ytkigdcihhlkkdaa.P
open Go.RowKit Go.Proofs.YtkigdcihhlkkdaaW.PrintWords Go.Proofs.YtkigdcihhlkkdaaW.PrintLast Go.Proofs.YtkigdcihhlkkdaaW.PrintMore
def row3 : List S45 := [⟨97, 1, 0⟩, ⟨97, 1, 0⟩, ⟨32, 1, 0⟩]
def bytes9 : List Int := [5, 2, 97, 1, 0, 1, 32, 1, 0]
theorem b_put3 : pack_Put.f 60 row3 true = some (bytes9, true) := by decide +kernel
theorem b_put0 : pack_Put.f 60 [] false = some ([0], true) := by decide +kernel
theorem b_may3 : pack_May.f 60 row3 true = some true := by decide +kernel
theorem b_may0 : pack_May.f 60 [] false = some true := by decide +kernel
theorem b_get3 : pack_Get.f 60 bytes9 = some (row3, true, 9, 0) := by kernel_rfl
theorem b_gu : pack_GetUint.f 60 [128, 1, 9] = some (128, 2) := by decide +kernel
theorem b_eq3 : pack_Eq.f 60 row3 true row3 true = some true := by decide +kernel
theorem b_one : rotuluslaw1_begun.f 60 = some true := by decide +kernel
theorem C_block {W : World} {g n : Nat} {l : List S45} (hg : W.heap[g]? = some (.cells (l.map cell3).flatten.toArray 45 (0, 0))) (hn : l.length ≤ 1000) : Kd.C k45 W (some ⟨g, 0, none⟩) l.length l := by
  refine ⟨rfl, by omega, fun _ => ⟨⟨g, 0, none⟩, rfl, fun j p hj => ⟨cell3 p, rfl, k45_mk W p, fun q u hq => ?_⟩⟩⟩
  have h4 : (⟨g, 0, none⟩ : Addr).add (j * k45.sz + q) = ⟨g, j * k45.sz + q, none⟩ := by unfold Addr.add; split <;> simp_all
  rw [h4, cell_of_row W g _ _ 45 (0, 0) hg]
  have hq3 : q < 3 := by have := (List.getElem?_eq_some_iff.1 hq).1; simpa [cell3] using this
  have key : ∀ (l : List S45) (j : Nat) (p : S45) (u : Value), l[j]? = some p → (cell3 p)[q]? = some u → (l.map cell3).flatten[j * 3 + q]? = some u := by
    intro l
    induction l with
    | nil => intro j p u hj; simp at hj
    | cons a t ih =>
      intro j p u hj hq
      rw [List.map_cons, List.flatten_cons]
      cases j with
      | zero =>
        simp only [List.getElem?_cons_zero, Option.some.injEq] at hj
        subst hj
        rw [List.getElem?_append_left (by simp [cell3]; omega)]
        simpa using hq
      | succ j =>
        rw [List.getElem?_cons_succ] at hj
        rw [List.getElem?_append_right (by simp [cell3]; omega)]
        have := ih j p u hj hq
        rw [← this]
        congr 1
        simp [cell3]
        omega
  have := key l j p u hj hq
  rw [show k45.sz = 3 from rfl]
  simpa using this
theorem F_block {W : World} {g : Nat} {l : List S45} (hg : W.heap[g]? = some (.cells (l.map cell3).flatten.toArray 45 (0, 0))) (hn : l.length ≤ 1000) : Kd.F k45 W (fun k => k = g) (some ⟨g, 0, none⟩) l.length l :=
  fun W' hW => C_block (g := g) (n := 0) ((hW g rfl (blk_lt hg)).trans hg) hn
set_option maxHeartbeats 1000000 in
set_option maxRecDepth 100000 in
theorem begun50 (w : World) : Calls Try.prog 50 #[] w fun e w' => e = .returned (.bool true) ∧ Below w.heap.size w w' := by
  have h := rotuluslaw1_begun.calls 60 true w b_one
  go_enter Try.func50, Try.ntmps50
  go_wp2_with (first | (go_at_call 64; refine h.mono ?_; rintro e w1 ⟨rfl, hb1⟩) | fail)
  go_ret
  exact ⟨rfl, hb1⟩
theorem put3_ (w : World) (A : Option Addr) (c : Nat) (hc : 3 ≤ c) (hC : Kd.C k45 w A row3.length row3) : Calls Try.prog 24 #[.agg #[.slice A row3.length c, .bool true]] w fun e w' => ∃ v0_ : Value, e = .returned (.tuple #[v0_, .bool true]) ∧ Kd.R (Kd.int .u8) 5 w' w.heap.size (fun _ => True) v0_ bytes9 ∧ Below w.heap.size w w' :=
  pack_Put.calls 60 A c row3 true bytes9 true w hC hc b_put3
theorem put0_ (w : World) (hC : Kd.C k45 w none ([] : List S45).length []) : Calls Try.prog 24 #[.agg #[.slice none ([] : List S45).length 0, .bool false]] w fun e w' => ∃ v0_ : Value, e = .returned (.tuple #[v0_, .bool true]) ∧ Kd.R (Kd.int .u8) 5 w' w.heap.size (fun _ => True) v0_ [0] ∧ Below w.heap.size w w' :=
  pack_Put.calls 60 none 0 [] false [0] true w hC (Nat.le_refl _) b_put0
theorem may3_ (w : World) (A : Option Addr) (c : Nat) (hc : 3 ≤ c) (hC : Kd.C k45 w A row3.length row3) : Calls Try.prog 26 #[.agg #[.slice A row3.length c, .bool true]] w fun e w' => e = .returned (.bool true) ∧ Below w.heap.size w w' :=
  pack_May.calls 60 A c row3 true true w hC hc b_may3
theorem may0_ (w : World) (hC : Kd.C k45 w none ([] : List S45).length []) : Calls Try.prog 26 #[.agg #[.slice none ([] : List S45).length 0, .bool false]] w fun e w' => e = .returned (.bool true) ∧ Below w.heap.size w w' :=
  pack_May.calls 60 none 0 [] false true w hC (Nat.le_refl _) b_may0
theorem get3_ (w : World) (A : Option Addr) (c : Nat) (hC : Kd.C (Kd.int .u8) w A bytes9.length bytes9) (hc : bytes9.length ≤ c) : Calls Try.prog 30 #[.slice A bytes9.length c] w fun e w' => ∃ v0_ : Value, e = .returned (.tuple #[.agg #[v0_, .bool true], .int .i64 9, .int .i64 0]) ∧ Kd.R k45 45 w' w.heap.size (fun _ => True) v0_ row3 ∧ Below w.heap.size w w' :=
  pack_Get.calls 60 A c bytes9 row3 true 9 0 w hC hc b_get3
theorem eq3_ (w : World) (A B : Option Addr) (c d : Nat) (hA : Kd.C k45 w A row3.length row3) (hc : 3 ≤ c) (hB : Kd.C k45 w B row3.length row3) (hd : 3 ≤ d) : Calls Try.prog 28 #[.agg #[.slice A row3.length c, .bool true], .agg #[.slice B row3.length d, .bool true]] w fun e w' => e = .returned (.bool true) ∧ Below w.heap.size w w' :=
  pack_Eq.calls 60 A c row3 true B d row3 true true w hA hc hB hd b_eq3
end Go.Proofs.Ytkigdcihhlkkdaa.P
