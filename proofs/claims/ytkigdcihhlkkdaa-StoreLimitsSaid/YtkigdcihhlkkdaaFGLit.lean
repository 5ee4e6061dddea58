/- Rows of one narrow cell: their bytes, and back. -/
import Derived.Test.YtkigdcihhlkkdaaFGBegun
set_option linter.unusedVariables false
set_option linter.unusedSimpArgs false
namespace Go.Proofs.Ytkigdcihhlkkdaa.P
open Go.RowKit Go.Proofs.YtkigdcihhlkkdaaW.PrintWords Go.Proofs.YtkigdcihhlkkdaaW.PrintLast Go.Proofs.YtkigdcihhlkkdaaW.PrintMore
theorem of_range {α : Type} {n i : Nat} {f g : Nat → α} (h : (List.range n).map f = (List.range n).map g) (hi : i < n) : f i = g i := by
  have := congrArg (fun l => l[i]?) h
  simpa [List.getElem?_map, List.getElem?_range, hi] using this
def rowA (i : Nat) : List S45 := [⟨97 + (i : Int), 1, 0⟩]
def bytA (i : Nat) : List Int := [2, 1, 97 + (i : Int), 1, 0]
theorem a_put0 : (List.range 25).map (fun i => pack_Put.f 60 (rowA i) false) = (List.range 25).map (fun i => some (bytA i, true)) := by kernel_rfl
theorem a_get0 : (List.range 25).map (fun i => pack_Get.f 60 (bytA i)) = (List.range 25).map (fun i => some (rowA i, false, 5, 0)) := by kernel_rfl
def rowX (i : Nat) : List S45 := [⟨256 + (i : Int), 1, 0⟩]
def bytX (i : Nat) : List Int := [2, 1, 128 + (i : Int), 2, 1, 0]
theorem x_put0 : (List.range 90).map (fun i => pack_Put.f 60 (rowX i) false) = (List.range 90).map (fun i => some (bytX i, true)) := by kernel_rfl
theorem x_get0 : (List.range 90).map (fun i => pack_Get.f 60 (bytX i)) = (List.range 90).map (fun i => some (rowX i, false, 6, 0)) := by kernel_rfl
theorem x_may0 : (List.range 90).map (fun i => pack_May.f 60 (rowX i) false) = (List.range 90).map (fun i => some true) := by kernel_rfl
theorem a_put (i : Nat) (hi : i < 25) (w : World) (A : Option Addr) (c : Nat) (hc : 1 ≤ c) (hC : Kd.C k45 w A (rowA i).length (rowA i)) : Calls Try.prog 24 #[.agg #[.slice A (rowA i).length c, .bool false]] w fun e w' => ∃ v0_ : Value, e = .returned (.tuple #[v0_, .bool true]) ∧ Kd.R (Kd.int .u8) 5 w' w.heap.size (fun _ => True) v0_ (bytA i) ∧ Below w.heap.size w w' :=
  pack_Put.calls 60 A c (rowA i) false (bytA i) true w hC hc (of_range a_put0 hi)
theorem a_get (i : Nat) (hi : i < 25) (w : World) (A : Option Addr) (c : Nat) (hC : Kd.C (Kd.int .u8) w A (bytA i).length (bytA i)) (hc : (bytA i).length ≤ c) : Calls Try.prog 30 #[.slice A (bytA i).length c] w fun e w' => ∃ v0_ : Value, e = .returned (.tuple #[.agg #[v0_, .bool false], .int .i64 5, .int .i64 0]) ∧ Kd.R k45 45 w' w.heap.size (fun _ => True) v0_ (rowA i) ∧ Below w.heap.size w w' :=
  pack_Get.calls 60 A c (bytA i) (rowA i) false 5 0 w hC hc (of_range a_get0 hi)
theorem x_put (i : Nat) (hi : i < 90) (w : World) (A : Option Addr) (c : Nat) (hc : 1 ≤ c) (hC : Kd.C k45 w A (rowX i).length (rowX i)) : Calls Try.prog 24 #[.agg #[.slice A (rowX i).length c, .bool false]] w fun e w' => ∃ v0_ : Value, e = .returned (.tuple #[v0_, .bool true]) ∧ Kd.R (Kd.int .u8) 5 w' w.heap.size (fun _ => True) v0_ (bytX i) ∧ Below w.heap.size w w' :=
  pack_Put.calls 60 A c (rowX i) false (bytX i) true w hC hc (of_range x_put0 hi)
theorem x_may (i : Nat) (hi : i < 90) (w : World) (A : Option Addr) (c : Nat) (hc : 1 ≤ c) (hC : Kd.C k45 w A (rowX i).length (rowX i)) : Calls Try.prog 26 #[.agg #[.slice A (rowX i).length c, .bool false]] w fun e w' => e = .returned (.bool true) ∧ Below w.heap.size w w' :=
  pack_May.calls 60 A c (rowX i) false true w hC hc (of_range x_may0 hi)
theorem x_get (i : Nat) (hi : i < 90) (w : World) (A : Option Addr) (c : Nat) (hC : Kd.C (Kd.int .u8) w A (bytX i).length (bytX i)) (hc : (bytX i).length ≤ c) : Calls Try.prog 30 #[.slice A (bytX i).length c] w fun e w' => ∃ v0_ : Value, e = .returned (.tuple #[.agg #[v0_, .bool false], .int .i64 6, .int .i64 0]) ∧ Kd.R k45 45 w' w.heap.size (fun _ => True) v0_ (rowX i) ∧ Below w.heap.size w w' :=
  pack_Get.calls 60 A c (bytX i) (rowX i) false 6 0 w hC hc (of_range x_get0 hi)
end Go.Proofs.Ytkigdcihhlkkdaa.P
