/- No page and no store: what each function tells of nil. -/
import Derived.Test.YtkigdcihhlkkdaaEGIter
set_option linter.unusedVariables false
set_option linter.unusedSimpArgs false
namespace Go.Proofs.Ytkigdcihhlkkdaa.P
open Go.RowKit Go.Shelf Go.Proofs.YtkigdcihhlkkdaaW.PrintWords Go.Proofs.YtkigdcihhlkkdaaW.PrintLast Go.Proofs.YtkigdcihhlkkdaaW.PrintMore
attribute [local go_sem] Oper.semAt_some
set_option maxHeartbeats 2000000
set_option maxRecDepth 100000
theorem none_plen (W : World) : Calls Try.prog 37 #[.pointer none] W fun e w' => e = .returned (.int .i64 0) ∧ Drawn0 W w' := by
  go_enter Try.func37, Try.ntmps37
  go_wp2
  all_goals go_ret
  all_goals exact ⟨by first | rfl | simp, Drawn0.refl _⟩
theorem none_slen (W : World) : Calls Try.prog 44 #[.pointer none] W fun e w' => e = .returned (.int .i64 0) ∧ Drawn0 W w' := by
  go_enter Try.func44, Try.ntmps44
  go_wp2
  all_goals go_ret
  all_goals exact ⟨by first | rfl | simp, Drawn0.refl _⟩
theorem none_gone (W : World) : Calls Try.prog 45 #[.pointer none] W fun e w' => e = .returned (.int .i64 0) ∧ Drawn0 W w' := by
  go_enter Try.func45, Try.ntmps45
  go_wp2
  all_goals go_ret
  all_goals exact ⟨by first | rfl | simp, Drawn0.refl _⟩
theorem none_limit (W : World) : Calls Try.prog 47 #[.pointer none] W fun e w' => e = .returned (.int .i64 0) ∧ Drawn0 W w' := by
  go_enter Try.func47, Try.ntmps47
  go_wp2
  all_goals go_ret
  all_goals exact ⟨by first | rfl | simp, Drawn0.refl _⟩
theorem none_sbytes (W : World) : Calls Try.prog 48 #[.pointer none] W fun e w' => e = .returned (.int .i64 0) ∧ Drawn0 W w' := by
  go_enter Try.func48, Try.ntmps48
  go_wp2
  all_goals go_ret
  all_goals exact ⟨by first | rfl | simp, Drawn0.refl _⟩
theorem none_pbytes (W : World) : Calls Try.prog 38 #[.pointer none] W fun e w' => e = .returned (.int .i64 0) ∧ Drawn0 W w' := by
  go_enter Try.func38, Try.ntmps38
  go_wp2
  all_goals go_ret
  all_goals exact ⟨by first | rfl | simp, Drawn0.refl _⟩
theorem none_cut (W : World) (n : Int) : Calls Try.prog 35 #[.pointer none, .int .i64 n] W fun e w' => e = .returned (.bool false) ∧ Drawn0 W w' := by
  go_enter Try.func35, Try.ntmps35
  go_wp2
  all_goals go_ret
  all_goals exact ⟨by first | rfl | simp, Drawn0.refl _⟩
theorem none_setlim (W : World) (n : Int) : Calls Try.prog 46 #[.pointer none, .int .i64 n] W fun e w' => e = .returned (.tuple #[]) ∧ Drawn0 W w' := by
  go_enter Try.func46, Try.ntmps46
  go_wp2
  all_goals go_end0
  all_goals exact ⟨by first | rfl | simp, Drawn0.refl _⟩
theorem none_padd (W : World) (r : Value) (wr : Bool) : Calls Try.prog 34 #[.pointer none, .agg #[r, .bool wr]] W fun e w' => e = .returned (.bool false) ∧ Below W.heap.size W w' := by
  go_enter Try.func34, Try.ntmps34
  go_wp2
  all_goals go_ret
  all_goals exact ⟨by first | rfl | simp, below_alloc (Below.refl _ _) _⟩
theorem none_sadd (W : World) (r : Value) (wr : Bool) : Calls Try.prog 40 #[.pointer none, .agg #[r, .bool wr]] W fun e w' => e = .returned (.bool false) ∧ Below W.heap.size W w' := by
  go_enter Try.func40, Try.ntmps40
  go_wp2
  all_goals go_ret
  all_goals exact ⟨by first | rfl | simp, below_alloc (Below.refl _ _) _⟩
theorem none_pat (W : World) (i : Int) (hi : 0 ≤ i) : Calls Try.prog 36 #[.pointer none, .int .i64 i] W fun e w' => e = .returned (.tuple #[.agg #[.slice none 0 0, .bool false], .bool false]) ∧ Below W.heap.size W w' := by
  have hB0 := blk_new W (.cells #[.slice none 0 0, .bool false] 31)
  have hb0 : Below W.heap.size W (W.alloc (.cells #[.slice none 0 0, .bool false] 31)) := below_alloc (Below.refl _ _) _
  go_enter Try.func36, Try.ntmps36
  go_wp2_with (go_at_call 37; refine (none_plen _).mono ?_; rintro e w1 ⟨rfl, hd1⟩; obtain ⟨h00, h01, f00, f01⟩ := blk2 (blk_below hB0 hd1.below); have hb1 : Below W.heap.size W w1 := hb0.trans (hd1.below.mono (by simp)))
  all_goals refine bodyPost_ret (results_ct rfl _ _ W.heap.size 31 #[.slice none 0 0, .bool false] (0, 0) _ rfl ((blk_set (blk_set (blk_below hB0 hd1.below) 0 _) 1 _).trans rfl) Try.underlying31 rfl info31s) rfl ?_
  all_goals exact ⟨rfl, below_set (below_set hb1 (Nat.le_refl _)) (Nat.le_refl _)⟩
theorem none_sat (W : World) (i : Int) (hi : 0 ≤ i) : Calls Try.prog 43 #[.pointer none, .int .i64 i] W fun e w' => e = .returned (.tuple #[.agg #[.slice none 0 0, .bool false], .bool false]) ∧ Below W.heap.size W w' := by
  have hB0 := blk_new W (.cells #[.slice none 0 0, .bool false] 31)
  have hb0 : Below W.heap.size W (W.alloc (.cells #[.slice none 0 0, .bool false] 31)) := below_alloc (Below.refl _ _) _
  go_enter Try.func43, Try.ntmps43
  go_wp2_with (go_at_call 44; refine (none_slen _).mono ?_; rintro e w1 ⟨rfl, hd1⟩; obtain ⟨h00, h01, f00, f01⟩ := blk2 (blk_below hB0 hd1.below); have hb1 : Below W.heap.size W w1 := hb0.trans (hd1.below.mono (by simp)))
  all_goals refine bodyPost_ret (results_ct rfl _ _ W.heap.size 31 #[.slice none 0 0, .bool false] (0, 0) _ rfl ((blk_set (blk_set (blk_below hB0 hd1.below) 0 _) 1 _).trans rfl) Try.underlying31 rfl info31s) rfl ?_
  all_goals exact ⟨rfl, below_set (below_set hb1 (Nat.le_refl _)) (Nat.le_refl _)⟩
theorem none_stops1 (n l Bn n₀ : Nat) (hn1 : 1 ≤ n) (W : World) (J Jx : List Rw → World → Prop) (hJa : AbidesFrom W.heap.size J)
    (hbx : W.heap[Bn]? = some (.cells #[.pointer none] 56 (0, 0))) (h0 : J [] W) :
    CallsIn Fence.wide n Try.prog 63 #[.func (.yield l) #[] #[], .pointer (some ⟨Bn, 0, none⟩)] W fun e W' => (∃ v, e = .returned v) ∧
      ((∃ ys : List Rw, ys = [] ∧ J ys W') ∨ (∃ pre : List Rw, False ∧ Jx pre W')) := by
  have hc0 : W.cell? ⟨Bn, 0, none⟩ = some (.pointer none) := (blk_cell hbx 0).trans rfl
  refine callsIn_of_wp Try.func63 rfl trivial ?_ rfl
  simp only [Try.ntmps63, List.size_toArray, List.length_cons, List.length_nil, Nat.reduceAdd, Nat.reduceSub, Array.replicate_succ, Array.replicate_zero, List.push_toArray, List.append_toArray, List.nil_append, List.cons_append]
  gi_wp2_with (refine ⟨trivial, ?_⟩; gi_at_call 44; refine (callsIn_wide.2 (none_slen _)).mono ?_; rintro e w1 ⟨rfl, hd1⟩; obtain ⟨m1, rfl⟩ := hd1.out)
  gi_loopw [8] (fun v8 wr => v8 = .int .i64 0 ∧ Aside0 (J [] wr)) (fun _ _ => 0)
  case atStart => exact ⟨rfl, ⟨hJa _ W _ none h0 (grown_of_below (pw_below_drewN (Below.refl _ _) m1)) (fun r e => by cases e)⟩⟩
  case round =>
    obtain ⟨rfl, HA⟩ := hrel
    gi_wp2
    go_end0
    exact ⟨⟨_, rfl⟩, .inl ⟨[], rfl, HA.out⟩⟩
theorem none_stops (n Bn : Nat) (hn1 : 1 ≤ n) (w : World) (hbx : w.heap[Bn]? = some (.cells #[.pointer none] 56 (0, 0))) :
    SeqStopsK Fence.wide n Try.prog 63 #[.pointer (some ⟨Bn, 0, none⟩)] Rw.encs (KeepOn (fun k => k = Bn)) (fun ys => ys = []) (fun pre => False) 0 w := fun l J Jx W hW hJ _ hY h0 =>
  none_stops1 n l Bn w.heap.size hn1 W J Jx hJ (blk_below hbx hW) h0
end Go.Proofs.Ytkigdcihhlkkdaa.P
