/- A store: Limit, SetLimit; At where there is no row. -/
import Derived.Test.YtkigdcihhlkkdaaFGStor3
set_option linter.unusedVariables false
set_option linter.unusedSimpArgs false
namespace Go.Proofs.Ytkigdcihhlkkdaa.P
open Go.RowKit Go.Proofs.YtkigdcihhlkkdaaW.PrintWords Go.Proofs.YtkigdcihhlkkdaaW.PrintLast Go.Proofs.YtkigdcihhlkkdaaW.PrintMore
set_option maxHeartbeats 2000000
set_option maxRecDepth 100000
theorem store_limit (W : World) (ok : Nat → Prop) (s : Nat) (lim n gone : Int) (ps : List Pg) (h : StoreAt W ok s lim n gone ps) :
    Calls Try.prog 47 #[.pointer (some ⟨s, 0, none⟩)] W fun e w' => e = .returned (.int .i64 lim) ∧ Drawn0 W w' := by
  obtain ⟨_, v, hg, _⟩ := h
  obtain ⟨⟨h0, h1, h2, h3⟩, _⟩ := blk4 hg
  go_enter Try.func47, Try.ntmps47
  go_wp2
  all_goals go_ret
  all_goals exact ⟨by first | rfl | simp, Drawn0.refl _⟩
theorem store_clamped_ (W : World) (x : Int) : Calls Try.prog 61 #[.int .i64 x] W fun e w' => e = .returned (.int .i64 (min (max x 0) 1000000)) ∧ Drawn0 W w' := by
  go_enter Try.func61, Try.ntmps61
  go_wp2
  go_ret
  exact ⟨by first | rfl | simp, Drawn0.refl _⟩
theorem store_setlim (W : World) (ok : Nat → Prop) (s : Nat) (lim n gone : Int) (ps : List Pg) (x : Int) (h : StoreAt W ok s lim n gone ps) (hi : Inv ps) (hn : n = (flat ps).length) (hn2 : n ≤ 1000000000) (hg0 : 0 ≤ gone) (hg1 : gone ≤ 1000000000) :
    Calls Try.prog 46 #[.pointer (some ⟨s, 0, none⟩), .int .i64 x] W fun e w' => e = .returned (.tuple #[]) ∧ ∃ ps' n' gone', StoreAt w' ok s (min (max x 0) 1000000) n' gone' ps' ∧ Inv ps' ∧ flat ps' = (flat ps).drop (n - n').toNat ∧ n' = min n (min (max x 0) 1000000) ∧ gone' + n' = gone + n ∧ Fr ok W w' := by
  obtain ⟨hs0, v, hg, hv, hp, hd⟩ := h
  obtain ⟨⟨h0, h1, h2, h3⟩, f0, f1, f2, f3⟩ := blk4 hg
  have hS := fun m => StoreAt.rebuild (w3 := (W.drewN m).setCell ⟨s, 0, none⟩ (.int .i64 (min (max x 0) 1000000))) hs0 ((blk_set (blk_drewN hg m) 0 _).trans rfl) (fun k hk => Below.heap_setCell (W.drewN m) ⟨s, 0, none⟩ _ k hk) hv hp hd
  have hcuts := fun m => store_cuts _ ok s _ n gone ps (hS m) hi hn hn2 (by omega) hg0 hg1
  go_enter Try.func46, Try.ntmps46
  go_wp2_with (first
    | (go_at_call 61; refine (store_clamped_ _ _).mono ?_; rintro e w0 ⟨rfl, hd0⟩; obtain ⟨m0, rfl⟩ := hd0.out)
    | (go_at_call 62; refine (hcuts _).mono ?_; rintro e w1 ⟨rfl, ps', n', g', hS', hI', hf', hn', hg', hfr⟩)
    | fail)
  all_goals go_end0
  exact ⟨rfl, ps', n', g', hS', hI', hf', hn', hg', (((Fr.refl ok W).drewN _).setCell (p := ⟨s, 0, none⟩) hs0 _).trans hfr (fun _ _ h => h)⟩
theorem store_at_out (W : World) (ok : Nat → Prop) (s : Nat) (lim n gone : Int) (ps : List Pg) (i : Int) (h : StoreAt W ok s lim n gone ps) (hi : i < 0 ∨ n ≤ i) :
    Calls Try.prog 43 #[.pointer (some ⟨s, 0, none⟩), .int .i64 i] W fun e W' => e = .returned (.tuple #[.agg #[.slice none 0 0, .bool false], .bool false]) ∧ Below W.heap.size W W' := by
  have hb0 : Below W.heap.size W (W.alloc (.cells #[.slice none 0 0, .bool false] 31)) := below_alloc (Below.refl _ _) _
  have hB0 := blk_new W (.cells #[.slice none 0 0, .bool false] 31)
  have hlen := store_len _ ok s lim n gone ps (h.below hb0)
  go_enter Try.func43, Try.ntmps43
  go_wp2_with (go_at_call 44; refine hlen.mono ?_; rintro e w1 ⟨rfl, hd1⟩; obtain ⟨h00, h01, f00, f01⟩ := blk2 (blk_below hB0 hd1.below); have hb1 : Below W.heap.size W w1 := hb0.trans (hd1.below.mono (by simp)))
  all_goals (first
    | refine bodyPost_ret (results_ct rfl _ _ W.heap.size 31 #[.slice none 0 0, .bool false] (0, 0) _ rfl ((blk_set (blk_set (blk_below hB0 hd1.below) 0 _) 1 _).trans rfl) Try.underlying31 rfl info31s) rfl ?_
    | refine bodyPost_ret (results_ct rfl _ _ W.heap.size 31 #[.slice none 0 0, .bool false] (0, 0) _ rfl hB0 Try.underlying31 rfl info31s) rfl ?_)
  all_goals (refine ⟨rfl, ?_⟩)
  all_goals first | exact below_set (below_set hb1 (Nat.le_refl _)) (Nat.le_refl _) | exact hb0
end Go.Proofs.Ytkigdcihhlkkdaa.P
