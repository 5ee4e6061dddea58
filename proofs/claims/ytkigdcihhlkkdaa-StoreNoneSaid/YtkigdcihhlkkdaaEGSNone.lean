/- StoreNone's walk: it tells true. -/
import Derived.Test.YtkigdcihhlkkdaaEGNone
import Derived.Test.YtkigdcihhlkkdaaEGBegun
set_option linter.unusedVariables false
set_option linter.unusedSimpArgs false
namespace Go.Proofs.Ytkigdcihhlkkdaa.P
open Go.RowKit Go.Shelf Go.Proofs.YtkigdcihhlkkdaaW.PrintWords Go.Proofs.YtkigdcihhlkkdaaW.PrintLast Go.Proofs.YtkigdcihhlkkdaaW.PrintMore
attribute [local go_sem] Oper.semAt_some
set_option maxHeartbeats 8000000 in
set_option maxRecDepth 100000 in
theorem storeNone_ (w : World) : Calls Try.prog 17 #[] w fun e w' => e = .returned (.bool true) ∧ Below w.heap.size w w' := by
  have h46 := none_setlim w 3
  have he59 := eq59
  refine (callsIn_wide (n := 4)).1 ?_
  refine callsIn_of_wp_marks Try.func17 rfl trivial ?_ rfl
  simp only [Try.ntmps17, List.size_toArray, List.length_cons, List.length_nil, Nat.reduceAdd, Nat.reduceSub, Array.replicate_succ, Array.replicate_zero, List.push_toArray, List.append_toArray, List.nil_append, List.cons_append]
  refine wpIn_wide.2 ?_
  go_wp2_with (first
    | (go_at_call 46; refine h46.mono ?_; rintro e w1 ⟨rfl, hd1⟩; obtain ⟨m1, rfl⟩ := hd1.out)
    | (go_at_call 36; refine (none_pat _ 0 (Int.le_refl _)).mono ?_; rintro e w2 ⟨rfl, hb2⟩)
    | (go_at_call 43; refine (none_sat _ 0 (Int.le_refl _)).mono ?_; rintro e w3 ⟨rfl, hb3⟩)
    | (go_at_call 41; refine (store_all _ ⟨_, rfl⟩ _).mono ?_; rintro e w4 ⟨rfl, rfl⟩)
    | fail)
  have hb12 : Below w.heap.size w w2 := (pw_below_drewN (Below.refl _ _) m1).trans hb2
  have hb23 : Below w.heap.size w w3 := below_then (below_alloc hb12 _) (below_alloc hb12 _).size hb3
  clear hb2 hb3 hb12
  obtain ⟨w5, hw5⟩ : ∃ w5, w5 = (((w3.alloc (.cells #[.slice none 0 0, .bool false] 31)).alloc (.cells #[.int .i64 0] 3)).alloc (.cells #[.pointer none] 56)).alloc (.cells #[.pointer none] 56) := ⟨_, rfl⟩
  rw [← hw5]
  have hcb : w5.heap[w3.heap.size + 1]? = some (.cells #[.int .i64 0] 3 (0, 0)) := by
    have := blk_new (w3.alloc (.cells #[.slice none 0 0, .bool false] 31)) (.cells #[.int .i64 0] 3)
    rw [hw5]; exact blk_alloc (blk_alloc (by simpa using this) _) _
  have hbx : w5.heap[w3.heap.size + 1 + 1 + 1]? = some (.cells #[.pointer none] 56 (0, 0)) := by
    have := blk_new (((w3.alloc (.cells #[.slice none 0 0, .bool false] 31)).alloc (.cells #[.int .i64 0] 3)).alloc (.cells #[.pointer none] 56)) (.cells #[.pointer none] 56)
    rw [hw5]; simpa using this
  have hb35 : Below w3.heap.size w3 w5 := by rw [hw5]; exact below_alloc (below_alloc (below_alloc (below_alloc (Below.refl _ _) _) _) _) _
  clear hw5
  have hseq := none_stops (4 - 1) (w3.heap.size + 1 + 1 + 1) (by decide) w5 hbx
  refine (fun (a0 : Act) (ha0 : a0 = _) => ?_ : ∀ a0 : Act, a0 = _ → Code.wp Try.prog _ _ a0 _) _ rfl
  refine (wpIn_wide (n := 4)).1 ?_
  refine wpIn_rangeFunc_ownH (F := Fence.wide) (n := 4) rfl (by decide) (gf := 63) (lb := #[.pointer (some ⟨w3.heap.size + 1 + 1 + 1, 0, none⟩)]) (by rw [ha0]; rfl) trivial (enters_of Try.func63 (by kernel_rfl) rfl) hseq
    (fun h k => KeepOn.trans h k) ?hKb (Below.refl _ _) (fun _ => rfl)
    (fun pre W => W.heap[w3.heap.size + 1]? = some (.cells #[.int .i64 0] 3 (0, 0)) ∧ Fr (fun k => k = w3.heap.size + 1) w5 W) (fun _ _ _ => False) ?hI (fun _ _ _ _ _ h _ _ => h) ⟨hcb, Fr.refl _ _⟩
    (fun x a' W => True) ?hAx ?assign ?body ?done ?stop
  case hKb =>
    intro W l o o' hl ho hc hw
    have := blk_lt hbx
    exact ⟨by simp [World.putObj], fun k hk => World.putObj_heap_other (by omega)⟩
  case hI =>
    intro xs A B row hs hg hr
    have hlt := blk_lt hcb
    have hf : Fr (fun k => w5.heap.size ≤ k) A B := Fr.of_grown hg (fun k hk => (hr k hk).1)
    exact ⟨hf.old (by omega) hs.1, hs.2.trans hf (fun i hi h => by omega)⟩
  case hAx => exact fun _ _ _ _ _ _ _ _ _ => trivial
  case assign =>
    rintro l pre x W K ⟨hi1, hi2⟩ hK
    have hK2 := hK
    clear hK
    subst ha0
    dsimp only [Rw.encs]
    gi_wp2
    refine hK2 _ _ ((KeepsOthers.refl _).from _) ⟨Nat.le_refl _, fun k hk => rfl⟩ ⟨hi1, hi2⟩ trivial
  case body =>
    rintro l pre x a' W hl hp ⟨hi1, hi2⟩ _ hlt
    simp at hlt
  case stop =>
    rintro D c pre W _ _ h _
    exact h.elim
  case done =>
    rintro D xs W hD hxs ⟨hi1, hi2⟩ hK
    subst ha0
    have hbW : Below w.heap.size w W := (hb23.trans (hb35.mono hb23.size)).trans (hi2.below (B := w.heap.size) (by have := hb23.size; have := hb35.size; omega) (fun k hk => by have := hb23.size; omega))
    have hEnd := Aside0.mk (And.intro hbW (And.intro hi1 hK))
    clear hi2 hK hseq hbx hcb hbW hi1
    go_wp2_with (first
    | (go_at_call 18; refine (begun4_ _).mono ?_; rintro e w6 ⟨rfl, hb6⟩)
    | (go_at_call 34; refine (none_padd _ _ _).mono ?_; rintro e w7 ⟨rfl, hb7⟩; have hc7 := hb6.trans (hb7.mono hb6.size); clear hb6 hb7)
    | (go_at_call 37; refine (none_plen _).mono ?_; rintro e w8 ⟨rfl, hd8⟩; have hc8 := hc7.trans (hd8.below.mono hc7.size); clear hc7 hd8)
    | (go_at_call 38; refine (none_pbytes _).mono ?_; rintro e w9 ⟨rfl, hd9⟩; have hc9 := hc8.trans (hd9.below.mono hc8.size); clear hc8 hd9)
    | (go_at_call 35; refine (none_cut _ _).mono ?_; rintro e w10 ⟨rfl, hd10⟩; have hc10 := hc9.trans (hd10.below.mono hc9.size); clear hc9 hd10)
    | (go_at_call 40; refine (none_sadd _ _ _).mono ?_; rintro e w11 ⟨rfl, hb11⟩; have hc11 := hc10.trans (hb11.mono hc10.size); clear hc10 hb11)
    | (go_at_call 44; refine (none_slen _).mono ?_; rintro e w12 ⟨rfl, hd12⟩; have hc12 := hc11.trans (hd12.below.mono hc11.size); clear hc11 hd12)
    | (go_at_call 47; refine (none_limit _).mono ?_; rintro e w13 ⟨rfl, hd13⟩; have hc13 := hc12.trans (hd13.below.mono hc12.size); clear hc12 hd13)
    | (go_at_call 45; refine (none_gone _).mono ?_; rintro e w14 ⟨rfl, hd14⟩; have hc14 := hc13.trans (hd14.below.mono hc13.size); clear hc13 hd14)
    | (go_at_call 48; refine (none_sbytes _).mono ?_; rintro e w15 ⟨rfl, hd15⟩; have hc15 := hc14.trans (hd15.below.mono hc14.size); clear hc14 hd15
       have hcn : w15.cell? ⟨w3.heap.size + 1, 0, none⟩ = some (.int .i64 0) := (blk_cell (blk_below hEnd.out.2.1 hc15) 0).trans rfl)
    | fail)
    have hK24 := blk_below hEnd.out.2.2 hc15
    have hB24 : Below w.heap.size w w15 := hEnd.out.1.trans (hc15.mono hEnd.out.1.size)
    have hDw : w.heap.size ≤ D := by
      have h1 := hb23.size
      have h2 := hb35.size
      omega
    refine ⟨by simp, .inl ⟨_, _, rfl, run_takeDeferred hK24, ?_⟩⟩
    exact ⟨_, results_tmp rfl _ _ _, rfl, hB24.trans (belowK_b (w := w) (Nat.le_refl _) w15 D _ _ hDw hK24 rfl rfl)⟩
end Go.Proofs.Ytkigdcihhlkkdaa.P
