/- A page: one cell, a row of rows of bytes. -/
import Derived.Test.YtkigdcihhlkkdaaFGNq
import Derived.Test.YtkigdcihhlkkdaaFGFr
import Derived.Test.YtkigdcihhlkkdaaFPx0
set_option linter.unusedVariables false
set_option linter.unusedSimpArgs false
namespace Go.Proofs.Ytkigdcihhlkkdaa.P
open Go.RowKit Go.Proofs.YtkigdcihhlkkdaaW.PrintWords Go.Proofs.YtkigdcihhlkkdaaW.PrintLast Go.Proofs.YtkigdcihhlkkdaaW.PrintMore
theorem info23 : (Try.prog.info? 23).map (fun i => (i.zero, i.size, i.bytes)) = some (some (.slice none 0 0), 1, 24) := by kernel_rfl
def PageAt (W : World) (ok : Nat → Prop) (g : Nat) (rows : List (List Int)) : Prop :=
  ok g ∧ ∃ v, W.heap[g]? = some (.cells #[v] 86 (0, 0)) ∧ Kd.NQ (Kd.slice 5 (Kd.int .u8)) 23 W 0 (fun k => ok k ∧ k ≠ g) v rows
namespace PageAt
variable {W W' : World} {ok ok' S : Nat → Prop} {g : Nat} {rows : List (List Int)}
theorem step (h : PageAt W ok g rows) (hm : ∀ k, ok k → k < W.heap.size → W'.heap[k]? = W.heap[k]?) : PageAt W' ok g rows := by
  obtain ⟨h0, v, hg, hv⟩ := h
  exact ⟨h0, v, (hm g h0 (blk_lt hg)).trans hg, Kd.NQ_step hv (fun k hk hlt => hm k hk.1 hlt)⟩
theorem mono (h : PageAt W ok g rows) (hok : ∀ k, ok k → ok' k) : PageAt W ok' g rows := by
  obtain ⟨h0, v, hg, hv⟩ := h
  exact ⟨hok g h0, v, hg, Kd.NQ_mono hv (fun k hk => ⟨hok k hk.1, hk.2⟩)⟩
theorem bound (h : PageAt W ok g rows) : PageAt W (fun k => ok k ∧ k < W.heap.size) g rows := by
  obtain ⟨h0, v, hg, hv⟩ := h
  exact ⟨⟨h0, blk_lt hg⟩, v, hg, Kd.NQ_mono (Kd.NQ_bound hv) (fun k hk => ⟨⟨hk.1.1, hk.2⟩, hk.1.2⟩)⟩
theorem lt (h : PageAt W ok g rows) : g < W.heap.size := by
  obtain ⟨h0, v, hg, hv⟩ := h
  exact blk_lt hg
theorem fr (h : PageAt W ok g rows) (hf : Fr S W W') (hs : ∀ k, ok k → ¬ S k) : PageAt W' ok g rows := h.step (fun k hk hlt => hf.block k hlt (hs k hk))
theorem below (h : PageAt W ok g rows) (hf : Below W.heap.size W W') : PageAt W' ok g rows := h.step (fun k hk hlt => hf.block k hlt)
end PageAt
set_option maxHeartbeats 2000000 in
set_option maxRecDepth 100000 in
theorem page_len (W : World) (ok : Nat → Prop) (g : Nat) (rows : List (List Int)) (h : PageAt W ok g rows) :
    Calls Try.prog 37 #[.pointer (some ⟨g, 0, none⟩)] W fun e w' => e = .returned (.int .i64 rows.length) ∧ Drawn0 W w' := by
  obtain ⟨_, v, hg, hv⟩ := h
  obtain ⟨A, c, rfl, hc⟩ := Kd.NQ_slice hv
  have hc0 : W.cell? ⟨g, 0, none⟩ = some (.slice A rows.length c) := by simp [World.cell?, hg]
  go_enter Try.func37, Try.ntmps37
  go_wp2
  all_goals go_ret
  all_goals exact ⟨by first | rfl | simp, Drawn0.refl _⟩
set_option maxHeartbeats 2000000 in
set_option maxRecDepth 100000 in
theorem page_new (W : World) : Calls Try.prog 33 #[] W fun e w' => ∃ g, e = .returned (.pointer (some ⟨g, 0, none⟩)) ∧ W.heap.size ≤ g ∧ PageAt w' (fun k => W.heap.size ≤ k) g [] ∧ Below W.heap.size W w' := by
  go_enter Try.func33, Try.ntmps33
  go_wp2
  go_ret
  exact ⟨W.heap.size, rfl, Nat.le_refl _, ⟨Nat.le_refl _, .slice none 0 0, by simp [World.alloc, -World.alloc_eq], Kd.NQ_nil _ _ _ _ _⟩, below_alloc (Below.refl _ _) _⟩
def addRows (rows : List (List Int)) (x : List Int) (b : Bool) : List (List Int) := if rows.length < 16 then (if b = true then rows ++ [x] else rows) else rows
set_option maxHeartbeats 4000000 in
set_option maxRecDepth 100000 in
theorem page_add (W : World) (ok : Nat → Prop) (g : Nat) (rows : List (List Int)) (A : Option Addr) (c : Nat) (l : List S45) (wr : Bool) (x : List Int) (b : Bool) (hpage : PageAt W ok g rows) (hC : Kd.C k45 W A l.length l)
    (hput : ∀ w, Kd.C k45 w A l.length l → Calls Try.prog 24 #[.agg #[.slice A l.length c, .bool wr]] w fun e w' => ∃ v0_ : Value, e = .returned (.tuple #[v0_, .bool b]) ∧ Kd.R (Kd.int .u8) 5 w' w.heap.size (fun _ => True) v0_ x ∧ Below w.heap.size w w') :
    Calls Try.prog 34 #[.pointer (some ⟨g, 0, none⟩), .agg #[.slice A l.length c, .bool wr]] W fun e W' => e = .returned (.bool (decide (rows.length < 16) && b)) ∧ PageAt W' (fun k => ok k ∨ W.heap.size ≤ k) g (addRows rows x b) ∧ Fr ok W W' := by
  have hlt := hpage.lt
  have hpage2 := hpage.bound
  obtain ⟨hokg, v, hg, hv⟩ := hpage
  obtain ⟨A0, c0, rfl, hc0⟩ := Kd.NQ_slice hv
  have hcell : W.cell? ⟨g, 0, none⟩ = some (.slice A0 rows.length c0) := by simp [World.cell?, hg]
  have hC1 := Kd.C_below hC (below_alloc (Below.refl _ _) (.cells #[.slice A l.length c, .bool wr] 31))
  have hb0 : Below W.heap.size W (W.alloc (.cells #[.slice A l.length c, .bool wr] 31)) := below_alloc (Below.refl _ _) _
  have hsz : (W.alloc (.cells #[.slice A l.length c, .bool wr] 31)).heap.size = W.heap.size + 1 := by simp
  go_enter Try.func34, Try.ntmps34
  go_wp2_with (first
    | (go_at_call 24; refine (hput _ hC1).mono ?_; rintro e w1 ⟨v0, rfl, hv0, hb1⟩
       obtain ⟨A1, c1, rfl⟩ := Kd.R_slice hv0
       have hvQ := Kd.NQ_mono (ok' := fun k => (ok k ∨ W.heap.size ≤ k) ∧ k ≠ g) (Kd.NQ_below hv (hb0.trans (hb1.mono (by rw [hsz]; omega)))) (fun k hk => ⟨.inl hk.1, hk.2⟩)
       have hb01 : Below W.heap.size W w1 := hb0.trans (hb1.mono (by rw [hsz]; omega))
       have hcell1 : w1.cell? ⟨g, 0, none⟩ = some (.slice A0 rows.length c0) := (blk_cell (blk_below hg hb01) 0).trans rfl
       have hfr1 : w1.frozen? ⟨g, 0, none⟩ = false := blk_frozen (blk_below hg hb01) 0)
    | ((with_reducible refine gate_builtin (b := .append) rfl ?_)
       refine Kd.NQ_append (Kd.slice 5 (Kd.int .u8)) (w0 := w1) (W := w1) 0 (by rfl) (.tmp 27) (.tmp 29) 84 23 (.slice none 0 0) 24 (by rfl) Try.underlying84 info23 rfl (by decide) (by decide) (.slice A0 rows.length c0) rows x [.slice A1 x.length c1] (fun k => (ok k ∨ W.heap.size ≤ k) ∧ k ≠ g) (fun k => W.heap.size + 1 ≤ k) (by rfl) (by rfl) ?hFK ?hokp ?hfr hvQ (Below.refl _ _) (Nat.zero_le _) (by omega) ?_
       case hFK =>
         refine Kd.FK_slice_mk (Kd.R_reads' hv0).2.1 (Kd.F_mono (Kd.R_F (Kd.R_bound hv0)) ?_)
         intro k hk
         rw [← hsz]
         exact hk.2.1
       case hokp =>
         intro k hk
         refine ⟨⟨.inr (by omega), by omega⟩, fun he => ?_⟩
         have := Kd.NQ_lt hv k he.symm
         omega
       case hfr =>
         intro k hk
         have := hb01.size
         exact ⟨.inr (by omega), by omega⟩
       intro v1 w2 hq2 hb2 hg2 hat2
       have hgne : some g ≠ (Value.slice A0 rows.length c0).ownBlock := fun he => (hv.1 g he.symm).2 rfl
       have hcell2 : w2.cell? ⟨g, 0, none⟩ = some (.slice A0 rows.length c0) := (blk_cell (blk_grown (blk_below hg hb01) hg2 hgne) 0).trans rfl
       have hfr2 : w2.frozen? ⟨g, 0, none⟩ = false := blk_frozen (blk_grown (blk_below hg hb01) hg2 hgne) 0
       obtain ⟨A2, c2, rfl, hc2⟩ := Kd.NQ_slice hq2))
  all_goals go_ret
  · have hn : ¬ rows.length < 16 := by omega
    refine ⟨by simp [hn], ?_, Fr.of_below hb0⟩
    rw [addRows, if_neg hn]
    exact (hpage2.below hb0).mono (fun k hk => .inl hk.1)
  · have hn : rows.length < 16 := by omega
    rename_i hbt
    subst hbt
    have hgne : some g ≠ (Value.slice A0 rows.length c0).ownBlock := fun he => (hv.1 g he.symm).2 rfl
    have hg2' := blk_grown (blk_below hg hb01) hg2 hgne
    refine ⟨by simp [hn], ⟨.inl hokg, _, (blk_set hg2' 0 _).trans rfl, ?_⟩, ?_⟩
    · rw [addRows, if_pos hn, if_pos rfl]
      rw [List.length_append, List.length_singleton] at hq2
      exact Kd.NQ_step hq2 (fun k hk _ => Below.heap_setCell w2 ⟨g, 0, none⟩ _ k hk.2)
    · refine Fr.setCell ?_ hokg _
      refine (Fr.of_below hb01).trans (S1 := ok) (Fr.of_grown hg2 (fun k hk => (hv.1 k hk).1)) (fun _ _ h => h)
  · have hn : rows.length < 16 := by omega
    rename_i hbt
    subst hbt
    refine ⟨by simp [hn], ?_, Fr.of_below hb01⟩
    rw [addRows, if_pos hn, if_neg (by simp)]
    exact (hpage2.below hb01).mono (fun k hk => .inl hk.1)
set_option maxHeartbeats 4000000 in
set_option maxRecDepth 100000 in
theorem page_cut (W : World) (ok : Nat → Prop) (g : Nat) (rows : List (List Int)) (n : Int) (hpage : PageAt W ok g rows) :
    Calls Try.prog 35 #[.pointer (some ⟨g, 0, none⟩), .int .i64 n] W fun e W' => e = .returned (.bool (decide (0 ≤ n) && decide (n ≤ rows.length))) ∧ PageAt W' ok g (if 0 ≤ n ∧ n ≤ rows.length then rows.drop n.toNat else rows) ∧ Fr ok W W' := by
  have hpage2 := hpage
  obtain ⟨hokg, v, hg, hv⟩ := hpage
  obtain ⟨A0, c0, rfl, hc0⟩ := Kd.NQ_slice hv
  have hcell : W.cell? ⟨g, 0, none⟩ = some (.slice A0 rows.length c0) := by simp [World.cell?, hg]
  have hfr : W.frozen? ⟨g, 0, none⟩ = false := blk_frozen hg 0
  go_enter Try.func35, Try.ntmps35
  go_wp2
  all_goals go_ret
  all_goals first
    | exact ⟨by first | rfl | simp_all, hpage2, Fr.refl _ _⟩
    | exact ⟨by simp; omega, hpage2, Fr.refl _ _⟩
    | skip
  all_goals
    have hd := Kd.NQ_drop hv (k := n.toNat) (by omega)
    refine ⟨rfl, ⟨hokg, _, (blk_set hg 0 _).trans rfl, ?_⟩, (Fr.refl _ _).setCell (p := ⟨g, 0, none⟩) hokg _⟩
    refine Kd.NQ_step ?_ (fun k hk _ => Below.heap_setCell W ⟨g, 0, none⟩ _ k hk.2)
    rw [show (Kd.slice 5 (Kd.int .u8)).sz = 1 from rfl, Nat.mul_one] at hd
    first
    | (rw [if_pos (by first | assumption | omega), show c0 - n.toNat = 0 by omega] at hd; exact hd)
    | (rw [if_pos rfl, Nat.sub_self] at hd; exact hd)
    | (rw [if_neg (by first | assumption | omega)] at hd; exact hd)
theorem info31s : (Try.prog.info? 31).map (·.size) = some 2 := by kernel_rfl
theorem blk2 {W : World} {g t : Nat} {a b : Value} (h : W.heap[g]? = some (.cells #[a, b] t (0, 0))) : W.cell? ⟨g, 0, none⟩ = some a ∧ W.cell? ⟨g, 1, none⟩ = some b ∧ W.frozen? ⟨g, 0, none⟩ = false ∧ W.frozen? ⟨g, 1, none⟩ = false :=
  ⟨(blk_cell h 0).trans rfl, (blk_cell h 1).trans rfl, blk_frozen h 0, blk_frozen h 1⟩
set_option maxHeartbeats 4000000 in
set_option maxRecDepth 100000 in
theorem page_at_out (W : World) (ok : Nat → Prop) (g : Nat) (rows : List (List Int)) (i : Int) (hpage : PageAt W ok g rows) (hi : i < 0 ∨ rows.length ≤ i) :
    Calls Try.prog 36 #[.pointer (some ⟨g, 0, none⟩), .int .i64 i] W fun e W' => e = .returned (.tuple #[.agg #[.slice none 0 0, .bool false], .bool false]) ∧ Below W.heap.size W W' := by
  have hb0 : Below W.heap.size W (W.alloc (.cells #[.slice none 0 0, .bool false] 31)) := below_alloc (Below.refl _ _) _
  have hlen := page_len _ ok g rows (hpage.below hb0)
  have hB0 := blk_new W (.cells #[.slice none 0 0, .bool false] 31)
  go_enter Try.func36, Try.ntmps36
  go_wp2_with (go_at_call 37; refine hlen.mono ?_; rintro e w1 ⟨rfl, hd1⟩; obtain ⟨h00, h01, f00, f01⟩ := blk2 (blk_below hB0 hd1.below); have hb1 : Below W.heap.size W w1 := hb0.trans (hd1.below.mono (by simp)))
  all_goals (first
    | refine bodyPost_ret (results_ct rfl _ _ W.heap.size 31 #[.slice none 0 0, .bool false] (0, 0) _ rfl ((blk_set (blk_set (blk_below hB0 hd1.below) 0 _) 1 _).trans rfl) Try.underlying31 rfl info31s) rfl ?_
    | refine bodyPost_ret (results_ct rfl _ _ W.heap.size 31 #[.slice none 0 0, .bool false] (0, 0) _ rfl hB0 Try.underlying31 rfl info31s) rfl ?_)
  all_goals (refine ⟨rfl, ?_⟩)
  all_goals first | exact below_set (below_set hb1 (Nat.le_refl _)) (Nat.le_refl _) | exact hb0
set_option maxHeartbeats 4000000 in
set_option maxRecDepth 100000 in
theorem page_at_in (W : World) (ok : Nat → Prop) (g : Nat) (rows : List (List Int)) (i : Int) (b : List Int) (cells : List S45) (wr : Bool) (n er : Int) (hpage : PageAt W ok g rows) (hi : 0 ≤ i) (hb : rows[i.toNat]? = some b)
    (hget : ∀ w A c, Kd.C (Kd.int .u8) w A b.length b → b.length ≤ c → Calls Try.prog 30 #[.slice A b.length c] w fun e w' => ∃ v0_ : Value, e = .returned (.tuple #[.agg #[v0_, .bool wr], .int .i64 n, .int .i64 er]) ∧ Kd.R k45 45 w' w.heap.size (fun _ => True) v0_ cells ∧ Below w.heap.size w w') :
    Calls Try.prog 36 #[.pointer (some ⟨g, 0, none⟩), .int .i64 i] W fun e W' => ∃ v0_ : Value, e = .returned (.tuple #[.agg #[v0_, .bool wr], .bool (decide (er = 0))]) ∧ Kd.R k45 45 W' W.heap.size (fun _ => True) v0_ cells ∧ Below W.heap.size W W' := by
  have hb0 : Below W.heap.size W (W.alloc (.cells #[.slice none 0 0, .bool false] 31)) := below_alloc (Below.refl _ _) _
  have hB0 := blk_new W (.cells #[.slice none 0 0, .bool false] 31)
  have hlen := page_len _ ok g rows (hpage.below hb0)
  have hil : i.toNat < rows.length := (List.getElem?_eq_some_iff.1 hb).1
  obtain ⟨hokg, v, hg, hv⟩ := hpage
  obtain ⟨A0, c0, rfl, hc0⟩ := Kd.NQ_slice hv
  go_enter Try.func36, Try.ntmps36
  go_wp2_with (first
    | (go_at_call 37; refine hlen.mono ?_; rintro e w1 ⟨rfl, hd1⟩
       have hb1 : Below W.heap.size W w1 := hb0.trans (hd1.below.mono (by simp))
       have hcell1 : w1.cell? ⟨g, 0, none⟩ = some (.slice A0 rows.length c0) := (blk_cell (blk_below hg hb1) 0).trans rfl
       obtain ⟨ad, cs, rfl, hcl, hFK, hcc, _⟩ := Kd.F_get (Kd.NQ_F (Kd.NQ_below hv hb1)) [] i hi (by omega)
       rw [List.getD_eq_getElem?_getD, hb, Option.getD_some] at hFK
       obtain ⟨A1, c1, rfl, hc1, hF1⟩ := Kd.FK_slice_open hFK
       have hce : w1.cell? (ad.add i.toNat) = some (.slice A1 b.length c1) := by simpa [Kd.slice] using hcc 0 _ rfl
       have hB1 := blk_below hB0 hd1.below)
    | (go_at_call 30; refine (hget _ _ _ (Kd.F_now hF1) hc1).mono ?_; rintro e w2 ⟨v0, rfl, hR0, hb2⟩
       obtain ⟨A2, c2, rfl⟩ := Kd.R_slice hR0
       have hb12 : Below W.heap.size W w2 := hb1.trans (hb2.mono hb1.size)
       have hR1 := Kd.R_alloc hR0 (.cells #[.slice A2 cells.length c2, .bool wr] 31)
       have hB2 := blk_below hB1 hb2
       have hB3 := blk_alloc hB2 (.cells #[.slice A2 cells.length c2, .bool wr] 31)
       have hne : W.heap.size ≠ w2.heap.size := Nat.ne_of_lt (blk_lt hB2)
       have hne2 : w2.heap.size ≠ W.heap.size := hne.symm
       obtain ⟨h00, h01, f00, f01⟩ := blk2 hB2
       obtain ⟨i00, i01, k00, k01⟩ := blk2 hB3))
  refine bodyPost_ret (results_ct rfl _ _ W.heap.size 31 #[.slice A2 cells.length c2, .bool wr] (0, 0) _ rfl ((blk_set (blk_set hB3 0 _) 1 _).trans rfl) Try.underlying31 rfl info31s) rfl ?_
  have hlt1 := blk_lt hB1
  refine ⟨_, rfl, Kd.R_mono (Kd.R_lower (Kd.R_far (Kd.R_far (Kd.R_alloc (Kd.R_bound hR0) _) (p := ⟨W.heap.size, 0, none⟩) ?h1 _) (p := ⟨W.heap.size, 1, none⟩) ?h2 _) hb1.size) (fun _ _ => trivial), below_set (below_set (below_alloc hb12 _) (Nat.le_refl _)) (Nat.le_refl _)⟩
  all_goals
    intro k hk
    have := hk.2.1
    show k ≠ W.heap.size
    omega
end Go.Proofs.Ytkigdcihhlkkdaa.P
