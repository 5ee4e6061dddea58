/- A store: At. -/
import Derived.Test.YtkigdcihhlkkdaaFGStore
set_option linter.unusedVariables false
set_option linter.unusedSimpArgs false
namespace Go.Proofs.Ytkigdcihhlkkdaa.P
open Go.RowKit Go.Proofs.YtkigdcihhlkkdaaW.PrintWords Go.Proofs.YtkigdcihhlkkdaaW.PrintLast Go.Proofs.YtkigdcihhlkkdaaW.PrintMore
theorem mid_at : ∀ (l : List Pg) (j : Nat) (b : List Int), mid l → (∀ p ∈ l, p.rows.length ≤ 16) → (flat l)[j]? = some b → ∃ p, l[j / 16]? = some p ∧ p.rows[j % 16]? = some b
  | [], j, b, _, _, h => by simp [flat] at h
  | [p], j, b, _, hm, h => by
    have e : flat [p] = p.rows := by simp [flat]
    rw [e] at h
    have hj := (List.getElem?_eq_some_iff.1 h).1
    have := hm p (by simp)
    refine ⟨p, ?_, ?_⟩
    · rw [Nat.div_eq_of_lt (by omega)]; rfl
    · rw [Nat.mod_eq_of_lt (by omega)]; exact h
  | p :: q :: r, j, b, hd, hm, h => by
    rw [flat_cons] at h
    have h16 := hd.1
    by_cases hj : j < 16
    · rw [List.getElem?_append_left (by omega)] at h
      refine ⟨p, ?_, ?_⟩
      · rw [Nat.div_eq_of_lt hj]; rfl
      · rw [Nat.mod_eq_of_lt hj]; exact h
    · rw [List.getElem?_append_right (by omega), h16] at h
      obtain ⟨p', h1, h2⟩ := mid_at (q :: r) (j - 16) b hd.2 (fun p hp => hm p (by simp [hp])) h
      refine ⟨p', ?_, ?_⟩
      · have : j / 16 = (j - 16) / 16 + 1 := by omega
        rw [this, List.getElem?_cons_succ]; exact h1
      · have : j % 16 = (j - 16) % 16 := by omega
        rw [this]; exact h2
set_option maxHeartbeats 4000000 in
set_option maxRecDepth 100000 in
theorem store_at_in (W : World) (ok : Nat → Prop) (s : Nat) (lim n gone : Int) (ps : List Pg) (i : Int) (b : List Int) (cells : List S45) (wr : Bool) (cnt er : Int) (h : StoreAt W ok s lim n gone ps) (hI : Inv ps) (hn : n = (flat ps).length) (hn2 : n ≤ 100000000) (hi : 0 ≤ i) (hb : (flat ps)[i.toNat]? = some b)
    (hget : ∀ w A c, Kd.C (Kd.int .u8) w A b.length b → b.length ≤ c → Calls Try.prog 30 #[.slice A b.length c] w fun e w' => ∃ v0_ : Value, e = .returned (.tuple #[.agg #[v0_, .bool wr], .int .i64 cnt, .int .i64 er]) ∧ Kd.R k45 45 w' w.heap.size (fun _ => True) v0_ cells ∧ Below w.heap.size w w') :
    Calls Try.prog 43 #[.pointer (some ⟨s, 0, none⟩), .int .i64 i] W fun e W' => ∃ v0_ : Value, e = .returned (.tuple #[.agg #[v0_, .bool wr], .bool (decide (er = 0))]) ∧ Kd.R k45 45 W' W.heap.size (fun _ => True) v0_ cells ∧ Below W.heap.size W W' := by
  have hb0 : Below W.heap.size W (W.alloc (.cells #[.slice none 0 0, .bool false] 31)) := below_alloc (Below.refl _ _) _
  have hB0 := blk_new W (.cells #[.slice none 0 0, .bool false] 31)
  have hS0 := h.below hb0
  have hlen := store_len _ ok s lim n gone ps hS0
  have hil : i.toNat < (flat ps).length := (List.getElem?_eq_some_iff.1 hb).1
  have hin : i < n := by omega
  have hInfo := Aside0.mk hn
  clear hn
  have hne : ps ≠ [] := by rintro rfl; simp [flat] at hil
  obtain ⟨p0, rest, rfl⟩ := List.exists_cons_of_ne_nil hne
  obtain ⟨hs0, v, hg, hv, hp, hd⟩ := hS0
  obtain ⟨A0, c0, rfl, hc0⟩ := Kd.Q_slice hv
  have hlm : ((p0 :: rest).map Pg.cell).length = rest.length + 1 := by simp
  rw [hlm] at hg hv hc0 hp
  obtain ⟨⟨x0, x1, x2, x3⟩, y0, y1, y2, y3⟩ := blk4 hg
  obtain ⟨ad, rfl, hpc⟩ := ptr_at hv (i := 0) (p := p0) rfl
  rw [Addr.add_zero_] at hpc
  have hP0 := (hp p0 (by simp)).1
  have hlen0 := fun m => page_len ((W.alloc (.cells #[.slice none 0 0, .bool false] 31)).drewN m) p0.ok p0.blk p0.rows (hP0.step (fun _ _ _ => rfl))
  by_cases hcase : i < p0.rows.length
  · have hb' : p0.rows[i.toNat]? = some b := by rw [flat_cons, List.getElem?_append_left (by omega)] at hb; exact hb
    have hat := fun m => page_at_in ((W.alloc (.cells #[.slice none 0 0, .bool false] 31)).drewN m) p0.ok p0.blk p0.rows i b cells wr cnt er (hP0.step (fun _ _ _ => rfl)) hi hb' hget
    go_enter Try.func43, Try.ntmps43
    go_wp2_with (first
      | (go_at_call 44; refine hlen.mono ?_; rintro e w1 ⟨rfl, hd1⟩; obtain ⟨m1, rfl⟩ := hd1.out)
      | (go_at_call 37; refine (hlen0 _).mono ?_; rintro e w2 ⟨rfl, hd2⟩; obtain ⟨m2, rfl⟩ := hd2.out)
      | (go_at_call 36; refine (hat _).mono ?_; rintro e w3 ⟨v0, rfl, hR0, hb3⟩
         obtain ⟨A2, c2, rfl⟩ := Kd.R_slice hR0
         have hb13 : Below W.heap.size W w3 := (pw_below_drewN hb0 _).trans (hb3.mono (by show W.heap.size ≤ (W.alloc (.cells #[.slice none 0 0, .bool false] 31)).heap.size; simp))
         have hB3 : w3.heap[W.heap.size]? = some (.cells #[.slice none 0 0, .bool false] 31 (0, 0)) := blk_below (w := _) (by exact hB0) hb3
         have hsz3 : ((W.alloc (.cells #[.slice none 0 0, .bool false] 31)).drewN (m1 + m2)).heap.size = W.heap.size + 1 := by show (W.alloc (.cells #[.slice none 0 0, .bool false] 31)).heap.size = _; simp
         obtain ⟨z0, z1, z2, z3⟩ := blk2 hB3)
      | fail)
    refine bodyPost_ret (results_ct rfl _ _ W.heap.size 31 #[.slice A2 cells.length c2, .bool wr] (0, 0) _ rfl ((blk_set (blk_set hB3 0 _) 1 _).trans rfl) Try.underlying31 rfl info31s) rfl ?_
    refine ⟨_, rfl, Kd.R_mono (Kd.R_lower (Kd.R_far (Kd.R_far (Kd.R_bound hR0) (p := ⟨W.heap.size, 0, none⟩) ?h1 _) (p := ⟨W.heap.size, 1, none⟩) ?h2 _) (by omega)) (fun _ _ => trivial), below_set (below_set hb13 (Nat.le_refl _)) (Nat.le_refl _)⟩
    all_goals
      intro k hk
      have := hk.2.1
      show k ≠ W.heap.size
      omega
  · obtain ⟨j, hj⟩ : ∃ j : Nat, i = p0.rows.length + j := ⟨(i - p0.rows.length).toNat, by omega⟩
    have hbr : (flat rest)[j]? = some b := by
      rw [flat_cons, List.getElem?_append_right (by omega)] at hb
      rw [← hb]
      congr 1
      omega
    obtain ⟨p, hpj, hbp⟩ := mid_at rest j b hI.full (fun p hp => hI.most p (by simp [hp])) hbr
    obtain ⟨ad2, had2, hpc2⟩ := ptr_at hv (i := j / 16 + 1) (p := p) (by simpa using hpj)
    obtain rfl := Option.some.inj had2
    have hPp := (hp p (by simp [List.mem_of_getElem? hpj])).1
    have hjl : j / 16 < rest.length := (List.getElem?_eq_some_iff.1 hpj).1
    have hat := fun m => page_at_in ((W.alloc (.cells #[.slice none 0 0, .bool false] 31)).drewN m) p.ok p.blk p.rows ((j : Int) % 16) b cells wr cnt er (hPp.step (fun _ _ _ => rfl)) (by omega) (by rw [show ((j : Int) % 16).toNat = j % 16 by omega]; exact hbp) hget
    have hj2 : j ≤ 100000000 := by omega
    subst hj
    have hw1 : IntKind.i64.wrap ((p0.rows.length : Int) + j - p0.rows.length) = j := by rw [IntKind.wrap_i64]; omega
    rw [Nat.add_comm] at hpc2
    go_enter Try.func43, Try.ntmps43
    go_wp2_with (first
      | (go_at_call 44; refine hlen.mono ?_; rintro e w1 ⟨rfl, hd1⟩; obtain ⟨m1, rfl⟩ := hd1.out)
      | (go_at_call 37; refine (hlen0 _).mono ?_; rintro e w2 ⟨rfl, hd2⟩; obtain ⟨m2, rfl⟩ := hd2.out)
      | (go_at_call 36; refine (hat _).mono ?_; rintro e w3 ⟨v0, rfl, hR0, hb3⟩
         obtain ⟨A2, c2, rfl⟩ := Kd.R_slice hR0
         have hb13 : Below W.heap.size W w3 := (pw_below_drewN hb0 _).trans (hb3.mono (by show W.heap.size ≤ (W.alloc (.cells #[.slice none 0 0, .bool false] 31)).heap.size; simp))
         have hB3 : w3.heap[W.heap.size]? = some (.cells #[.slice none 0 0, .bool false] 31 (0, 0)) := blk_below (w := _) (by exact hB0) hb3
         have hsz3 : ((W.alloc (.cells #[.slice none 0 0, .bool false] 31)).drewN (m1 + m2)).heap.size = W.heap.size + 1 := by show (W.alloc (.cells #[.slice none 0 0, .bool false] 31)).heap.size = _; simp
         obtain ⟨z0, z1, z2, z3⟩ := blk2 hB3)
      | fail)
    refine bodyPost_ret (results_ct rfl _ _ W.heap.size 31 #[.slice A2 cells.length c2, .bool wr] (0, 0) _ rfl ((blk_set (blk_set hB3 0 _) 1 _).trans rfl) Try.underlying31 rfl info31s) rfl ?_
    refine ⟨_, rfl, Kd.R_mono (Kd.R_lower (Kd.R_far (Kd.R_far (Kd.R_bound hR0) (p := ⟨W.heap.size, 0, none⟩) ?g1 _) (p := ⟨W.heap.size, 1, none⟩) ?g2 _) (by omega)) (fun _ _ => trivial), below_set (below_set hb13 (Nat.le_refl _)) (Nat.le_refl _)⟩
    all_goals
      intro k hk
      have := hk.2.1
      show k ≠ W.heap.size
      omega
end Go.Proofs.Ytkigdcihhlkkdaa.P
