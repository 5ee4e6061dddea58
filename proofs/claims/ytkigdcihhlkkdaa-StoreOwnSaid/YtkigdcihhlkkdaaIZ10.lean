/- own texts of this session, put together -/
import Derived.Test.YtkigdcihhlkkdaaIZ9
import Derived.RangeFuncNested
import Derived.RangeFuncBound
import Derived.RangeFuncCalls
import Derived.RangeFuncLeaves
import Derived.Shelf.Abstract
import Derived.Shelf.RegionOpen
import Derived.OwnWalkIn
import Derived.TacticsInMore
import Derived.LoopNIn
import Derived.LoopIn
section
set_option linter.unusedVariables false
set_option linter.unusedSimpArgs false
namespace Go.Proofs.Ytkigdcihhlkkdaa.P
open Go.RowKit Go.Proofs.YtkigdcihhlkkdaaW.PrintWords Go.Proofs.YtkigdcihhlkkdaaW.PrintLast Go.Proofs.YtkigdcihhlkkdaaW.PrintMore
theorem mid_at : ∀ (l : List Pg) (j : Nat) (b : List Int), mid l → (∀ p ∈ l, p.rows.length ≤ 16) → (flat l)[j]? = some b → ∃ p, l[j / 16]? = some p ∧ p.rows[j % 16]? = some b
  | [], j, b, _, _, h => by simp [flat] at h
  | [p], j, b, _, hm, h => by
    have e : flat [p] = p.rows := by simp [flat]
    rw [e] at h
    have hj := (List.getElem?_eq_some_iff.1 h).1
    have := hm p (by simp)
    refine ⟨p, ?_, ?_⟩
    · rw [Nat.div_eq_of_lt (by omega)]; rfl
    · rw [Nat.mod_eq_of_lt (by omega)]; exact h
  | p :: q :: r, j, b, hd, hm, h => by
    rw [flat_cons] at h
    have h16 := hd.1
    by_cases hj : j < 16
    · rw [List.getElem?_append_left (by omega)] at h
      refine ⟨p, ?_, ?_⟩
      · rw [Nat.div_eq_of_lt hj]; rfl
      · rw [Nat.mod_eq_of_lt hj]; exact h
    · rw [List.getElem?_append_right (by omega), h16] at h
      obtain ⟨p', h1, h2⟩ := mid_at (q :: r) (j - 16) b hd.2 (fun p hp => hm p (by simp [hp])) h
      refine ⟨p', ?_, ?_⟩
      · have : j / 16 = (j - 16) / 16 + 1 := by omega
        rw [this, List.getElem?_cons_succ]; exact h1
      · have : j % 16 = (j - 16) % 16 := by omega
        rw [this]; exact h2
set_option maxHeartbeats 4000000 in
set_option maxRecDepth 100000 in
theorem store_at_in (W : World) (ok : Nat → Prop) (s : Nat) (lim n gone : Int) (ps : List Pg) (i : Int) (b : List Int) (cells : List S45) (wr : Bool) (cnt er : Int) (h : StoreAt W ok s lim n gone ps) (hI : Inv ps) (hn : n = (flat ps).length) (hn2 : n ≤ 100000000) (hi : 0 ≤ i) (hb : (flat ps)[i.toNat]? = some b)
    (hget : ∀ w A c, Kd.C (Kd.int .u8) w A b.length b → b.length ≤ c → Calls Try.prog 30 #[.slice A b.length c] w fun e w' => ∃ v0_ : Value, e = .returned (.tuple #[.agg #[v0_, .bool wr], .int .i64 cnt, .int .i64 er]) ∧ Kd.R k45 45 w' w.heap.size (fun _ => True) v0_ cells ∧ Below w.heap.size w w') :
    Calls Try.prog 43 #[.pointer (some ⟨s, 0, none⟩), .int .i64 i] W fun e W' => ∃ v0_ : Value, e = .returned (.tuple #[.agg #[v0_, .bool wr], .bool (decide (er = 0))]) ∧ Kd.R k45 45 W' W.heap.size (fun _ => True) v0_ cells ∧ Below W.heap.size W W' := by
  have hb0 : Below W.heap.size W (W.alloc (.cells #[.slice none 0 0, .bool false] 31)) := below_alloc (Below.refl _ _) _
  have hB0 := blk_new W (.cells #[.slice none 0 0, .bool false] 31)
  have hS0 := h.below hb0
  have hlen := store_len _ ok s lim n gone ps hS0
  have hil : i.toNat < (flat ps).length := (List.getElem?_eq_some_iff.1 hb).1
  have hin : i < n := by omega
  have hInfo := Aside0.mk hn
  clear hn
  have hne : ps ≠ [] := by rintro rfl; simp [flat] at hil
  obtain ⟨p0, rest, rfl⟩ := List.exists_cons_of_ne_nil hne
  obtain ⟨hs0, v, hg, hv, hp, hd⟩ := hS0
  obtain ⟨A0, c0, rfl, hc0⟩ := Kd.Q_slice hv
  have hlm : ((p0 :: rest).map Pg.cell).length = rest.length + 1 := by simp
  rw [hlm] at hg hv hc0 hp
  obtain ⟨⟨x0, x1, x2, x3⟩, y0, y1, y2, y3⟩ := blk4 hg
  obtain ⟨ad, rfl, hpc⟩ := ptr_at hv (i := 0) (p := p0) rfl
  rw [Addr.add_zero_] at hpc
  have hP0 := (hp p0 (by simp)).1
  have hlen0 := fun m => page_len ((W.alloc (.cells #[.slice none 0 0, .bool false] 31)).drewN m) p0.ok p0.blk p0.rows (hP0.step (fun _ _ _ => rfl))
  by_cases hcase : i < p0.rows.length
  · have hb' : p0.rows[i.toNat]? = some b := by rw [flat_cons, List.getElem?_append_left (by omega)] at hb; exact hb
    have hat := fun m => page_at_in ((W.alloc (.cells #[.slice none 0 0, .bool false] 31)).drewN m) p0.ok p0.blk p0.rows i b cells wr cnt er (hP0.step (fun _ _ _ => rfl)) hi hb' hget
    go_enter Try.func43, Try.ntmps43
    go_wp2_with (first
      | (go_at_call 44; refine hlen.mono ?_; rintro e w1 ⟨rfl, hd1⟩; obtain ⟨m1, rfl⟩ := hd1.out)
      | (go_at_call 37; refine (hlen0 _).mono ?_; rintro e w2 ⟨rfl, hd2⟩; obtain ⟨m2, rfl⟩ := hd2.out)
      | (go_at_call 36; refine (hat _).mono ?_; rintro e w3 ⟨v0, rfl, hR0, hb3⟩
         obtain ⟨A2, c2, rfl⟩ := Kd.R_slice hR0
         have hb13 : Below W.heap.size W w3 := (pw_below_drewN hb0 _).trans (hb3.mono (by show W.heap.size ≤ (W.alloc (.cells #[.slice none 0 0, .bool false] 31)).heap.size; simp))
         have hB3 : w3.heap[W.heap.size]? = some (.cells #[.slice none 0 0, .bool false] 31 (0, 0)) := blk_below (w := _) (by exact hB0) hb3
         have hsz3 : ((W.alloc (.cells #[.slice none 0 0, .bool false] 31)).drewN (m1 + m2)).heap.size = W.heap.size + 1 := by show (W.alloc (.cells #[.slice none 0 0, .bool false] 31)).heap.size = _; simp
         obtain ⟨z0, z1, z2, z3⟩ := blk2 hB3)
      | fail)
    refine bodyPost_ret (results_ct rfl _ _ W.heap.size 31 #[.slice A2 cells.length c2, .bool wr] (0, 0) _ rfl ((blk_set (blk_set hB3 0 _) 1 _).trans rfl) Try.underlying31 rfl info31s) rfl ?_
    refine ⟨_, rfl, Kd.R_mono (Kd.R_lower (Kd.R_far (Kd.R_far (Kd.R_bound hR0) (p := ⟨W.heap.size, 0, none⟩) ?h1 _) (p := ⟨W.heap.size, 1, none⟩) ?h2 _) (by omega)) (fun _ _ => trivial), below_set (below_set hb13 (Nat.le_refl _)) (Nat.le_refl _)⟩
    all_goals
      intro k hk
      have := hk.2.1
      show k ≠ W.heap.size
      omega
  · obtain ⟨j, hj⟩ : ∃ j : Nat, i = p0.rows.length + j := ⟨(i - p0.rows.length).toNat, by omega⟩
    have hbr : (flat rest)[j]? = some b := by
      rw [flat_cons, List.getElem?_append_right (by omega)] at hb
      rw [← hb]
      congr 1
      omega
    obtain ⟨p, hpj, hbp⟩ := mid_at rest j b hI.full (fun p hp => hI.most p (by simp [hp])) hbr
    obtain ⟨ad2, had2, hpc2⟩ := ptr_at hv (i := j / 16 + 1) (p := p) (by simpa using hpj)
    obtain rfl := Option.some.inj had2
    have hPp := (hp p (by simp [List.mem_of_getElem? hpj])).1
    have hjl : j / 16 < rest.length := (List.getElem?_eq_some_iff.1 hpj).1
    have hat := fun m => page_at_in ((W.alloc (.cells #[.slice none 0 0, .bool false] 31)).drewN m) p.ok p.blk p.rows ((j : Int) % 16) b cells wr cnt er (hPp.step (fun _ _ _ => rfl)) (by omega) (by rw [show ((j : Int) % 16).toNat = j % 16 by omega]; exact hbp) hget
    have hj2 : j ≤ 100000000 := by omega
    subst hj
    have hw1 : IntKind.i64.wrap ((p0.rows.length : Int) + j - p0.rows.length) = j := by rw [IntKind.wrap_i64]; omega
    rw [Nat.add_comm] at hpc2
    go_enter Try.func43, Try.ntmps43
    go_wp2_with (first
      | (go_at_call 44; refine hlen.mono ?_; rintro e w1 ⟨rfl, hd1⟩; obtain ⟨m1, rfl⟩ := hd1.out)
      | (go_at_call 37; refine (hlen0 _).mono ?_; rintro e w2 ⟨rfl, hd2⟩; obtain ⟨m2, rfl⟩ := hd2.out)
      | (go_at_call 36; refine (hat _).mono ?_; rintro e w3 ⟨v0, rfl, hR0, hb3⟩
         obtain ⟨A2, c2, rfl⟩ := Kd.R_slice hR0
         have hb13 : Below W.heap.size W w3 := (pw_below_drewN hb0 _).trans (hb3.mono (by show W.heap.size ≤ (W.alloc (.cells #[.slice none 0 0, .bool false] 31)).heap.size; simp))
         have hB3 : w3.heap[W.heap.size]? = some (.cells #[.slice none 0 0, .bool false] 31 (0, 0)) := blk_below (w := _) (by exact hB0) hb3
         have hsz3 : ((W.alloc (.cells #[.slice none 0 0, .bool false] 31)).drewN (m1 + m2)).heap.size = W.heap.size + 1 := by show (W.alloc (.cells #[.slice none 0 0, .bool false] 31)).heap.size = _; simp
         obtain ⟨z0, z1, z2, z3⟩ := blk2 hB3)
      | fail)
    refine bodyPost_ret (results_ct rfl _ _ W.heap.size 31 #[.slice A2 cells.length c2, .bool wr] (0, 0) _ rfl ((blk_set (blk_set hB3 0 _) 1 _).trans rfl) Try.underlying31 rfl info31s) rfl ?_
    refine ⟨_, rfl, Kd.R_mono (Kd.R_lower (Kd.R_far (Kd.R_far (Kd.R_bound hR0) (p := ⟨W.heap.size, 0, none⟩) ?g1 _) (p := ⟨W.heap.size, 1, none⟩) ?g2 _) (by omega)) (fun _ _ => trivial), below_set (below_set hb13 (Nat.le_refl _)) (Nat.le_refl _)⟩
    all_goals
      intro k hk
      have := hk.2.1
      show k ≠ W.heap.size
      omega
end Go.Proofs.Ytkigdcihhlkkdaa.P
end
section
set_option linter.unusedVariables false
set_option linter.unusedSimpArgs false
namespace Go.Proofs.Ytkigdcihhlkkdaa.P
open Go.RowKit Go.Shelf Go.Proofs.YtkigdcihhlkkdaaW.PrintWords Go.Proofs.YtkigdcihhlkkdaaW.PrintLast Go.Proofs.YtkigdcihhlkkdaaW.PrintMore
attribute [local go_sem] Oper.semAt_some
structure Rw where
  i : Nat
  A : Option Addr
  len : Nat
  c : Nat
  wr : Bool
def Rw.encs (x : Rw) : Array Value := #[.int .i64 (x.i : Int), .agg #[.slice x.A x.len x.c, .bool x.wr]]
def KeepOn (okp : Nat → Prop) (W W' : World) : Prop := W.heap.size ≤ W'.heap.size ∧ ∀ k, okp k → W'.heap[k]? = W.heap[k]?
theorem KeepOn.trans {okp : Nat → Prop} {A B C : World} (h : KeepOn okp A B) (k : KeepOn okp B C) : KeepOn okp A C := ⟨Nat.le_trans h.1 k.1, fun i hi => (k.2 i hi).trans (h.2 i hi)⟩
theorem grown_of_below {W W' : World} (h : Below W.heap.size W W') : W.grownBy W' none := ⟨h.os, h.tape, h.output, h.size, fun k hk _ => h.block k hk⟩
theorem StoreAt.all_bnd {W : World} {ok : Nat → Prop} {s : Nat} {lim n gone : Int} {ps : List Pg} (h : StoreAt W ok s lim n gone ps) : StoreAt W (fun k => ok k ∧ k < W.heap.size) s lim n gone (ps.map (P.bnd W)) := by
  have hlt := h.lt
  obtain ⟨h0, v, hg, hv, hp, hd⟩ := h.bnd
  refine ⟨⟨h0, hlt⟩, v, hg, Kd.Q_mono (Kd.Q_bound hv) (fun k hk => ⟨⟨hk.1.1, hk.2.2.1⟩, hk.1.2⟩), fun p hpm => ⟨(hp p hpm).1, fun k hk => ?_⟩, hd⟩
  obtain ⟨q, hq, rfl⟩ := List.mem_map.1 hpm
  exact ⟨⟨((hp _ hpm).2 k hk).1, hk.2⟩, ((hp _ hpm).2 k hk).2⟩
set_option maxHeartbeats 1000000 in
set_option maxRecDepth 100000 in
theorem store_all (v : Value) (hv : ∃ p, v = .pointer p) (w : World) :
    Calls Try.prog 41 #[v] w fun e w' => e = .returned (.func (.func 63) #[] #[.pointer (some ⟨w.heap.size, 0, none⟩)]) ∧ w' = w.alloc (.cells #[v] 56) := by
  obtain ⟨p, rfl⟩ := hv
  go_enter Try.func41, Try.ntmps41
  go_wp2
  go_ret
  exact ⟨rfl, rfl⟩
theorem func63 : Try.prog.funcs[63]? = some Try.f63 := Try.func63
set_option maxHeartbeats 4000000 in
set_option maxRecDepth 100000 in
theorem store_all1 (n l Bn n₀ : Nat) (hn1 : 1 ≤ n) (ok : Nat → Prop) (s : Nat) (lim cnt gone : Int) (ps : List Pg) (rowOf : Nat → List S45 × Bool) (hI : Inv ps) (hcnt : cnt = (flat ps).length) (hcnt2 : cnt ≤ 100000000) (hok : ∀ k, ok k → k < n₀) (hBn : Bn < n₀)
    (hget : ∀ i b, (flat ps)[i]? = some b → ∃ m er, ∀ w A c, Kd.C (Kd.int .u8) w A b.length b → b.length ≤ c → Calls Try.prog 30 #[.slice A b.length c] w fun e w' => ∃ v0_ : Value, e = .returned (.tuple #[.agg #[v0_, .bool (rowOf i).2], .int .i64 m, .int .i64 er]) ∧ Kd.R k45 45 w' w.heap.size (fun _ => True) v0_ (rowOf i).1 ∧ Below w.heap.size w w')
    (J Jx : List Rw → World → Prop) (W : World) (hJa : AbidesFrom W.heap.size J) (hn₀ : n₀ ≤ W.heap.size)
    (hY : ∀ pre x W1, J pre W1 → pre.length < (flat ps).length → YieldAt Fence.wide (n - 1) Try.prog l x.encs W1 fun e W' =>
      (e = .returned (.bool true) ∧ J (pre ++ [x]) W' ∧ KeepOn (fun k => ok k ∨ k = Bn) W1 W') ∨ (e = .returned (.bool false) ∧ Jx (pre ++ [x]) W'))
    (hS : StoreAt W ok s lim cnt gone ps) (hbx : W.heap[Bn]? = some (.cells #[.pointer (some ⟨s, 0, none⟩)] 56 (0, 0))) (h0 : J [] W) :
    CallsIn Fence.wide n Try.prog 63 #[.func (.yield l) #[] #[], .pointer (some ⟨Bn, 0, none⟩)] W fun e W' => (∃ v, e = .returned v) ∧
      ((∃ ys : List Rw, (ys.map (fun x => (x.i, x.len)) = (List.range (flat ps).length).map (fun i => (i, (rowOf i).1.length))) ∧ J ys W') ∨ (∃ pre : List Rw, (∃ m, m ≤ (flat ps).length ∧ pre.map (fun x => (x.i, x.len)) = (List.range m).map (fun i => (i, (rowOf i).1.length))) ∧ Jx pre W')) := by
  have hlen := store_len W ok s lim cnt gone ps hS
  have hc0 : W.cell? ⟨Bn, 0, none⟩ = some (.pointer (some ⟨s, 0, none⟩)) := (blk_cell hbx 0).trans rfl
  refine callsIn_of_wp Try.func63 rfl trivial ?_ rfl
  simp only [Try.ntmps63, List.size_toArray, List.length_cons, List.length_nil, Nat.reduceAdd, Nat.reduceSub, Array.replicate_succ, Array.replicate_zero, List.push_toArray, List.append_toArray, List.nil_append, List.cons_append]
  gi_wp2_with (refine ⟨trivial, ?_⟩; gi_at_call 44; refine (callsIn_wide.2 hlen).mono ?_; rintro e w1 ⟨rfl, hd1⟩; obtain ⟨m1, rfl⟩ := hd1.out)
  gi_loopw [8] (fun v8 wr => ∃ (pre : List Rw), v8 = .int .i64 (pre.length : Int) ∧ Aside0 (pre.length ≤ (flat ps).length ∧ pre.map (fun x => (x.i, x.len)) = (List.range pre.length).map (fun i => (i, (rowOf i).1.length)) ∧ J pre wr ∧ KeepOn (fun k => ok k ∨ k = Bn) W wr))
    (fun v8 wr => (flat ps).length - (intOf v8).toNat)
  case atStart => exact ⟨[], rfl, ⟨Nat.zero_le _, rfl, hJa _ W _ none h0 (grown_of_below (pw_below_drewN (Below.refl _ _) m1)) (fun r e => by cases e), Nat.le_refl _, fun _ _ => rfl⟩⟩
  case round =>
    obtain ⟨pre, rfl, HA⟩ := hrel
    have hX := Aside0.mk (And.intro hcnt hcnt2)
    have hSr : StoreAt wr ok s lim cnt gone ps := hS.step (fun k hk _ => HA.out.2.2.2.2 k (.inl hk))
    have hbr := (HA.out.2.2.2.2 Bn (.inr rfl)).trans hbx
    have hcr : wr.cell? ⟨Bn, 0, none⟩ = some (.pointer (some ⟨s, 0, none⟩)) := (blk_cell hbr 0).trans rfl
    have hw1 : IntKind.i64.wrap ((pre.length : Int) + 1) = (pre.length : Int) + 1 := by have h1 := HA.out.1; rw [IntKind.wrap_i64]; omega
    by_cases hlt : pre.length < (flat ps).length
    · obtain ⟨b, hb⟩ : ∃ b, (flat ps)[pre.length]? = some b := ⟨_, List.getElem?_eq_getElem hlt⟩
      obtain ⟨m, er, hgb⟩ := hget _ _ hb
      have hat := store_at_in wr ok s lim cnt gone ps (pre.length : Int) b (rowOf pre.length).1 (rowOf pre.length).2 m er hSr hI hcnt hcnt2 (by omega) (by rw [Int.toNat_natCast]; exact hb) hgb
      clear hgb
      gi_wp2_with (refine ⟨trivial, ?_⟩; gi_at_call 43; refine (callsIn_wide.2 hat).mono ?_; rintro e w3 ⟨v0, rfl, hR0, hb3⟩; obtain ⟨A2, c2, rfl⟩ := Kd.R_slice hR0; obtain ⟨fn, tmps, assign, body, hy, hR⟩ := hY pre ⟨pre.length, A2, (rowOf pre.length).1.length, c2, (rowOf pre.length).2⟩ (w3.alloc (.cells #[.slice A2 (rowOf pre.length).1.length c2, .bool (rowOf pre.length).2] 31)) (hJa _ wr _ none HA.out.2.2.1 (grown_of_below (below_alloc hb3 _)) (fun r e => by cases e)) hlt; dsimp only [Rw.encs] at hy)
      have hokn : ∀ k, (ok k ∨ k = Bn) → k < n₀ := fun k hk => hk.elim (hok k) (fun e => e ▸ hBn)
      have hbw : Below wr.heap.size wr (w3.alloc (.cells #[.slice A2 (rowOf pre.length).1.length c2, .bool (rowOf pre.length).2] 31)) := below_alloc hb3 _
      have hkp : KeepOn (fun k => ok k ∨ k = Bn) W (w3.alloc (.cells #[.slice A2 (rowOf pre.length).1.length c2, .bool (rowOf pre.length).2] 31)) :=
        KeepOn.trans HA.out.2.2.2 ⟨hbw.size, fun k hk => hbw.block k (Nat.lt_of_lt_of_le (hokn k hk) (Nat.le_trans hn₀ HA.out.2.2.2.1))⟩
      have hmap : (pre ++ [(⟨pre.length, A2, (rowOf pre.length).1.length, c2, (rowOf pre.length).2⟩ : Rw)]).map (fun x => (x.i, x.len)) = (List.range (pre.length + 1)).map (fun i => (i, (rowOf i).1.length)) := by
        rw [List.map_append, HA.out.2.1, List.range_succ, List.map_append]
        rfl
      refine hR.mono ?_
      rintro e W' (⟨rfl, hJ', hk'⟩ | ⟨rfl, hJx'⟩)
      · gi_wp2
        go_roundw
        case rel => exact ⟨_, by simp, ⟨by simp; omega, by rw [List.length_append, List.length_singleton]; exact hmap, hJ', hkp.trans hk'⟩⟩
        case measure => simp [intOf]; omega
      · gi_wp2
        refine bodyPost_ret (results_none rfl _ _ _) rfl ?_
        exact ⟨⟨_, rfl⟩, .inr ⟨_, ⟨pre.length + 1, hlt, hmap⟩, hJx'⟩⟩
    · gi_wp2
      go_end0
      have he : pre.length = (flat ps).length := by have := HA.out.1; omega
      exact ⟨⟨_, rfl⟩, .inl ⟨pre, by rw [← he]; exact HA.out.2.1, HA.out.2.2.1⟩⟩
theorem store_all_stops (n Bn : Nat) (hn1 : 1 ≤ n) (ok : Nat → Prop) (s : Nat) (lim cnt gone : Int) (ps : List Pg) (rowOf : Nat → List S45 × Bool) (w : World) (hI : Inv ps) (hcnt : cnt = (flat ps).length) (hcnt2 : cnt ≤ 100000000) (hok : ∀ k, ok k → k < w.heap.size)
    (hget : ∀ i b, (flat ps)[i]? = some b → ∃ m er, ∀ w A c, Kd.C (Kd.int .u8) w A b.length b → b.length ≤ c → Calls Try.prog 30 #[.slice A b.length c] w fun e w' => ∃ v0_ : Value, e = .returned (.tuple #[.agg #[v0_, .bool (rowOf i).2], .int .i64 m, .int .i64 er]) ∧ Kd.R k45 45 w' w.heap.size (fun _ => True) v0_ (rowOf i).1 ∧ Below w.heap.size w w')
    (hS : StoreAt w ok s lim cnt gone ps) (hbx : w.heap[Bn]? = some (.cells #[.pointer (some ⟨s, 0, none⟩)] 56 (0, 0))) :
    SeqStopsK Fence.wide n Try.prog 63 #[.pointer (some ⟨Bn, 0, none⟩)] Rw.encs (KeepOn (fun k => ok k ∨ k = Bn)) (fun ys => ys.map (fun x => (x.i, x.len)) = (List.range (flat ps).length).map (fun i => (i, (rowOf i).1.length)))
      (fun pre => ∃ m, m ≤ (flat ps).length ∧ pre.map (fun x => (x.i, x.len)) = (List.range m).map (fun i => (i, (rowOf i).1.length))) (flat ps).length w := fun l J Jx W hW hJ _ hY h0 =>
  store_all1 n l Bn w.heap.size hn1 ok s lim cnt gone ps rowOf hI hcnt hcnt2 hok (blk_lt hbx) hget J Jx W hJ hW.size hY (hS.below hW) (blk_below hbx hW) h0
end Go.Proofs.Ytkigdcihhlkkdaa.P
end
section
set_option linter.unusedVariables false
set_option linter.unusedSimpArgs false
namespace Go.Proofs.Ytkigdcihhlkkdaa.P
open Go.RowKit Go.Proofs.YtkigdcihhlkkdaaW.PrintWords Go.Proofs.YtkigdcihhlkkdaaW.PrintLast Go.Proofs.YtkigdcihhlkkdaaW.PrintMore
def sumLen (l : List (List Int)) : Nat := (l.map List.length).sum
theorem sumLen_take (l : List (List Int)) (i : Nat) (hi : i < l.length) : sumLen (l.take (i + 1)) = sumLen (l.take i) + (l.getD i []).length := by
  unfold sumLen
  rw [List.take_add_one, List.getElem?_eq_getElem hi, Option.toList_some, List.map_append, List.sum_append, List.getD_eq_getElem?_getD, List.getElem?_eq_getElem hi]
  simp
theorem sumLen_le (l : List (List Int)) (i : Nat) : sumLen (l.take i) ≤ sumLen l := by
  have h : l = l.take i ++ l.drop i := (List.take_append_drop i l).symm
  conv => rhs; rw [h]
  unfold sumLen
  rw [List.map_append, List.sum_append]
  omega
theorem flatten_take (l : List (List Int)) (i : Nat) (hi : i < l.length) : (l.take (i + 1)).flatten = (l.take i).flatten ++ l.getD i [] := by
  rw [List.take_add_one, List.getElem?_eq_getElem hi, Option.toList_some, List.flatten_append, List.getD_eq_getElem?_getD, List.getElem?_eq_getElem hi]
  simp
theorem flatten_len (l : List (List Int)) : l.flatten.length = sumLen l := by simp [sumLen, List.length_flatten]
set_option maxHeartbeats 4000000 in
set_option maxRecDepth 100000 in
theorem slices_grow (w : World) (n : Nat) (hn : n ≤ 100000000000) :
    Calls Try.prog 69 #[.slice none 0 0, .int .i64 (n : Int)] w fun e w' => ∃ v : Value, e = .returned v ∧ Kd.R (Kd.int .u8) 5 w' w.heap.size (fun _ => True) v ([] : List Int) ∧ Below w.heap.size w w' := by
  have hw1 : IntKind.i64.wrap (n : Int) = n := by rw [IntKind.wrap_i64]; omega
  go_enter Try.func69, Try.ntmps69
  by_cases h0 : n = 0
  · subst h0
    go_wp2
    go_ret
    exact ⟨_, rfl, Kd.R_nil _ _ _ _ _, Below.refl _ _⟩
  · have hp : (0 : Int) < (n : Int) := by omega
    go_wp2_with (first
      | ((with_reducible refine gate_builtin (b := .append) rfl ?_)
         refine Kd.R_append_zeros (Kd.int .u8) (w0 := w) (W := w) w.heap.size (by rfl) (.tmp 20) (.tmp 21) 23 3 5 (.int .u8 0) 1 (by rfl) Try.underlying23 Try.underlying3 info5 rfl (by decide) (by decide) (.slice none 0 0) ([] : List Int) (0 : Int) (n : Int) (fun _ => True) (by rfl) (by rfl) rfl (fun _ _ => trivial) (Kd.R_nil _ _ _ _ _) (by omega) (Below.refl _ _) (Nat.le_refl _) (by simp; omega) ?_
         intro v1 w1 hO hB hg hat
         obtain ⟨A1, c1, rfl⟩ := Kd.R_slice hO
         have hT := Kd.R_take hO (m := 0) (Nat.zero_le _))
      | fail)
    go_ret
    exact ⟨_, rfl, hT, hB⟩
set_option maxHeartbeats 4000000 in
set_option maxRecDepth 100000 in
theorem slices_concat (w : World) (A : Option Addr) (c : Nat) (rows : List (List Int)) (hC : Kd.C (Kd.slice 5 (Kd.int .u8)) w A rows.length rows) (hs : sumLen rows ≤ 100000000000) (hl : rows.length ≤ 100000000000) :
    Calls Try.prog 60 #[.slice A rows.length c] w fun e w' => ∃ v : Value, e = .returned v ∧ Kd.R (Kd.int .u8) 5 w' w.heap.size (fun _ => True) v rows.flatten ∧ Below w.heap.size w w' := by
  go_enter Try.func60, Try.ntmps60
  go_wp2
  go_loopg [3, 11] (rows.length + 1) (fun kq v3 v11 w' => ∃ (i : Nat), v11 = .int .i64 (i : Int) ∧ v3 = .int .i64 (sumLen (rows.take i) : Int) ∧ Aside0 (i ≤ rows.length ∧ Below w.heap.size w w' ∧ rows.length < kq + i))
  case atStart => exact ⟨0, rfl, rfl, ⟨Nat.zero_le _, Below.refl _ _, by omega⟩⟩
  case round =>
    obtain ⟨i, rfl, rfl, HA⟩ := hrel
    have hw9 : IntKind.i64.wrap ((i : Int) + 1) = (i : Int) + 1 := by have := HA.out.1; rw [IntKind.wrap_i64]; omega
    by_cases hi : i < rows.length
    · have hst := sumLen_take rows i hi
      have hsl := sumLen_le rows (i + 1)
      obtain ⟨ad, A0, c0, rfl, hx, hc0, _⟩ := at_L5 (Kd.C_below hC HA.out.2.1) (i : Int) (by omega) (by omega)
      rw [Int.toNat_natCast] at hx
      change _ = some (Value.slice A0 (rows.getD i []).length c0) at hx
      generalize hgl : (rows.getD i []).length = q at hx hst
      have hw3 : IntKind.i64.wrap ((sumLen (rows.take i) : Int) + (q : Int)) = (sumLen (rows.take (i + 1)) : Int) := by rw [IntKind.wrap_i64]; omega
      go_wp2
      go_roundg (gk - 1)
      case measure => have := HA.out.2.2; omega
      case rel => exact ⟨i + 1, by simp, by rw [hst]; simp, ⟨by omega, HA.out.2.1, by have := HA.out.2.2; omega⟩⟩
    · have hsl := sumLen_le rows i
      have hgr := slices_grow wr (sumLen (rows.take i)) (by omega)
      go_wp2_with (first
        | (go_at_call 69; refine hgr.mono ?_; rintro e w1 ⟨v0, rfl, hO0, hB0⟩; obtain ⟨A1, c1, rfl⟩ := Kd.R_slice hO0)
        | fail)
      have hBw := HA.out.2.1
      have hOw := Kd.R_lower hO0 hBw.size
      have hBw1 : Below w.heap.size w w1 := hBw.trans (hB0.mono hBw.size)
      clear hgr hO0 hB0
      go_loopg [6, 27] (rows.length + 1) (fun kq v6 v27 w' => ∃ (i : Nat), v27 = .int .i64 (i : Int) ∧ Aside0 (i ≤ rows.length ∧ Kd.R (Kd.int .u8) 5 w' w.heap.size (fun _ => True) v6 (rows.take i).flatten ∧ Below w.heap.size w w' ∧ rows.length < kq + i))
      case atStart => exact ⟨0, rfl, ⟨Nat.zero_le _, by rw [List.take_zero]; exact hOw, hBw1, by omega⟩⟩
      case round =>
        obtain ⟨i, rfl, HA⟩ := hrel
        have hw9 : IntKind.i64.wrap ((i : Int) + 1) = (i : Int) + 1 := by have := HA.out.1; rw [IntKind.wrap_i64]; omega
        by_cases hi : i < rows.length
        · have hst := flatten_take rows i hi
          have hl2 := sumLen_take rows i hi
          have hsl := sumLen_le rows (i + 1)
          have hfl := flatten_len (rows.take i)
          obtain ⟨ad, A0, c0, rfl, hx, hc0, hC0⟩ := at_L5 (Kd.C_below hC HA.out.2.2.1) (i : Int) (by omega) (by omega)
          rw [Int.toNat_natCast] at hx
          change _ = some (Value.slice A0 (rows.getD i []).length c0) at hx
          change Kd.C (Kd.int .u8) _ A0 (rows.getD i []).length (rows.getD i []) at hC0
          have hO := HA.out.2.1
          have hB := HA.out.2.2.1
          obtain ⟨A2, c2, rfl⟩ := Kd.R_slice hO
          generalize hgl : rows.getD i [] = q at hx hst hC0 hl2
          generalize hgm : (rows.take i).flatten = acc at hO hst hfl
          go_wp2_with (first
            | ((with_reducible refine gate_builtin (b := .append) rfl ?_)
               refine Kd.R_append_rows (Kd.int .u8) (w0 := w) (W := wr) w.heap.size (by rfl) (.tmp 31) (.tmp 32) 23 5 (.int .u8 0) 1 (by rfl) Try.underlying23 info5 rfl (by decide) (by decide) (.slice A2 acc.length c2) acc q A0 q.length c0 (fun _ => True) (fun _ => False) (by rfl) (by rfl) hO hC0 (fun _ _ h => h) (fun _ h => h.elim) (fun _ _ => trivial) hB hB.size (by omega) ?_
               intro v5 w5 hO5 hB5 hg5 hat5)
            | fail)
          go_roundg (gk - 1)
          case measure => have := HA.out.2.2.2; omega
          case rel => exact ⟨i + 1, by simp, ⟨by omega, by rw [hst]; exact hO5, hB5, by have := HA.out.2.2.2; omega⟩⟩
        · go_wp2
          go_ret
          have he : i = rows.length := by have := HA.out.1; omega
          subst he
          have hall := HA.out
          rw [List.take_length] at hall
          exact ⟨_, rfl, hall.2.1, hall.2.2.1⟩
set_option maxHeartbeats 4000000 in
set_option maxRecDepth 100000 in
theorem page_bytes (W : World) (ok : Nat → Prop) (g : Nat) (rows : List (List Int)) (hpage : PageAt W ok g rows) (hs : sumLen rows ≤ 100000000000) (hl : rows.length ≤ 100000000000) :
    Calls Try.prog 38 #[.pointer (some ⟨g, 0, none⟩)] W fun e w' => e = .returned (.int .i64 (sumLen rows : Int)) ∧ Below W.heap.size W w' := by
  obtain ⟨hokg, v, hg, hv⟩ := hpage
  obtain ⟨A0, c0, rfl, hc0⟩ := Kd.NQ_slice hv
  have hcell : W.cell? ⟨g, 0, none⟩ = some (.slice A0 rows.length c0) := by simp [World.cell?, hg]
  have hcon := slices_concat W A0 c0 rows (Kd.NQ_reads' hv).2.2 hs hl
  have hfl := flatten_len rows
  go_enter Try.func38, Try.ntmps38
  go_wp2_with (first
    | (go_at_call 60; refine hcon.mono ?_; rintro e w1 ⟨v0, rfl, hO0, hB0⟩; obtain ⟨A1, c1, rfl⟩ := Kd.R_slice hO0; rw [hfl] at hO0 ⊢)
    | fail)
  go_ret
  exact ⟨rfl, hB0⟩
end Go.Proofs.Ytkigdcihhlkkdaa.P
end
