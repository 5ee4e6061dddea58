/- A store: All, the rows one by one. -/
import Derived.RangeFuncNested
import Derived.RangeFuncBound
import Derived.RangeFuncCalls
import Derived.RangeFuncLeaves
import Derived.Shelf.Abstract
import Derived.Shelf.RegionOpen
import Derived.OwnWalkIn
import Derived.TacticsInMore
import Derived.LoopNIn
import Derived.LoopIn
import Derived.Test.YtkigdcihhlkkdaaFGStor2
import Derived.Test.YtkigdcihhlkkdaaFGStor3
set_option linter.unusedVariables false
set_option linter.unusedSimpArgs false
namespace Go.Proofs.Ytkigdcihhlkkdaa.P
open Go.RowKit Go.Shelf Go.Proofs.YtkigdcihhlkkdaaW.PrintWords Go.Proofs.YtkigdcihhlkkdaaW.PrintLast Go.Proofs.YtkigdcihhlkkdaaW.PrintMore
attribute [local go_sem] Oper.semAt_some
structure Rw where
  i : Nat
  A : Option Addr
  len : Nat
  c : Nat
  wr : Bool
def Rw.encs (x : Rw) : Array Value := #[.int .i64 (x.i : Int), .agg #[.slice x.A x.len x.c, .bool x.wr]]
def KeepOn (okp : Nat → Prop) (W W' : World) : Prop := W.heap.size ≤ W'.heap.size ∧ ∀ k, okp k → W'.heap[k]? = W.heap[k]?
theorem KeepOn.trans {okp : Nat → Prop} {A B C : World} (h : KeepOn okp A B) (k : KeepOn okp B C) : KeepOn okp A C := ⟨Nat.le_trans h.1 k.1, fun i hi => (k.2 i hi).trans (h.2 i hi)⟩
theorem grown_of_below {W W' : World} (h : Below W.heap.size W W') : W.grownBy W' none := ⟨h.os, h.tape, h.output, h.size, fun k hk _ => h.block k hk⟩
theorem StoreAt.all_bnd {W : World} {ok : Nat → Prop} {s : Nat} {lim n gone : Int} {ps : List Pg} (h : StoreAt W ok s lim n gone ps) : StoreAt W (fun k => ok k ∧ k < W.heap.size) s lim n gone (ps.map (P.bnd W)) := by
  have hlt := h.lt
  obtain ⟨h0, v, hg, hv, hp, hd⟩ := h.bnd
  refine ⟨⟨h0, hlt⟩, v, hg, Kd.Q_mono (Kd.Q_bound hv) (fun k hk => ⟨⟨hk.1.1, hk.2.2.1⟩, hk.1.2⟩), fun p hpm => ⟨(hp p hpm).1, fun k hk => ?_⟩, hd⟩
  obtain ⟨q, hq, rfl⟩ := List.mem_map.1 hpm
  exact ⟨⟨((hp _ hpm).2 k hk).1, hk.2⟩, ((hp _ hpm).2 k hk).2⟩
set_option maxHeartbeats 1000000 in
set_option maxRecDepth 100000 in
theorem store_all (v : Value) (hv : ∃ p, v = .pointer p) (w : World) :
    Calls Try.prog 41 #[v] w fun e w' => e = .returned (.func (.func 63) #[] #[.pointer (some ⟨w.heap.size, 0, none⟩)]) ∧ w' = w.alloc (.cells #[v] 56) := by
  obtain ⟨p, rfl⟩ := hv
  go_enter Try.func41, Try.ntmps41
  go_wp2
  go_ret
  exact ⟨rfl, rfl⟩
theorem func63 : Try.prog.funcs[63]? = some Try.f63 := Try.func63
set_option maxHeartbeats 4000000 in
set_option maxRecDepth 100000 in
theorem store_all1 (n l Bn n₀ : Nat) (hn1 : 1 ≤ n) (ok : Nat → Prop) (s : Nat) (lim cnt gone : Int) (ps : List Pg) (rowOf : Nat → List S45 × Bool) (hI : Inv ps) (hcnt : cnt = (flat ps).length) (hcnt2 : cnt ≤ 100000000) (hok : ∀ k, ok k → k < n₀) (hBn : Bn < n₀)
    (hget : ∀ i b, (flat ps)[i]? = some b → ∃ m er, ∀ w A c, Kd.C (Kd.int .u8) w A b.length b → b.length ≤ c → Calls Try.prog 30 #[.slice A b.length c] w fun e w' => ∃ v0_ : Value, e = .returned (.tuple #[.agg #[v0_, .bool (rowOf i).2], .int .i64 m, .int .i64 er]) ∧ Kd.R k45 45 w' w.heap.size (fun _ => True) v0_ (rowOf i).1 ∧ Below w.heap.size w w')
    (J Jx : List Rw → World → Prop) (W : World) (hJa : AbidesFrom W.heap.size J) (hn₀ : n₀ ≤ W.heap.size)
    (hY : ∀ pre x W1, J pre W1 → pre.length < (flat ps).length → YieldAt Fence.wide (n - 1) Try.prog l x.encs W1 fun e W' =>
      (e = .returned (.bool true) ∧ J (pre ++ [x]) W' ∧ KeepOn (fun k => ok k ∨ k = Bn) W1 W') ∨ (e = .returned (.bool false) ∧ Jx (pre ++ [x]) W'))
    (hS : StoreAt W ok s lim cnt gone ps) (hbx : W.heap[Bn]? = some (.cells #[.pointer (some ⟨s, 0, none⟩)] 56 (0, 0))) (h0 : J [] W) :
    CallsIn Fence.wide n Try.prog 63 #[.func (.yield l) #[] #[], .pointer (some ⟨Bn, 0, none⟩)] W fun e W' => (∃ v, e = .returned v) ∧
      ((∃ ys : List Rw, (ys.map (fun x => (x.i, x.len)) = (List.range (flat ps).length).map (fun i => (i, (rowOf i).1.length))) ∧ J ys W') ∨ (∃ pre : List Rw, (∃ m, m ≤ (flat ps).length ∧ pre.map (fun x => (x.i, x.len)) = (List.range m).map (fun i => (i, (rowOf i).1.length))) ∧ Jx pre W')) := by
  have hlen := store_len W ok s lim cnt gone ps hS
  have hc0 : W.cell? ⟨Bn, 0, none⟩ = some (.pointer (some ⟨s, 0, none⟩)) := (blk_cell hbx 0).trans rfl
  refine callsIn_of_wp Try.func63 rfl trivial ?_ rfl
  simp only [Try.ntmps63, List.size_toArray, List.length_cons, List.length_nil, Nat.reduceAdd, Nat.reduceSub, Array.replicate_succ, Array.replicate_zero, List.push_toArray, List.append_toArray, List.nil_append, List.cons_append]
  gi_wp2_with (refine ⟨trivial, ?_⟩; gi_at_call 44; refine (callsIn_wide.2 hlen).mono ?_; rintro e w1 ⟨rfl, hd1⟩; obtain ⟨m1, rfl⟩ := hd1.out)
  gi_loopw [8] (fun v8 wr => ∃ (pre : List Rw), v8 = .int .i64 (pre.length : Int) ∧ Aside0 (pre.length ≤ (flat ps).length ∧ pre.map (fun x => (x.i, x.len)) = (List.range pre.length).map (fun i => (i, (rowOf i).1.length)) ∧ J pre wr ∧ KeepOn (fun k => ok k ∨ k = Bn) W wr))
    (fun v8 wr => (flat ps).length - (intOf v8).toNat)
  case atStart => exact ⟨[], rfl, ⟨Nat.zero_le _, rfl, hJa _ W _ none h0 (grown_of_below (pw_below_drewN (Below.refl _ _) m1)) (fun r e => by cases e), Nat.le_refl _, fun _ _ => rfl⟩⟩
  case round =>
    obtain ⟨pre, rfl, HA⟩ := hrel
    have hX := Aside0.mk (And.intro hcnt hcnt2)
    have hSr : StoreAt wr ok s lim cnt gone ps := hS.step (fun k hk _ => HA.out.2.2.2.2 k (.inl hk))
    have hbr := (HA.out.2.2.2.2 Bn (.inr rfl)).trans hbx
    have hcr : wr.cell? ⟨Bn, 0, none⟩ = some (.pointer (some ⟨s, 0, none⟩)) := (blk_cell hbr 0).trans rfl
    have hw1 : IntKind.i64.wrap ((pre.length : Int) + 1) = (pre.length : Int) + 1 := by have h1 := HA.out.1; rw [IntKind.wrap_i64]; omega
    by_cases hlt : pre.length < (flat ps).length
    · obtain ⟨b, hb⟩ : ∃ b, (flat ps)[pre.length]? = some b := ⟨_, List.getElem?_eq_getElem hlt⟩
      obtain ⟨m, er, hgb⟩ := hget _ _ hb
      have hat := store_at_in wr ok s lim cnt gone ps (pre.length : Int) b (rowOf pre.length).1 (rowOf pre.length).2 m er hSr hI hcnt hcnt2 (by omega) (by rw [Int.toNat_natCast]; exact hb) hgb
      clear hgb
      gi_wp2_with (refine ⟨trivial, ?_⟩; gi_at_call 43; refine (callsIn_wide.2 hat).mono ?_; rintro e w3 ⟨v0, rfl, hR0, hb3⟩; obtain ⟨A2, c2, rfl⟩ := Kd.R_slice hR0; obtain ⟨fn, tmps, assign, body, hy, hR⟩ := hY pre ⟨pre.length, A2, (rowOf pre.length).1.length, c2, (rowOf pre.length).2⟩ (w3.alloc (.cells #[.slice A2 (rowOf pre.length).1.length c2, .bool (rowOf pre.length).2] 31)) (hJa _ wr _ none HA.out.2.2.1 (grown_of_below (below_alloc hb3 _)) (fun r e => by cases e)) hlt; dsimp only [Rw.encs] at hy)
      have hokn : ∀ k, (ok k ∨ k = Bn) → k < n₀ := fun k hk => hk.elim (hok k) (fun e => e ▸ hBn)
      have hbw : Below wr.heap.size wr (w3.alloc (.cells #[.slice A2 (rowOf pre.length).1.length c2, .bool (rowOf pre.length).2] 31)) := below_alloc hb3 _
      have hkp : KeepOn (fun k => ok k ∨ k = Bn) W (w3.alloc (.cells #[.slice A2 (rowOf pre.length).1.length c2, .bool (rowOf pre.length).2] 31)) :=
        KeepOn.trans HA.out.2.2.2 ⟨hbw.size, fun k hk => hbw.block k (Nat.lt_of_lt_of_le (hokn k hk) (Nat.le_trans hn₀ HA.out.2.2.2.1))⟩
      have hmap : (pre ++ [(⟨pre.length, A2, (rowOf pre.length).1.length, c2, (rowOf pre.length).2⟩ : Rw)]).map (fun x => (x.i, x.len)) = (List.range (pre.length + 1)).map (fun i => (i, (rowOf i).1.length)) := by
        rw [List.map_append, HA.out.2.1, List.range_succ, List.map_append]
        rfl
      refine hR.mono ?_
      rintro e W' (⟨rfl, hJ', hk'⟩ | ⟨rfl, hJx'⟩)
      · gi_wp2
        go_roundw
        case rel => exact ⟨_, by simp, ⟨by simp; omega, by rw [List.length_append, List.length_singleton]; exact hmap, hJ', hkp.trans hk'⟩⟩
        case measure => simp [intOf]; omega
      · gi_wp2
        refine bodyPost_ret (results_none rfl _ _ _) rfl ?_
        exact ⟨⟨_, rfl⟩, .inr ⟨_, ⟨pre.length + 1, hlt, hmap⟩, hJx'⟩⟩
    · gi_wp2
      go_end0
      have he : pre.length = (flat ps).length := by have := HA.out.1; omega
      exact ⟨⟨_, rfl⟩, .inl ⟨pre, by rw [← he]; exact HA.out.2.1, HA.out.2.2.1⟩⟩
theorem store_all_stops (n Bn : Nat) (hn1 : 1 ≤ n) (ok : Nat → Prop) (s : Nat) (lim cnt gone : Int) (ps : List Pg) (rowOf : Nat → List S45 × Bool) (w : World) (hI : Inv ps) (hcnt : cnt = (flat ps).length) (hcnt2 : cnt ≤ 100000000) (hok : ∀ k, ok k → k < w.heap.size)
    (hget : ∀ i b, (flat ps)[i]? = some b → ∃ m er, ∀ w A c, Kd.C (Kd.int .u8) w A b.length b → b.length ≤ c → Calls Try.prog 30 #[.slice A b.length c] w fun e w' => ∃ v0_ : Value, e = .returned (.tuple #[.agg #[v0_, .bool (rowOf i).2], .int .i64 m, .int .i64 er]) ∧ Kd.R k45 45 w' w.heap.size (fun _ => True) v0_ (rowOf i).1 ∧ Below w.heap.size w w')
    (hS : StoreAt w ok s lim cnt gone ps) (hbx : w.heap[Bn]? = some (.cells #[.pointer (some ⟨s, 0, none⟩)] 56 (0, 0))) :
    SeqStopsK Fence.wide n Try.prog 63 #[.pointer (some ⟨Bn, 0, none⟩)] Rw.encs (KeepOn (fun k => ok k ∨ k = Bn)) (fun ys => ys.map (fun x => (x.i, x.len)) = (List.range (flat ps).length).map (fun i => (i, (rowOf i).1.length)))
      (fun pre => ∃ m, m ≤ (flat ps).length ∧ pre.map (fun x => (x.i, x.len)) = (List.range m).map (fun i => (i, (rowOf i).1.length))) (flat ps).length w := fun l J Jx W hW hJ _ hY h0 =>
  store_all1 n l Bn w.heap.size hn1 ok s lim cnt gone ps rowOf hI hcnt hcnt2 hok (blk_lt hbx) hget J Jx W hJ hW.size hY (hS.below hW) (blk_below hbx hW) h0
end Go.Proofs.Ytkigdcihhlkkdaa.P
