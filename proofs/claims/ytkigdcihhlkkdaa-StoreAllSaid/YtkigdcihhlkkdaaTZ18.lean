/- own texts of this session, put together -/
import Derived.Test.YtkigdcihhlkkdaaTZ1
import Derived.Test.YtkigdcihhlkkdaaTZ14
import Derived.Test.YtkigdcihhlkkdaaTZ16
import Derived.Test.YtkigdcihhlkkdaaTZ15
import Derived.Test.YtkigdcihhlkkdaaTZ0
import Derived.Deep.Strs
import Derived.ChangeSlices
import Derived.DataElems
import Derived.WideShapes
section
set_option linter.unusedVariables false
set_option linter.unusedSimpArgs false
namespace Go.Proofs.Ytkigdcihhlkkdaa.P
open Go.RowKit Go.Shelf Go.Proofs.YtkigdcihhlkkdaaW.PrintWords Go.Proofs.YtkigdcihhlkkdaaW.PrintLast Go.Proofs.YtkigdcihhlkkdaaW.PrintMore
def RowsTold (P : Program) (n gf : Nat) (lb : Array Value) (okp : Nat → Prop) (Tr : List Rw → Rw → World → Prop) (S : List Rw → Prop) (w : World) : Prop :=
  ∀ (l : Nat) (J : List Rw → World → Prop) (W : World), Below w.heap.size w W → AbidesFrom W.heap.size J →
    (∀ pre x W1, J pre W1 → Tr pre x W1 → YieldAt Fence.wide (n - 1) P l x.encs W1 fun e W' => e = .returned (.bool true) ∧ J (pre ++ [x]) W' ∧ KeepOn okp W1 W') → J [] W →
    CallsIn Fence.wide n P gf (#[.func (.yield l) #[] #[]] ++ lb) W fun e W' => (∃ v, e = .returned v) ∧ ∃ xs, S xs ∧ J xs W'
section
variable {P : Program} {ps : Array Tmp} {assign body : Code} {Q : Exit → Act → World → Prop} {a : Act} {w : World} {okp : Nat → Prop} {I : List Rw → World → Prop} {Ax : List Rw → Rw → Act → World → Prop} {r : Loop} {D : Nat}
theorem keep_put {W : World} (hok : ∀ k, okp k → k < D) (o : Obj) : KeepOn okp W (W.putObj (D + 1) o) :=
  ⟨by simp [World.putObj], fun k hk => World.putObj_heap_other (by have := hok k hk; omega)⟩
theorem round_told {m : Nat} {pre : List Rw} {x : Rw} {W : World} (hr : r.state = .ready) (hr2 : r.pending = none) (hok : ∀ k, okp k → k < D) (hI : OwnFrom D I) (hAx : ∀ pre x a', OwnFrom D (fun (_ : Unit) W => Ax pre x a' W)) (hsz : x.encs.size = r.params.size)
    (hl : W.heap[D + 1]? = some (.loop r)) (hd : W.heap[D]? = some (.deferred (some []))) (hi : I pre W)
    (hassign : ∀ K : Act → World → Prop, (∀ a' W', KeepsFrom D W W' → KeepOn okp W W' → I pre W' → Ax pre x a' W' → K a' W') → r.assign.wpIn (Fence.wide.inRound (D + 1)) m P (Exit.then K (fun _ _ _ => False)) { tmps := (r.params.zip x.encs).foldl (fun t (p, v) => t.setIfInBounds p v) r.tmps, defers := [] } W)
    (hbody : ∀ a' W', I pre W' → Ax pre x a' W' → r.body.wpIn (Fence.wide.inRound (D + 1)) m P (fun e _ V => e = .normal ∧ KeepsFrom D W' V ∧ KeepOn okp W' V ∧ I (pre ++ [x]) V) a' W') :
    YieldAt Fence.wide m P (D + 1) x.encs W fun e V => e = .returned (.bool true) ∧ (I (pre ++ [x]) V ∧ V.heap[D + 1]? = some (.loop r) ∧ V.heap[D]? = some (.deferred (some []))) ∧ KeepOn okp W V := by
  refine ⟨_, _, _, _, run_yield hl hsz, roundIn_of_wpIn trivial (hassign _ fun a' A kA kA2 iA xA => ?_)⟩
  have lA := kA.same _ _ (by omega) hl rfl
  have dA := kA.same _ _ (Nat.le_refl _) hd rfl
  have ltA := (Array.getElem?_eq_some_iff.1 lA).1
  refine ⟨_, run_beginRound lA hr, wpIn_mono (hbody a' _ (hI.putObj _ iA (by omega) lA rfl) ((hAx pre x a').putObj (s := ()) _ xA (by omega) lA rfl)) ?_⟩
  rintro e b V ⟨rfl, kV, kV2, iV⟩
  have lV := kV.same _ _ (by omega) (World.putObj_heap_same ltA) rfl
  have dV := kV.same _ _ (Nat.le_refl _) ((World.putObj_heap_other (by omega)).trans dA) rfl
  have hend := run_endRound (P := P) none lV
  have hrr : ({ ({ r with state := .busy } : Loop) with state := if (none : Option Code).isNone then .ready else .done, pending := none } : Loop) = r := by
    cases r; simp at hr hr2; subst hr; subst hr2; rfl
  rw [hrr] at hend
  exact ⟨_, _, hend, rfl, ⟨hI.putObj _ iV (by omega) lV rfl, World.putObj_heap_same (Array.getElem?_eq_some_iff.1 lV).1, (World.putObj_heap_other (by omega)).trans dV⟩, kA2.trans ((keep_put hok _).trans (kV2.trans (keep_put hok _)))⟩
set_option maxHeartbeats 8000000 in
set_option maxRecDepth 100000 in
theorem range_told {g : Operand} {gf : Nat} {lb : Array Value} {Tr : List Rw → Rw → World → Prop} {S : List Rw → Prop} (hg : a.eval g = .func (.func gf) #[] lb) (eg : ∀ args w, (callFunc gf args).run P w = .ok (.enter gf args) w) (hps : ps.size = 2) (hseq : RowsTold P 3 gf lb okp Tr S w) (hok : ∀ k, okp k → k < w.heap.size)
    (hI : OwnFrom w.heap.size I) (h0 : I [] w) (hAx : ∀ pre x a', OwnFrom w.heap.size (fun (_ : Unit) W => Ax pre x a' W))
    (hassign : ∀ (pre : List Rw) (x : Rw) (W : World) (K : Act → World → Prop), I pre W → Tr pre x W → (∀ a' W', KeepsFrom w.heap.size W W' → KeepOn okp W W' → I pre W' → Ax pre x a' W' → K a' W') →
      assign.wpIn (Fence.wide.inRound (w.heap.size + 1)) 2 P (Exit.then K (fun _ _ _ => False)) { tmps := (ps.zip x.encs).foldl (fun t (p, v) => t.setIfInBounds p v) a.tmps, defers := [] } W)
    (hbody : ∀ (pre : List Rw) (x : Rw) (a' : Act) (W : World), I pre W → Ax pre x a' W → body.wpIn (Fence.wide.inRound (w.heap.size + 1)) 2 P (fun e _ V => e = .normal ∧ KeepsFrom w.heap.size W V ∧ KeepOn okp W V ∧ I (pre ++ [x]) V) a' W)
    (hdone : ∀ (D : Nat) (xs : List Rw) (W : World), w.heap.size ≤ D → S xs → I xs W → W.heap[D]? = some (.deferred (some [])) → Q .normal { a with defers := { target := .collected D, args := #[] } :: a.defers } W) :
    (Code.rangeFunc g ps assign body).wpIn Fence.wide 4 P Q a w := by
  refine wpIn_rangeFunc fun fn _ => ?_
  obtain ⟨r, hr⟩ : ∃ r : Loop, r = { state := .ready, pending := none, fn, tmps := a.tmps, params := ps, assign, body, defers := w.heap.size } := ⟨_, rfl⟩
  obtain ⟨V, hV⟩ : ∃ V, V = (w.alloc (.deferred (some []))).alloc (.loop r) := ⟨_, rfl⟩
  have hsV : V.heap.size = w.heap.size + 2 := by rw [hV]; simp
  have lV : V.heap[w.heap.size + 1]? = some (.loop r) := by
    have := World.alloc_heap_new (w.alloc (.deferred (some []))) (.loop r)
    rw [World.size_alloc] at this
    rw [hV]; exact this
  have dV : V.heap[w.heap.size]? = some (.deferred (some [])) := by
    rw [hV]
    exact (Below.heap_alloc _ _ _ (by simp)).trans (World.alloc_heap_new w _)
  have iV : I [] V := by rw [hV]; exact hI.alloc _ (hI.alloc _ h0)
  have bV : Below w.heap.size w V := by rw [hV]; exact ((Below.refl _ w).alloc (Nat.le_refl _) _).alloc (by simp) _
  have hcall := hseq (w.heap.size + 1) (fun pre W => I pre W ∧ W.heap[w.heap.size + 1]? = some (.loop r) ∧ W.heap[w.heap.size]? = some (.deferred (some []))) V bV ?ab ?yl ⟨iV, lV, dV⟩
  case ab =>
    rintro s A B row ⟨h1, h2, h3⟩ hg' hrw
    have hcells : ∀ j, row = some j → w.heap.size ≤ j ∧ ∃ o : Obj, A.heap[j]? = some o ∧ o.isCells = false := fun j e => by
      obtain ⟨hB, o, ho, hw⟩ := hrw j e
      exact ⟨by omega, o, ho, Obj.not_cells_of_walk hw⟩
    exact ⟨hI s A B row h1 hg' hcells, (grownBy_keeps hg' (fun j e => (hrw j e).2) h2 rfl).trans h2, (grownBy_keeps hg' (fun j e => (hrw j e).2) h3 rfl).trans h3⟩
  case yl =>
    rintro pre x W1 ⟨h1, h2, h3⟩ hT
    exact round_told (r := r) (D := w.heap.size) (by rw [hr]) (by rw [hr]) hok hI hAx (by rw [hr]; exact hps.symm) h2 h3 h1 (by rw [hr]; exact fun K hK => hassign pre x W1 K h1 hT hK) (by rw [hr]; exact fun a' W' => hbody pre x a' W')
  refine ⟨w.heap.size + 1, [{ target := .collected w.heap.size, args := #[] }], V, { target := .fn (.func gf) lb, args := #[.func (.yield (w.heap.size + 1)) #[] #[]] }, V, gf, #[.func (.yield (w.heap.size + 1)) #[] #[]] ++ lb, V, ?_, ?_, ?_, ?_, ?_, ?_⟩
  · rw [hV, hr]; exact run_enterLoop_outer _ _ _ _ _
  · simp only [resolve, hg]
    simp [go_sem]
  · intro f' _; trivial
  · simp [invoke, go_sem, eg]
  · intro _; omega
  · refine CallsIn.mono hcall ?_
    rintro e W2 ⟨⟨v, rfl⟩, xs, hS, hi, hl, hd⟩
    refine ⟨r.pending, _, run_endLoop hl (by rw [hr]; simp), ?_⟩
    rw [show r.pending = none by rw [hr]]
    exact hdone _ xs _ (Nat.le_refl _) hS (hI.putObj _ hi (by omega) hl rfl) ((World.putObj_heap_other (by omega)).trans hd)
end
end Go.Proofs.Ytkigdcihhlkkdaa.P
end
section
set_option linter.unusedVariables false
set_option linter.unusedSimpArgs false
namespace Go.Proofs.Ytkigdcihhlkkdaa.P
open Go.RowKit Go.Shelf Go.Proofs.YtkigdcihhlkkdaaW.PrintWords Go.Proofs.YtkigdcihhlkkdaaW.PrintLast Go.Proofs.YtkigdcihhlkkdaaW.PrintMore
attribute [local go_sem] Oper.semAt_some
def InCells (B : Nat) (W : World) (k : Nat) : Prop := B ≤ k ∧ ∃ cs q, W.heap[k]? = some (.cells cs q (0, 0))
structure TrRow (B N : Nat) (rowOf : Nat → List S45 × Bool) (pre : List Rw) (x : Rw) (W : World) : Prop where
  i : x.i = pre.length
  lt : pre.length < N
  len : x.len = (rowOf pre.length).1.length
  wr : x.wr = (rowOf pre.length).2
  cap : x.len ≤ x.c
  row : Kd.F k45 W (InCells B W) x.A x.len (rowOf pre.length).1
theorem F_incells {α : Type} {d : Kd α} {W W' : World} {B : Nat} {A : Option Addr} {n : Nat} {xs : List α} (h : Kd.F d W (InCells B W) A n xs) (hm : ∀ k cs q, B ≤ k → W.heap[k]? = some (.cells cs q (0, 0)) → W'.heap[k]? = W.heap[k]?) : Kd.F d W' (InCells B W') A n xs := by
  refine Kd.F_mono (Kd.F_step h (fun k hk _ => by obtain ⟨hb, cs, q, hc⟩ := hk; exact hm k cs q hb hc)) (fun k hk => ?_)
  obtain ⟨hb, cs, q, hc⟩ := hk
  exact ⟨hb, cs, q, (hm k cs q hb hc).trans hc⟩
set_option maxHeartbeats 4000000 in
set_option maxRecDepth 100000 in
theorem store_told1 (l Bn n₀ : Nat) (ok : Nat → Prop) (s : Nat) (lim cnt gone : Int) (ps : List Pg) (rowOf : Nat → List S45 × Bool) (hI : Inv ps) (hcnt : cnt = (flat ps).length) (hcnt2 : cnt ≤ 100000000) (hok : ∀ k, ok k → k < n₀) (hBn : Bn < n₀)
    (hget : ∀ i b, (flat ps)[i]? = some b → ∃ m er, ∀ w A c, Kd.C (Kd.int .u8) w A b.length b → b.length ≤ c → Calls Try.prog 30 #[.slice A b.length c] w fun e w' => ∃ v0_ : Value, e = .returned (.tuple #[.agg #[v0_, .bool (rowOf i).2], .int .i64 m, .int .i64 er]) ∧ Kd.R k45 45 w' w.heap.size (fun _ => True) v0_ (rowOf i).1 ∧ Below w.heap.size w w')
    (J : List Rw → World → Prop) (W : World) (hJa : AbidesFrom W.heap.size J) (hn₀ : n₀ ≤ W.heap.size)
    (hY : ∀ pre x W1, J pre W1 → TrRow n₀ (flat ps).length rowOf pre x W1 → YieldAt Fence.wide 2 Try.prog l x.encs W1 fun e W' => e = .returned (.bool true) ∧ J (pre ++ [x]) W' ∧ KeepOn (fun k => ok k ∨ k = Bn) W1 W')
    (hS : StoreAt W ok s lim cnt gone ps) (hbx : W.heap[Bn]? = some (.cells #[.pointer (some ⟨s, 0, none⟩)] 56 (0, 0))) (h0 : J [] W) :
    CallsIn Fence.wide 3 Try.prog 63 #[.func (.yield l) #[] #[], .pointer (some ⟨Bn, 0, none⟩)] W fun e W' => (∃ v, e = .returned v) ∧ ∃ ys : List Rw, ys.length = (flat ps).length ∧ J ys W' := by
  have hlen := store_len W ok s lim cnt gone ps hS
  have hc0 : W.cell? ⟨Bn, 0, none⟩ = some (.pointer (some ⟨s, 0, none⟩)) := (blk_cell hbx 0).trans rfl
  refine callsIn_of_wp Try.func63 rfl trivial ?_ rfl
  simp only [Try.ntmps63, List.size_toArray, List.length_cons, List.length_nil, Nat.reduceAdd, Nat.reduceSub, Array.replicate_succ, Array.replicate_zero, List.push_toArray, List.append_toArray, List.nil_append, List.cons_append]
  gi_wp2_with (refine ⟨trivial, ?_⟩; gi_at_call 44; refine (callsIn_wide.2 hlen).mono ?_; rintro e w1 ⟨rfl, hd1⟩; obtain ⟨m1, rfl⟩ := hd1.out)
  gi_loopw [8] (fun v8 wr => ∃ (pre : List Rw), v8 = .int .i64 (pre.length : Int) ∧ Aside0 (pre.length ≤ (flat ps).length ∧ J pre wr ∧ KeepOn (fun k => ok k ∨ k = Bn) W wr))
    (fun v8 wr => (flat ps).length - (intOf v8).toNat)
  case atStart => exact ⟨[], rfl, ⟨Nat.zero_le _, hJa _ W _ none h0 (grown_of_below (pw_below_drewN (Below.refl _ _) m1)) (fun r e => by cases e), Nat.le_refl _, fun _ _ => rfl⟩⟩
  case round =>
    obtain ⟨pre, rfl, HA⟩ := hrel
    have hX := Aside0.mk (And.intro hcnt hcnt2)
    have hSr : StoreAt wr ok s lim cnt gone ps := hS.step (fun k hk _ => HA.out.2.2.2 k (.inl hk))
    have hbr := (HA.out.2.2.2 Bn (.inr rfl)).trans hbx
    have hcr : wr.cell? ⟨Bn, 0, none⟩ = some (.pointer (some ⟨s, 0, none⟩)) := (blk_cell hbr 0).trans rfl
    have hw1 : IntKind.i64.wrap ((pre.length : Int) + 1) = (pre.length : Int) + 1 := by have h1 := HA.out.1; rw [IntKind.wrap_i64]; omega
    by_cases hlt : pre.length < (flat ps).length
    · obtain ⟨b, hb⟩ : ∃ b, (flat ps)[pre.length]? = some b := ⟨_, List.getElem?_eq_getElem hlt⟩
      obtain ⟨m, er, hgb⟩ := hget _ _ hb
      have hat := store_at_in wr ok s lim cnt gone ps (pre.length : Int) b (rowOf pre.length).1 (rowOf pre.length).2 m er hSr hI hcnt hcnt2 (by omega) (by rw [Int.toNat_natCast]; exact hb) hgb
      clear hgb
      have hTr : ∀ (w3 : World) (A2 : Option Addr) (c2 : Nat), Kd.R k45 45 w3 wr.heap.size (fun _ => True) (.slice A2 (rowOf pre.length).1.length c2) (rowOf pre.length).1 → n₀ ≤ wr.heap.size →
          TrRow n₀ (flat ps).length rowOf pre ⟨pre.length, A2, (rowOf pre.length).1.length, c2, (rowOf pre.length).2⟩ (w3.alloc (.cells #[.slice A2 (rowOf pre.length).1.length c2, .bool (rowOf pre.length).2] 31)) := by
        intro w3 A2 c2 hR hn
        refine ⟨rfl, hlt, rfl, rfl, (Kd.R_reads' hR).2.1, F_incells (Kd.F_mono (Kd.R_F (Kd.R_bound hR)) (fun k hk => ?_)) (fun k cs q hb hc => Below.heap_alloc _ _ _ (blk_lt hc))⟩
        obtain ⟨_, h1, h2, q, _, cs, hc⟩ := hk
        exact ⟨Nat.le_trans hn h1, cs, q, hc⟩
      have hTr' := Aside0.mk hTr
      clear hTr
      gi_wp2_with (refine ⟨trivial, ?_⟩; gi_at_call 43; refine (callsIn_wide.2 hat).mono ?_; rintro e w3 ⟨v0, rfl, hR0, hb3⟩; obtain ⟨A2, c2, rfl⟩ := Kd.R_slice hR0; obtain ⟨fn, tmps, assign, body, hy, hR⟩ := hY pre ⟨pre.length, A2, (rowOf pre.length).1.length, c2, (rowOf pre.length).2⟩ (w3.alloc (.cells #[.slice A2 (rowOf pre.length).1.length c2, .bool (rowOf pre.length).2] 31)) (hJa _ wr _ none HA.out.2.1 (grown_of_below (below_alloc hb3 _)) (fun r e => by cases e)) (hTr'.out w3 A2 c2 hR0 (Nat.le_trans hn₀ HA.out.2.2.1)); dsimp only [Rw.encs] at hy)
      have hokn : ∀ k, (ok k ∨ k = Bn) → k < n₀ := fun k hk => hk.elim (hok k) (fun e => e ▸ hBn)
      have hbw : Below wr.heap.size wr (w3.alloc (.cells #[.slice A2 (rowOf pre.length).1.length c2, .bool (rowOf pre.length).2] 31)) := below_alloc hb3 _
      have hkp : KeepOn (fun k => ok k ∨ k = Bn) W (w3.alloc (.cells #[.slice A2 (rowOf pre.length).1.length c2, .bool (rowOf pre.length).2] 31)) :=
        KeepOn.trans HA.out.2.2 ⟨hbw.size, fun k hk => hbw.block k (Nat.lt_of_lt_of_le (hokn k hk) (Nat.le_trans hn₀ HA.out.2.2.1))⟩
      refine hR.mono ?_
      rintro e W' ⟨rfl, hJ', hk'⟩
      gi_wp2
      go_roundw
      case rel => exact ⟨_, by simp, ⟨by simp; omega, hJ', hkp.trans hk'⟩⟩
      case measure => simp [intOf]; omega
    · gi_wp2
      go_end0
      have he : pre.length = (flat ps).length := by have := HA.out.1; omega
      exact ⟨⟨_, rfl⟩, pre, he, HA.out.2.1⟩
theorem store_told (Bn : Nat) (ok : Nat → Prop) (s : Nat) (lim cnt gone : Int) (ps : List Pg) (rowOf : Nat → List S45 × Bool) (w : World) (hI : Inv ps) (hcnt : cnt = (flat ps).length) (hcnt2 : cnt ≤ 100000000) (hok : ∀ k, ok k → k < w.heap.size)
    (hget : ∀ i b, (flat ps)[i]? = some b → ∃ m er, ∀ w A c, Kd.C (Kd.int .u8) w A b.length b → b.length ≤ c → Calls Try.prog 30 #[.slice A b.length c] w fun e w' => ∃ v0_ : Value, e = .returned (.tuple #[.agg #[v0_, .bool (rowOf i).2], .int .i64 m, .int .i64 er]) ∧ Kd.R k45 45 w' w.heap.size (fun _ => True) v0_ (rowOf i).1 ∧ Below w.heap.size w w')
    (hS : StoreAt w ok s lim cnt gone ps) (hbx : w.heap[Bn]? = some (.cells #[.pointer (some ⟨s, 0, none⟩)] 56 (0, 0))) :
    RowsTold Try.prog 3 63 #[.pointer (some ⟨Bn, 0, none⟩)] (fun k => ok k ∨ k = Bn) (TrRow w.heap.size (flat ps).length rowOf) (fun ys => ys.length = (flat ps).length) w := fun l J W hW hJ hY h0 =>
  store_told1 l Bn w.heap.size ok s lim cnt gone ps rowOf hI hcnt hcnt2 hok (blk_lt hbx) hget J W hJ hW.size hY (hS.below hW) (blk_below hbx hW) h0
end Go.Proofs.Ytkigdcihhlkkdaa.P
end
section
set_option linter.unusedVariables false
set_option linter.unusedSimpArgs false
namespace Go.Proofs.Ytkigdcihhlkkdaa.P
open Go.RowKit Go.Shelf Go.Proofs.YtkigdcihhlkkdaaW.PrintWords Go.Proofs.YtkigdcihhlkkdaaW.PrintLast Go.Proofs.YtkigdcihhlkkdaaW.PrintMore Go.Proofs.Ytkigdcihhlkkdaa.Pure
attribute [local go_sem] Oper.semAt_some
def rowAt (ys : List S31) (i : Nat) : List S45 × Bool := ((rd_T31 ys (i : Int)).f0, (rd_T31 ys (i : Int)).f1)
theorem all_post {W w7 w5 : World} {b D n : Nat} {okp : Nat → Prop} {v : Int} (hB : SB W w7) (hi1 : W.heap[b]? = some (.cells #[.int .i64 (n : Nat)] 3 (0, 0))) (hi2 : Fr (fun k => k = b) w5 W) (hok : ∀ k, okp k → k ≠ b ∧ k < W.heap.size) :
    KeepsFrom D W (w7.setCell ⟨b, 0, none⟩ (.int .i64 v)) ∧ KeepOn okp W (w7.setCell ⟨b, 0, none⟩ (.int .i64 v)) ∧ (w7.setCell ⟨b, 0, none⟩ (.int .i64 v)).heap[b]? = some (.cells #[.int .i64 v] 3 (0, 0)) ∧ Fr (fun k => k = b) w5 (w7.setCell ⟨b, 0, none⟩ (.int .i64 v)) := by
  have hb7 : Below W.heap.size W w7 := hB
  refine ⟨(((KeepsOthers.of_grownBy (grown_of_below hb7) (fun j o e _ => by cases e)).trans (KeepsOthers.setCell _ _ _)).from _), ⟨by simp [World.setCell]; exact hb7.size, fun k hk => ?_⟩, (blk_set (blk_below hi1 hb7) 0 _).trans rfl, (hi2.trans (Fr.of_below (S := fun k => k = b) hb7) (fun i _ h => h)).setCell (p := ⟨b, 0, none⟩) rfl _⟩
  exact (Below.heap_setCell w7 ⟨b, 0, none⟩ _ k (hok k hk).1).trans (hb7.block k (hok k hk).2)
set_option maxHeartbeats 16000000 in
set_option maxRecDepth 100000 in
theorem all_ (gs : Nat) (ok : Nat → Prop) (lim cnt gone : Int) (ps : List Pg) (Aw : Option Addr) (cw : Nat) (ys : List S31) (w : World) (hS : StoreAt w ok gs lim cnt gone ps) (hok : ∀ k, ok k → k < w.heap.size) (hI : Inv ps) (hcnt : cnt = (flat ps).length) (hcnt2 : cnt ≤ 100000000)
    (hfl : flat ps = ys.map (fun z => rowB z.f0 z.f1)) (hmy : ∀ z ∈ ys, mayB z.f0 = true) (hC : Kd.C k31 w Aw ys.length ys) (hcw : ys.length ≤ cw) :
    Calls Try.prog 49 #[.pointer (some ⟨gs, 0, none⟩), .slice Aw ys.length cw] w fun e w' => e = .returned (.bool true) ∧ Below w.heap.size w w' := by
  have hyl : (flat ps).length = ys.length := by rw [hfl, List.length_map]
  have hget : ∀ i b, (flat ps)[i]? = some b → ∃ m er, ∀ w A c, Kd.C (Kd.int .u8) w A b.length b → b.length ≤ c → Calls Try.prog 30 #[.slice A b.length c] w fun e w' => ∃ v0_ : Value, e = .returned (.tuple #[.agg #[v0_, .bool (rowAt ys i).2], .int .i64 m, .int .i64 er]) ∧ Kd.R k45 45 w' w.heap.size (fun _ => True) v0_ (rowAt ys i).1 ∧ Below w.heap.size w w' := by
    intro i b hb
    rw [hfl, List.getElem?_map] at hb
    obtain ⟨z, hz, rfl⟩ := Option.map_eq_some_iff.1 hb
    have hi := (List.getElem?_eq_some_iff.1 hz).1
    have e : rd_T31 ys (i : Int) = z := by
      rw [List.getElem?_eq_getElem hi] at hz
      simp [rd_T31, List.getD, hi, Option.some.inj hz]
    unfold rowAt
    rw [e]
    exact ⟨_, _, fun w A c hC hc => get_t _ _ (hmy z (List.mem_of_getElem? hz)) w A c hC hc⟩
  have hgt := Aside0.mk hget
  have hfl' := Aside0.mk hfl
  clear hget hfl
  have he59 := eq59
  have hall := fun (W : World) => store_all (.pointer (some ⟨gs, 0, none⟩)) ⟨_, rfl⟩ W
  refine (callsIn_wide (n := 4)).1 ?_
  refine callsIn_of_wp_marks Try.func49 rfl trivial ?_ rfl
  simp only [Try.ntmps49, List.size_toArray, List.length_cons, List.length_nil, Nat.reduceAdd, Nat.reduceSub, Array.replicate_succ, Array.replicate_zero, List.push_toArray, List.append_toArray, List.nil_append, List.cons_append]
  refine wpIn_wide.2 ?_
  go_wp2_with (first
    | (go_at_call 41; refine (hall _).mono ?_; rintro e w4 ⟨rfl, rfl⟩)
    | fail)
  obtain ⟨v0, hv0⟩ : ∃ v, v = w.alloc (.cells #[.slice Aw ys.length cw] 47) := ⟨_, rfl⟩
  obtain ⟨v1, hv1⟩ : ∃ v, v = v0.alloc (.cells #[.bool false] 4) := ⟨_, rfl⟩
  obtain ⟨v2, hv2⟩ : ∃ v, v = v1.alloc (.cells #[.int .i64 0] 3) := ⟨_, rfl⟩
  obtain ⟨v3, hv3⟩ : ∃ v, v = v2.alloc (.cells #[.pointer (some ⟨gs, 0, none⟩)] 56) := ⟨_, rfl⟩
  obtain ⟨w5, hw5⟩ : ∃ v, v = v3.alloc (.cells #[.pointer (some ⟨gs, 0, none⟩)] 56) := ⟨_, rfl⟩
  rw [← hv0, ← hv1, ← hv2, ← hv3, ← hw5]
  have z0 : v0.heap.size = w.heap.size + 1 := by rw [hv0]; simp
  have z1 : v1.heap.size = w.heap.size + 2 := by rw [hv1]; simp [z0]
  have z2 : v2.heap.size = w.heap.size + 3 := by rw [hv2]; simp [z1]
  have z3 : v3.heap.size = w.heap.size + 4 := by rw [hv3]; simp [z2]
  have z5 : w5.heap.size = w.heap.size + 5 := by rw [hw5]; simp [z3]
  have x0 : w5.heap[w.heap.size]? = some (.cells #[.slice Aw ys.length cw] 47 (0, 0)) := by
    have := blk_new w (.cells #[.slice Aw ys.length cw] 47)
    rw [← hv0] at this
    rw [hw5, hv3, hv2, hv1]; exact blk_alloc (blk_alloc (blk_alloc (blk_alloc this _) _) _) _
  have x1 : w5.heap[w.heap.size + 1]? = some (.cells #[.bool false] 4 (0, 0)) := by
    have := blk_new v0 (.cells #[.bool false] 4)
    rw [← hv1, z0] at this
    rw [hw5, hv3, hv2]; exact blk_alloc (blk_alloc (blk_alloc this _) _) _
  have x2 : w5.heap[w.heap.size + 2]? = some (.cells #[.int .i64 0] 3 (0, 0)) := by
    have := blk_new v1 (.cells #[.int .i64 0] 3)
    rw [← hv2, z1] at this
    rw [hw5, hv3]; exact blk_alloc (blk_alloc this _) _
  have x4 : w5.heap[w.heap.size + 4]? = some (.cells #[.pointer (some ⟨gs, 0, none⟩)] 56 (0, 0)) := by
    have := blk_new v3 (.cells #[.pointer (some ⟨gs, 0, none⟩)] 56)
    rw [← hw5, z3] at this
    exact this
  have hb5 : Below w.heap.size w w5 := by rw [hw5, hv3, hv2, hv1, hv0]; exact below_alloc (below_alloc (below_alloc (below_alloc (below_alloc (Below.refl _ _) _) _) _) _) _
  clear hv0 hv1 hv2 hv3 hw5 z0 z1 z2 z3 hall he59 v0 v1 v2 v3
  have hS5 := hS.below hb5
  have hseq := store_told (w.heap.size + 4) ok gs lim cnt gone ps (rowAt ys) w5 hI hcnt hcnt2 (fun k hk => by have := hok k hk; omega) hgt.out hS5 x4
  rw [hyl] at hseq
  refine (fun (a0 : Act) (ha0 : a0 = _) => ?_ : ∀ a0 : Act, a0 = _ → Code.wp Try.prog _ _ a0 _) _ rfl
  refine (wpIn_wide (n := 4)).1 ?_
  refine range_told (P := Try.prog) (gf := 63) (lb := #[.pointer (some ⟨w.heap.size + 4, 0, none⟩)]) (by rw [ha0]; rfl) (enters_of Try.func63 (by kernel_rfl) rfl) rfl hseq (fun k hk => by rcases hk with h | h; have := hok k h; omega; omega)
    (I := fun pre W => W.heap[w.heap.size + 2]? = some (.cells #[.int .i64 (pre.length : Nat)] 3 (0, 0)) ∧ Fr (fun k => k = w.heap.size + 2) w5 W) ?hI ⟨x2, Fr.refl _ _⟩
    (Ax := fun pre x a' W => pre.length < ys.length ∧ x.i = pre.length ∧ ∃ g, w5.heap.size ≤ g ∧ W.heap[g]? = some (.cells #[.slice x.A (rowAt ys pre.length).1.length x.c, .bool (rowAt ys pre.length).2] 31 (0, 0)) ∧ (rowAt ys pre.length).1.length ≤ x.c ∧ Kd.F k45 W (InCells w5.heap.size W) x.A (rowAt ys pre.length).1.length (rowAt ys pre.length).1 ∧
      a' = { tmps := (((a0.tmps.setIfInBounds 13 (.int .i64 (pre.length : Nat))).setIfInBounds 14 (.agg #[.slice x.A (rowAt ys pre.length).1.length x.c, .bool (rowAt ys pre.length).2])).setIfInBounds 6 (.int .i64 (pre.length : Nat))).setIfInBounds 7 (.pointer (some ⟨g, 0, none⟩)), defers := [] }) ?hAx ?assign ?body ?done
  case hI =>
    rintro xs A B row ⟨h1, h3⟩ hg hr
    have hf : Fr (fun k => w5.heap.size ≤ k) A B := Fr.of_grown hg (fun k hk => (hr k hk).1)
    exact ⟨hf.old (by omega) h1, h3.trans hf (fun i hi h => by omega)⟩
  case hAx =>
    rintro pre x a' _ A B row ⟨h1, h2, g, h3, h4, h5, h6, h7⟩ hg hr
    exact ⟨h1, h2, g, h3, (grownBy_keeps_cells hg (fun r e => (hr r e).2) h4 rfl).trans h4, h5, F_incells h6 (fun k cs q hb hc => grownBy_keeps_cells hg (fun r e => (hr r e).2) hc rfl), h7⟩
  case assign =>
    rintro pre ⟨xi, xA, xl, xc, xw⟩ W K ⟨hi1, hi2⟩ ⟨t1, t2, t3, t4, t5, t6⟩ hK
    dsimp only at t1 t3 t4 t5 t6
    subst t1 t3 t4
    have hK2 := hK
    clear hK
    have hsz := hi2.size
    have hba : Below W.heap.size W (W.alloc (.cells #[.slice xA (rowAt ys pre.length).1.length xc, .bool (rowAt ys pre.length).2] 31)) := below_alloc (Below.refl _ _) _
    subst ha0
    dsimp only [Rw.encs]
    gi_wp2
    refine hK2 _ _ ((KeepsOthers.alloc _ _).from _) ⟨hba.size, fun k hk => hba.block k (by rcases hk with h | h; have := hok k h; omega; omega)⟩ ⟨blk_alloc hi1 _, hi2.alloc _⟩ ⟨t2, by first | rfl | trivial, W.heap.size, hsz, blk_new _ _, t5, F_incells t6 (fun k cs q hb hc => hba.block k (blk_lt hc)), ?_⟩
    rfl
  case body =>
    rintro pre x a' W ⟨hi1, hi2⟩ ⟨hlt, hxi, g, hg0, hg1, hxc, hF, rfl⟩
    subst ha0
    simp only [List.setIfInBounds_toArray, List.set_cons_zero, List.set_cons_succ]
    have hbW : Below w.heap.size w W := hb5.trans (hi2.below (B := w.heap.size) (by omega) (fun k hk => by omega))
    have hx0 := hi2.old (k := w.heap.size) (fun h => by omega) x0
    obtain ⟨ad, A1, c1, hAw, s0, s1, hc1, hC1⟩ := at_T31 (Kd.C_below hC hbW) (pre.length : Int) (by omega) (by omega)
    subst hAw
    rw [Int.toNat_natCast] at s0 s1
    unfold rowAt at hg1 hxc hF
    dsimp only at hg1 hxc hF
    have hmz : mayB (rd_T31 ys (pre.length : Int)).f0 = true := by
      have : rd_T31 ys (pre.length : Int) ∈ ys := by
        have e : rd_T31 ys (pre.length : Int) = ys[pre.length] := by simp [rd_T31, List.getD, hlt]
        rw [e]; exact List.getElem_mem hlt
      exact hmy _ this
    simp only [rowAt]
    generalize rd_T31 ys (pre.length : Int) = z at s0 s1 hc1 hC1 hg1 hxc hF hmz ⊢
    obtain ⟨q, zb⟩ := z
    dsimp only at s0 s1 hc1 hC1 hg1 hxc hF hmz ⊢
    have hql := mayB_len hmz
    obtain ⟨r0, r1, rf0, rf1⟩ := blk2 hg1
    have n0 : W.cell? ⟨w.heap.size + 2, 0, none⟩ = some (.int .i64 (pre.length : Nat)) := (blk_cell hi1 0).trans rfl
    have nf := blk_frozen hi1 0
    have m0 : W.cell? ⟨w.heap.size, 0, none⟩ = some (.slice (some ad) ys.length cw) := (blk_cell hx0 0).trans rfl
    have hmx : Try.prog.follows .mixedOrders = true := by kernel_rfl
    have h29 := fun (V : World) (h : Below W.heap.size W V) => eqRow_ x.A x.c q zb A1 c1 q zb V (Kd.C_below (Kd.F_now hF) h) hxc (Kd.C_below hC1 h) hc1 (by omega)
    rw [eqB_self] at h29
    have hge : ¬ ys.length ≤ pre.length := by omega
    have hge2 : decide (ys.length ≤ pre.length) = false := decide_eq_false hge
    have hge3 : ¬ (ys.length : Int) ≤ (pre.length : Int) := by omega
    have hge4 : decide ((ys.length : Int) ≤ (pre.length : Int)) = false := decide_eq_false hge3
    have hw1 : IntKind.i64.wrap ((pre.length : Int) + 1) = (pre.length : Int) + 1 := by rw [IntKind.wrap_i64]; omega
    have hpost := fun (w7 : World) (h : SB W w7) => all_post (D := w5.heap.size) (v := (pre.length : Int) + 1) (okp := fun k => ok k ∨ k = w.heap.size + 4) h hi1 hi2 (fun k hk => by have := hi2.size; rcases hk with h | h; have := hok k h; omega; omega)
    have hHZ := Aside0.mk hpost
    have hHn := Aside0.mk hi1
    clear hpost hi1 hi2 hS hok hI hcnt hcnt2 hgt hfl' hmy hC hcw hseq x0 x1 x2 x4 hb5 hS5 hF hC1 hbW hx0 hyl hc1 hxc hg0 hg1 hmz hql hxi hge3 hge4
    gi_wp2
    gi_region_with_o (refine ⟨trivial, ?_⟩; gi_at_call 29; refine (CallsIn.inRound _ (callsIn_wide.2 (h29 _ (below_drew1 (Below.refl _ _))))).mono ?_; rintro e w7 ⟨rfl, hb7⟩)
    all_goals
      have hB7 : SB W w7 := SB.next (W := W) (below_drew1 (Below.refl _ _)) hb7
      have hn7 := blk_below hHn.out hB7
      have n1 := (blk_cell hn7 0).trans rfl
      have nf1 := blk_frozen hn7 0
      clear h29 n0 nf m0 r0 r1 rf0 rf1 s0 s1
      gi_wp2
      obtain ⟨p1, p2, p3, p4⟩ := hHZ.out w7 hB7
      rw [z5] at p1
      exact ⟨p1, p2, p3, p4⟩
  case done =>
    rintro D xs W hD hxs ⟨hi1, hi2⟩ hK
    have hxl : xs.length = ys.length := hxs
    rw [hxl] at hi1
    subst ha0
    dsimp only
    have hx0 := hi2.old (k := w.heap.size) (fun h => by omega) x0
    have hx1 := hi2.old (k := w.heap.size + 1) (fun h => by omega) x1
    have n0 : W.cell? ⟨w.heap.size + 2, 0, none⟩ = some (.int .i64 (ys.length : Nat)) := (blk_cell hi1 0).trans rfl
    have m0 : W.cell? ⟨w.heap.size, 0, none⟩ = some (.slice Aw ys.length cw) := (blk_cell hx0 0).trans rfl
    have q0 : W.cell? ⟨w.heap.size + 1, 0, none⟩ = some (.bool false) := (blk_cell hx1 0).trans rfl
    have qf := blk_frozen hx1 0
    go_wp2
    have hbW : Below w.heap.size w W := hb5.trans (hi2.below (B := w.heap.size) (by omega) (fun k hk => by omega))
    have hsW := hi2.size
    have hbW2 : Below w.heap.size w (W.setCell ⟨w.heap.size + 1, 0, none⟩ (.bool true)) := below_set hbW (by show w.heap.size ≤ w.heap.size + 1; omega)
    have hq2 : (W.setCell ⟨w.heap.size + 1, 0, none⟩ (.bool true)).heap[w.heap.size + 1]? = some (.cells #[.bool true] 4 (0, 0)) := (blk_set hx1 0 _).trans rfl
    have hK2 : (W.setCell ⟨w.heap.size + 1, 0, none⟩ (.bool true)).heap[D]? = some (.deferred (some [])) := (Below.heap_setCell W ⟨w.heap.size + 1, 0, none⟩ _ D (by show D ≠ w.heap.size + 1; omega)).trans hK
    refine ⟨by simp, .inl ⟨_, _, rfl, run_takeDeferred hK2, ?_⟩⟩
    have hq3 : ((W.setCell ⟨w.heap.size + 1, 0, none⟩ (.bool true)).putObj D (.deferred none)).heap[w.heap.size + 1]? = some (.cells #[.bool true] 4 (0, 0)) := (World.putObj_heap_other (by omega)).trans hq2
    have hq4 : ((W.setCell ⟨w.heap.size + 1, 0, none⟩ (.bool true)).putObj D (.deferred none)).cell? ⟨w.heap.size + 1, 0, none⟩ = some (.bool true) := (blk_cell hq3 0).trans rfl
    refine ⟨.bool true, ?_, rfl, hbW2.trans (belowK_b (w := w) (Nat.le_refl _) _ D _ _ (by omega) hK2 rfl rfl)⟩
    generalize (W.setCell ⟨w.heap.size + 1, 0, none⟩ (.bool true)).putObj D (.deferred none) = V at hq4 ⊢
    have hr : Try.f49.results = #[.cell 4 4] := by kernel_rfl
    have hu4 := Try.underlying4
    unfold results
    rw [hr]
    simp [go_sem, loadVar, asAddr, hq4, hu4]
end Go.Proofs.Ytkigdcihhlkkdaa.P
end
section
set_option linter.unusedVariables false
set_option linter.unusedSimpArgs false
namespace Go.Proofs.Ytkigdcihhlkkdaa.Pure
open Go.ChangeShapes Go.WideShapes Go.RowKit Go.Proofs.Ytkigdcihhlkkdaa.P Go.Proofs.YtkigdcihhlkkdaaW.PrintWords Go.Proofs.YtkigdcihhlkkdaaW.PrintLast
theorem list_of {α : Type} {Q : Nat → α → Prop} : ∀ n : Nat, (∀ i, i < n → ∃ z, Q i z) → ∃ l : List α, l.length = n ∧ ∀ i z, l[i]? = some z → Q i z
  | 0, _ => ⟨[], rfl, fun i z h => by simp at h⟩
  | n + 1, h => by
    obtain ⟨l, hl, hq⟩ := list_of n (fun i hi => h i (by omega))
    obtain ⟨z, hz⟩ := h n (by omega)
    refine ⟨l ++ [z], by simp [hl], fun i x hx => ?_⟩
    by_cases c : i < n
    · exact hq i x (by rwa [List.getElem?_append_left (by omega)] at hx)
    · rw [List.getElem?_append_right (by omega)] at hx
      by_cases e : i = n
      · subst e
        rw [hl, Nat.sub_self] at hx
        simp at hx
        subst hx
        exact hz
      · obtain ⟨j, hj⟩ : ∃ j, i - l.length = j + 1 := ⟨i - l.length - 1, by omega⟩
        rw [hj] at hx
        simp at hx
def wf45 (z : S45) : Prop := (Lit.int .i32 z.f0).wf = true ∧ (Lit.int .i64 z.f1).wf = true ∧ (Lit.int .i64 z.f2).wf = true
set_option maxRecDepth 100000
section
variable {H : Type} {enc : TypeId × Value → H} {w : World} {base : Nat} {spare : Nat → Bool} {held : Bool}
theorem open_cells {fuel : Nat} {cs : List Value} {x : DataW H × List MemPlace} (h : DataW.trod enc Try.prog w base spare held fuel 29 cs = some x) :
    ∃ (a : Option Addr) (len cap : Nat) (zs : List S45), cs = [.slice a len cap] ∧ len = zs.length ∧ len ≤ cap ∧ len ≤ maxLen ∧ Kd.C k45 w a zs.length zs ∧ ∀ z ∈ zs, wf45 z := by
  have hc : Try.prog.cellsOf 45 = 3 := by kernel_rfl
  have hc21 : Try.prog.cellsOf 21 = 1 := by kernel_rfl
  have hc3 : Try.prog.cellsOf 3 = 1 := by kernel_rfl
  rcases DataW.trod_slice (e := 45) Try.underlying29 h with ⟨h0, _⟩ | ⟨a, len, cap, elems, rest, n, _, rfl, _, hb, hl, hm, hlen, hel, _, _⟩
  · exact ⟨none, 0, 0, [], h0, rfl, Nat.le_refl _, Nat.zero_le _, Kd.C_nil k45 w, by simp⟩
  have each : ∀ i, i < len → ∃ z : S45, w.cells? base (a.add (i * 3)) 3 = some [.int .i32 z.f0, .int .i64 z.f1, .int .i64 z.f2] ∧ wf45 z := by
    intro i hi
    have he := hel i hi
    rw [List.getElem?_eq_getElem (by omega), hc, Option.bind_eq_some_iff] at he
    obtain ⟨cs', hcs, hy⟩ := he
    obtain ⟨y0, y1, y2, m, _, hn, h0, h1, h2⟩ := Go.Deep.trod_struct3 Try.underlying45 hy
    rw [hc] at hn
    match cs', hn with
    | [c0, c1, c2], _ =>
      simp only [hc21, hc3, List.drop_zero, List.take_succ_cons, List.take_zero, List.drop_succ_cons] at h0 h1 h2
      obtain ⟨n0, e0, _, w0⟩ := DataW.trod_int Try.underlying21 h0
      obtain ⟨n1, e1, _, w1⟩ := DataW.trod_int Try.underlying3 h1
      obtain ⟨n2, e2, _, w2⟩ := DataW.trod_int Try.underlying3 h2
      simp only [List.cons.injEq, and_true] at e0 e1 e2
      subst e0 e1 e2
      exact ⟨⟨n0, n1, n2⟩, hcs, w0, w1, w2⟩
  obtain ⟨zs, hz, hq⟩ := list_of len each
  have hmm : len ≤ maxLen := Nat.le_trans hl hm
  subst hz
  refine ⟨some a, zs.length, cap, zs, rfl, rfl, hl, hmm, ⟨rfl, by unfold maxLen at hmm; omega, fun _ => ⟨a, rfl, fun j p hp => ?_⟩⟩, fun z hz' => ?_⟩
  · obtain ⟨hc, _⟩ := hq j p hp
    refine ⟨_, rfl, k45_mk w p, fun i u hu => ?_⟩
    have hi : i < 3 := by
      have := (List.getElem?_eq_some_iff.1 hu).1
      simpa using this
    have := (World.cells?_some hc).2.2 i hi
    rw [Addr.add_add] at this
    exact this.trans hu
  · obtain ⟨i, hi⟩ := List.getElem?_of_mem hz'
    exact (hq i z hi).2
theorem open_row {fuel : Nat} {cs : List Value} {x : DataW H × List MemPlace} (h : DataW.trod enc Try.prog w base spare held fuel 31 cs = some x) :
    ∃ (a : Option Addr) (cap : Nat) (z : S31), cs = [.slice a z.f0.length cap, .bool z.f1] ∧ z.f0.length ≤ cap ∧ z.f0.length ≤ maxLen ∧ Kd.C k45 w a z.f0.length z.f0 ∧ ∀ c ∈ z.f0, wf45 c := by
  have hc : Try.prog.cellsOf 31 = 2 := by kernel_rfl
  have hc29 : Try.prog.cellsOf 29 = 1 := by kernel_rfl
  have hc4 : Try.prog.cellsOf 4 = 1 := by kernel_rfl
  obtain ⟨y0, y1, m, _, hn, h0, h1⟩ := trod_struct2 Try.underlying31 h
  rw [hc] at hn
  match cs, hn with
  | [c0, c1], _ =>
    simp only [hc29, hc4, List.drop_zero, List.take_succ_cons, List.take_zero, List.drop_succ_cons] at h0 h1
    obtain ⟨a, len, cap, zs, e0, rfl, hl, hm, hC, hw⟩ := open_cells h0
    obtain ⟨b, e1, _⟩ := DataW.trod_bool Try.underlying4 h1
    simp only [List.cons.injEq, and_true] at e0 e1
    subst e0 e1
    exact ⟨a, cap, ⟨zs, b⟩, rfl, hl, hm, hC, hw⟩
end
end Go.Proofs.Ytkigdcihhlkkdaa.Pure
end
section
set_option linter.unusedVariables false
set_option linter.unusedSimpArgs false
namespace Go.Proofs.Ytkigdcihhlkkdaa.Pure
open Go.ChangeShapes Go.WideShapes Go.RowKit Go.Proofs.Ytkigdcihhlkkdaa.P Go.Proofs.YtkigdcihhlkkdaaW.PrintWords Go.Proofs.YtkigdcihhlkkdaaW.PrintLast
set_option maxRecDepth 100000
theorem in32_of {z : S45} (h : wf45 z) : in32 z := by
  have := h.1
  simp [Lit.wf] at this
  exact this
section
variable {H : Type} {enc : TypeId × Value → H} {w : World} {base : Nat} {spare : Nat → Bool} {held : Bool}
end
end Go.Proofs.Ytkigdcihhlkkdaa.Pure
end
section
set_option linter.unusedVariables false
set_option linter.unusedSimpArgs false
namespace Go.Proofs.Ytkigdcihhlkkdaa.Pure
open Go.ChangeShapes Go.WideShapes Go.RowKit Go.Proofs.Ytkigdcihhlkkdaa.P Go.Proofs.YtkigdcihhlkkdaaW.PrintWords Go.Proofs.YtkigdcihhlkkdaaW.PrintLast
set_option maxRecDepth 100000
structure S70 where
  k : Int
  n : Int
  z : S31
def OpAt (w : World) (p : Addr) (x : S70) : Prop :=
  ∃ (A1 : Option Addr) (c1 : Nat), w.cell? p = some (.int .i64 x.k) ∧ w.cell? ⟨p.block, p.off + 1, none⟩ = some (.int .i64 x.n) ∧ w.cell? ⟨p.block, p.off + 2, none⟩ = some (.slice A1 x.z.f0.length c1) ∧ w.cell? ⟨p.block, p.off + 3, none⟩ = some (.bool x.z.f1) ∧ x.z.f0.length ≤ c1 ∧ Kd.C k45 w A1 x.z.f0.length x.z.f0
section
variable {H : Type} {enc : TypeId × Value → H} {w : World} {base : Nat} {spare : Nat → Bool} {held : Bool}
theorem open_op {fuel : Nat} {cs : List Value} {y : DataW H × List MemPlace} (h : DataW.trod enc Try.prog w base spare held fuel 70 cs = some y) :
    ∃ (x : S70) (A : Option Addr) (cap : Nat), cs = [.int .i64 x.k, .int .i64 x.n, .slice A x.z.f0.length cap, .bool x.z.f1] ∧ x.z.f0.length ≤ cap ∧ Kd.C k45 w A x.z.f0.length x.z.f0 ∧ ∀ c ∈ x.z.f0, in32 c := by
  have hc : Try.prog.cellsOf 70 = 4 := by kernel_rfl
  have hc3 : Try.prog.cellsOf 3 = 1 := by kernel_rfl
  have hc31 : Try.prog.cellsOf 31 = 2 := by kernel_rfl
  obtain ⟨y0, y1, y2, m, _, hn, h0, h1, h2⟩ := Go.Deep.trod_struct3 Try.underlying70 h
  rw [hc] at hn
  match cs, hn with
  | [c0, c1, c2, c3], _ =>
    simp only [hc3, hc31, List.drop_zero, List.take_succ_cons, List.take_zero, List.drop_succ_cons] at h0 h1 h2
    obtain ⟨n0, e0, _, _⟩ := DataW.trod_int Try.underlying3 h0
    obtain ⟨n1, e1, _, _⟩ := DataW.trod_int Try.underlying3 h1
    obtain ⟨A, cap, z, e2, g1, g2, g3, g4⟩ := open_row h2
    simp only [List.cons.injEq, and_true] at e0 e1 e2
    obtain ⟨rfl, rfl⟩ := e2
    subst e0 e1
    exact ⟨⟨n0, n1, z⟩, A, cap, rfl, g1, g3, fun c hc => in32_of (g4 c hc)⟩
theorem arg_ops {a : Option Addr} {len cap : Nat} {d : DataW H} {ps : List MemPlace} (h : DataW.Trod enc Try.prog w base spare held 68 (.slice a len cap) d ps) :
    ∃ zs : List S70, len = zs.length ∧ zs.length ≤ cap ∧ zs.length ≤ maxLen ∧ (∀ j x, zs[j]? = some x → ∃ ad, a = some ad ∧ OpAt w (ad.add (j * 4)) x) ∧ ∀ x ∈ zs, ∀ c ∈ x.z.f0, in32 c := by
  obtain ⟨fuel, hf⟩ := h
  have hc : Try.prog.cellsOf 70 = 4 := by kernel_rfl
  rcases DataW.trod_slice (e := 70) Try.underlying68 hf with ⟨h0, _⟩ | ⟨a', len', cap', elems, rest, n, _, h0, _, hb, hl, hm, hlen, hel, _, _⟩
  · simp [Value.cells] at h0
    obtain ⟨rfl, rfl, rfl⟩ := h0
    exact ⟨[], rfl, Nat.le_refl _, Nat.zero_le _, fun j x hx => by simp at hx, by simp⟩
  · simp [Value.cells] at h0
    obtain ⟨rfl, rfl, rfl⟩ := h0
    have each : ∀ i, i < len → ∃ x : S70, OpAt w (a'.add (i * 4)) x ∧ ∀ c ∈ x.z.f0, in32 c := by
      intro i hi
      have he := hel i hi
      rw [List.getElem?_eq_getElem (by omega), hc, Option.bind_eq_some_iff] at he
      obtain ⟨cs', hcs, hy⟩ := he
      obtain ⟨x, A, c1, rfl, g1, g2, g3⟩ := open_op hy
      have hcell := (World.cells?_some hcs).2.2
      refine ⟨x, ⟨A, c1, ?_, ?_, ?_, ?_, g1, g2⟩, g3⟩
      · exact hcell 0 (by omega)
      · rw [← add_field _ _ 1 (by omega)]; have := hcell 1 (by omega); rw [Addr.add_add] at this; exact this
      · rw [← add_field _ _ 2 (by omega)]; have := hcell 2 (by omega); rw [Addr.add_add] at this; exact this
      · rw [← add_field _ _ 3 (by omega)]; have := hcell 3 (by omega); rw [Addr.add_add] at this; exact this
    obtain ⟨zs, hz, hq⟩ := list_of len each
    subst hz
    refine ⟨zs, rfl, hl, Nat.le_trans hl hm, fun j x hx => ⟨a', rfl, (hq j x hx).1⟩, fun x hx => ?_⟩
    obtain ⟨i, hi⟩ := List.getElem?_of_mem hx
    exact (hq i x hi).2
end
end Go.Proofs.Ytkigdcihhlkkdaa.Pure
end
