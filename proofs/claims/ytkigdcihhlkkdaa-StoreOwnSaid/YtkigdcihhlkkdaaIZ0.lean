/- own texts of this session, put together -/
import Derived.Test.YtkigdcihhlkkdaaIV1
import Derived.Below
import Derived.Lib.ConvBytes
import Derived.Lib.SmallJoins
import Derived.Test.YtkigdcihhlkkdaaProg
import Derived.Deep.Draws
import Derived.Deep.AppendLies
import Derived.Maps.AppendAt
import Derived.OwnWalk
import Derived.Laws.BytesArg
import Derived.Laws.MakeOwn
import Derived.Laws.OwnMore
import Derived.Deep.OwnRows
import Derived.Tactics
import Derived.Laws.Slices
import Derived.WalkKit
import Derived.KernelRfl
import Derived.RowKit3
import Derived.Deep.LoopGhost
import Derived.Deep.QuietTactic
import Derived.BigQuiet
import Derived.WideLaws
import Derived.Deep.DeepCutAuto
import Derived.Deep.CutBlock
import Derived.Deep.RegionHeld3
import Derived.Laws.Rows
import Derived.Lib.AppendStr
import Derived.ArgAppend
import Derived.Laws.IdiomCopy
import Derived.OrdersHeld
import Derived.Laws.BitsLemmas
import Derived.RowKit
import Derived.Lib.SliceRun
import Derived.Lib.Walk
import Derived.Lib.Hide
section
set_option linter.unusedVariables false
set_option linter.unusedSimpArgs false
namespace Go.Proofs.YtkigdcihhlkkdaaW.PrintWords
open Go.RowKit
structure Fr (S : Nat → Prop) (W W' : World) : Prop where
  os : W'.os = W.os
  tape : W'.tape = W.tape
  output : W'.output = W.output
  size : W.heap.size ≤ W'.heap.size
  block : ∀ k, k < W.heap.size → ¬ S k → W'.heap[k]? = W.heap[k]?
namespace Fr
variable {S S1 : Nat → Prop} {W W1 W2 : World}
theorem refl (S : Nat → Prop) (W : World) : Fr S W W := ⟨rfl, rfl, rfl, Nat.le_refl _, fun _ _ _ => rfl⟩
theorem trans (h : Fr S W W1) (k : Fr S1 W1 W2) (hs : ∀ i, i < W.heap.size → S1 i → S i) : Fr S W W2 :=
  ⟨k.os.trans h.os, k.tape.trans h.tape, k.output.trans h.output, Nat.le_trans h.size k.size, fun i hi hn => (k.block i (Nat.lt_of_lt_of_le hi h.size) (fun q => hn (hs i hi q))).trans (h.block i hi hn)⟩
theorem mono (h : Fr S W W1) (hs : ∀ i, S i → S1 i) : Fr S1 W W1 := ⟨h.os, h.tape, h.output, h.size, fun i hi hn => h.block i hi (fun q => hn (hs i q))⟩
theorem of_below (h : Below W.heap.size W W1) : Fr S W W1 := ⟨h.os, h.tape, h.output, h.size, fun k hk _ => h.block k hk⟩
theorem of_grown {row : Option Nat} (h : W.grownBy W1 row) (hs : ∀ k, row = some k → S k) : Fr S W W1 :=
  ⟨h.os, h.tape, h.output, h.size, fun k hk hn => h.block k hk (fun e => hn (hs k e.symm))⟩
theorem below (h : Fr S W W1) {B : Nat} (hb : B ≤ W.heap.size) (hs : ∀ k, S k → B ≤ k) : Below B W W1 :=
  ⟨h.os, h.tape, h.output, h.size, fun k hk => h.block k (Nat.lt_of_lt_of_le hk hb) (fun q => by have := hs k q; omega)⟩
theorem drawn (h : Drawn0 W W1) : Fr S W W1 := of_below h.below
theorem alloc (h : Fr S W W1) (o : Obj) : Fr S W (W1.alloc o) := h.trans (S1 := fun _ => False) (of_below (below_alloc (Below.refl _ _) o)) (fun _ _ q => q.elim)
theorem drewN (h : Fr S W W1) (m : Nat) : Fr S W (W1.drewN m) := h.trans (S1 := fun _ => False) (of_below (pw_below_drewN (Below.refl _ _) m)) (fun _ _ q => q.elim)
theorem drew (h : Fr S W W1) : Fr S W W1.drew := h.trans (S1 := fun _ => False) (of_below (below_drew (Below.refl _ _))) (fun _ _ q => q.elim)
theorem setCell (h : Fr S W W1) {p : Addr} (hp : S p.block) (u : Value) : Fr S W (W1.setCell p u) :=
  h.trans (S1 := fun k => k = p.block) ⟨rfl, rfl, rfl, by simp [World.setCell], fun k _ hk => Below.heap_setCell W1 p u k hk⟩ (fun i _ q => by rw [q]; exact hp)
theorem old (h : Fr S W W1) {k : Nat} {o : Obj} (hk : ¬ S k) (ho : W.heap[k]? = some o) : W1.heap[k]? = some o := (h.block k (blk_lt ho) hk).trans ho
end Fr
end Go.Proofs.YtkigdcihhlkkdaaW.PrintWords
end
section
set_option linter.unusedVariables false
set_option linter.unusedSimpArgs false
namespace Go.Proofs.YtkigdcihhlkkdaaW.PrintLast
open Go.RowKit Go.Proofs.YtkigdcihhlkkdaaW.PrintWords
section
variable {P : Program} {md : Region.Mode} {ops : Array Oper} {T : Bool × List (List Nat × List Nat)} {Q : Exit → Act → World → Prop} {S : World → Prop} {ds : List Nat}
def chainL : List Bool → List Nat → List Bool
  | l, [] => l
  | l, j :: js => chainL (l.set j true) js
def chainT (T : Bool × List (List Nat × List Nat)) : List Bool → List Nat → Bool
  | _, [] => true
  | l, j :: js => anyT T l (l.set j true) j && chainT T (l.set j true) js
end
end Go.Proofs.YtkigdcihhlkkdaaW.PrintLast
namespace Go.Proofs.YtkigdcihhlkkdaaW.PrintLast
open Go.RowKit Go.Proofs.YtkigdcihhlkkdaaW.PrintWords
section
variable {P : Program} {ops : Array Oper} {Q : Exit → Act → World → Prop} {js : List Nat} {j : Nat} {oi : Oper} {N : Option Tmp} {v : Value} {a a1 a' : Act}
end
end Go.Proofs.YtkigdcihhlkkdaaW.PrintLast
namespace Go.Proofs.YtkigdcihhlkkdaaW.PrintLast
open Go.RowKit Go.Proofs.YtkigdcihhlkkdaaW.PrintWords
section
variable {P : Program} {md : Region.Mode} {ops : Array Oper} {T : Bool × List (List Nat × List Nat)} {Q : Exit → Act → World → Prop} {S : World → Prop} {ds : List Nat}
def pre (i n : Nat) : List Bool := List.replicate i true ++ List.replicate (n - i) false
end
end Go.Proofs.YtkigdcihhlkkdaaW.PrintLast
end
section
set_option linter.unusedVariables false
set_option linter.unusedSimpArgs false
namespace Go.Proofs.YtkigdcihhlkkdaaW.PrintLast
open Go.RowKit Go.Proofs.YtkigdcihhlkkdaaW.PrintWords
section
variable {P : Program} {md : Region.Mode} {ops : Array Oper} {T : Bool × List (List Nat × List Nat)} {Q : Exit → Act → World → Prop} {S : World → Prop}
theorem closed_next {l : Array Bool} {i : Nat} (h : ListedClosed md ops l) (hr : i ∈ Region.ready md ops l) : ListedClosed md ops (l.setIfInBounds i true) := by
  have mono : ∀ k, l.getD k false = true → (l.setIfInBounds i true).getD k false = true := by
    intro k hk
    by_cases e : i = k
    · subst e
      rw [Array.getD_eq_getD_getElem?] at hk ⊢
      rcases Nat.lt_or_ge i l.size with q | q
      · simp [q]
      · simp [Array.getElem?_eq_none q] at hk
    · rw [getD_set_ne false e]; exact hk
  intro j oj hj hl e he hb
  by_cases c : i = j
  · subst c
    obtain ⟨_, o, ho, hall⟩ := mem_ready.1 hr
    rw [ho] at hj
    obtain rfl := Option.some.inj hj
    exact mono _ (hall e he hb)
  · rw [getD_set_ne false c] at hl
    exact mono _ (h j oj hj hl e he hb)
def TakeRun (P : Program) (ops : Array Oper) (Q : Exit → Act → World → Prop) (S : World → Prop) : List Nat → Act → Act → Prop
  | [], a, a' => a = a'
  | j :: js, a, a' => ∃ (oi : Oper) (N : Option Tmp) (v : Value) (a1 : Act), ops[j]? = some oi ∧ oi.dst = N ∧ (∀ c a w, Q (.panic c) (a.put oi.dst v) w → Q (.panic c) a w) ∧ YieldsIf P ops S oi v a ∧ a.put N v = a1 ∧ TakeRun P ops Q S js a1 a'
section
variable {js : List Nat} {j : Nat} {oi : Oper} {d : Tmp} {v : Value} {a a1 a' : Act}
theorem tkN (hi : ops.toList[j]? = some oi) (hN : oi.dst = some d) (hQ : ∀ c a w, Q (.panic c) (a.put oi.dst undef) w → Q (.panic c) a w) (hw : Region.wanted oi (yielded ops a.tmps) = false) (ha : a.put (some d) undef = a1) (h : TakeRun P ops Q S js a1 a') : TakeRun P ops Q S (j :: js) a a' :=
  ⟨oi, some d, undef, a1, (Array.getElem?_toList ..).symm.trans hi, hN, hQ, .inr ⟨hw, rfl⟩, ha, h⟩
theorem tkY (hi : ops.toList[j]? = some oi) (hN : oi.dst = some d) (hQ : ∀ c a w, Q (.panic c) (a.put oi.dst v) w → Q (.panic c) a w) (hw : Region.wanted oi (yielded ops a.tmps) = true) (hy : ∀ w, S w → (execOp a.eval oi).run P w = .ok (.value v) w) (ha : a.put (some d) v = a1) (h : TakeRun P ops Q S js a1 a') : TakeRun P ops Q S (j :: js) a a' :=
  ⟨oi, some d, v, a1, (Array.getElem?_toList ..).symm.trans hi, hN, hQ, .inl ⟨hw, hy⟩, ha, h⟩
end
theorem takes_aux : ∀ (js : List Nat) (m : Nat) {n : Nat} {l : Array Bool} (l' : Array Bool) {a a' : Act} {w : World} (hn : n = m + js.length) (hT : rtab md ops = T) (hc : (chainT T l.toList js && chainL l.toList js == l'.toList) = true) (hcl : ListedClosed md ops l)
    (hS : S w) (hr : TakeRun P ops Q S js a a') (h : wpAnyLast P md ops Q S [] m l' a' w), wpAnyLast P md ops Q S [] n l a w
  | [], m, n, l, l', a, a', w, hn, hT, hc, hcl, hS, hr, h => by
    simp only [chainT, chainL, Bool.true_and, beq_iff_eq] at hc
    have : l = l' := Array.toList_inj.1 hc
    subst this
    cases hr
    simp at hn
    subst hn
    exact h
  | j :: js, m, n, l, l', a, a', w, hn, hT, hc, hcl, hS, hr, h => by
    obtain ⟨oi, N, v, a1, h1, h2, h3, h4, h5, h6⟩ := hr
    simp only [chainT, chainL, Bool.and_eq_true] at hc
    obtain ⟨⟨c1, c2⟩, c3⟩ := hc
    obtain ⟨n, rfl⟩ : ∃ q, n = q + 1 := ⟨n - 1, by simp at hn; omega⟩
    have hany : anyB md ops l (l.setIfInBounds j true) j = true := any_of hT (by rw [Array.toList_setIfInBounds]; exact c1)
    simp only [anyB, Bool.and_eq_true, beq_iff_eq] at hany
    obtain ⟨⟨⟨k1, k2⟩, k3⟩, _⟩ := hany
    have k3' : j ∈ Region.ready md ops l := by simpa using k3
    subst h5
    subst h2
    refine wpAnyLast_first h1 (Region.noSelect_spec k1) h3 ops.size n l a w (Region.free_spec h1 k2) hcl (fun d hm => by simp at hm) k3' h4 hS ?_
    exact takes_aux js m l' (by simp at hn; omega) hT (by rw [Array.toList_setIfInBounds, c2, Bool.true_and]; exact c3) (closed_next hcl k3') hS h6 h
theorem takes_ (js : List Nat) (m : Nat) {n : Nat} {l : Array Bool} (l' : Array Bool) {a a' : Act} {w : World} (hn : n = m + js.length) (hT : rtab md ops = T) (hc : (closedT T.2 l.toList && (chainT T l.toList js && chainL l.toList js == l'.toList)) = true)
    (hS : S w) (hr : TakeRun P ops Q S js a a') (h : wpAnyLast P md ops Q S [] m l' a' w) : wpAnyLast P md ops Q S [] n l a w := by
  rw [Bool.and_eq_true] at hc
  exact takes_aux js m l' hn hT hc.2 (Region.closedB_spec (by subst hT; rw [closed_eq]; exact hc.1)) hS hr h
end
end Go.Proofs.YtkigdcihhlkkdaaW.PrintLast
end
section
set_option linter.unusedVariables false
set_option linter.unusedSimpArgs false
namespace Go.Proofs.YtkigdcihhlkkdaaW.PrintWords
open Go.RowKit
namespace Kd
section
variable {d : Kd Int} {e : Nat} {w W w1 : World} {base base' : Nat} {ok ok' : Nat → Prop} {v u : Value} {xs : List Int} {g : Nat} {A : Option Addr} {n c : Nat}
end
section
variable {P : Program} {ops : Array Oper} {rest : List Oper} {o : Oper} {a : Act} {Q : Exit → Act → World → Prop} {Kc : Act → World → Prop} {W : World}
end
end Kd
end Go.Proofs.YtkigdcihhlkkdaaW.PrintWords
end
section
namespace Go.Proofs.Ytkigdcihhlkkdaa.P
open Go.RowKit Go.Proofs.YtkigdcihhlkkdaaW.PrintWords Go.Proofs.YtkigdcihhlkkdaaW.PrintLast Go.Proofs.YtkigdcihhlkkdaaW.PrintMore
attribute [local go_sem] max2_int min2_int max_two min_two max_three min_three max_four min_four   -- for this text's walks alone
set_option linter.unusedVariables false
set_option linter.unusedSimpArgs false
@[reducible] def bls_ : List Nat → Bool → List Bool
  | [], _ => []
  | n :: l, b => List.replicate n b ++ bls_ l (!b)
@[reducible] def bl_ (l : List Nat) : Array Bool := (bls_ l true).toArray
def errW : Option Int → Value
  | none => .nilIface
  | some c => .iface 0 (.int .i64 c)
theorem errW_none : errW none = .nilIface := rfl
theorem errW_some (c : Int) : errW (some c) = .iface 0 (.int .i64 c) := rfl
theorem info3 : (Try.prog.info? 3).map (fun i => (i.zero, i.size, i.bytes)) = some (some (.int .i64 0), 1, 8) := by kernel_rfl
theorem info5 : (Try.prog.info? 5).map (fun i => (i.zero, i.size, i.bytes)) = some (some (.int .u8 0), 1, 1) := by kernel_rfl
theorem info21 : (Try.prog.info? 21).map (fun i => (i.zero, i.size, i.bytes)) = some (some (.int .i32 0), 1, 4) := by kernel_rfl
theorem info45 : (Try.prog.info? 45).map (fun i => (i.zero, i.size, i.bytes)) = some (some (.agg #[(.int .i32 0), (.int .i64 0), (.int .i64 0)]), 3, 24) := by kernel_rfl
theorem info78 : (Try.prog.info? 78).map (fun i => (i.zero, i.size, i.bytes)) = some (some (.agg #[(.int .i64 0), (.int .i32 0), (.int .i64 0), (.int .i64 0)]), 4, 32) := by kernel_rfl
structure S45 where
  f0 : Int
  f1 : Int
  f2 : Int
def z45 : S45 := ⟨(0 : Int), (0 : Int), (0 : Int)⟩
def k45 : Kd S45 := Kd.iso (Kd.pair (Kd.int .i32) (Kd.pair (Kd.int .i64) (Kd.int .i64))) (fun x : S45 => (x.f0, x.f1, x.f2))
theorem k45_open {w : World} {x : S45} {cs : List Value} (h : k45.K w x cs) : cs = [.int .i32 x.f0, .int .i64 x.f1, .int .i64 x.f2] := by
  obtain ⟨_, _, rfl, rfl, ⟨_, _, rfl, rfl, rfl⟩⟩ := h
  exact rfl
theorem k45_openM {w : World} {base : Nat} {ok : Nat → Prop} {x : S45} {cs : List Value} (h : k45.M w base ok x cs) : cs = [.int .i32 x.f0, .int .i64 x.f1, .int .i64 x.f2] := by
  obtain ⟨_, _, rfl, rfl, ⟨_, _, rfl, rfl, rfl⟩⟩ := h
  exact rfl
theorem k45_mk (w : World) (x : S45)  : k45.K w x [.int .i32 x.f0, .int .i64 x.f1, .int .i64 x.f2] := ⟨[.int .i32 x.f0], [.int .i64 x.f1, .int .i64 x.f2], rfl, rfl, ⟨[.int .i64 x.f1], [.int .i64 x.f2], rfl, rfl, rfl⟩⟩
theorem k45_mkM (w : World) (base : Nat) (ok : Nat → Prop) (x : S45)  : k45.M w base ok x [.int .i32 x.f0, .int .i64 x.f1, .int .i64 x.f2] := ⟨[.int .i32 x.f0], [.int .i64 x.f1, .int .i64 x.f2], rfl, rfl, ⟨[.int .i64 x.f1], [.int .i64 x.f2], rfl, rfl, rfl⟩⟩
def rd_T45 (xs : List S45) (i : Int) : S45 := xs.getD i.toNat z45
theorem at_T45 {w : World} {A : Option Addr} {n : Nat} {xs : List S45} (h : Kd.C k45 w A n xs) (i : Int) (h0 : 0 ≤ i) (h1 : i < n) : ∃ ad , A = some ad ∧ w.cell? (ad.add (i.toNat * 3)) = some (.int .i32 (rd_T45 xs i).f0) ∧ w.cell? ⟨(ad.add (i.toNat * 3)).block, (ad.add (i.toNat * 3)).off + 1, none⟩ = some (.int .i64 (rd_T45 xs i).f1) ∧ w.cell? ⟨(ad.add (i.toNat * 3)).block, (ad.add (i.toNat * 3)).off + 2, none⟩ = some (.int .i64 (rd_T45 xs i).f2) := by
  obtain ⟨ad, c, e, _, hK, hc0⟩ := Kd.C_get h z45 i h0 h1
  have hc : ∀ j u, c[j]? = some u → w.cell? (ad.add (i.toNat * 3 + j)) = some u := hc0
  obtain rfl := k45_open hK
  exact ⟨ad, e, hc 0 _ rfl, by rw [← add_field _ _ 1 (by omega)]; exact hc 1 _ rfl, by rw [← add_field _ _ 2 (by omega)]; exact hc 2 _ rfl⟩
structure S78 where
  f0 : Int
  f1 : S45
def z78 : S78 := ⟨(0 : Int), z45⟩
def k78 : Kd S78 := Kd.iso (Kd.pair (Kd.int .i64) k45) (fun x : S78 => (x.f0, x.f1))
theorem k78_open {w : World} {x : S78} {cs : List Value} (h : k78.K w x cs) : cs = [.int .i64 x.f0, .int .i32 x.f1.f0, .int .i64 x.f1.f1, .int .i64 x.f1.f2] := by
  obtain ⟨_, _, rfl, rfl, s1⟩ := h
  obtain rfl := k45_open s1
  exact rfl
theorem k78_openM {w : World} {base : Nat} {ok : Nat → Prop} {x : S78} {cs : List Value} (h : k78.M w base ok x cs) : cs = [.int .i64 x.f0, .int .i32 x.f1.f0, .int .i64 x.f1.f1, .int .i64 x.f1.f2] := by
  obtain ⟨_, _, rfl, rfl, s1⟩ := h
  obtain rfl := k45_openM s1
  exact rfl
theorem k78_mkM (w : World) (base : Nat) (ok : Nat → Prop) (x : S78)  : k78.M w base ok x [.int .i64 x.f0, .int .i32 x.f1.f0, .int .i64 x.f1.f1, .int .i64 x.f1.f2] := ⟨[.int .i64 x.f0], [.int .i32 x.f1.f0, .int .i64 x.f1.f1, .int .i64 x.f1.f2], rfl, rfl, (k45_mkM w base ok x.f1 )⟩
def rd_T78 (xs : List S78) (i : Int) : S78 := xs.getD i.toNat z78
theorem at_T78 {w : World} {A : Option Addr} {n : Nat} {xs : List S78} (h : Kd.C k78 w A n xs) (i : Int) (h0 : 0 ≤ i) (h1 : i < n) : ∃ ad , A = some ad ∧ w.cell? (ad.add (i.toNat * 4)) = some (.int .i64 (rd_T78 xs i).f0) ∧ w.cell? ⟨(ad.add (i.toNat * 4)).block, (ad.add (i.toNat * 4)).off + 1, none⟩ = some (.int .i32 (rd_T78 xs i).f1.f0) ∧ w.cell? ⟨(ad.add (i.toNat * 4)).block, (ad.add (i.toNat * 4)).off + 2, none⟩ = some (.int .i64 (rd_T78 xs i).f1.f1) ∧ w.cell? ⟨(ad.add (i.toNat * 4)).block, (ad.add (i.toNat * 4)).off + 3, none⟩ = some (.int .i64 (rd_T78 xs i).f1.f2) := by
  obtain ⟨ad, c, e, _, hK, hc0⟩ := Kd.C_get h z78 i h0 h1
  have hc : ∀ j u, c[j]? = some u → w.cell? (ad.add (i.toNat * 4 + j)) = some u := hc0
  obtain rfl := k78_open hK
  exact ⟨ad, e, hc 0 _ rfl, by rw [← add_field _ _ 1 (by omega)]; exact hc 1 _ rfl, by rw [← add_field _ _ 2 (by omega)]; exact hc 2 _ rfl, by rw [← add_field _ _ 3 (by omega)]; exact hc 3 _ rfl⟩
def rd_L5 (xs : List (List Int)) (i : Int) : (List Int) := xs.getD i.toNat ([] : List Int)
theorem at_L5 {w : World} {A : Option Addr} {n : Nat} {xs : List (List Int)} (h : Kd.C (Kd.slice 5 (Kd.int .u8)) w A n xs) (i : Int) (h0 : 0 ≤ i) (h1 : i < n) : ∃ ad A0 c0, A = some ad ∧ w.cell? (ad.add i.toNat) = some (.slice A0 (rd_L5 xs i).length c0) ∧ (rd_L5 xs i).length ≤ c0 ∧ (Kd.int .u8).C w A0 (rd_L5 xs i).length (rd_L5 xs i) := by
  obtain ⟨ad, c, e, _, hK, hc0⟩ := Kd.C_get h ([] : List Int) i h0 h1
  have hc : ∀ j u, c[j]? = some u → w.cell? (ad.add (i.toNat * 1 + j)) = some u := hc0
  obtain ⟨A0, c0, rfl, l0, g0⟩ := hK
  exact ⟨ad, A0, c0, e, by have hq := hc 0 _ rfl; rwa [Nat.mul_one, Nat.add_zero] at hq, l0, g0⟩
structure S31 where
  f0 : (List S45)
  f1 : Bool
end Go.Proofs.Ytkigdcihhlkkdaa.P
end
section
set_option linter.unusedVariables false
set_option linter.unusedSimpArgs false
namespace Go.Proofs.Ytkigdcihhlkkdaa.P
open Go.RowKit Go.Proofs.YtkigdcihhlkkdaaW.PrintWords Go.Proofs.YtkigdcihhlkkdaaW.PrintLast Go.Proofs.YtkigdcihhlkkdaaW.PrintMore
theorem blk3 {W : World} {g t : Nat} {a b c : Value} (h : W.heap[g]? = some (.cells #[a, b, c] t (0, 0))) : W.cell? ⟨g, 0, none⟩ = some a ∧ W.cell? ⟨g, 1, none⟩ = some b ∧ W.cell? ⟨g, 2, none⟩ = some c :=
  ⟨(blk_cell h 0).trans rfl, (blk_cell h 1).trans rfl, (blk_cell h 2).trans rfl⟩
def SC (W : World) (c : S45) (w : World) : Prop := (w.cell? ⟨W.heap.size, 0, none⟩ = some (.int .i32 c.f0) ∧ w.cell? ⟨W.heap.size, 1, none⟩ = some (.int .i64 c.f1) ∧ w.cell? ⟨W.heap.size, 2, none⟩ = some (.int .i64 c.f2)) ∧ Aside0 (w.heap[W.heap.size]? = some (.cells #[.int .i32 c.f0, .int .i64 c.f1, .int .i64 c.f2] 45 (0, 0)) ∧ Below W.heap.size W w)
theorem SC.mk' {W w : World} {c : S45} (h : w.heap[W.heap.size]? = some (.cells #[.int .i32 c.f0, .int .i64 c.f1, .int .i64 c.f2] 45 (0, 0))) (hb : Below W.heap.size W w) : SC W c w := ⟨blk3 h, ⟨h, hb⟩⟩
theorem SC.next {W w w' : World} {c : S45} (h : SC W c w) (hb : Below w.heap.size w w') : SC W c w' :=
  SC.mk' (blk_below h.2.out.1 hb) (h.2.out.2.trans (hb.mono h.2.out.2.size))
end Go.Proofs.Ytkigdcihhlkkdaa.P
end
section
namespace Go.Proofs.Ytkigdcihhlkkdaa.P
open Go.RowKit Go.Proofs.YtkigdcihhlkkdaaW.PrintWords Go.Proofs.YtkigdcihhlkkdaaW.PrintLast Go.Proofs.YtkigdcihhlkkdaaW.PrintMore
attribute [local go_sem] max2_int min2_int max_two min_two max_three min_three max_four min_four   -- for this text's walks alone
set_option linter.unusedVariables false
set_option linter.unusedSimpArgs false
theorem eqA45 (d : Nat) (w : World) (x0 y0 : Int) (x1 y1 : Int) (x2 y2 : Int) :
    (Op.equalIn (d + 2) 45 (.agg #[.int .i32 x0, .int .i64 x1, .int .i64 x2]) (.agg #[.int .i32 y0, .int .i64 y1, .int .i64 y2])).run Try.prog w = .ok (x0 == y0 && (x1 == y1 && (x2 == y2))) w := by
  refine eqA_of Try.underlying45 (by kernel_rfl) ?_
  refine eqf_cons (by rfl) (by go_simp; rfl) (by go_simp; rfl) (by go_simp) ?_
  refine eqf_cons (by rfl) (by go_simp; rfl) (by go_simp; rfl) (by go_simp) ?_
  exact eqf_last (by rfl) (by go_simp; rfl) (by go_simp; rfl) (by go_simp)
end Go.Proofs.Ytkigdcihhlkkdaa.P
end
section
namespace Go.Proofs.Ytkigdcihhlkkdaa.P
open Go.RowKit Go.Proofs.YtkigdcihhlkkdaaW.PrintWords Go.Proofs.YtkigdcihhlkkdaaW.PrintLast Go.Proofs.YtkigdcihhlkkdaaW.PrintMore
attribute [local go_sem] max2_int min2_int max_two min_two max_three min_three max_four min_four   -- for this text's walks alone
set_option linter.unusedVariables false
set_option linter.unusedSimpArgs false
def rotulusref1_Width.zeros : List (Int × Int) := [(-2147483648, 31), (127, 159), (768, 879), (8203, 8207), (65024, 65039), (1114112, 2147483647), (55296, 57343)]
def rotulusref1_Width.wides : List (Int × Int) := [(4352, 4447), (11904, 12350), (12353, 13311), (13312, 19903), (19968, 40959), (40960, 42191), (44032, 55203), (63744, 64255), (65072, 65135), (65280, 65376), (65504, 65510), (127744, 128591), (129280, 129535), (131072, 262141)]
def rotulusref1_Width.isIn (l : List (Int × Int)) (r : Int) : Bool := l.any fun p => decide (p.1 ≤ r) && decide (r ≤ p.2)
def rotulusref1_Width.w (r : Int) : Int := if rotulusref1_Width.isIn rotulusref1_Width.zeros r = true then 0 else if rotulusref1_Width.isIn rotulusref1_Width.wides r = true then 2 else 1
def rotulusref1_Width.f (a0 : Int) : Option Int := some (rotulusref1_Width.w a0)
def rotulusref1_Width.cells (l : List (Int × Int)) : List Value := l.flatMap fun p => [.int .i32 p.1, .int .i32 p.2]
theorem rotulusref1_Width.yes (l : List (Int × Int)) (r : Int) (i : Nat) (hi : i < l.length) (h1 : l[i].1 ≤ r) (h2 : r ≤ l[i].2) : rotulusref1_Width.isIn l r = true := by
  unfold rotulusref1_Width.isIn
  rw [List.any_eq_true]
  exact ⟨l[i], List.getElem_mem hi, by simp [h1, h2]⟩
theorem rotulusref1_Width.no (l : List (Int × Int)) (r : Int) (h : ∀ i, ∀ hi : i < l.length, ¬ (l[i].1 ≤ r ∧ r ≤ l[i].2)) : rotulusref1_Width.isIn l r = false := by
  unfold rotulusref1_Width.isIn
  rw [List.any_eq_false]
  intro p hp
  obtain ⟨i, hi, rfl⟩ := List.mem_iff_getElem.1 hp
  have := h i hi
  simp
  intro h1
  by_cases h2 : r ≤ l[i].2
  · exact absurd ⟨h1, h2⟩ this
  · omega
theorem rotulusref1_Width.row (W : World) (B : Nat) (l : List (Int × Int)) (hW : W.heap[B]? = some (.cells (rotulusref1_Width.cells l).toArray 96 (0, 0))) (i : Nat) (hi : i < l.length) :
    W.cell? ⟨B, i * 2, none⟩ = some (.int .i32 l[i].1) ∧ W.cell? ⟨B, i * 2 + 1, none⟩ = some (.int .i32 l[i].2) := by
  have key : ∀ (l : List (Int × Int)) (i : Nat) (hi : i < l.length), (rotulusref1_Width.cells l)[i * 2]? = some (.int .i32 l[i].1) ∧ (rotulusref1_Width.cells l)[i * 2 + 1]? = some (.int .i32 l[i].2) := by
    intro l
    induction l with
    | nil => intro i hi; simp at hi
    | cons p l ih =>
      intro i hi
      cases i with
      | zero => simp [rotulusref1_Width.cells]
      | succ i =>
        have := ih i (by simpa using hi)
        have e1 : (i + 1) * 2 = i * 2 + 2 := by omega
        simp only [rotulusref1_Width.cells, List.flatMap_cons, e1] at this ⊢
        simpa using this
  have k := key l i hi
  constructor
  · simp only [World.cell?, hW]
    simpa using k.1
  · simp only [World.cell?, hW]
    simpa using k.2
set_option maxHeartbeats 4000000 in
set_option maxRecDepth 100000 in
theorem rotulusref1_Width.calls (a0 : Int) (r : Int) (w : World) (h : rotulusref1_Width.f a0 = some r) :
    Calls Try.prog 59 #[.int .i32 a0] w fun e w' => e = .returned (.int .i64 r) ∧ Below w.heap.size w w' := by
  obtain rfl := Option.some.inj h
  clear h
  go_enter Try.func59, Try.ntmps59
  go_wp2
  have HB : Aside0 (Below w.heap.size w ((w.alloc (.cells #[.int .i32 (-2147483648), .int .i32 31, .int .i32 127, .int .i32 159, .int .i32 768, .int .i32 879, .int .i32 8203, .int .i32 8207, .int .i32 65024, .int .i32 65039, .int .i32 1114112, .int .i32 2147483647, .int .i32 55296, .int .i32 57343] 96)).alloc (.cells #[.int .i32 4352, .int .i32 4447, .int .i32 11904, .int .i32 12350, .int .i32 12353, .int .i32 13311, .int .i32 13312, .int .i32 19903, .int .i32 19968, .int .i32 40959, .int .i32 40960, .int .i32 42191, .int .i32 44032, .int .i32 55203, .int .i32 63744, .int .i32 64255, .int .i32 65072, .int .i32 65135, .int .i32 65280, .int .i32 65376, .int .i32 65504, .int .i32 65510, .int .i32 127744, .int .i32 128591, .int .i32 129280, .int .i32 129535, .int .i32 131072, .int .i32 262141] 96))) := ⟨below_alloc (below_alloc (Below.refl _ _) _) _⟩
  have hz : Aside0 (((w.alloc (.cells #[.int .i32 (-2147483648), .int .i32 31, .int .i32 127, .int .i32 159, .int .i32 768, .int .i32 879, .int .i32 8203, .int .i32 8207, .int .i32 65024, .int .i32 65039, .int .i32 1114112, .int .i32 2147483647, .int .i32 55296, .int .i32 57343] 96)).alloc (.cells #[.int .i32 4352, .int .i32 4447, .int .i32 11904, .int .i32 12350, .int .i32 12353, .int .i32 13311, .int .i32 13312, .int .i32 19903, .int .i32 19968, .int .i32 40959, .int .i32 40960, .int .i32 42191, .int .i32 44032, .int .i32 55203, .int .i32 63744, .int .i32 64255, .int .i32 65072, .int .i32 65135, .int .i32 65280, .int .i32 65376, .int .i32 65504, .int .i32 65510, .int .i32 127744, .int .i32 128591, .int .i32 129280, .int .i32 129535, .int .i32 131072, .int .i32 262141] 96)).heap[w.heap.size]? = some (.cells (rotulusref1_Width.cells rotulusref1_Width.zeros).toArray 96 (0, 0))) := ⟨blk_alloc (blk_new w _) _⟩
  have hwd : Aside0 (((w.alloc (.cells #[.int .i32 (-2147483648), .int .i32 31, .int .i32 127, .int .i32 159, .int .i32 768, .int .i32 879, .int .i32 8203, .int .i32 8207, .int .i32 65024, .int .i32 65039, .int .i32 1114112, .int .i32 2147483647, .int .i32 55296, .int .i32 57343] 96)).alloc (.cells #[.int .i32 4352, .int .i32 4447, .int .i32 11904, .int .i32 12350, .int .i32 12353, .int .i32 13311, .int .i32 13312, .int .i32 19903, .int .i32 19968, .int .i32 40959, .int .i32 40960, .int .i32 42191, .int .i32 44032, .int .i32 55203, .int .i32 63744, .int .i32 64255, .int .i32 65072, .int .i32 65135, .int .i32 65280, .int .i32 65376, .int .i32 65504, .int .i32 65510, .int .i32 127744, .int .i32 128591, .int .i32 129280, .int .i32 129535, .int .i32 131072, .int .i32 262141] 96)).heap[w.heap.size + 1]? = some (.cells (rotulusref1_Width.cells rotulusref1_Width.wides).toArray 96 (0, 0))) := ⟨by have h_ := blk_new (w.alloc (.cells #[.int .i32 (-2147483648), .int .i32 31, .int .i32 127, .int .i32 159, .int .i32 768, .int .i32 879, .int .i32 8203, .int .i32 8207, .int .i32 65024, .int .i32 65039, .int .i32 1114112, .int .i32 2147483647, .int .i32 55296, .int .i32 57343] 96)) (.cells #[.int .i32 4352, .int .i32 4447, .int .i32 11904, .int .i32 12350, .int .i32 12353, .int .i32 13311, .int .i32 13312, .int .i32 19903, .int .i32 19968, .int .i32 40959, .int .i32 40960, .int .i32 42191, .int .i32 44032, .int .i32 55203, .int .i32 63744, .int .i32 64255, .int .i32 65072, .int .i32 65135, .int .i32 65280, .int .i32 65376, .int .i32 65504, .int .i32 65510, .int .i32 127744, .int .i32 128591, .int .i32 129280, .int .i32 129535, .int .i32 131072, .int .i32 262141] 96); rw [World.size_alloc] at h_; exact h_⟩
  generalize (w.alloc (.cells #[.int .i32 (-2147483648), .int .i32 31, .int .i32 127, .int .i32 159, .int .i32 768, .int .i32 879, .int .i32 8203, .int .i32 8207, .int .i32 65024, .int .i32 65039, .int .i32 1114112, .int .i32 2147483647, .int .i32 55296, .int .i32 57343] 96)).alloc (.cells #[.int .i32 4352, .int .i32 4447, .int .i32 11904, .int .i32 12350, .int .i32 12353, .int .i32 13311, .int .i32 13312, .int .i32 19903, .int .i32 19968, .int .i32 40959, .int .i32 40960, .int .i32 42191, .int .i32 44032, .int .i32 55203, .int .i32 63744, .int .i32 64255, .int .i32 65072, .int .i32 65135, .int .i32 65280, .int .i32 65376, .int .i32 65504, .int .i32 65510, .int .i32 127744, .int .i32 128591, .int .i32 129280, .int .i32 129535, .int .i32 131072, .int .i32 262141] 96) = W at HB hz hwd ⊢
  go_loopg [5] 7 (fun gg s wr => ∃ kk : Nat, kk ≤ 7 ∧ 7 - kk ≤ gg ∧ s = .int .i64 kk ∧ Aside0 (wr = W) ∧ Aside0 (∀ i, i < kk → ∀ hi : i < rotulusref1_Width.zeros.length, ¬ (rotulusref1_Width.zeros[i].1 ≤ a0 ∧ a0 ≤ rotulusref1_Width.zeros[i].2)))
  case atStart => exact ⟨0, Nat.zero_le _, by omega, rfl, ⟨rfl⟩, ⟨fun i hi => absurd hi (Nat.not_lt_zero _)⟩⟩
  case round =>
    obtain ⟨kk, hkk, hg, rfl, hwr, HA⟩ := hrel
    obtain rfl := hwr.out
    clear hwr
    by_cases hlt : kk < 7
    · have hltz : (kk : Int) < 7 := by omega
      have hi : kk < rotulusref1_Width.zeros.length := hlt
      obtain ⟨hx0, hx1⟩ := rotulusref1_Width.row wr w.heap.size rotulusref1_Width.zeros hz.out kk hi
      have hyes := Lib.hid (rotulusref1_Width.yes rotulusref1_Width.zeros a0 kk hi)
      obtain ⟨lo, hlo⟩ : ∃ lo, lo = rotulusref1_Width.zeros[kk].1 := ⟨_, rfl⟩
      obtain ⟨hi_, hhi⟩ : ∃ hi_, hi_ = rotulusref1_Width.zeros[kk].2 := ⟨_, rfl⟩
      rw [← hlo] at hx0
      rw [← hhi] at hx1
      have Hlo := Lib.hid hlo
      have Hhi := Lib.hid hhi
      clear hlo hhi
      by_cases h1 : lo ≤ a0
      · by_cases h2 : a0 ≤ hi_
        · have hin := Lib.hid (hyes.out (by rw [← Hlo.out]; exact h1) (by rw [← Hhi.out]; exact h2))
          clear hyes HA
          have d1 : decide (a0 ≥ lo) = true := by simpa using h1
          have d2 : decide (a0 ≤ hi_) = true := by simpa using h2
          go_wp2
          go_ret
          exact ⟨by rw [rotulusref1_Width.w, if_pos hin.out] <;> rfl, HB.out⟩
        · have HA2 : Aside0 (∀ i, i < kk + 1 → ∀ hi : i < rotulusref1_Width.zeros.length, ¬ (rotulusref1_Width.zeros[i].1 ≤ a0 ∧ a0 ≤ rotulusref1_Width.zeros[i].2)) := ⟨fun i hi hl hh => by
            by_cases e : i = kk
            · subst e
              exact h2 (by rw [Hhi.out]; exact hh.2)
            · exact HA.out i (by omega) hl hh⟩
          clear HA hyes
          have d1 : decide (a0 ≥ lo) = true := by simpa using h1
          have d2 : decide (a0 ≤ hi_) = false := by simpa using h2
          go_wp2
          go_roundg (7 - (kk + 1))
          case measure => omega
          case rel => exact ⟨kk + 1, by omega, by omega, by go_num, ⟨rfl⟩, HA2⟩
      · have HA2 : Aside0 (∀ i, i < kk + 1 → ∀ hi : i < rotulusref1_Width.zeros.length, ¬ (rotulusref1_Width.zeros[i].1 ≤ a0 ∧ a0 ≤ rotulusref1_Width.zeros[i].2)) := ⟨fun i hi hl hh => by
          by_cases e : i = kk
          · subst e
            exact h1 (by rw [Hlo.out]; exact hh.1)
          · exact HA.out i (by omega) hl hh⟩
        clear HA hyes
        have d1 : decide (a0 ≥ lo) = false := by simpa using h1
        go_wp2
        go_roundg (7 - (kk + 1))
        case measure => omega
        case rel => exact ⟨kk + 1, by omega, by omega, by go_num, ⟨rfl⟩, HA2⟩
    · have hltz : ¬ (kk : Int) < 7 := by omega
      obtain rfl : kk = 7 := by omega
      have hout := Lib.hid (rotulusref1_Width.no rotulusref1_Width.zeros a0 fun i hi => HA.out i hi hi)
      clear HA
      go_wp2
      have hout0 := hout
      clear hout
      obtain ⟨W2, hW2⟩ : ∃ W2, W2 = wr := ⟨_, rfl⟩
      subst hW2
      go_loopg [6] 14 (fun gg s wr => ∃ kk : Nat, kk ≤ 14 ∧ 14 - kk ≤ gg ∧ s = .int .i64 kk ∧ Aside0 (wr = W2) ∧ Aside0 (∀ i, i < kk → ∀ hi : i < rotulusref1_Width.wides.length, ¬ (rotulusref1_Width.wides[i].1 ≤ a0 ∧ a0 ≤ rotulusref1_Width.wides[i].2)))
      case atStart => exact ⟨0, Nat.zero_le _, by omega, rfl, ⟨rfl⟩, ⟨fun i hi => absurd hi (Nat.not_lt_zero _)⟩⟩
      case round =>
        obtain ⟨kk, hkk, hg, rfl, hwr, HA⟩ := hrel
        obtain rfl := hwr.out
        clear hwr
        by_cases hlt : kk < 14
        · have hltz : (kk : Int) < 14 := by omega
          have hi : kk < rotulusref1_Width.wides.length := hlt
          obtain ⟨hx0, hx1⟩ := rotulusref1_Width.row wr (w.heap.size + 1) rotulusref1_Width.wides hwd.out kk hi
          have hyes := Lib.hid (rotulusref1_Width.yes rotulusref1_Width.wides a0 kk hi)
          obtain ⟨lo, hlo⟩ : ∃ lo, lo = rotulusref1_Width.wides[kk].1 := ⟨_, rfl⟩
          obtain ⟨hi_, hhi⟩ : ∃ hi_, hi_ = rotulusref1_Width.wides[kk].2 := ⟨_, rfl⟩
          rw [← hlo] at hx0
          rw [← hhi] at hx1
          have Hlo := Lib.hid hlo
          have Hhi := Lib.hid hhi
          clear hlo hhi
          by_cases h1 : lo ≤ a0
          · by_cases h2 : a0 ≤ hi_
            · have hin := Lib.hid (hyes.out (by rw [← Hlo.out]; exact h1) (by rw [← Hhi.out]; exact h2))
              clear hyes HA
              have d1 : decide (a0 ≥ lo) = true := by simpa using h1
              have d2 : decide (a0 ≤ hi_) = true := by simpa using h2
              go_wp2
              go_ret
              exact ⟨by rw [rotulusref1_Width.w, if_neg (by rw [hout0.out]; decide), if_pos hin.out] <;> rfl, HB.out⟩
            · have HA2 : Aside0 (∀ i, i < kk + 1 → ∀ hi : i < rotulusref1_Width.wides.length, ¬ (rotulusref1_Width.wides[i].1 ≤ a0 ∧ a0 ≤ rotulusref1_Width.wides[i].2)) := ⟨fun i hi hl hh => by
                by_cases e : i = kk
                · subst e
                  exact h2 (by rw [Hhi.out]; exact hh.2)
                · exact HA.out i (by omega) hl hh⟩
              clear HA hyes
              have d1 : decide (a0 ≥ lo) = true := by simpa using h1
              have d2 : decide (a0 ≤ hi_) = false := by simpa using h2
              go_wp2
              go_roundg (14 - (kk + 1))
              case measure => omega
              case rel => exact ⟨kk + 1, by omega, by omega, by go_num, ⟨rfl⟩, HA2⟩
          · have HA2 : Aside0 (∀ i, i < kk + 1 → ∀ hi : i < rotulusref1_Width.wides.length, ¬ (rotulusref1_Width.wides[i].1 ≤ a0 ∧ a0 ≤ rotulusref1_Width.wides[i].2)) := ⟨fun i hi hl hh => by
              by_cases e : i = kk
              · subst e
                exact h1 (by rw [Hlo.out]; exact hh.1)
              · exact HA.out i (by omega) hl hh⟩
            clear HA hyes
            have d1 : decide (a0 ≥ lo) = false := by simpa using h1
            go_wp2
            go_roundg (14 - (kk + 1))
            case measure => omega
            case rel => exact ⟨kk + 1, by omega, by omega, by go_num, ⟨rfl⟩, HA2⟩
        · have hltz : ¬ (kk : Int) < 14 := by omega
          obtain rfl : kk = 14 := by omega
          have hout := Lib.hid (rotulusref1_Width.no rotulusref1_Width.wides a0 fun i hi => HA.out i hi hi)
          clear HA
          go_wp2
          go_ret
          exact ⟨by rw [rotulusref1_Width.w, if_neg (by rw [hout0.out]; decide), if_neg (by rw [hout.out]; decide)] <;> rfl, HB.out⟩
end Go.Proofs.Ytkigdcihhlkkdaa.P
end
section
namespace Go.Proofs.Ytkigdcihhlkkdaa.P
open Go.RowKit Go.Proofs.YtkigdcihhlkkdaaW.PrintWords Go.Proofs.YtkigdcihhlkkdaaW.PrintLast Go.Proofs.YtkigdcihhlkkdaaW.PrintMore
attribute [local go_sem] max2_int min2_int max_two min_two max_three min_three max_four min_four   -- for this text's walks alone
set_option linter.unusedVariables false
set_option linter.unusedSimpArgs false
def rotulusref1_Pad.f  : Option (Int × Int × Int) := some (0, 1, 0)
set_option maxHeartbeats 8000000 in
set_option maxRecDepth 100000 in
theorem rotulusref1_Pad.calls  (r1 : Int) (r2 : Int) (r3 : Int) (w : World) (h : rotulusref1_Pad.f  = some (r1, r2, r3)) :
    Calls Try.prog 67 #[] w fun e w' => e = .returned (.agg #[.int .i32 r1, .int .i64 r2, .int .i64 r3]) ∧ Below w.heap.size w w' := by
  have hu45 := Try.underlying45
  have HB := Aside0.mk (Below.refl w.heap.size w)
  have H : (some (0, 1, 0)) = some (r1, r2, r3) := h
  clear h
  simp only [Option.some.injEq, Prod.mk.injEq] at H
  obtain ⟨rfl, rfl, rfl⟩ := H
  go_enter Try.func67, Try.ntmps67
  go_wp2_with (first | ((with_reducible refine gate_dst (N := 0) rfl ?_); refine box_event ?hg (N := 0) ?hd (cs := #[.int .i32 0, .int .i64 0, .int .i64 0]) (t := 45) ?hr ?_; (case hd => rfl); (case hg => rfl); (case hr => first | (go_simp; done) | (go_simp; rfl)); intro gb493 hg w1 hbox hb; have n0_ := Aside0.mk (below_step (by repeat (first | (with_reducible first | exact HB.out | apply below_alloc | apply pw_below_drewN | apply below_drew1) | exact HB.out)) hb); have n1_ := Aside0.mk (hbox); have n2_ := Aside0.mk ((by rw [hg]; exact (below_size (by repeat (first | (with_reducible first | exact HB.out | apply below_alloc | apply pw_below_drewN | apply below_drew1) | exact HB.out))) : w.heap.size ≤ gb493)); have n3_ := Aside0.mk ((by rw [hg]; exact (below_size (by repeat (first | (with_reducible first | exact HB.out | apply below_alloc | apply pw_below_drewN | apply below_drew1) | exact HB.out))) : w.heap.size ≤ gb493)); clear HB; have HB := n0_; have BK493 := n1_; have GW493 := n2_; have GE493 := n3_; clear n0_ n1_ n2_ n3_; clear hb hbox hg; have hcz2_0 : w1.cell? ⟨gb493, 0, none⟩ = some (.int .i32 0) := (blk_cell BK493.out 0).trans rfl; have hcz2_1 : w1.cell? ⟨gb493, 1, none⟩ = some (.int .i64 0) := (blk_cell BK493.out 1).trans rfl; have hcz2_2 : w1.cell? ⟨gb493, 2, none⟩ = some (.int .i64 0) := (blk_cell BK493.out 2).trans rfl; have hfz2_0 := blk_frozen BK493.out 0; have hfz2_1 := blk_frozen BK493.out 1; have hfz2_2 := blk_frozen BK493.out 2))
  refine bodyPost_ret (results_cell_row rfl _ _ gb493 45 #[.int .i32 0, .int .i64 1, .int .i64 0] (0, 0) _ rfl (by (with_reducible repeat (first | refine blk_drewN ?_ _ | refine blk_drew ?_ | refine blk_alloc ?_ _)); refine blk_put (cs := #[.int .i32 0, .int .i64 1, .int .i64 0]) ?_ 2 _ rfl; (with_reducible repeat (first | refine blk_drewN ?_ _ | refine blk_drew ?_ | refine blk_alloc ?_ _)); refine blk_put (cs := #[.int .i32 0, .int .i64 0, .int .i64 0]) ?_ 1 _ rfl; (with_reducible repeat (first | refine blk_drewN ?_ _ | refine blk_drew ?_ | refine blk_alloc ?_ _)); refine blk_put (cs := #[.int .i32 0, .int .i64 0, .int .i64 0]) ?_ 0 _ rfl; (with_reducible repeat (first | refine blk_drewN ?_ _ | refine blk_drew ?_ | refine blk_alloc ?_ _)); exact BK493.out) Try.underlying45 rfl (by kernel_rfl)) rfl ?_
  exact ⟨by first | rfl | (simp [errW_none, errW_some] <;> rfl) | (simp [*, errW_none, errW_some] <;> rfl), by repeat (first | (with_reducible first | exact HB.out | apply below_alloc | apply pw_below_drewN | apply below_drew1 | refine below_set ?_ GE493.out) | exact HB.out)⟩
end Go.Proofs.Ytkigdcihhlkkdaa.P
end
section
set_option linter.unusedVariables false
set_option linter.unusedSimpArgs false
namespace Go.Proofs.Ytkigdcihhlkkdaa.P
open Go.RowKit Go.Proofs.YtkigdcihhlkkdaaW.PrintWords Go.Proofs.YtkigdcihhlkkdaaW.PrintLast Go.Proofs.YtkigdcihhlkkdaaW.PrintMore
attribute [local go_sem high] eqA45
def refCellB (c : S45) : Bool := decide (0 ≤ c.f2) && (decide (c.f2 ≤ 255) && ((c.f0 == 0 && (c.f1 == 1 && c.f2 == 0)) || ((c.f1 == 0 && c.f0 == 0) || (decide (0 < c.f1) && c.f1 == rotulusref1_Width.w c.f0))))
def tab_54_3 : Bool × List (List Nat × List Nat) := (true, [([], []), ([], []), ([0, 1], [0, 1]), ([2, 1], [2]), ([3], [3]), ([4, 3], [3, 4]), ([5, 3], [3, 5]), ([6, 3, 3], [3, 6]), ([7], [7]), ([8, 7], [7, 8]), ([9, 7], [7, 9]), ([7, 10, 3], [3, 7, 10]), ([3, 11], [3, 11]), ([12, 7], [12]), ([13], [13]), ([14, 13], [13, 14]), ([15, 13], [13, 15]), ([16, 13, 13], [13, 16]), ([17], [17]), ([18, 17], [17, 18]), ([17], [17]), ([20, 17], [17, 20]), ([21, 17, 17], [17, 21]), ([19, 22, 17], [17, 19, 22]), ([17, 23, 13], [13, 17, 23]), ([13, 24], [13, 24]), ([25, 22, 0, 1, 2, 3, 4, 5, 6, 7, 8, 9, 10, 11, 12, 13, 14, 15, 16, 17, 18, 19, 20, 21, 22, 23, 24, 25], [25])])
theorem tab_54_3_ : rtab .any (opsOf Try.f54 3) = tab_54_3 := by kernel_rfl
theorem pad_ (W : World) : Calls Try.prog 67 #[] W fun e w' => e = .returned (.agg #[.int .i32 0, .int .i64 1, .int .i64 0]) ∧ Below W.heap.size W w' := rotulusref1_Pad.calls 0 1 0 W (by rfl)
theorem width_ (r : Int) (W : World) : Calls Try.prog 59 #[.int .i32 r] W fun e w' => e = .returned (.int .i64 (rotulusref1_Width.w r)) ∧ Below W.heap.size W w' := rotulusref1_Width.calls r _ W rfl
set_option maxHeartbeats 4000000 in
set_option maxRecDepth 100000 in
theorem refCell_ (c : S45) (W : World) : Calls Try.prog 54 #[.agg #[.int .i32 c.f0, .int .i64 c.f1, .int .i64 c.f2]] W fun e w' => e = .returned (.bool (refCellB c)) ∧ Below W.heap.size W w' := by
  have hb0 : Below W.heap.size W (W.alloc (.cells #[.int .i32 c.f0, .int .i64 c.f1, .int .i64 c.f2] 45)) := below_alloc (Below.refl _ _) _
  have hB0 := blk_new W (.cells #[.int .i32 c.f0, .int .i64 c.f1, .int .i64 c.f2] 45)
  obtain ⟨x0, x1, x2⟩ := blk3 hB0
  have hu := Try.underlying45
  by_cases h1 : c.f2 < 0
  · go_enter Try.func54, Try.ntmps54
    go_wp2
    go_ret
    refine ⟨by simp [refCellB]; omega, hb0⟩
  by_cases h2 : 255 < c.f2
  · go_enter Try.func54, Try.ntmps54
    go_wp2
    go_ret
    refine ⟨by simp [refCellB]; omega, hb0⟩
  have hS0 : SC W c (W.alloc (.cells #[.int .i32 c.f0, .int .i64 c.f1, .int .i64 c.f2] 45)).drew := SC.mk' hB0 (below_drew1 hb0)
  have e1 : decide (0 ≤ c.f2) = true := decide_eq_true (by omega)
  have e2 : decide (c.f2 ≤ 255) = true := decide_eq_true (by omega)
  unfold refCellB
  rw [e1, e2, Bool.true_and, Bool.true_and]
  clear e1 e2 x0 x1 x2
  obtain ⟨cr, cw, ca⟩ := c
  dsimp only at *
  cases hp : (cr == 0 && (cw == 1 && ca == 0))
  case true =>
    go_enter Try.func54, Try.ntmps54
    go_wp2
    refine start_ (n := 27) (S := SC W ⟨cr, cw, ca⟩) (ds := []) (bl_ [0, 27]) (by kernel_rfl) rfl rfl hS0 (fun _ => ?_)
    refine with_tab tab_54_3_ (fun HT_ => ?_)
    refine takes_ [0] 26 (bl_ [1, 26]) rfl HT_.out (by kernel_rfl) hS0 (a' := ?_) ?_ ?_
    rotate_left
    · repeat (first | exact rfl | (refine tkN rfl rfl (fun _ _ _ h => h) (by rfl) (by simp only [Act.put, List.setIfInBounds_toArray, List.set_cons_zero, List.set_cons_succ, i64_w, i32_w]; rfl) ?_) | (refine tkY rfl rfl (fun _ _ _ h => h) (by rfl) (fun w' hw' => by (obtain ⟨⟨s0, s1, s2⟩, _⟩ := hw'; go_simp; with_reducible rfl)) (by simp only [Act.put, List.setIfInBounds_toArray, List.set_cons_zero, List.set_cons_succ, i64_w, i32_w]; rfl) ?_))
    refine one_ (i := 1) (N := some 12) (bl_ [2, 25]) rfl rfl (one_of HT_.out (by kernel_rfl)) (by decide) (fun K hK => ?_)
    refine goes_ Try.func67 (by kernel_rfl) rfl #[] (by rfl) rfl rfl (by (try simp only [List.map_toArray, List.map_cons, List.map_nil]); first | done | rfl) ?_
    refine (pad_ _).mono ?_
    rintro e w1 ⟨rfl, hb1⟩
    have hS1 := hS0.next hb1
    refine ⟨_, rfl, hK.out _ _ hS1 (fun _ => ?_)⟩
    refine takes_ (List.range' 2 25) 0 (bl_ [27]) rfl HT_.out (by kernel_rfl) hS1 (a' := ?_) ?_ ?_
    rotate_left
    · repeat (first | exact rfl | (refine tkN rfl rfl (fun _ _ _ h => h) (by rfl) (by simp only [Act.put, List.setIfInBounds_toArray, List.set_cons_zero, List.set_cons_succ, i64_w, i32_w]; rfl) ?_) | (refine tkY rfl rfl (fun _ _ _ h => h) (by rfl) (fun w' hw' => by (obtain ⟨⟨s0, s1, s2⟩, _⟩ := hw'; go_simp; with_reducible rfl)) (by simp only [Act.put, List.setIfInBounds_toArray, List.set_cons_zero, List.set_cons_succ, i64_w, i32_w]; rfl) ?_))
    refine done_ (done_of HT_.out (by kernel_rfl)) ?_
    go_wp2
    go_ret
    exact ⟨by simp, hS1.2.out.2⟩
  case false =>
    by_cases c1 : cw = 0
    · subst c1
      by_cases c0 : cr = 0
      · subst c0
        go_enter Try.func54, Try.ntmps54
        go_wp2
        refine start_ (n := 27) (S := SC W ⟨0, 0, ca⟩) (ds := []) (bl_ [0, 27]) (by kernel_rfl) rfl rfl hS0 (fun _ => ?_)
        refine with_tab tab_54_3_ (fun HT_ => ?_)
        refine takes_ [0] 26 (bl_ [1, 26]) rfl HT_.out (by kernel_rfl) hS0 (a' := ?_) ?_ ?_
        rotate_left
        · repeat (first | exact rfl | (refine tkN rfl rfl (fun _ _ _ h => h) (by rfl) (by simp only [Act.put, List.setIfInBounds_toArray, List.set_cons_zero, List.set_cons_succ, i64_w, i32_w]; rfl) ?_) | (refine tkY rfl rfl (fun _ _ _ h => h) (by rfl) (fun w' hw' => by (obtain ⟨⟨s0, s1, s2⟩, _⟩ := hw'; go_simp; with_reducible rfl)) (by simp only [Act.put, List.setIfInBounds_toArray, List.set_cons_zero, List.set_cons_succ, i64_w, i32_w]; rfl) ?_))
        refine one_ (i := 1) (N := some 12) (bl_ [2, 25]) rfl rfl (one_of HT_.out (by kernel_rfl)) (by decide) (fun K hK => ?_)
        refine goes_ Try.func67 (by kernel_rfl) rfl #[] (by rfl) rfl rfl (by (try simp only [List.map_toArray, List.map_cons, List.map_nil]); first | done | rfl) ?_
        refine (pad_ _).mono ?_
        rintro e w1 ⟨rfl, hb1⟩
        have hS1 := hS0.next hb1
        refine ⟨_, rfl, hK.out _ _ hS1 (fun _ => ?_)⟩
        refine takes_ (List.range' 2 25) 0 (bl_ [27]) rfl HT_.out (by kernel_rfl) hS1 (a' := ?_) ?_ ?_
        rotate_left
        · repeat (first | exact rfl | (refine tkN rfl rfl (fun _ _ _ h => h) (by rfl) (by simp only [Act.put, List.setIfInBounds_toArray, List.set_cons_zero, List.set_cons_succ, i64_w, i32_w]; rfl) ?_) | (refine tkY rfl rfl (fun _ _ _ h => h) (by rfl) (fun w' hw' => by (obtain ⟨⟨s0, s1, s2⟩, _⟩ := hw'; go_simp; with_reducible rfl)) (by simp only [Act.put, List.setIfInBounds_toArray, List.set_cons_zero, List.set_cons_succ, i64_w, i32_w]; rfl) ?_))
        refine done_ (done_of HT_.out (by kernel_rfl)) ?_
        go_wp2
        go_ret
        exact ⟨by simp, hS1.2.out.2⟩
      · have q0 : (cr == 0) = false := by simp [c0]
        go_enter Try.func54, Try.ntmps54
        go_wp2
        refine start_ (n := 27) (S := SC W ⟨cr, 0, ca⟩) (ds := []) (bl_ [0, 27]) (by kernel_rfl) rfl rfl hS0 (fun _ => ?_)
        refine with_tab tab_54_3_ (fun HT_ => ?_)
        refine takes_ [0] 26 (bl_ [1, 26]) rfl HT_.out (by kernel_rfl) hS0 (a' := ?_) ?_ ?_
        rotate_left
        · repeat (first | exact rfl | (refine tkN rfl rfl (fun _ _ _ h => h) (by rfl) (by simp only [Act.put, List.setIfInBounds_toArray, List.set_cons_zero, List.set_cons_succ, i64_w, i32_w]; rfl) ?_) | (refine tkY rfl rfl (fun _ _ _ h => h) (by rfl) (fun w' hw' => by (obtain ⟨⟨s0, s1, s2⟩, _⟩ := hw'; go_simp; with_reducible rfl)) (by simp only [Act.put, List.setIfInBounds_toArray, List.set_cons_zero, List.set_cons_succ, i64_w, i32_w]; rfl) ?_))
        refine one_ (i := 1) (N := some 12) (bl_ [2, 25]) rfl rfl (one_of HT_.out (by kernel_rfl)) (by decide) (fun K hK => ?_)
        refine goes_ Try.func67 (by kernel_rfl) rfl #[] (by rfl) rfl rfl (by (try simp only [List.map_toArray, List.map_cons, List.map_nil]); first | done | rfl) ?_
        refine (pad_ _).mono ?_
        rintro e w1 ⟨rfl, hb1⟩
        have hS1 := hS0.next hb1
        refine ⟨_, rfl, hK.out _ _ hS1 (fun _ => ?_)⟩
        refine takes_ (List.range' 2 25) 0 (bl_ [27]) rfl HT_.out (by kernel_rfl) hS1 (a' := ?_) ?_ ?_
        rotate_left
        · repeat (first | exact rfl | (refine tkN rfl rfl (fun _ _ _ h => h) (by rfl) (by simp only [Act.put, List.setIfInBounds_toArray, List.set_cons_zero, List.set_cons_succ, i64_w, i32_w]; rfl) ?_) | (refine tkY rfl rfl (fun _ _ _ h => h) (by rfl) (fun w' hw' => by (obtain ⟨⟨s0, s1, s2⟩, _⟩ := hw'; go_simp; with_reducible rfl)) (by simp only [Act.put, List.setIfInBounds_toArray, List.set_cons_zero, List.set_cons_succ, i64_w, i32_w]; rfl) ?_))
        refine done_ (done_of HT_.out (by kernel_rfl)) ?_
        go_wp2
        go_ret
        exact ⟨by simp [c0], hS1.2.out.2⟩
    · have q1 : (cw == 0) = false := by simp [c1]
      by_cases c2 : 0 < cw
      · have q2 : decide (0 < cw) = true := by simp [c2]
        go_enter Try.func54, Try.ntmps54
        go_wp2
        refine start_ (n := 27) (S := SC W ⟨cr, cw, ca⟩) (ds := []) (bl_ [0, 27]) (by kernel_rfl) rfl rfl hS0 (fun _ => ?_)
        refine with_tab tab_54_3_ (fun HT_ => ?_)
        refine takes_ [0] 26 (bl_ [1, 26]) rfl HT_.out (by kernel_rfl) hS0 (a' := ?_) ?_ ?_
        rotate_left
        · repeat (first | exact rfl | (refine tkN rfl rfl (fun _ _ _ h => h) (by rfl) (by simp only [Act.put, List.setIfInBounds_toArray, List.set_cons_zero, List.set_cons_succ, i64_w, i32_w]; rfl) ?_) | (refine tkY rfl rfl (fun _ _ _ h => h) (by rfl) (fun w' hw' => by (obtain ⟨⟨s0, s1, s2⟩, _⟩ := hw'; go_simp; with_reducible rfl)) (by simp only [Act.put, List.setIfInBounds_toArray, List.set_cons_zero, List.set_cons_succ, i64_w, i32_w]; rfl) ?_))
        refine one_ (i := 1) (N := some 12) (bl_ [2, 25]) rfl rfl (one_of HT_.out (by kernel_rfl)) (by decide) (fun K hK => ?_)
        refine goes_ Try.func67 (by kernel_rfl) rfl #[] (by rfl) rfl rfl (by (try simp only [List.map_toArray, List.map_cons, List.map_nil]); first | done | rfl) ?_
        refine (pad_ _).mono ?_
        rintro e w1 ⟨rfl, hb1⟩
        have hS1 := hS0.next hb1
        refine ⟨_, rfl, hK.out _ _ hS1 (fun _ => ?_)⟩
        refine takes_ (List.range' 2 20) 5 (bl_ [22, 5]) rfl HT_.out (by kernel_rfl) hS1 (a' := ?_) ?_ ?_
        rotate_left
        · repeat (first | exact rfl | (refine tkN rfl rfl (fun _ _ _ h => h) (by rfl) (by simp only [Act.put, List.setIfInBounds_toArray, List.set_cons_zero, List.set_cons_succ, i64_w, i32_w]; rfl) ?_) | (refine tkY rfl rfl (fun _ _ _ h => h) (by rfl) (fun w' hw' => by (obtain ⟨⟨s0, s1, s2⟩, _⟩ := hw'; go_simp; with_reducible rfl)) (by simp only [Act.put, List.setIfInBounds_toArray, List.set_cons_zero, List.set_cons_succ, i64_w, i32_w]; rfl) ?_))
        refine one_ (i := 22) (N := some 33) (bl_ [23, 4]) rfl rfl (one_of HT_.out (by kernel_rfl)) (by decide) (fun K hK => ?_)
        refine goes_ Try.func59 (by kernel_rfl) rfl #[.int .i32 cr] (by rfl) rfl rfl (by (try simp only [List.map_toArray, List.map_cons, List.map_nil]); first | done | rfl) ?_
        refine (width_ _ _).mono ?_
        rintro e w2 ⟨rfl, hb2⟩
        have hS2 := hS1.next hb2
        refine ⟨_, rfl, hK.out _ _ hS2 (fun _ => ?_)⟩
        refine takes_ (List.range' 23 4) 0 (bl_ [27]) rfl HT_.out (by kernel_rfl) hS2 (a' := ?_) ?_ ?_
        rotate_left
        · repeat (first | exact rfl | (refine tkN rfl rfl (fun _ _ _ h => h) (by rfl) (by simp only [Act.put, List.setIfInBounds_toArray, List.set_cons_zero, List.set_cons_succ, i64_w, i32_w]; rfl) ?_) | (refine tkY rfl rfl (fun _ _ _ h => h) (by rfl) (fun w' hw' => by (obtain ⟨⟨s0, s1, s2⟩, _⟩ := hw'; go_simp; with_reducible rfl)) (by simp only [Act.put, List.setIfInBounds_toArray, List.set_cons_zero, List.set_cons_succ, i64_w, i32_w]; rfl) ?_))
        refine done_ (done_of HT_.out (by kernel_rfl)) ?_
        go_wp2
        go_ret
        exact ⟨by simp [c1, c2], hS2.2.out.2⟩
      · have q2 : decide (0 < cw) = false := by simp [c2]
        go_enter Try.func54, Try.ntmps54
        go_wp2
        refine start_ (n := 27) (S := SC W ⟨cr, cw, ca⟩) (ds := []) (bl_ [0, 27]) (by kernel_rfl) rfl rfl hS0 (fun _ => ?_)
        refine with_tab tab_54_3_ (fun HT_ => ?_)
        refine takes_ [0] 26 (bl_ [1, 26]) rfl HT_.out (by kernel_rfl) hS0 (a' := ?_) ?_ ?_
        rotate_left
        · repeat (first | exact rfl | (refine tkN rfl rfl (fun _ _ _ h => h) (by rfl) (by simp only [Act.put, List.setIfInBounds_toArray, List.set_cons_zero, List.set_cons_succ, i64_w, i32_w]; rfl) ?_) | (refine tkY rfl rfl (fun _ _ _ h => h) (by rfl) (fun w' hw' => by (obtain ⟨⟨s0, s1, s2⟩, _⟩ := hw'; go_simp; with_reducible rfl)) (by simp only [Act.put, List.setIfInBounds_toArray, List.set_cons_zero, List.set_cons_succ, i64_w, i32_w]; rfl) ?_))
        refine one_ (i := 1) (N := some 12) (bl_ [2, 25]) rfl rfl (one_of HT_.out (by kernel_rfl)) (by decide) (fun K hK => ?_)
        refine goes_ Try.func67 (by kernel_rfl) rfl #[] (by rfl) rfl rfl (by (try simp only [List.map_toArray, List.map_cons, List.map_nil]); first | done | rfl) ?_
        refine (pad_ _).mono ?_
        rintro e w1 ⟨rfl, hb1⟩
        have hS1 := hS0.next hb1
        refine ⟨_, rfl, hK.out _ _ hS1 (fun _ => ?_)⟩
        refine takes_ (List.range' 2 25) 0 (bl_ [27]) rfl HT_.out (by kernel_rfl) hS1 (a' := ?_) ?_ ?_
        rotate_left
        · repeat (first | exact rfl | (refine tkN rfl rfl (fun _ _ _ h => h) (by rfl) (by simp only [Act.put, List.setIfInBounds_toArray, List.set_cons_zero, List.set_cons_succ, i64_w, i32_w]; rfl) ?_) | (refine tkY rfl rfl (fun _ _ _ h => h) (by rfl) (fun w' hw' => by (obtain ⟨⟨s0, s1, s2⟩, _⟩ := hw'; go_simp; with_reducible rfl)) (by simp only [Act.put, List.setIfInBounds_toArray, List.set_cons_zero, List.set_cons_succ, i64_w, i32_w]; rfl) ?_))
        refine done_ (done_of HT_.out (by kernel_rfl)) ?_
        go_wp2
        go_ret
        exact ⟨by simp [q1, q2], hS1.2.out.2⟩
end Go.Proofs.Ytkigdcihhlkkdaa.P
end
