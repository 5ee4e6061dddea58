/- own texts of this session, put together -/
import Derived.Test.YtkigdcihhlkkdaaTV1
import Derived.Below
import Derived.Lib.ConvBytes
import Derived.Lib.SmallJoins
import Derived.Test.YtkigdcihhlkkdaaProg
import Derived.Deep.Draws
import Derived.Deep.AppendLies
import Derived.Maps.AppendAt
import Derived.OwnWalk
import Derived.Laws.BytesArg
import Derived.Laws.MakeOwn
import Derived.Laws.OwnMore
import Derived.Deep.OwnRows
import Derived.Tactics
import Derived.Laws.Slices
import Derived.WalkKit
import Derived.KernelRfl
import Derived.RowKit3
import Derived.Deep.LoopGhost
import Derived.Deep.QuietTactic
import Derived.BigQuiet
import Derived.WideLaws
import Derived.Deep.DeepCutAuto
import Derived.Deep.CutBlock
import Derived.Deep.RegionHeld3
import Derived.Laws.Rows
import Derived.Lib.AppendStr
import Derived.ArgAppend
import Derived.Laws.IdiomCopy
import Derived.OrdersHeld
import Derived.Laws.BitsLemmas
import Derived.RowKit
import Derived.Lib.SliceRun
import Derived.Lib.Walk
import Derived.Lib.Hide
section
set_option linter.unusedVariables false
set_option linter.unusedSimpArgs false
namespace Go.Proofs.YtkigdcihhlkkdaaW.PrintWords
open Go.RowKit
namespace Kd
def NQ {α : Type} (d : Kd α) (e : Nat) (w : World) (base : Nat) (ok : Nat → Prop) (v : Value) (xs : List α) : Prop :=
  (∀ k, v.ownBlock = some k → ok k) ∧ ∃ rows : List (List Value), rows.length = xs.length ∧ (raw d.sz).Q e w base (fun k => some k = v.ownBlock) v rows ∧ ∀ (j : Nat) (x : α) (c : List Value), xs[j]? = some x → rows[j]? = some c → FK d w (fun k => ok k ∧ some k ≠ v.ownBlock) x c
section
variable {α : Type} {d : Kd α} {e : Nat} {w w1 W : World} {base : Nat} {ok ok' okp : Nat → Prop} {v v1 : Value} {xs ys : List α}
theorem NQ_nil (d : Kd α) (e : Nat) (w : World) (base : Nat) (ok : Nat → Prop) : NQ d e w base ok (.slice none 0 0) [] :=
  ⟨fun k hk => by simp [Value.ownBlock] at hk, [], rfl, Q_nil _ _ _ _ _, fun j x c hx => by simp at hx⟩
theorem NQ_mono (h : NQ d e w base ok v xs) (hok : ∀ k, ok k → ok' k) : NQ d e w base ok' v xs := by
  obtain ⟨h0, rows, hl, hR, hf⟩ := h
  exact ⟨fun k hk => hok k (h0 k hk), rows, hl, hR, fun j x c hx hc => FK_mono (hf j x c hx hc) (fun k hk => ⟨hok k hk.1, hk.2⟩)⟩
theorem NQ_step (h : NQ d e W base ok v xs) (hm : ∀ k, ok k → k < W.heap.size → w1.heap[k]? = W.heap[k]?) : NQ d e w1 base ok v xs := by
  obtain ⟨h0, rows, hl, hR, hf⟩ := h
  exact ⟨h0, rows, hl, Q_step hR (fun k hk hlt => hm k (h0 k hk.symm) hlt), fun j x c hx hc => FK_step (hf j x c hx hc) (fun k hk hlt => hm k hk.1 hlt)⟩
theorem NQ_below (h : NQ d e W base ok v xs) (hb : Below W.heap.size W w1) : NQ d e w1 base ok v xs := NQ_step h (fun k _ hk => hb.block k hk)
theorem NQ_slice (h : NQ d e w base ok v xs) : ∃ A c, v = .slice A xs.length c ∧ xs.length ≤ c := by
  obtain ⟨_, rows, hl, hR, _⟩ := h
  obtain ⟨A, c, h1, h2⟩ := Q_slice hR
  exact ⟨A, c, by rw [h1, hl], by omega⟩
theorem raw_anyQ {sz : Nat} {rows : List (List Value)} (h : (raw sz).Q e w base ok v rows) : (raw sz).Q e w base (fun _ => True) v rows := Q_mono h (fun _ _ => trivial)
theorem NQ_lt (h : NQ d e w base ok v xs) : ∀ k, v.ownBlock = some k → k < w.heap.size := by
  obtain ⟨h0, rows, hl, hR, hf⟩ := h
  exact fun k hk => Q_lt hR k hk
theorem NQ_bound (h : NQ d e w base ok v xs) : NQ d e w base (fun k => ok k ∧ k < w.heap.size) v xs := by
  obtain ⟨h0, rows, hl, hR, hf⟩ := h
  exact ⟨fun k hk => ⟨h0 k hk, Q_lt hR k hk⟩, rows, hl, hR, fun j x c hx hc => FK_mono (FK_bound (hf j x c hx hc)) (fun k hk => ⟨⟨hk.1.1, hk.2⟩, hk.1.2⟩)⟩
theorem NQ_reads' {A : Option Addr} {n c : Nat} (h : NQ d e w base ok (.slice A n c) xs) : n = xs.length ∧ n ≤ c ∧ d.C w A xs.length xs := by
  obtain ⟨_, rows, hl, hR, hf⟩ := h
  obtain ⟨hn, hc, hC⟩ := Q_reads' hR
  refine ⟨by omega, hc, ?_⟩
  rw [hl] at hC
  refine ⟨rfl, hC.2.1, fun hp => ?_⟩
  obtain ⟨ad, he, hcell⟩ := hC.2.2 hp
  refine ⟨ad, he, fun j p hj => ?_⟩
  have hjl : j < rows.length := by have := (List.getElem?_eq_some_iff.1 hj).1; omega
  obtain ⟨c', hcl, hK, hcc⟩ := hcell j _ (List.getElem?_eq_getElem hjl)
  have hk := FK_now (hf j p _ hj (List.getElem?_eq_getElem hjl))
  refine ⟨c', hcl, ?_, hcc⟩
  rw [show c' = rows[j] from hK.1]
  exact hk
theorem NQ_F {A : Option Addr} {n cc : Nat} (h : NQ d e w base ok (.slice A n cc) xs) : F d w ok A n xs := fun W' hW => by
  have h2 := NQ_reads' (NQ_step h hW)
  rw [h2.1]
  exact h2.2.2
theorem own_drop (A : Option Addr) (k m n c sz : Nat) : (Value.slice (if c = k then A else A.map (·.add (k * sz))) (n - k) (c - k)).ownBlock = (Value.slice A m c).ownBlock := by
  split
  · cases A <;> rfl
  · cases A with
    | none => rfl
    | some a => simp [Value.ownBlock]; unfold Addr.add; split <;> rfl
theorem NQ_drop {A : Option Addr} {k n c : Nat} (h : NQ d e w base ok (.slice A n c) xs) (hk : k ≤ xs.length) : NQ d e w base ok (.slice (if c = k then A else A.map (·.add (k * d.sz))) (n - k) (c - k)) (xs.drop k) := by
  obtain ⟨h0, rows, hl, hR, hf⟩ := h
  have hb := own_drop A k n n c d.sz
  have hQ := Q_drop (raw_anyQ hR) (k := k) (by omega)
  refine ⟨fun j hj => h0 j (by rw [← hb]; exact hj), rows.drop k, by rw [List.length_drop, List.length_drop, hl], Q_tight rfl hQ, fun j x c' hx hc => ?_⟩
  rw [hb]
  rw [List.getElem?_drop] at hx hc
  exact hf _ x c' hx hc
theorem NQ_appended {rows news : List (List Value)} (h0 : ∀ k, v.ownBlock = some k → ok k) (hl : rows.length = xs.length) (hf : ∀ (j : Nat) (x : α) (c : List Value), xs[j]? = some x → rows[j]? = some c → FK d W (fun k => ok k ∧ some k ≠ v.ownBlock) x c)
    (hl2 : news.length = ys.length) (hf2 : ∀ (j : Nat) (x : α) (c : List Value), ys[j]? = some x → news[j]? = some c → FK d W okp x c) (hokp : ∀ k, okp k → ok k ∧ some k ≠ v.ownBlock) (hfresh : ∀ k, W.heap.size ≤ k → ok k)
    (hR : (raw d.sz).Q e w1 base (fun _ => True) v1 (rows ++ news)) (hg : W.grownBy w1 v.ownBlock) (hat : v1.ownBlock = v.ownBlock ∨ ∃ b, v1.ownBlock = some b ∧ W.heap.size ≤ b) : NQ d e w1 base ok v1 (xs ++ ys) := by
  have hne : ∀ k, some k ≠ v.ownBlock → k < W.heap.size → some k ≠ v1.ownBlock := by
    intro k hk hlt
    rcases hat with hat | ⟨b, hb, hle⟩
    · rw [hat]; exact hk
    · rw [hb]
      intro he
      injection he with he
      omega
  have step : ∀ {x : α} {c : List Value} {o : Nat → Prop}, FK d W o x c → (∀ k, o k → ok k ∧ some k ≠ v.ownBlock) → FK d w1 (fun k => ok k ∧ some k ≠ v1.ownBlock) x c := by
    intro x c o hq ho
    exact FK_mono (FK_step (FK_bound hq) (fun k hk hlt => hg.block k hlt (ho k hk.1).2)) (fun k hk => ⟨(ho k hk.1).1, hne k (ho k hk.1).2 hk.2⟩)
  refine ⟨fun k hk => ?_, rows ++ news, by rw [List.length_append, List.length_append, hl, hl2], Q_tight rfl hR, fun j x c hx hc => ?_⟩
  · rcases hat with hat | ⟨b, hb, hle⟩
    · exact h0 k (hat ▸ hk)
    · rw [hb] at hk
      injection hk with hk
      exact hfresh k (by omega)
  · rcases Nat.lt_or_ge j xs.length with hlt | hge
    · rw [List.getElem?_append_left hlt] at hx
      rw [List.getElem?_append_left (by omega)] at hc
      exact step (hf j x c hx hc) (fun _ hk => hk)
    · rw [List.getElem?_append_right hge] at hx
      rw [List.getElem?_append_right (by omega), hl] at hc
      exact step (hf2 _ x c hx hc) hokp
end
section
variable {α : Type} {P : Program} {ops : Array Oper} {rest : List Oper} {o : Oper} {a : Act} {Q' : Exit → Act → World → Prop}
theorem NQ_append (d : Kd α) {w0 W : World} (base : Nat) (hgd : o.guard = none) (s x : Operand) (t e : TypeId) (z : Value) (bytes : Nat)
    (ho : o.op = .call { callee := .builtin .append, args := #[s, x], argTypes := #[t, t] })
    (ht : P.underlying t = some (.slice e)) (hinfo : (P.info? e).map (fun i => (i.zero, i.size, i.bytes)) = some (some z, d.sz, bytes)) (hz : z.cells.size = d.sz) (hs0 : 0 < d.sz) (hb0 : 0 < bytes)
    (v : Value) (xs : List α) (p : α) (cs : List Value) (ok okp : Nat → Prop) (hs : a.eval s = v) (hx : a.eval x = .slice (some ⟨W.heap.size, 0, none⟩) 1 1) (hp : FK d W okp p cs) (hokp : ∀ k, okp k → ok k ∧ some k ≠ v.ownBlock) (hfresh : ∀ k, W.heap.size ≤ k → ok k)
    (HO : NQ d e W base ok v xs) (HB : Below base w0 W) (hbase : base ≤ W.heap.size) (hl : (xs.length + 1) * bytes ≤ 140737488355328)
    (h : ∀ v1 w1, NQ d e w1 base ok v1 (xs ++ [p]) → Below base w0 w1 → W.grownBy w1 v.ownBlock → (v1.ownBlock = v.ownBlock ∨ ∃ b, v1.ownBlock = some b ∧ W.heap.size ≤ b) → wpList P ops Q' rest (a.put o.dst v1) w1) :
    wpList P ops Q' (o :: rest) a (W.alloc (.cells cs.toArray e)) := by
  obtain ⟨h0, rows, hlr, hR, hf⟩ := HO
  refine Q_append (raw d.sz) base hgd s x t e z bytes ho ht hinfo hz hs0 hb0 v rows cs cs (fun _ => True) (fun _ => False) hs hx (FK_raw hp) (fun _ hk => hk.elim) (fun _ _ => trivial) (raw_anyQ hR) HB hbase (by rw [hlr]; exact hl) ?_
  intro v1 w1 hr hb hg hat
  exact h v1 w1 (NQ_appended h0 hlr hf (ys := [p]) (news := [cs]) rfl (fun j y c hy hc => by
    rcases j with _ | j
    · simp only [List.getElem?_cons_zero, Option.some.injEq] at hy hc
      rw [← hy, ← hc]; exact hp
    · simp at hy) hokp hfresh hr hg hat) hb hg hat
end
end Kd
end Go.Proofs.YtkigdcihhlkkdaaW.PrintWords
end
section
set_option linter.unusedVariables false
set_option linter.unusedSimpArgs false
namespace Go.Proofs.YtkigdcihhlkkdaaW.PrintWords
open Go.RowKit
structure Fr (S : Nat → Prop) (W W' : World) : Prop where
  os : W'.os = W.os
  tape : W'.tape = W.tape
  output : W'.output = W.output
  size : W.heap.size ≤ W'.heap.size
  block : ∀ k, k < W.heap.size → ¬ S k → W'.heap[k]? = W.heap[k]?
namespace Fr
variable {S S1 : Nat → Prop} {W W1 W2 : World}
theorem refl (S : Nat → Prop) (W : World) : Fr S W W := ⟨rfl, rfl, rfl, Nat.le_refl _, fun _ _ _ => rfl⟩
theorem trans (h : Fr S W W1) (k : Fr S1 W1 W2) (hs : ∀ i, i < W.heap.size → S1 i → S i) : Fr S W W2 :=
  ⟨k.os.trans h.os, k.tape.trans h.tape, k.output.trans h.output, Nat.le_trans h.size k.size, fun i hi hn => (k.block i (Nat.lt_of_lt_of_le hi h.size) (fun q => hn (hs i hi q))).trans (h.block i hi hn)⟩
theorem mono (h : Fr S W W1) (hs : ∀ i, S i → S1 i) : Fr S1 W W1 := ⟨h.os, h.tape, h.output, h.size, fun i hi hn => h.block i hi (fun q => hn (hs i q))⟩
theorem of_below (h : Below W.heap.size W W1) : Fr S W W1 := ⟨h.os, h.tape, h.output, h.size, fun k hk _ => h.block k hk⟩
theorem of_grown {row : Option Nat} (h : W.grownBy W1 row) (hs : ∀ k, row = some k → S k) : Fr S W W1 :=
  ⟨h.os, h.tape, h.output, h.size, fun k hk hn => h.block k hk (fun e => hn (hs k e.symm))⟩
theorem below (h : Fr S W W1) {B : Nat} (hb : B ≤ W.heap.size) (hs : ∀ k, S k → B ≤ k) : Below B W W1 :=
  ⟨h.os, h.tape, h.output, h.size, fun k hk => h.block k (Nat.lt_of_lt_of_le hk hb) (fun q => by have := hs k q; omega)⟩
theorem drawn (h : Drawn0 W W1) : Fr S W W1 := of_below h.below
theorem alloc (h : Fr S W W1) (o : Obj) : Fr S W (W1.alloc o) := h.trans (S1 := fun _ => False) (of_below (below_alloc (Below.refl _ _) o)) (fun _ _ q => q.elim)
theorem drewN (h : Fr S W W1) (m : Nat) : Fr S W (W1.drewN m) := h.trans (S1 := fun _ => False) (of_below (pw_below_drewN (Below.refl _ _) m)) (fun _ _ q => q.elim)
theorem drew (h : Fr S W W1) : Fr S W W1.drew := h.trans (S1 := fun _ => False) (of_below (below_drew (Below.refl _ _))) (fun _ _ q => q.elim)
theorem setCell (h : Fr S W W1) {p : Addr} (hp : S p.block) (u : Value) : Fr S W (W1.setCell p u) :=
  h.trans (S1 := fun k => k = p.block) ⟨rfl, rfl, rfl, by simp [World.setCell], fun k _ hk => Below.heap_setCell W1 p u k hk⟩ (fun i _ q => by rw [q]; exact hp)
theorem old (h : Fr S W W1) {k : Nat} {o : Obj} (hk : ¬ S k) (ho : W.heap[k]? = some o) : W1.heap[k]? = some o := (h.block k (blk_lt ho) hk).trans ho
end Fr
end Go.Proofs.YtkigdcihhlkkdaaW.PrintWords
end
section
set_option linter.unusedVariables false
set_option linter.unusedSimpArgs false
namespace Go.Proofs.YtkigdcihhlkkdaaW.PrintWords
open Go.RowKit
namespace Kd
section
variable {d : Kd Int} {e : Nat} {w W w1 : World} {base base' : Nat} {ok ok' : Nat → Prop} {v u : Value} {xs : List Int} {g : Nat} {A : Option Addr} {n c : Nat}
end
section
variable {P : Program} {ops : Array Oper} {rest : List Oper} {o : Oper} {a : Act} {Q : Exit → Act → World → Prop} {Kc : Act → World → Prop} {W : World}
end
end Kd
end Go.Proofs.YtkigdcihhlkkdaaW.PrintWords
end
section
namespace Go.Proofs.Ytkigdcihhlkkdaa.P
open Go.RowKit Go.Proofs.YtkigdcihhlkkdaaW.PrintWords Go.Proofs.YtkigdcihhlkkdaaW.PrintLast Go.Proofs.YtkigdcihhlkkdaaW.PrintMore
attribute [local go_sem] max2_int min2_int max_two min_two max_three min_three max_four min_four   -- for this text's walks alone
set_option linter.unusedVariables false
set_option linter.unusedSimpArgs false
@[reducible] def bls_ : List Nat → Bool → List Bool
  | [], _ => []
  | n :: l, b => List.replicate n b ++ bls_ l (!b)
@[reducible] def bl_ (l : List Nat) : Array Bool := (bls_ l true).toArray
def errW : Option Int → Value
  | none => .nilIface
  | some c => .iface 0 (.int .i64 c)
theorem errW_none : errW none = .nilIface := rfl
theorem errW_some (c : Int) : errW (some c) = .iface 0 (.int .i64 c) := rfl
theorem info3 : (Try.prog.info? 3).map (fun i => (i.zero, i.size, i.bytes)) = some (some (.int .i64 0), 1, 8) := by kernel_rfl
theorem info5 : (Try.prog.info? 5).map (fun i => (i.zero, i.size, i.bytes)) = some (some (.int .u8 0), 1, 1) := by kernel_rfl
theorem info21 : (Try.prog.info? 21).map (fun i => (i.zero, i.size, i.bytes)) = some (some (.int .i32 0), 1, 4) := by kernel_rfl
theorem info45 : (Try.prog.info? 45).map (fun i => (i.zero, i.size, i.bytes)) = some (some (.agg #[(.int .i32 0), (.int .i64 0), (.int .i64 0)]), 3, 24) := by kernel_rfl
theorem info78 : (Try.prog.info? 78).map (fun i => (i.zero, i.size, i.bytes)) = some (some (.agg #[(.int .i64 0), (.int .i32 0), (.int .i64 0), (.int .i64 0)]), 4, 32) := by kernel_rfl
structure S45 where
  f0 : Int
  f1 : Int
  f2 : Int
def z45 : S45 := ⟨(0 : Int), (0 : Int), (0 : Int)⟩
def k45 : Kd S45 := Kd.iso (Kd.pair (Kd.int .i32) (Kd.pair (Kd.int .i64) (Kd.int .i64))) (fun x : S45 => (x.f0, x.f1, x.f2))
theorem k45_open {w : World} {x : S45} {cs : List Value} (h : k45.K w x cs) : cs = [.int .i32 x.f0, .int .i64 x.f1, .int .i64 x.f2] := by
  obtain ⟨_, _, rfl, rfl, ⟨_, _, rfl, rfl, rfl⟩⟩ := h
  exact rfl
theorem k45_openM {w : World} {base : Nat} {ok : Nat → Prop} {x : S45} {cs : List Value} (h : k45.M w base ok x cs) : cs = [.int .i32 x.f0, .int .i64 x.f1, .int .i64 x.f2] := by
  obtain ⟨_, _, rfl, rfl, ⟨_, _, rfl, rfl, rfl⟩⟩ := h
  exact rfl
theorem k45_mk (w : World) (x : S45)  : k45.K w x [.int .i32 x.f0, .int .i64 x.f1, .int .i64 x.f2] := ⟨[.int .i32 x.f0], [.int .i64 x.f1, .int .i64 x.f2], rfl, rfl, ⟨[.int .i64 x.f1], [.int .i64 x.f2], rfl, rfl, rfl⟩⟩
theorem k45_mkM (w : World) (base : Nat) (ok : Nat → Prop) (x : S45)  : k45.M w base ok x [.int .i32 x.f0, .int .i64 x.f1, .int .i64 x.f2] := ⟨[.int .i32 x.f0], [.int .i64 x.f1, .int .i64 x.f2], rfl, rfl, ⟨[.int .i64 x.f1], [.int .i64 x.f2], rfl, rfl, rfl⟩⟩
def rd_T45 (xs : List S45) (i : Int) : S45 := xs.getD i.toNat z45
theorem at_T45 {w : World} {A : Option Addr} {n : Nat} {xs : List S45} (h : Kd.C k45 w A n xs) (i : Int) (h0 : 0 ≤ i) (h1 : i < n) : ∃ ad , A = some ad ∧ w.cell? (ad.add (i.toNat * 3)) = some (.int .i32 (rd_T45 xs i).f0) ∧ w.cell? ⟨(ad.add (i.toNat * 3)).block, (ad.add (i.toNat * 3)).off + 1, none⟩ = some (.int .i64 (rd_T45 xs i).f1) ∧ w.cell? ⟨(ad.add (i.toNat * 3)).block, (ad.add (i.toNat * 3)).off + 2, none⟩ = some (.int .i64 (rd_T45 xs i).f2) := by
  obtain ⟨ad, c, e, _, hK, hc0⟩ := Kd.C_get h z45 i h0 h1
  have hc : ∀ j u, c[j]? = some u → w.cell? (ad.add (i.toNat * 3 + j)) = some u := hc0
  obtain rfl := k45_open hK
  exact ⟨ad, e, hc 0 _ rfl, by rw [← add_field _ _ 1 (by omega)]; exact hc 1 _ rfl, by rw [← add_field _ _ 2 (by omega)]; exact hc 2 _ rfl⟩
structure S78 where
  f0 : Int
  f1 : S45
def z78 : S78 := ⟨(0 : Int), z45⟩
def k78 : Kd S78 := Kd.iso (Kd.pair (Kd.int .i64) k45) (fun x : S78 => (x.f0, x.f1))
theorem k78_open {w : World} {x : S78} {cs : List Value} (h : k78.K w x cs) : cs = [.int .i64 x.f0, .int .i32 x.f1.f0, .int .i64 x.f1.f1, .int .i64 x.f1.f2] := by
  obtain ⟨_, _, rfl, rfl, s1⟩ := h
  obtain rfl := k45_open s1
  exact rfl
theorem k78_openM {w : World} {base : Nat} {ok : Nat → Prop} {x : S78} {cs : List Value} (h : k78.M w base ok x cs) : cs = [.int .i64 x.f0, .int .i32 x.f1.f0, .int .i64 x.f1.f1, .int .i64 x.f1.f2] := by
  obtain ⟨_, _, rfl, rfl, s1⟩ := h
  obtain rfl := k45_openM s1
  exact rfl
theorem k78_mkM (w : World) (base : Nat) (ok : Nat → Prop) (x : S78)  : k78.M w base ok x [.int .i64 x.f0, .int .i32 x.f1.f0, .int .i64 x.f1.f1, .int .i64 x.f1.f2] := ⟨[.int .i64 x.f0], [.int .i32 x.f1.f0, .int .i64 x.f1.f1, .int .i64 x.f1.f2], rfl, rfl, (k45_mkM w base ok x.f1 )⟩
def rd_T78 (xs : List S78) (i : Int) : S78 := xs.getD i.toNat z78
theorem at_T78 {w : World} {A : Option Addr} {n : Nat} {xs : List S78} (h : Kd.C k78 w A n xs) (i : Int) (h0 : 0 ≤ i) (h1 : i < n) : ∃ ad , A = some ad ∧ w.cell? (ad.add (i.toNat * 4)) = some (.int .i64 (rd_T78 xs i).f0) ∧ w.cell? ⟨(ad.add (i.toNat * 4)).block, (ad.add (i.toNat * 4)).off + 1, none⟩ = some (.int .i32 (rd_T78 xs i).f1.f0) ∧ w.cell? ⟨(ad.add (i.toNat * 4)).block, (ad.add (i.toNat * 4)).off + 2, none⟩ = some (.int .i64 (rd_T78 xs i).f1.f1) ∧ w.cell? ⟨(ad.add (i.toNat * 4)).block, (ad.add (i.toNat * 4)).off + 3, none⟩ = some (.int .i64 (rd_T78 xs i).f1.f2) := by
  obtain ⟨ad, c, e, _, hK, hc0⟩ := Kd.C_get h z78 i h0 h1
  have hc : ∀ j u, c[j]? = some u → w.cell? (ad.add (i.toNat * 4 + j)) = some u := hc0
  obtain rfl := k78_open hK
  exact ⟨ad, e, hc 0 _ rfl, by rw [← add_field _ _ 1 (by omega)]; exact hc 1 _ rfl, by rw [← add_field _ _ 2 (by omega)]; exact hc 2 _ rfl, by rw [← add_field _ _ 3 (by omega)]; exact hc 3 _ rfl⟩
def rd_L5 (xs : List (List Int)) (i : Int) : (List Int) := xs.getD i.toNat ([] : List Int)
theorem at_L5 {w : World} {A : Option Addr} {n : Nat} {xs : List (List Int)} (h : Kd.C (Kd.slice 5 (Kd.int .u8)) w A n xs) (i : Int) (h0 : 0 ≤ i) (h1 : i < n) : ∃ ad A0 c0, A = some ad ∧ w.cell? (ad.add i.toNat) = some (.slice A0 (rd_L5 xs i).length c0) ∧ (rd_L5 xs i).length ≤ c0 ∧ (Kd.int .u8).C w A0 (rd_L5 xs i).length (rd_L5 xs i) := by
  obtain ⟨ad, c, e, _, hK, hc0⟩ := Kd.C_get h ([] : List Int) i h0 h1
  have hc : ∀ j u, c[j]? = some u → w.cell? (ad.add (i.toNat * 1 + j)) = some u := hc0
  obtain ⟨A0, c0, rfl, l0, g0⟩ := hK
  exact ⟨ad, A0, c0, e, by have hq := hc 0 _ rfl; rwa [Nat.mul_one, Nat.add_zero] at hq, l0, g0⟩
structure S31 where
  f0 : (List S45)
  f1 : Bool
def z31 : S31 := ⟨([] : List S45), false⟩
def k31 : Kd S31 := Kd.iso (Kd.pair (Kd.slice 45 k45) Kd.bool) (fun x : S31 => (x.f0, x.f1))
theorem k31_open {w : World} {x : S31} {cs : List Value} (h : k31.K w x cs) : ∃ A0 c0, cs = [.slice A0 x.f0.length c0, .bool x.f1] ∧ x.f0.length ≤ c0 ∧ k45.C w A0 x.f0.length x.f0 := by
  obtain ⟨_, _, rfl, ⟨A0, c0, rfl, l0, g0⟩, rfl⟩ := h
  exact ⟨A0, c0, rfl, l0, g0⟩
theorem k31_mk (w : World) (x : S31) {A0 : Option Addr} {c0 : Nat} (l0 : x.f0.length ≤ c0) (g0 : k45.C w A0 x.f0.length x.f0) : k31.K w x [.slice A0 x.f0.length c0, .bool x.f1] := ⟨[.slice A0 x.f0.length c0], [.bool x.f1], rfl, ⟨A0, c0, rfl, l0, g0⟩, rfl⟩
def rd_T31 (xs : List S31) (i : Int) : S31 := xs.getD i.toNat z31
theorem at_T31 {w : World} {A : Option Addr} {n : Nat} {xs : List S31} (h : Kd.C k31 w A n xs) (i : Int) (h0 : 0 ≤ i) (h1 : i < n) : ∃ ad A0 c0, A = some ad ∧ w.cell? (ad.add (i.toNat * 2)) = some (.slice A0 (rd_T31 xs i).f0.length c0) ∧ w.cell? ⟨(ad.add (i.toNat * 2)).block, (ad.add (i.toNat * 2)).off + 1, none⟩ = some (.bool (rd_T31 xs i).f1) ∧ (rd_T31 xs i).f0.length ≤ c0 ∧ k45.C w A0 (rd_T31 xs i).f0.length (rd_T31 xs i).f0 := by
  obtain ⟨ad, c, e, _, hK, hc0⟩ := Kd.C_get h z31 i h0 h1
  have hc : ∀ j u, c[j]? = some u → w.cell? (ad.add (i.toNat * 2 + j)) = some u := hc0
  obtain ⟨A0, c0, rfl, l0, g0⟩ := k31_open hK
  exact ⟨ad, A0, c0, e, hc 0 _ rfl, by rw [← add_field _ _ 1 (by omega)]; exact hc 1 _ rfl, l0, g0⟩
end Go.Proofs.Ytkigdcihhlkkdaa.P
end
section
set_option linter.unusedVariables false
set_option linter.unusedSimpArgs false
namespace Go.Proofs.Ytkigdcihhlkkdaa.P
open Go.RowKit Go.Proofs.YtkigdcihhlkkdaaW.PrintWords Go.Proofs.YtkigdcihhlkkdaaW.PrintLast Go.Proofs.YtkigdcihhlkkdaaW.PrintMore
theorem info23 : (Try.prog.info? 23).map (fun i => (i.zero, i.size, i.bytes)) = some (some (.slice none 0 0), 1, 24) := by kernel_rfl
def PageAt (W : World) (ok : Nat → Prop) (g : Nat) (rows : List (List Int)) : Prop :=
  ok g ∧ ∃ v, W.heap[g]? = some (.cells #[v] 86 (0, 0)) ∧ Kd.NQ (Kd.slice 5 (Kd.int .u8)) 23 W 0 (fun k => ok k ∧ k ≠ g) v rows
namespace PageAt
variable {W W' : World} {ok ok' S : Nat → Prop} {g : Nat} {rows : List (List Int)}
theorem step (h : PageAt W ok g rows) (hm : ∀ k, ok k → k < W.heap.size → W'.heap[k]? = W.heap[k]?) : PageAt W' ok g rows := by
  obtain ⟨h0, v, hg, hv⟩ := h
  exact ⟨h0, v, (hm g h0 (blk_lt hg)).trans hg, Kd.NQ_step hv (fun k hk hlt => hm k hk.1 hlt)⟩
theorem mono (h : PageAt W ok g rows) (hok : ∀ k, ok k → ok' k) : PageAt W ok' g rows := by
  obtain ⟨h0, v, hg, hv⟩ := h
  exact ⟨hok g h0, v, hg, Kd.NQ_mono hv (fun k hk => ⟨hok k hk.1, hk.2⟩)⟩
theorem bound (h : PageAt W ok g rows) : PageAt W (fun k => ok k ∧ k < W.heap.size) g rows := by
  obtain ⟨h0, v, hg, hv⟩ := h
  exact ⟨⟨h0, blk_lt hg⟩, v, hg, Kd.NQ_mono (Kd.NQ_bound hv) (fun k hk => ⟨⟨hk.1.1, hk.2⟩, hk.1.2⟩)⟩
theorem lt (h : PageAt W ok g rows) : g < W.heap.size := by
  obtain ⟨h0, v, hg, hv⟩ := h
  exact blk_lt hg
theorem fr (h : PageAt W ok g rows) (hf : Fr S W W') (hs : ∀ k, ok k → ¬ S k) : PageAt W' ok g rows := h.step (fun k hk hlt => hf.block k hlt (hs k hk))
theorem below (h : PageAt W ok g rows) (hf : Below W.heap.size W W') : PageAt W' ok g rows := h.step (fun k hk hlt => hf.block k hlt)
end PageAt
set_option maxHeartbeats 2000000 in
set_option maxRecDepth 100000 in
theorem page_len (W : World) (ok : Nat → Prop) (g : Nat) (rows : List (List Int)) (h : PageAt W ok g rows) :
    Calls Try.prog 37 #[.pointer (some ⟨g, 0, none⟩)] W fun e w' => e = .returned (.int .i64 rows.length) ∧ Drawn0 W w' := by
  obtain ⟨_, v, hg, hv⟩ := h
  obtain ⟨A, c, rfl, hc⟩ := Kd.NQ_slice hv
  have hc0 : W.cell? ⟨g, 0, none⟩ = some (.slice A rows.length c) := by simp [World.cell?, hg]
  go_enter Try.func37, Try.ntmps37
  go_wp2
  all_goals go_ret
  all_goals exact ⟨by first | rfl | simp, Drawn0.refl _⟩
set_option maxHeartbeats 2000000 in
set_option maxRecDepth 100000 in
theorem page_new (W : World) : Calls Try.prog 33 #[] W fun e w' => ∃ g, e = .returned (.pointer (some ⟨g, 0, none⟩)) ∧ W.heap.size ≤ g ∧ PageAt w' (fun k => W.heap.size ≤ k) g [] ∧ Below W.heap.size W w' := by
  go_enter Try.func33, Try.ntmps33
  go_wp2
  go_ret
  exact ⟨W.heap.size, rfl, Nat.le_refl _, ⟨Nat.le_refl _, .slice none 0 0, by simp [World.alloc, -World.alloc_eq], Kd.NQ_nil _ _ _ _ _⟩, below_alloc (Below.refl _ _) _⟩
def addRows (rows : List (List Int)) (x : List Int) (b : Bool) : List (List Int) := if rows.length < 16 then (if b = true then rows ++ [x] else rows) else rows
set_option maxHeartbeats 4000000 in
set_option maxRecDepth 100000 in
theorem page_add (W : World) (ok : Nat → Prop) (g : Nat) (rows : List (List Int)) (A : Option Addr) (c : Nat) (l : List S45) (wr : Bool) (x : List Int) (b : Bool) (hpage : PageAt W ok g rows) (hC : Kd.C k45 W A l.length l)
    (hput : ∀ w, Kd.C k45 w A l.length l → Calls Try.prog 24 #[.agg #[.slice A l.length c, .bool wr]] w fun e w' => ∃ v0_ : Value, e = .returned (.tuple #[v0_, .bool b]) ∧ Kd.R (Kd.int .u8) 5 w' w.heap.size (fun _ => True) v0_ x ∧ Below w.heap.size w w') :
    Calls Try.prog 34 #[.pointer (some ⟨g, 0, none⟩), .agg #[.slice A l.length c, .bool wr]] W fun e W' => e = .returned (.bool (decide (rows.length < 16) && b)) ∧ PageAt W' (fun k => ok k ∨ W.heap.size ≤ k) g (addRows rows x b) ∧ Fr ok W W' := by
  have hlt := hpage.lt
  have hpage2 := hpage.bound
  obtain ⟨hokg, v, hg, hv⟩ := hpage
  obtain ⟨A0, c0, rfl, hc0⟩ := Kd.NQ_slice hv
  have hcell : W.cell? ⟨g, 0, none⟩ = some (.slice A0 rows.length c0) := by simp [World.cell?, hg]
  have hC1 := Kd.C_below hC (below_alloc (Below.refl _ _) (.cells #[.slice A l.length c, .bool wr] 31))
  have hb0 : Below W.heap.size W (W.alloc (.cells #[.slice A l.length c, .bool wr] 31)) := below_alloc (Below.refl _ _) _
  have hsz : (W.alloc (.cells #[.slice A l.length c, .bool wr] 31)).heap.size = W.heap.size + 1 := by simp
  go_enter Try.func34, Try.ntmps34
  go_wp2_with (first
    | (go_at_call 24; refine (hput _ hC1).mono ?_; rintro e w1 ⟨v0, rfl, hv0, hb1⟩
       obtain ⟨A1, c1, rfl⟩ := Kd.R_slice hv0
       have hvQ := Kd.NQ_mono (ok' := fun k => (ok k ∨ W.heap.size ≤ k) ∧ k ≠ g) (Kd.NQ_below hv (hb0.trans (hb1.mono (by rw [hsz]; omega)))) (fun k hk => ⟨.inl hk.1, hk.2⟩)
       have hb01 : Below W.heap.size W w1 := hb0.trans (hb1.mono (by rw [hsz]; omega))
       have hcell1 : w1.cell? ⟨g, 0, none⟩ = some (.slice A0 rows.length c0) := (blk_cell (blk_below hg hb01) 0).trans rfl
       have hfr1 : w1.frozen? ⟨g, 0, none⟩ = false := blk_frozen (blk_below hg hb01) 0)
    | ((with_reducible refine gate_builtin (b := .append) rfl ?_)
       refine Kd.NQ_append (Kd.slice 5 (Kd.int .u8)) (w0 := w1) (W := w1) 0 (by rfl) (.tmp 27) (.tmp 29) 84 23 (.slice none 0 0) 24 (by rfl) Try.underlying84 info23 rfl (by decide) (by decide) (.slice A0 rows.length c0) rows x [.slice A1 x.length c1] (fun k => (ok k ∨ W.heap.size ≤ k) ∧ k ≠ g) (fun k => W.heap.size + 1 ≤ k) (by rfl) (by rfl) ?hFK ?hokp ?hfr hvQ (Below.refl _ _) (Nat.zero_le _) (by omega) ?_
       case hFK =>
         refine Kd.FK_slice_mk (Kd.R_reads' hv0).2.1 (Kd.F_mono (Kd.R_F (Kd.R_bound hv0)) ?_)
         intro k hk
         rw [← hsz]
         exact hk.2.1
       case hokp =>
         intro k hk
         refine ⟨⟨.inr (by omega), by omega⟩, fun he => ?_⟩
         have := Kd.NQ_lt hv k he.symm
         omega
       case hfr =>
         intro k hk
         have := hb01.size
         exact ⟨.inr (by omega), by omega⟩
       intro v1 w2 hq2 hb2 hg2 hat2
       have hgne : some g ≠ (Value.slice A0 rows.length c0).ownBlock := fun he => (hv.1 g he.symm).2 rfl
       have hcell2 : w2.cell? ⟨g, 0, none⟩ = some (.slice A0 rows.length c0) := (blk_cell (blk_grown (blk_below hg hb01) hg2 hgne) 0).trans rfl
       have hfr2 : w2.frozen? ⟨g, 0, none⟩ = false := blk_frozen (blk_grown (blk_below hg hb01) hg2 hgne) 0
       obtain ⟨A2, c2, rfl, hc2⟩ := Kd.NQ_slice hq2))
  all_goals go_ret
  · have hn : ¬ rows.length < 16 := by omega
    refine ⟨by simp [hn], ?_, Fr.of_below hb0⟩
    rw [addRows, if_neg hn]
    exact (hpage2.below hb0).mono (fun k hk => .inl hk.1)
  · have hn : rows.length < 16 := by omega
    rename_i hbt
    subst hbt
    have hgne : some g ≠ (Value.slice A0 rows.length c0).ownBlock := fun he => (hv.1 g he.symm).2 rfl
    have hg2' := blk_grown (blk_below hg hb01) hg2 hgne
    refine ⟨by simp [hn], ⟨.inl hokg, _, (blk_set hg2' 0 _).trans rfl, ?_⟩, ?_⟩
    · rw [addRows, if_pos hn, if_pos rfl]
      rw [List.length_append, List.length_singleton] at hq2
      exact Kd.NQ_step hq2 (fun k hk _ => Below.heap_setCell w2 ⟨g, 0, none⟩ _ k hk.2)
    · refine Fr.setCell ?_ hokg _
      refine (Fr.of_below hb01).trans (S1 := ok) (Fr.of_grown hg2 (fun k hk => (hv.1 k hk).1)) (fun _ _ h => h)
  · have hn : rows.length < 16 := by omega
    rename_i hbt
    subst hbt
    refine ⟨by simp [hn], ?_, Fr.of_below hb01⟩
    rw [addRows, if_pos hn, if_neg (by simp)]
    exact (hpage2.below hb01).mono (fun k hk => .inl hk.1)
set_option maxHeartbeats 4000000 in
set_option maxRecDepth 100000 in
theorem page_cut (W : World) (ok : Nat → Prop) (g : Nat) (rows : List (List Int)) (n : Int) (hpage : PageAt W ok g rows) :
    Calls Try.prog 35 #[.pointer (some ⟨g, 0, none⟩), .int .i64 n] W fun e W' => e = .returned (.bool (decide (0 ≤ n) && decide (n ≤ rows.length))) ∧ PageAt W' ok g (if 0 ≤ n ∧ n ≤ rows.length then rows.drop n.toNat else rows) ∧ Fr ok W W' := by
  have hpage2 := hpage
  obtain ⟨hokg, v, hg, hv⟩ := hpage
  obtain ⟨A0, c0, rfl, hc0⟩ := Kd.NQ_slice hv
  have hcell : W.cell? ⟨g, 0, none⟩ = some (.slice A0 rows.length c0) := by simp [World.cell?, hg]
  have hfr : W.frozen? ⟨g, 0, none⟩ = false := blk_frozen hg 0
  go_enter Try.func35, Try.ntmps35
  go_wp2
  all_goals go_ret
  all_goals first
    | exact ⟨by first | rfl | simp_all, hpage2, Fr.refl _ _⟩
    | exact ⟨by simp; omega, hpage2, Fr.refl _ _⟩
    | skip
  all_goals
    have hd := Kd.NQ_drop hv (k := n.toNat) (by omega)
    refine ⟨rfl, ⟨hokg, _, (blk_set hg 0 _).trans rfl, ?_⟩, (Fr.refl _ _).setCell (p := ⟨g, 0, none⟩) hokg _⟩
    refine Kd.NQ_step ?_ (fun k hk _ => Below.heap_setCell W ⟨g, 0, none⟩ _ k hk.2)
    rw [show (Kd.slice 5 (Kd.int .u8)).sz = 1 from rfl, Nat.mul_one] at hd
    first
    | (rw [if_pos (by first | assumption | omega), show c0 - n.toNat = 0 by omega] at hd; exact hd)
    | (rw [if_pos rfl, Nat.sub_self] at hd; exact hd)
    | (rw [if_neg (by first | assumption | omega)] at hd; exact hd)
theorem info31s : (Try.prog.info? 31).map (·.size) = some 2 := by kernel_rfl
theorem blk2 {W : World} {g t : Nat} {a b : Value} (h : W.heap[g]? = some (.cells #[a, b] t (0, 0))) : W.cell? ⟨g, 0, none⟩ = some a ∧ W.cell? ⟨g, 1, none⟩ = some b ∧ W.frozen? ⟨g, 0, none⟩ = false ∧ W.frozen? ⟨g, 1, none⟩ = false :=
  ⟨(blk_cell h 0).trans rfl, (blk_cell h 1).trans rfl, blk_frozen h 0, blk_frozen h 1⟩
set_option maxHeartbeats 4000000 in
set_option maxRecDepth 100000 in
theorem page_at_in (W : World) (ok : Nat → Prop) (g : Nat) (rows : List (List Int)) (i : Int) (b : List Int) (cells : List S45) (wr : Bool) (n er : Int) (hpage : PageAt W ok g rows) (hi : 0 ≤ i) (hb : rows[i.toNat]? = some b)
    (hget : ∀ w A c, Kd.C (Kd.int .u8) w A b.length b → b.length ≤ c → Calls Try.prog 30 #[.slice A b.length c] w fun e w' => ∃ v0_ : Value, e = .returned (.tuple #[.agg #[v0_, .bool wr], .int .i64 n, .int .i64 er]) ∧ Kd.R k45 45 w' w.heap.size (fun _ => True) v0_ cells ∧ Below w.heap.size w w') :
    Calls Try.prog 36 #[.pointer (some ⟨g, 0, none⟩), .int .i64 i] W fun e W' => ∃ v0_ : Value, e = .returned (.tuple #[.agg #[v0_, .bool wr], .bool (decide (er = 0))]) ∧ Kd.R k45 45 W' W.heap.size (fun _ => True) v0_ cells ∧ Below W.heap.size W W' := by
  have hb0 : Below W.heap.size W (W.alloc (.cells #[.slice none 0 0, .bool false] 31)) := below_alloc (Below.refl _ _) _
  have hB0 := blk_new W (.cells #[.slice none 0 0, .bool false] 31)
  have hlen := page_len _ ok g rows (hpage.below hb0)
  have hil : i.toNat < rows.length := (List.getElem?_eq_some_iff.1 hb).1
  obtain ⟨hokg, v, hg, hv⟩ := hpage
  obtain ⟨A0, c0, rfl, hc0⟩ := Kd.NQ_slice hv
  go_enter Try.func36, Try.ntmps36
  go_wp2_with (first
    | (go_at_call 37; refine hlen.mono ?_; rintro e w1 ⟨rfl, hd1⟩
       have hb1 : Below W.heap.size W w1 := hb0.trans (hd1.below.mono (by simp))
       have hcell1 : w1.cell? ⟨g, 0, none⟩ = some (.slice A0 rows.length c0) := (blk_cell (blk_below hg hb1) 0).trans rfl
       obtain ⟨ad, cs, rfl, hcl, hFK, hcc, _⟩ := Kd.F_get (Kd.NQ_F (Kd.NQ_below hv hb1)) [] i hi (by omega)
       rw [List.getD_eq_getElem?_getD, hb, Option.getD_some] at hFK
       obtain ⟨A1, c1, rfl, hc1, hF1⟩ := Kd.FK_slice_open hFK
       have hce : w1.cell? (ad.add i.toNat) = some (.slice A1 b.length c1) := by simpa [Kd.slice] using hcc 0 _ rfl
       have hB1 := blk_below hB0 hd1.below)
    | (go_at_call 30; refine (hget _ _ _ (Kd.F_now hF1) hc1).mono ?_; rintro e w2 ⟨v0, rfl, hR0, hb2⟩
       obtain ⟨A2, c2, rfl⟩ := Kd.R_slice hR0
       have hb12 : Below W.heap.size W w2 := hb1.trans (hb2.mono hb1.size)
       have hR1 := Kd.R_alloc hR0 (.cells #[.slice A2 cells.length c2, .bool wr] 31)
       have hB2 := blk_below hB1 hb2
       have hB3 := blk_alloc hB2 (.cells #[.slice A2 cells.length c2, .bool wr] 31)
       have hne : W.heap.size ≠ w2.heap.size := Nat.ne_of_lt (blk_lt hB2)
       have hne2 : w2.heap.size ≠ W.heap.size := hne.symm
       obtain ⟨h00, h01, f00, f01⟩ := blk2 hB2
       obtain ⟨i00, i01, k00, k01⟩ := blk2 hB3))
  refine bodyPost_ret (results_ct rfl _ _ W.heap.size 31 #[.slice A2 cells.length c2, .bool wr] (0, 0) _ rfl ((blk_set (blk_set hB3 0 _) 1 _).trans rfl) Try.underlying31 rfl info31s) rfl ?_
  have hlt1 := blk_lt hB1
  refine ⟨_, rfl, Kd.R_mono (Kd.R_lower (Kd.R_far (Kd.R_far (Kd.R_alloc (Kd.R_bound hR0) _) (p := ⟨W.heap.size, 0, none⟩) ?h1 _) (p := ⟨W.heap.size, 1, none⟩) ?h2 _) hb1.size) (fun _ _ => trivial), below_set (below_set (below_alloc hb12 _) (Nat.le_refl _)) (Nat.le_refl _)⟩
  all_goals
    intro k hk
    have := hk.2.1
    show k ≠ W.heap.size
    omega
end Go.Proofs.Ytkigdcihhlkkdaa.P
end
section
set_option linter.unusedVariables false
set_option linter.unusedSimpArgs false
namespace Go.Proofs.Ytkigdcihhlkkdaa.P
open Go.RowKit Go.Proofs.YtkigdcihhlkkdaaW.PrintWords Go.Proofs.YtkigdcihhlkkdaaW.PrintLast Go.Proofs.YtkigdcihhlkkdaaW.PrintMore
structure Pg where
  blk : Nat
  ok : Nat → Prop
  rows : List (List Int)
def Pg.cell (p : Pg) : List Value := [.pointer (some ⟨p.blk, 0, none⟩)]
def flat (ps : List Pg) : List (List Int) := (ps.map Pg.rows).flatten
def mid : List Pg → Prop
  | [] => True
  | [_] => True
  | p :: q :: r => p.rows.length = 16 ∧ mid (q :: r)
structure Inv (ps : List Pg) : Prop where
  some_ : ∀ p ∈ ps, p.rows ≠ []
  most : ∀ p ∈ ps, p.rows.length ≤ 16
  full : mid ps.tail
theorem mid_tail : ∀ {ps : List Pg}, mid ps → mid ps.tail
  | [], _ => trivial
  | [_], _ => trivial
  | _ :: _ :: _, h => h.2
theorem Inv.tail {ps : List Pg} (h : Inv ps) : Inv ps.tail :=
  ⟨fun p hp => h.some_ p (List.mem_of_mem_tail hp), fun p hp => h.most p (List.mem_of_mem_tail hp), mid_tail h.full⟩
def StoreAt (W : World) (ok : Nat → Prop) (s : Nat) (lim n gone : Int) (ps : List Pg) : Prop :=
  ok s ∧ ∃ v, W.heap[s]? = some (.cells #[.int .i64 lim, v, .int .i64 n, .int .i64 gone] 91 (0, 0)) ∧ (Kd.raw 1).Q 49 W 0 (fun k => ok k ∧ k ≠ s) v (ps.map Pg.cell) ∧
    (∀ p ∈ ps, PageAt W p.ok p.blk p.rows ∧ ∀ k, p.ok k → ok k ∧ k ≠ s ∧ some k ≠ v.ownBlock) ∧ ps.Pairwise (fun p q => ∀ k, p.ok k → ¬ q.ok k)
namespace StoreAt
variable {W W' : World} {ok ok' S : Nat → Prop} {s : Nat} {lim n gone : Int} {ps : List Pg}
theorem step (h : StoreAt W ok s lim n gone ps) (hm : ∀ k, ok k → k < W.heap.size → W'.heap[k]? = W.heap[k]?) : StoreAt W' ok s lim n gone ps := by
  obtain ⟨h0, v, hg, hv, hp, hd⟩ := h
  exact ⟨h0, v, (hm s h0 (blk_lt hg)).trans hg, Kd.Q_step hv (fun k hk hlt => hm k hk.1 hlt), fun p hpm => ⟨(hp p hpm).1.step (fun k hk hlt => hm k ((hp p hpm).2 k hk).1 hlt), (hp p hpm).2⟩, hd⟩
theorem mono (h : StoreAt W ok s lim n gone ps) (hok : ∀ k, ok k → ok' k) : StoreAt W ok' s lim n gone ps := by
  obtain ⟨h0, v, hg, hv, hp, hd⟩ := h
  exact ⟨hok s h0, v, hg, Kd.Q_mono hv (fun k hk => ⟨hok k hk.1, hk.2⟩), fun p hpm => ⟨(hp p hpm).1, fun k hk => ⟨hok k ((hp p hpm).2 k hk).1, ((hp p hpm).2 k hk).2⟩⟩, hd⟩
theorem below (h : StoreAt W ok s lim n gone ps) (hf : Below W.heap.size W W') : StoreAt W' ok s lim n gone ps := h.step (fun k hk hlt => hf.block k hlt)
theorem fr (h : StoreAt W ok s lim n gone ps) (hf : Fr S W W') (hs : ∀ k, ok k → ¬ S k) : StoreAt W' ok s lim n gone ps := h.step (fun k hk hlt => hf.block k hlt (hs k hk))
theorem lt (h : StoreAt W ok s lim n gone ps) : s < W.heap.size := by
  obtain ⟨h0, v, hg, _⟩ := h
  exact blk_lt hg
end StoreAt
theorem blk4 {W : World} {g t : Nat} {a b c d : Value} (h : W.heap[g]? = some (.cells #[a, b, c, d] t (0, 0))) : (W.cell? ⟨g, 0, none⟩ = some a ∧ W.cell? ⟨g, 1, none⟩ = some b ∧ W.cell? ⟨g, 2, none⟩ = some c ∧ W.cell? ⟨g, 3, none⟩ = some d) ∧ W.frozen? ⟨g, 0, none⟩ = false ∧ W.frozen? ⟨g, 1, none⟩ = false ∧ W.frozen? ⟨g, 2, none⟩ = false ∧ W.frozen? ⟨g, 3, none⟩ = false :=
  ⟨⟨(blk_cell h 0).trans rfl, (blk_cell h 1).trans rfl, (blk_cell h 2).trans rfl, (blk_cell h 3).trans rfl⟩, blk_frozen h 0, blk_frozen h 1, blk_frozen h 2, blk_frozen h 3⟩
theorem Addr.add_zero_ (ad : Addr) : ad.add 0 = ad := rfl
theorem PageAt.drewN {W : World} {ok : Nat → Prop} {g : Nat} {rows : List (List Int)} (h : PageAt W ok g rows) (m : Nat) : PageAt (W.drewN m) ok g rows := h.step (fun _ _ _ => rfl)
theorem PageAt.set {W : World} {ok : Nat → Prop} {g s : Nat} {rows : List (List Int)} (h : PageAt W ok g rows) (hs : ¬ ok s) (j : Nat) (u : Value) : PageAt (W.setCell ⟨s, j, none⟩ u) ok g rows :=
  h.step (fun k hk _ => Below.heap_setCell W ⟨s, j, none⟩ u k (fun e => hs (by have e' : k = s := e; rw [← e']; exact hk)))
theorem cell_far_ {W : World} {ad : Addr} {v : Value} {s : Nat} (h : W.cell? ad = some v) (hne : ad.block ≠ s) (j : Nat) (u : Value) : (W.setCell ⟨s, j, none⟩ u).cell? ad = some v := by
  rw [← h]
  unfold World.cell?
  rw [Below.heap_setCell W ⟨s, j, none⟩ u ad.block hne]
theorem quiet_of2 {P : Program} {f : FuncId} {args : Array Value} {w : World} {a b : Nat} {v : Value}
    (h : Calls P f args (w.drewN (a + b)) fun e w' => e = .returned v ∧ ∃ m, w' = (w.drewN (a + b)).drewN m) : Calls P f args (w.drewN (a + b)) fun e w'' => e = .returned v ∧ ∃ n, w'' = w.drewN (a + n) :=
  h.mono fun _ _ ⟨he, m, hm⟩ => ⟨he, b + m, by rw [hm, World.drewN_drewN, Nat.add_assoc]⟩
theorem ptr_at {W : World} {okv : Nat → Prop} {A : Option Addr} {n c : Nat} {ps : List Pg} (h : (Kd.raw 1).Q 49 W 0 okv (.slice A n c) (ps.map Pg.cell)) {i : Nat} {p : Pg} (hp : ps[i]? = some p) : ∃ ad, A = some ad ∧ W.cell? (ad.add i) = some (.pointer (some ⟨p.blk, 0, none⟩)) := by
  obtain ⟨hn, hc, hC⟩ := Kd.Q_reads' h
  have hil := (List.getElem?_eq_some_iff.1 hp).1
  obtain ⟨ad, cs, hA, hcl, hK, hcc⟩ := ReadsRow.get_ hC [] (i : Int) (by omega) (by simp; omega)
  refine ⟨ad, hA, ?_⟩
  have hcs : cs = p.cell := by
    have := hK.1
    rw [this, List.getD_eq_getElem?_getD, Int.toNat_natCast, List.getElem?_map, hp]
    rfl
  subst hcs
  simpa [Kd.raw] using hcc 0 _ rfl
theorem StoreAt.rebuild {w2 w3 : World} {ok : Nat → Prop} {s : Nat} {lim n gone : Int} {v : Value} {ps : List Pg} (h0 : ok s) (hg : w3.heap[s]? = some (.cells #[.int .i64 lim, v, .int .i64 n, .int .i64 gone] 91 (0, 0)))
    (hoth : ∀ k, k ≠ s → w3.heap[k]? = w2.heap[k]?) (hQ : (Kd.raw 1).Q 49 w2 0 (fun k => ok k ∧ k ≠ s) v (ps.map Pg.cell))
    (hp : ∀ p ∈ ps, PageAt w2 p.ok p.blk p.rows ∧ ∀ k, p.ok k → ok k ∧ k ≠ s ∧ some k ≠ v.ownBlock) (hd : ps.Pairwise (fun p q => ∀ k, p.ok k → ¬ q.ok k)) : StoreAt w3 ok s lim n gone ps :=
  ⟨h0, v, hg, Kd.Q_step hQ (fun k hk _ => hoth k hk.2), fun p hpm => ⟨(hp p hpm).1.step (fun k hk _ => hoth k ((hp p hpm).2 k hk).2.1), (hp p hpm).2⟩, hd⟩
theorem flat_cons (p : Pg) (ps : List Pg) : flat (p :: ps) = p.rows ++ flat ps := rfl
theorem cut_inv {p0 : Pg} {rest : List Pg} {F : List (List Int)} {n n' gone gone' lim K : Int} {ok : Nat → Prop} {gk : Nat} (hI : Inv (p0 :: rest)) (hF : flat (p0 :: rest) = F.drop (n - n').toNat) (hN : n' = (flat (p0 :: rest)).length) (hnn : n' ≤ n) (hgn : gone' + n' = gone + n) (hk : (p0 :: rest).length < gk)
    (hK0 : 0 ≤ K ∧ K ≤ n' - lim ∧ K ≤ p0.rows.length ∧ (K = n' - lim ∨ K = p0.rows.length)) (ps2 : List Pg) (hps : (ps2 = rest ∧ p0.rows.length - K.toNat = 0) ∨ (ps2 = { p0 with rows := p0.rows.drop K.toNat } :: rest ∧ p0.rows.length - K.toNat ≠ 0)) :
    Inv ps2 ∧ flat ps2 = F.drop (n - (n' - K)).toNat ∧ n' - K = (flat ps2).length ∧ n' - K ≤ n ∧ (lim ≤ n' - K ∨ n' - K = n) ∧ (gone' + K) + (n' - K) = gone + n ∧ (lim < n' - K → ps2.length < gk - 1) := by
  have hfl : flat ps2 = (flat (p0 :: rest)).drop K.toNat := by
    rw [flat_cons]
    rcases hps with ⟨rfl, he⟩ | ⟨rfl, he⟩
    · rw [List.drop_append_of_le_length (by omega), List.drop_of_length_le (by omega), List.nil_append]
    · rw [flat_cons, List.drop_append_of_le_length (by omega)]
  have hlen : p0.rows.length ≤ (flat (p0 :: rest)).length := by rw [flat_cons, List.length_append]; omega
  refine ⟨?_, ?_, ?_, by omega, .inl (by omega), by omega, ?_⟩
  · rcases hps with ⟨rfl, he⟩ | ⟨rfl, he⟩
    · exact hI.tail
    · refine ⟨fun p hp => ?_, fun p hp => ?_, hI.full⟩
      · rcases List.mem_cons.1 hp with rfl | hp
        · intro h0
          have := congrArg List.length h0
          simp only [List.length_drop, List.length_nil] at this
          omega
        · exact hI.some_ p (by simp [hp])
      · rcases List.mem_cons.1 hp with rfl | hp
        · have := hI.most p0 (by simp)
          simp only [List.length_drop]
          omega
        · exact hI.most p (by simp [hp])
  · rw [hfl, hF, List.drop_drop]
    congr 1
    omega
  · rw [hfl, List.length_drop]
    omega
  · intro hlt
    simp only [List.length_cons] at hk
    rcases hps with ⟨rfl, he⟩ | ⟨rfl, he⟩
    · omega
    · omega
set_option maxHeartbeats 2000000 in
set_option maxRecDepth 100000 in
theorem store_len (W : World) (ok : Nat → Prop) (s : Nat) (lim n gone : Int) (ps : List Pg) (h : StoreAt W ok s lim n gone ps) :
    Calls Try.prog 44 #[.pointer (some ⟨s, 0, none⟩)] W fun e w' => e = .returned (.int .i64 n) ∧ Drawn0 W w' := by
  obtain ⟨_, v, hg, _⟩ := h
  obtain ⟨⟨h0, h1, h2, h3⟩, _⟩ := blk4 hg
  go_enter Try.func44, Try.ntmps44
  go_wp2
  all_goals go_ret
  all_goals exact ⟨by first | rfl | simp, Drawn0.refl _⟩
set_option maxHeartbeats 2000000 in
set_option maxRecDepth 100000 in
theorem store_gone (W : World) (ok : Nat → Prop) (s : Nat) (lim n gone : Int) (ps : List Pg) (h : StoreAt W ok s lim n gone ps) :
    Calls Try.prog 45 #[.pointer (some ⟨s, 0, none⟩)] W fun e w' => e = .returned (.int .i64 gone) ∧ Drawn0 W w' := by
  obtain ⟨_, v, hg, _⟩ := h
  obtain ⟨⟨h0, h1, h2, h3⟩, _⟩ := blk4 hg
  go_enter Try.func45, Try.ntmps45
  go_wp2
  all_goals go_ret
  all_goals exact ⟨by first | rfl | simp, Drawn0.refl _⟩
set_option maxHeartbeats 2000000 in
set_option maxRecDepth 100000 in
theorem store_new (W : World) (lim : Int) : Calls Try.prog 39 #[.int .i64 lim] W fun e w' => ∃ s, e = .returned (.pointer (some ⟨s, 0, none⟩)) ∧ W.heap.size ≤ s ∧ StoreAt w' (fun k => W.heap.size ≤ k) s (min (max lim 0) 1000000) 0 0 [] ∧ Below W.heap.size W w' := by
  go_enter Try.func39, Try.ntmps39
  go_wp2
  go_ret
  exact ⟨W.heap.size, rfl, Nat.le_refl _, ⟨Nat.le_refl _, .slice none 0 0, by simp [World.alloc, -World.alloc_eq], Kd.Q_nil _ _ _ _ _, fun p hp => by simp at hp, List.Pairwise.nil⟩, below_alloc (Below.refl _ _) _⟩
set_option maxHeartbeats 2000000 in
set_option maxRecDepth 100000 in
theorem store_cuts (W : World) (ok : Nat → Prop) (s : Nat) (lim n gone : Int) (ps : List Pg) (h : StoreAt W ok s lim n gone ps) (hi : Inv ps) (hn : n = (flat ps).length) (hn2 : n ≤ 1000000000) (hl : 0 ≤ lim) (hg0 : 0 ≤ gone) (hg1 : gone ≤ 1000000000) :
    Calls Try.prog 62 #[.pointer (some ⟨s, 0, none⟩)] W fun e w' => e = .returned (.tuple #[]) ∧ ∃ ps' n' gone', StoreAt w' ok s lim n' gone' ps' ∧ Inv ps' ∧ flat ps' = (flat ps).drop (n - n').toNat ∧ n' = min n lim ∧ gone' + n' = gone + n ∧ Fr ok W w' := by
  go_enter Try.func62, Try.ntmps62
  go_wp2
  go_loopg [2] (ps.length + 1) (fun kq v2 w' => ∃ (ps' : List Pg) (n' gone' : Int), Aside0 (StoreAt w' ok s lim n' gone' ps' ∧ Inv ps' ∧ flat ps' = (flat ps).drop (n - n').toNat ∧ n' = (flat ps').length ∧ n' ≤ n ∧ (lim ≤ n' ∨ n' = n) ∧ gone' + n' = gone + n ∧ Fr ok W w' ∧ (lim < n' → ps'.length < kq)))
  case atStart => exact ⟨ps, n, gone, ⟨h, hi, by simp, hn, Int.le_refl _, .inr rfl, rfl, Fr.refl _ _, fun _ => Nat.lt_succ_self _⟩⟩
  case round =>
    have HX := Aside0.mk hn
    clear hn
    obtain ⟨ps', n', gone', HA⟩ := hrel
    obtain ⟨hs0, v, hg, hv, hp, hd⟩ := HA.out.1
    obtain ⟨A, c, rfl, hc⟩ := Kd.Q_slice hv
    rw [List.length_map] at hg hv hc
    obtain ⟨⟨h0, h1, h2, h3⟩, f0, f1, f2, f3⟩ := blk4 hg
    by_cases hlt : lim < n'
    · have hne : ps' ≠ [] := by rintro rfl; have := HA.out.2.2.2.1; simp [flat] at this; omega
      obtain ⟨p0, rest, rfl⟩ := List.exists_cons_of_ne_nil hne
      obtain ⟨ad, rfl, hp0⟩ := ptr_at hv (i := 0) (p := p0) rfl
      rw [Addr.add_zero_] at hp0
      obtain ⟨hP0, hP0n⟩ := hp p0 (by simp)
      have hsn : ¬ p0.ok s := fun hq => (hP0n s hq).2.1 rfl
      have hvn : ∀ k, (Value.slice (some ad) (p0 :: rest).length c).ownBlock = some k → ¬ p0.ok k := fun k hk hq => (hP0n k hq).2.2 hk.symm
      have hw1 : IntKind.i64.wrap (n' - lim) = n' - lim := by have := HA.out; rw [IntKind.wrap_i64]; omega
      go_wp2
      go_quiet (fail)
      go_wp2
      go_quiet ((go_at_call 37; exact quiet_of2 ((page_len _ p0.ok p0.blk p0.rows (hP0.drewN _)).mono (fun e w1 h => ⟨h.1, h.2.out⟩))))
      go_wp2_with (first
        | (go_at_call 35
           generalize hKe : min (n' - lim) (p0.rows.length : Int) = K
           refine (page_cut _ p0.ok p0.blk p0.rows K (hP0.drewN _)).mono ?_
           rintro e w2 ⟨rfl, hP2, hfr2⟩
           have hK0 : 0 ≤ K ∧ K ≤ n' - lim ∧ K ≤ p0.rows.length ∧ (K = n' - lim ∨ K = p0.rows.length) := by omega
           rw [if_pos ⟨hK0.1, hK0.2.2.1⟩] at hP2
           have hg2 := hfr2.old hsn hg
           obtain ⟨⟨k0, k1, k2, k3⟩, j0, j1, j2, j3⟩ := blk4 hg2
           have hQ2 := Kd.Q_step (Kd.Q_tight rfl hv) (fun k hk hlt => hfr2.block k hlt (hvn k hk.symm))
           obtain ⟨ad2, hadq, hp2⟩ := ptr_at hQ2 (i := 0) (p := p0) rfl
           obtain rfl := Option.some.inj hadq
           rw [Addr.add_zero_] at hp2
           have hw2 : IntKind.i64.wrap (n' - K) = n' - K := by have := HA.out; rw [IntKind.wrap_i64]; omega
           have hw3 : IntKind.i64.wrap (gone' + K) = gone' + K := by have := HA.out; rw [IntKind.wrap_i64]; omega
           have hadn : ad.block ≠ s := (hv.1 ad.block rfl).2
           have hp3 := cell_far_ (cell_far_ hp2 hadn 2 (.int .i64 (n' - K))) hadn 3 (.int .i64 (gone' + K)))
        | (go_at_call 37
           refine (page_len _ p0.ok p0.blk (p0.rows.drop K.toNat) ((hP2.set hsn 2 _).set hsn 3 _)).mono ?_
           rintro e w3 ⟨rfl, hd3⟩
           obtain ⟨m3, rfl⟩ := hd3.out))
      all_goals
        have hall := HA.out
        have hkk := hall.2.2.2.2.2.2.2.2 hlt
        have hne1 : gk - 1 < gk := by simp only [List.length_cons] at hkk; omega
        have hdis : ∀ q ∈ rest, ∀ k, p0.ok k → ¬ q.ok k := (List.pairwise_cons.1 hd).1
        have hfr2b : Fr p0.ok wr w2 := ((Fr.refl p0.ok wr).drewN _).trans hfr2 (fun _ _ h => h)
        have hfr3 : Fr ok wr w2 := (hfr2b.mono (fun k hk => (hP0n k hk).1))
        have hfr4 : Fr ok W w2 := (hall.2.2.2.2.2.2.2.1).trans hfr3 (fun _ _ h => h)
        have hrest : ∀ q ∈ rest, PageAt w2 q.ok q.blk q.rows := fun q hq => (hp q (by simp [hq])).1.fr hfr2b (fun k hk hk2 => hdis q hq k hk2 hk)
        have hQ3 := Kd.Q_mono (ok' := fun k => ok k ∧ k ≠ s) hQ2 (fun k hk => hv.1 k hk.symm)
        have hQd := Kd.Q_drop (k := 1) hQ3 (by simp)
        simp only [List.map_cons, List.drop_succ_cons, List.drop_zero, List.length_cons, Nat.add_sub_cancel] at hQd
        have hz1 : (Kd.raw 1).sz = 1 := rfl
        have hlow : Fr ok W (((w2.setCell ⟨s, 2, none⟩ (.int .i64 (n' - K))).setCell ⟨s, 3, none⟩ (.int .i64 (gone' + K))).drewN m3) := ((hfr4.setCell (p := ⟨s, 2, none⟩) hs0 _).setCell (p := ⟨s, 3, none⟩) hs0 _).drewN m3
        have hblk := blk_drewN (blk_set (blk_set hg2 2 (.int .i64 (n' - K))) 3 (.int .i64 (gone' + K))) m3
        have hoth : ∀ k, k ≠ s → (((w2.setCell ⟨s, 2, none⟩ (.int .i64 (n' - K))).setCell ⟨s, 3, none⟩ (.int .i64 (gone' + K))).drewN m3).heap[k]? = w2.heap[k]? := fun k hk => (Below.heap_setCell _ ⟨s, 3, none⟩ _ k hk).trans (Below.heap_setCell _ ⟨s, 2, none⟩ _ k hk)
      · rename_i hz0
        have hz : p0.rows.length - K.toNat = 0 := by simpa using hz0
        have hcut := cut_inv (ok := ok) (gk := gk) hall.2.1 hall.2.2.1 hall.2.2.2.1 hall.2.2.2.2.1 hall.2.2.2.2.2.2.1 hkk hK0 rest (.inl ⟨rfl, hz⟩)
        go_roundg (gk - 1)
        case measure => exact hne1
        case rel =>
          refine ⟨rest, n' - K, gone' + K, ⟨StoreAt.rebuild (w2 := w2) hs0 ((blk_set hblk 1 _).trans rfl) (fun k hk => (Below.heap_setCell _ ⟨s, 1, none⟩ _ k hk).trans (hoth k hk)) (v := .slice (some ad) rest.length 0) ?_ (fun q hq => ⟨hrest q hq, fun k hk => (hp q (by simp [hq])).2 k hk⟩) (List.pairwise_cons.1 hd).2, hcut.1, hcut.2.1, hcut.2.2.1, hcut.2.2.2.1, hcut.2.2.2.2.1, hcut.2.2.2.2.2.1, hlow.setCell (p := ⟨s, 1, none⟩) hs0 _, hcut.2.2.2.2.2.2⟩⟩
          have hc1 : c = 1 := by first | assumption | omega
          subst hc1
          exact hQd
      · rename_i hz0
        have hz : p0.rows.length - K.toNat = 0 := by simpa using hz0
        have hcut := cut_inv (ok := ok) (gk := gk) hall.2.1 hall.2.2.1 hall.2.2.2.1 hall.2.2.2.2.1 hall.2.2.2.2.2.2.1 hkk hK0 rest (.inl ⟨rfl, hz⟩)
        go_roundg (gk - 1)
        case measure => exact hne1
        case rel =>
          refine ⟨rest, n' - K, gone' + K, ⟨StoreAt.rebuild (w2 := w2) hs0 ((blk_set hblk 1 _).trans rfl) (fun k hk => (Below.heap_setCell _ ⟨s, 1, none⟩ _ k hk).trans (hoth k hk)) (v := .slice (some ⟨ad.block, ad.off + 1, none⟩) rest.length (c - 1)) ?_ (fun q hq => ⟨hrest q hq, fun k hk => (hp q (by simp [hq])).2 k hk⟩) (List.pairwise_cons.1 hd).2, hcut.1, hcut.2.1, hcut.2.2.1, hcut.2.2.2.1, hcut.2.2.2.2.1, hcut.2.2.2.2.2.1, hlow.setCell (p := ⟨s, 1, none⟩) hs0 _, hcut.2.2.2.2.2.2⟩⟩
          rw [if_neg (by first | assumption | omega)] at hQd
          exact hQd
      · rename_i hz0
        have hz : p0.rows.length - K.toNat ≠ 0 := by simpa using hz0
        have hcut := cut_inv (ok := ok) (gk := gk) hall.2.1 hall.2.2.1 hall.2.2.2.1 hall.2.2.2.2.1 hall.2.2.2.2.2.2.1 hkk hK0 ({ p0 with rows := p0.rows.drop K.toNat } :: rest) (.inr ⟨rfl, hz⟩)
        go_roundg (gk - 1)
        case measure => exact hne1
        case rel =>
          refine ⟨{ p0 with rows := p0.rows.drop K.toNat } :: rest, n' - K, gone' + K, ⟨StoreAt.rebuild (w2 := w2) hs0 (hblk.trans rfl) hoth (v := .slice (some ad) (rest.length + 1) c) hQ3 (fun q hq => ?_) ?_, hcut.1, hcut.2.1, hcut.2.2.1, hcut.2.2.2.1, hcut.2.2.2.2.1, hcut.2.2.2.2.2.1, hlow, hcut.2.2.2.2.2.2⟩⟩
          · rcases List.mem_cons.1 hq with rfl | hq
            · exact ⟨hP2, hP0n⟩
            · exact ⟨hrest q hq, fun k hk => (hp q (by simp [hq])).2 k hk⟩
          · exact List.pairwise_cons.2 ⟨hdis, (List.pairwise_cons.1 hd).2⟩
    · go_wp2
      go_quiet (fail)
      go_wp2
      have hall := HA.out
      go_end0
      exact ⟨rfl, ps', n', gone', hall.1.step (fun _ _ _ => rfl), hall.2.1, hall.2.2.1, by have := HX.out; omega, hall.2.2.2.2.2.2.1, hall.2.2.2.2.2.2.2.1.drewN _⟩
end Go.Proofs.Ytkigdcihhlkkdaa.P
end
