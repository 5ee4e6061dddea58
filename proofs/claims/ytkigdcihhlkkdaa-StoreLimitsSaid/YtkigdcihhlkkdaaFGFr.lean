/- Frames: what lies as it lay, but for a set of blocks. -/
import Derived.Test.YtkigdcihhlkkdaaFV1
import Derived.Below
set_option linter.unusedVariables false
set_option linter.unusedSimpArgs false
namespace Go.Proofs.YtkigdcihhlkkdaaW.PrintWords
open Go.RowKit
structure Fr (S : Nat → Prop) (W W' : World) : Prop where
  os : W'.os = W.os
  tape : W'.tape = W.tape
  output : W'.output = W.output
  size : W.heap.size ≤ W'.heap.size
  block : ∀ k, k < W.heap.size → ¬ S k → W'.heap[k]? = W.heap[k]?
namespace Fr
variable {S S1 : Nat → Prop} {W W1 W2 : World}
theorem refl (S : Nat → Prop) (W : World) : Fr S W W := ⟨rfl, rfl, rfl, Nat.le_refl _, fun _ _ _ => rfl⟩
theorem trans (h : Fr S W W1) (k : Fr S1 W1 W2) (hs : ∀ i, i < W.heap.size → S1 i → S i) : Fr S W W2 :=
  ⟨k.os.trans h.os, k.tape.trans h.tape, k.output.trans h.output, Nat.le_trans h.size k.size, fun i hi hn => (k.block i (Nat.lt_of_lt_of_le hi h.size) (fun q => hn (hs i hi q))).trans (h.block i hi hn)⟩
theorem mono (h : Fr S W W1) (hs : ∀ i, S i → S1 i) : Fr S1 W W1 := ⟨h.os, h.tape, h.output, h.size, fun i hi hn => h.block i hi (fun q => hn (hs i q))⟩
theorem of_below (h : Below W.heap.size W W1) : Fr S W W1 := ⟨h.os, h.tape, h.output, h.size, fun k hk _ => h.block k hk⟩
theorem of_grown {row : Option Nat} (h : W.grownBy W1 row) (hs : ∀ k, row = some k → S k) : Fr S W W1 :=
  ⟨h.os, h.tape, h.output, h.size, fun k hk hn => h.block k hk (fun e => hn (hs k e.symm))⟩
theorem below (h : Fr S W W1) {B : Nat} (hb : B ≤ W.heap.size) (hs : ∀ k, S k → B ≤ k) : Below B W W1 :=
  ⟨h.os, h.tape, h.output, h.size, fun k hk => h.block k (Nat.lt_of_lt_of_le hk hb) (fun q => by have := hs k q; omega)⟩
theorem drawn (h : Drawn0 W W1) : Fr S W W1 := of_below h.below
theorem alloc (h : Fr S W W1) (o : Obj) : Fr S W (W1.alloc o) := h.trans (S1 := fun _ => False) (of_below (below_alloc (Below.refl _ _) o)) (fun _ _ q => q.elim)
theorem drewN (h : Fr S W W1) (m : Nat) : Fr S W (W1.drewN m) := h.trans (S1 := fun _ => False) (of_below (pw_below_drewN (Below.refl _ _) m)) (fun _ _ q => q.elim)
theorem drew (h : Fr S W W1) : Fr S W W1.drew := h.trans (S1 := fun _ => False) (of_below (below_drew (Below.refl _ _))) (fun _ _ q => q.elim)
theorem setCell (h : Fr S W W1) {p : Addr} (hp : S p.block) (u : Value) : Fr S W (W1.setCell p u) :=
  h.trans (S1 := fun k => k = p.block) ⟨rfl, rfl, rfl, by simp [World.setCell], fun k _ hk => Below.heap_setCell W1 p u k hk⟩ (fun i _ q => by rw [q]; exact hp)
theorem old (h : Fr S W W1) {k : Nat} {o : Obj} (hk : ¬ S k) (ho : W.heap[k]? = some o) : W1.heap[k]? = some o := (h.block k (blk_lt ho) hk).trans ho
end Fr
end Go.Proofs.YtkigdcihhlkkdaaW.PrintWords
