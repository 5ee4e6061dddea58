/- '[]byte(s)' of a string: a row of its own that bears the mark of a conversion (frozen behind its end). What the walks say of a row of the call's own ('Kd.R_..'), said of such a row ('Kd.Y_..'). -/
import Derived.Test.YtohafoihegjlnaaWWords
import Derived.Test.YtohafoihegjlnaaWLast
import Derived.Test.YtohafoihegjlnaaWMore
import Derived.Lib.ConvBytes
import Derived.Lib.SmallJoins
set_option linter.unusedVariables false
set_option linter.unusedSimpArgs false
namespace Go.Proofs.YtohafoihegjlnaaW.PrintWords
open Go.RowKit
namespace Kd
def Y (d : Kd Int) (e : Nat) (w : World) (base : Nat) (ok : Nat → Prop) (v : Value) (xs : List Int) : Prop :=
  d = Kd.int .u8 ∧ (∀ k, v.ownBlock = some k → ok k) ∧ ∃ g cap cur, v = .slice (some ⟨g, 0, none⟩) xs.length cap ∧ base ≤ g ∧ w.heap[g]? = some (.cells cur e (cur.size, cur.size + 1)) ∧ xs.length ≤ cap ∧ xs.length ≤ cur.size ∧ xs.length ≤ 9223372036854775807 ∧ cur.toList.take xs.length = nums .u8 xs
section
variable {d : Kd Int} {e : Nat} {w W w1 : World} {base base' : Nat} {ok ok' : Nat → Prop} {v u : Value} {xs : List Int} {g : Nat} {A : Option Addr} {n c : Nat}
theorem Y_mono (h : Y d e w base ok v xs) (hok : ∀ k, ok k → ok' k) : Y d e w base ok' v xs := ⟨h.1, fun k hk => hok k (h.2.1 k hk), h.2.2⟩
theorem Y_lower (h : Y d e w base ok v xs) (hb : base' ≤ base) : Y d e w base' ok v xs := by
  obtain ⟨h0, h1, g, cap, cur, h2, h3, h4⟩ := h
  exact ⟨h0, h1, g, cap, cur, h2, Nat.le_trans hb h3, h4⟩
theorem Y_bound (h : Y d e w base ok v xs) : Y d e w base (fun k => ok k ∧ base ≤ k ∧ k < w.heap.size ∧ ∃ cells fz, w.heap[k]? = some (.cells cells e fz)) v xs := by
  obtain ⟨h0, h1, g, cap, cur, h2, h3, h4, h5⟩ := h
  refine ⟨h0, fun k hk => ?_, g, cap, cur, h2, h3, h4, h5⟩
  have : g = k := by rw [h2] at hk; simpa [Value.ownBlock] using hk
  subst this
  exact ⟨h1 _ hk, h3, blk_lt h4, cur, _, h4⟩
theorem Y_move (h : Y d e w base ok v xs) (hm : ∀ k, ok k → w1.heap[k]? = w.heap[k]?) : Y d e w1 base ok v xs := by
  obtain ⟨h0, h1, g, cap, cur, h2, h3, h4, h5⟩ := h
  refine ⟨h0, h1, g, cap, cur, h2, h3, ?_, h5⟩
  rw [hm g (h1 g (by rw [h2]; simp [Value.ownBlock]))]
  exact h4
theorem Y_step (h : Y d e w base ok v xs) (hm : ∀ k, ok k → k < w.heap.size → w1.heap[k]? = w.heap[k]?) : Y d e w1 base ok v xs :=
  Y_mono (Y_move (Y_bound h) (fun k hk => hm k hk.1 hk.2.2.1)) (fun _ hk => hk.1)
theorem Y_below (h : Y d e w base ok v xs) (hb : Below w.heap.size w w1) : Y d e w1 base ok v xs := Y_step h (fun k _ hk => hb.block k hk)
theorem Y_grown (h : Y d e w base ok v xs) {row : Option Nat} (hg : w.grownBy w1 row) (hok : ∀ k, ok k → some k ≠ row) : Y d e w1 base ok v xs := Y_step h (fun k ho hk => hg.block k hk (hok k ho))
theorem Y_far (h : Y d e w base ok v xs) {p : Addr} (hok : ∀ k, ok k → k ≠ p.block) (u : Value) : Y d e (w.setCell p u) base ok v xs := Y_step h (fun k ho _ => Below.heap_setCell w p u k (hok k ho))
theorem Y_keep (h : Y d e w base ok v xs) {g : Nat} (hk : KeepBut w w1 g none) (hok : ∀ k, ok k → k ≠ g) : Y d e w1 base ok v xs := Y_step h (fun k ho hlt => hk.2 k hlt (hok k ho) (by simp))
theorem Y_alloc (h : Y d e w base ok v xs) (o : Obj) : Y d e (w.alloc o) base ok v xs := Y_below h (below_alloc (Below.refl _ _) o)
theorem Y_drew (h : Y d e w base ok v xs) : Y d e w.drew base ok v xs := Y_below h (below_drew (Below.refl _ _))
theorem Y_drewN (h : Y d e w base ok v xs) (m : Nat) : Y d e (w.drewN m) base ok v xs := Y_below h (pw_below_drewN (Below.refl _ _) m)
theorem Y_lt (h : Y d e w base ok v xs) : ∀ k, v.ownBlock = some k → k < w.heap.size := fun k hk => ((Y_bound h).2.1 k hk).2.2.1
theorem Y_base (h : Y d e w base ok v xs) : ∀ k, v.ownBlock = some k → base ≤ k := fun k hk => ((Y_bound h).2.1 k hk).2.1
theorem Y_slice (h : Y d e w base ok v xs) : ∃ A c, v = .slice A xs.length c := by
  obtain ⟨_, _, g, cap, cur, h2, _⟩ := h
  exact ⟨_, _, h2⟩
theorem Y_types (h : Y d e w base ok v xs) {g t : Nat} {cells : Array Value} {fz : Nat × Nat} (hb : w.heap[g]? = some (.cells cells t fz)) (ht : ∀ q, q ∈ e :: d.E → q ≠ t) : Y d e w base (fun k => ok k ∧ k ≠ g) v xs :=
  Y_mono (Y_bound h) (fun k hk => ⟨hk.1, by
    obtain ⟨_, _, _, cells', fz', hc⟩ := hk
    rintro rfl
    rw [hb] at hc
    injection hc with hc
    injection hc with _ h2 _
    exact ht e (by simp) h2.symm⟩)
theorem Y_ne (h : Y d e w base ok v xs) {g t : Nat} {cells : Array Value} {fz : Nat × Nat} (hb : w.heap[g]? = some (.cells cells t fz)) (ht : e ≠ t) : some g ≠ v.ownBlock := by
  intro he
  obtain ⟨_, _, _, cells', fz', hc⟩ := (Y_bound h).2.1 g he.symm
  rw [hb] at hc
  injection hc with hc
  injection hc with _ h2 _
  exact ht h2.symm
theorem Y_elder' (hu : Y d e W base ok u xs) (hbase : ∀ k, v.ownBlock = some k → W.heap.size ≤ k) (hb : Below W.heap.size W w1) : Y d e w1 base (fun k => ok k ∧ some k ≠ v.ownBlock) u xs :=
  Y_mono (Y_move (Y_bound hu) (fun k hk => hb.block k hk.2.2.1)) (fun k hk => ⟨hk.1, fun he => by have := hbase k he.symm; have := hk.2.2.1; omega⟩)
theorem Y_new' (h : Y d e w1 W.heap.size ok v xs) (hlt : ∀ k, u.ownBlock = some k → k < W.heap.size) : Y d e w1 W.heap.size (fun k => ok k ∧ some k ≠ u.ownBlock) v xs :=
  Y_mono (Y_bound h) (fun k hk => ⟨hk.1, fun he => by have := hlt k he.symm; have := hk.2.1; omega⟩)
theorem Y_newM {M : Nat → Prop} (h : Y d e w1 W.heap.size ok v xs) (hle : w.heap.size ≤ W.heap.size) (hM : ∀ k, w.heap.size ≤ k → M k) : Y d e w1 W.heap.size (fun k => M k ∧ ok k) v xs := Y_mono (Y_bound h) (fun k hk => ⟨hM k (Nat.le_trans hle hk.2.1), hk.1⟩)
theorem Y_elderB (h : Y d e w base ok v xs) (a : Nat) (ha : w.heap.size ≤ a) : Y d e w base (fun k => ok k ∧ k ≠ a) v xs := Y_mono (Y_bound h) (fun k hk => ⟨hk.1, by have := hk.2.2.1; omega⟩)
theorem Y_newB {o : Obj} (h : Y d e w1 w.heap.size ok v xs) (hb : w.heap[g]? = some o) : Y d e w1 w.heap.size (fun k => ok k ∧ k ≠ g) v xs := Y_mono (Y_bound h) (fun k hk => ⟨hk.1, by have := blk_lt hb; have := hk.2.1; omega⟩)
theorem Y_drop (h : Y d e w base (fun k => ok k ∧ ok' k) v xs) : Y d e w base ok v xs := Y_mono h (fun _ hk => hk.1)
theorem Y_kept {S : Nat → Prop} (h : Y d e W base ok v xs) (hk : Kept W w1 S) (hne : ∀ k, ok k → ¬ S k) : Y d e w1 base ok v xs := Y_step h (fun k ho hlt => hk.2 k hlt (hne k ho))
theorem Y_old (hu : Y d e W base ok u xs) (hb : Below W.heap.size W w1) : Y d e w1 base (fun k => ok k ∧ k < W.heap.size) u xs :=
  Y_mono (Y_move (Y_bound hu) (fun k hk => hb.block k hk.2.2.1)) (fun k hk => ⟨hk.1, hk.2.2.1⟩)
theorem Y_oldK (hu : Y d e W base (fun k => ok k ∧ k ≠ g) u xs) (hk : KeepBut W w1 g none) : Y d e w1 base (fun k => ok k ∧ k < W.heap.size) u xs :=
  Y_mono (Y_move (Y_bound hu) (fun k h => hk.2 k h.2.2.1 h.1.2 (by simp))) (fun k h => ⟨h.1.1, h.2.2.1⟩)
theorem Y_told {N : Nat} (h : Y d e w1 base (fun k => ok k ∧ k < N) u xs) (hbase : ∀ k, v.ownBlock = some k → N ≤ k) : Y d e w1 base (fun k => (ok k ∧ some k ≠ v.ownBlock) ∧ k < N) u xs :=
  Y_mono h (fun k hk => ⟨⟨hk.1, fun he => by have := hbase k he.symm; omega⟩, hk.2⟩)
theorem Y_apart' (h : Y d e W base ok u xs) {e' : Nat} (hty : ∀ k, v.ownBlock = some k → ∃ cells, W.heap[k]? = some (.cells cells e' (0, 0))) (ht : ∀ q, q ∈ e :: d.E → q ≠ e') : Y d e W base (fun k => ok k ∧ some k ≠ v.ownBlock) u xs :=
  Y_mono (Y_bound h) (fun k hk => ⟨hk.1, fun he => by
    obtain ⟨_, _, _, cells, fz, hc⟩ := hk
    obtain ⟨cells', hc'⟩ := hty k he.symm
    rw [hc] at hc'
    injection hc' with hc'
    injection hc' with _ h2 _
    exact ht e (by simp) h2⟩)
theorem Y_over' (h : Y d e W base ok u xs) {e' : Nat} (hty : ∀ k, v.ownBlock = some k → ∃ cells, W.heap[k]? = some (.cells cells e' (0, 0))) (ht : ∀ q, q ∈ e :: d.E → q ≠ e') (hg : W.grownBy w1 v.ownBlock) : Y d e w1 base ok u xs :=
  Y_mono (Y_grown (Y_apart' h hty ht) hg (fun _ hk => hk.2)) (fun _ hk => hk.1)
theorem Y_after (h : Y d e W base (fun k => ok k ∧ some k ≠ v.ownBlock) u xs) {v1 : Value} (hg : W.grownBy w1 v.ownBlock) (hat : v1.ownBlock = v.ownBlock ∨ ∃ b, v1.ownBlock = some b ∧ W.heap.size ≤ b) : Y d e w1 base (fun k => ok k ∧ some k ≠ v1.ownBlock) u xs := by
  refine Y_mono (Y_grown (Y_bound h) hg (fun k hk => hk.1.2)) (fun k hk => ⟨hk.1.1, fun he => ?_⟩)
  rcases hat with hat | ⟨b, hb, hle⟩
  · rw [hat] at he; exact hk.1.2 he
  · rw [hb] at he
    have e1 : k = b := by injection he
    have := hk.2.2.1
    omega
theorem Y_readsInt (h : Y d e w base ok (.slice A n c) xs) : n = xs.length ∧ n ≤ c ∧ ReadsInt w .u8 A xs.length xs := by
  obtain ⟨_, _, g, cap, cur, h2, h3, h4, h5, h6, h7, h8⟩ := h
  injection h2 with e1 e2 e3
  subst e1 e2 e3
  refine ⟨rfl, h5, rfl, h7, fun _ => ⟨_, rfl, fun j hj => ?_⟩⟩
  have hc : cur[j]? = some (.int .u8 (xs.getD j 0)) := by
    have := congrArg (·[j]?) h8
    simp only [List.getElem?_take, if_pos hj, nums, List.getElem?_map, Array.getElem?_toList] at this
    rw [this]
    simp [List.getD_eq_getElem?_getD, List.getElem?_eq_getElem hj]
  have hz : (⟨g, 0, none⟩ : Addr).add j = ⟨g, j, none⟩ := by
    unfold Addr.add
    split
    · rename_i z; subst z; rfl
    · simp
  rw [hz]
  simp [World.cell?, h4, hc]
theorem Y_reads' (h : Y d e w base ok (.slice A n c) xs) : n = xs.length ∧ n ≤ c ∧ d.C w A xs.length xs := by
  obtain ⟨h1, h2, h3⟩ := Y_readsInt h
  obtain ⟨rfl, _⟩ := h
  exact ⟨h1, h2, C_of_reads (d := (0 : Int)) (h1 := fun _ => rfl) h3⟩
end
section
variable {P : Program} {ops : Array Oper} {rest : List Oper} {o : Oper} {a : Act} {Q : Exit → Act → World → Prop} {Kc : Act → World → Prop} {W : World}
theorem Y_of_bytes (W : World) (e : TypeId) (s : ByteArray) (hsz : s.size ≤ 9223372036854775807) : Y (Kd.int .u8) e (Lib.bytesWorld W e s) W.heap.size (fun _ => True) (.slice (some ⟨W.heap.size, 0, none⟩) (bytesOf s).length (grownCap W s.size 0 e)) (bytesOf s) := by
  have hl := bytesOf_length s
  have hc : s.size ≤ (Lib.bytesCells W e s).size := by simp [Lib.bytesCells]
  refine ⟨rfl, fun _ _ => trivial, W.heap.size, _, _, rfl, Nat.le_refl _, Lib.bytesWorld_at_new W e s, ?_, by omega, by omega, ?_⟩
  · rw [hl]
    exact grownCap_ge _ _ _ _
  · simp only [Lib.bytesCells, Array.toList_append, Array.toList_map]
    rw [List.take_append_of_le_length (by simp [bytesOf]), List.take_of_length_le (by simp [bytesOf])]
    simp [nums, bytesOf]
theorem Y_conv_run (e src dst : TypeId) (x : Operand) (ho : o.op = .convert src dst x) (s : ByteArray) (hx : a.eval x = .string s) (hs : P.underlying src = some .string)
    (hdt : P.underlying dst = some (.slice e)) (he : P.underlying e = some (.int .u8)) : (execOp a.eval o).run P W = .ok (.value (.slice (some ⟨W.heap.size, 0, none⟩) (bytesOf s).length (grownCap W s.size 0 e))) (Lib.bytesWorld W e s) := by
  have := Lib.run_convert_string_bytes (P := P) W src dst e s hs hdt he
  rw [bytesOf_length]
  unfold execOp
  rw [ho]
  simp [hx, this, Result.andThen]
theorem Y_conv (e src dst : TypeId) (hgd : o.guard = none) {N : Tmp} (_hd : o.dst = some N) (x : Operand) (ho : o.op = .convert src dst x) (s : ByteArray) (hx : a.eval x = .string s) (hs : P.underlying src = some .string)
    (hdt : P.underlying dst = some (.slice e)) (he : P.underlying e = some (.int .u8)) (hsz : s.size ≤ 9223372036854775807)
    (h : ∀ v1 w1, Y (Kd.int .u8) e w1 W.heap.size (fun _ => True) v1 (bytesOf s) → Below W.heap.size W w1 → W.grownBy w1 none → (∃ b, v1.ownBlock = some b ∧ W.heap.size ≤ b) → wpList P ops Q rest (a.put o.dst v1) w1) : wpList P ops Q (o :: rest) a W :=
  event_run hgd (Y_conv_run e src dst x ho s hx hs hdt he) (h _ _ (Y_of_bytes W e s hsz) (Go.Joins.below_bytesWorld _ W e s (Nat.le_refl _))
    ⟨rfl, rfl, rfl, by rw [Lib.bytesWorld_size]; omega, fun k hk _ => Lib.bytesWorld_at_old W e s k hk⟩ ⟨W.heap.size, by simp [Value.ownBlock], Nat.le_refl _⟩)
theorem Y_conv_step (e src dst : TypeId) (hw : Region.wanted o (yielded ops a.tmps) = true) {N : Tmp} (_hd : o.dst = some N) (x : Operand) (ho : o.op = .convert src dst x) (s : ByteArray) (hx : a.eval x = .string s) (hs : P.underlying src = some .string)
    (hdt : P.underlying dst = some (.slice e)) (he : P.underlying e = some (.int .u8)) (hsz : s.size ≤ 9223372036854775807)
    (h : ∀ v1 w1, Y (Kd.int .u8) e w1 W.heap.size (fun _ => True) v1 (bytesOf s) → Below W.heap.size W w1 → W.grownBy w1 none → (∃ b, v1.ownBlock = some b ∧ W.heap.size ≤ b) → Kc (a.put o.dst v1) w1) : if Region.wanted o (yielded ops a.tmps) = true then Oper.wp P o a W Kc Q else Kc (a.put o.dst undef) W :=
  event_step hw (Y_conv_run e src dst x ho s hx hs hdt he) (h _ _ (Y_of_bytes W e s hsz) (Go.Joins.below_bytesWorld _ W e s (Nat.le_refl _))
    ⟨rfl, rfl, rfl, by rw [Lib.bytesWorld_size]; omega, fun k hk _ => Lib.bytesWorld_at_old W e s k hk⟩ ⟨W.heap.size, by simp [Value.ownBlock], Nat.le_refl _⟩)
end
end Kd
end Go.Proofs.YtohafoihegjlnaaW.PrintWords
