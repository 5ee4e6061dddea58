/- own texts of this session, put together -/
import Derived.Test.YtkigdcihhlkkdaaIZ8
import Derived.Test.YtkigdcihhlkkdaaIV1
import Derived.Test.YtkigdcihhlkkdaaIZ0
import Derived.Deep.RegionLaw
import Derived.BigRegion
import Derived.StillTailTactics
section
set_option linter.unusedVariables false
set_option linter.unusedSimpArgs false
namespace Go.Proofs.Ytkigdcihhlkkdaa.P
open Go.RowKit Go.Proofs.YtkigdcihhlkkdaaW.PrintWords Go.Proofs.YtkigdcihhlkkdaaW.PrintLast Go.Proofs.YtkigdcihhlkkdaaW.PrintMore Go.Proofs.Ytkigdcihhlkkdaa.Pure
theorem may_t (l : List S45) (wr : Bool) (hm : mayB l = true) (A : Option Addr) (c : Nat) (hc : l.length ≤ c) (w : World) (hC : Kd.C k45 w A l.length l) :
    Calls Try.prog 26 #[.agg #[.slice A l.length c, .bool wr]] w fun e w' => e = .returned (.bool true) ∧ Below w.heap.size w w' := by
  have h := may_ A c l wr w hC hc (by have := mayB_len hm; omega)
  rwa [hm] at h
theorem put_t (l : List S45) (wr : Bool) (hm : mayB l = true) (A : Option Addr) (c : Nat) (hc : l.length ≤ c) (w : World) (hC : Kd.C k45 w A l.length l) :
    Calls Try.prog 24 #[.agg #[.slice A l.length c, .bool wr]] w fun e w' => ∃ v0 : Value, e = .returned (.tuple #[v0, .bool true]) ∧ Kd.R (Kd.int .u8) 5 w' w.heap.size (fun _ => True) v0 (rowB l wr) ∧ Below w.heap.size w w' := by
  have h := put_ A c l wr w hC hc (by have := mayB_len hm; omega)
  unfold putB at h
  rwa [hm] at h
theorem get_t (l : List S45) (wr : Bool) (hm : mayB l = true) (w : World) (A : Option Addr) (c : Nat) (hC : Kd.C (Kd.int .u8) w A (rowB l wr).length (rowB l wr)) (hc : (rowB l wr).length ≤ c) :
    Calls Try.prog 30 #[.slice A (rowB l wr).length c] w fun e w' => ∃ v0 : Value, e = .returned (.tuple #[.agg #[v0, .bool wr], .int .i64 (rowB l wr).length, .int .i64 0]) ∧ Kd.R k45 45 w' w.heap.size (fun _ => True) v0 l ∧ Below w.heap.size w w' := by
  have h := get_ A c l wr [] w hm (by simp)
  rw [List.append_nil] at h
  exact h hC hc
theorem eqB_self (l : List S45) (wr : Bool) : eqB l wr l wr = true := by simp [eqB]
end Go.Proofs.Ytkigdcihhlkkdaa.P
end
section
set_option linter.unusedVariables false
set_option linter.unusedSimpArgs false
namespace Go.Proofs.YtkigdcihhlkkdaaW.PrintWords
open Go.RowKit
namespace Kd
def NQ {α : Type} (d : Kd α) (e : Nat) (w : World) (base : Nat) (ok : Nat → Prop) (v : Value) (xs : List α) : Prop :=
  (∀ k, v.ownBlock = some k → ok k) ∧ ∃ rows : List (List Value), rows.length = xs.length ∧ (raw d.sz).Q e w base (fun k => some k = v.ownBlock) v rows ∧ ∀ (j : Nat) (x : α) (c : List Value), xs[j]? = some x → rows[j]? = some c → FK d w (fun k => ok k ∧ some k ≠ v.ownBlock) x c
section
variable {α : Type} {d : Kd α} {e : Nat} {w w1 W : World} {base : Nat} {ok ok' okp : Nat → Prop} {v v1 : Value} {xs ys : List α}
theorem NQ_nil (d : Kd α) (e : Nat) (w : World) (base : Nat) (ok : Nat → Prop) : NQ d e w base ok (.slice none 0 0) [] :=
  ⟨fun k hk => by simp [Value.ownBlock] at hk, [], rfl, Q_nil _ _ _ _ _, fun j x c hx => by simp at hx⟩
theorem NQ_mono (h : NQ d e w base ok v xs) (hok : ∀ k, ok k → ok' k) : NQ d e w base ok' v xs := by
  obtain ⟨h0, rows, hl, hR, hf⟩ := h
  exact ⟨fun k hk => hok k (h0 k hk), rows, hl, hR, fun j x c hx hc => FK_mono (hf j x c hx hc) (fun k hk => ⟨hok k hk.1, hk.2⟩)⟩
theorem NQ_step (h : NQ d e W base ok v xs) (hm : ∀ k, ok k → k < W.heap.size → w1.heap[k]? = W.heap[k]?) : NQ d e w1 base ok v xs := by
  obtain ⟨h0, rows, hl, hR, hf⟩ := h
  exact ⟨h0, rows, hl, Q_step hR (fun k hk hlt => hm k (h0 k hk.symm) hlt), fun j x c hx hc => FK_step (hf j x c hx hc) (fun k hk hlt => hm k hk.1 hlt)⟩
theorem NQ_below (h : NQ d e W base ok v xs) (hb : Below W.heap.size W w1) : NQ d e w1 base ok v xs := NQ_step h (fun k _ hk => hb.block k hk)
theorem NQ_slice (h : NQ d e w base ok v xs) : ∃ A c, v = .slice A xs.length c ∧ xs.length ≤ c := by
  obtain ⟨_, rows, hl, hR, _⟩ := h
  obtain ⟨A, c, h1, h2⟩ := Q_slice hR
  exact ⟨A, c, by rw [h1, hl], by omega⟩
theorem raw_anyQ {sz : Nat} {rows : List (List Value)} (h : (raw sz).Q e w base ok v rows) : (raw sz).Q e w base (fun _ => True) v rows := Q_mono h (fun _ _ => trivial)
theorem NQ_lt (h : NQ d e w base ok v xs) : ∀ k, v.ownBlock = some k → k < w.heap.size := by
  obtain ⟨h0, rows, hl, hR, hf⟩ := h
  exact fun k hk => Q_lt hR k hk
theorem NQ_bound (h : NQ d e w base ok v xs) : NQ d e w base (fun k => ok k ∧ k < w.heap.size) v xs := by
  obtain ⟨h0, rows, hl, hR, hf⟩ := h
  exact ⟨fun k hk => ⟨h0 k hk, Q_lt hR k hk⟩, rows, hl, hR, fun j x c hx hc => FK_mono (FK_bound (hf j x c hx hc)) (fun k hk => ⟨⟨hk.1.1, hk.2⟩, hk.1.2⟩)⟩
theorem NQ_reads' {A : Option Addr} {n c : Nat} (h : NQ d e w base ok (.slice A n c) xs) : n = xs.length ∧ n ≤ c ∧ d.C w A xs.length xs := by
  obtain ⟨_, rows, hl, hR, hf⟩ := h
  obtain ⟨hn, hc, hC⟩ := Q_reads' hR
  refine ⟨by omega, hc, ?_⟩
  rw [hl] at hC
  refine ⟨rfl, hC.2.1, fun hp => ?_⟩
  obtain ⟨ad, he, hcell⟩ := hC.2.2 hp
  refine ⟨ad, he, fun j p hj => ?_⟩
  have hjl : j < rows.length := by have := (List.getElem?_eq_some_iff.1 hj).1; omega
  obtain ⟨c', hcl, hK, hcc⟩ := hcell j _ (List.getElem?_eq_getElem hjl)
  have hk := FK_now (hf j p _ hj (List.getElem?_eq_getElem hjl))
  refine ⟨c', hcl, ?_, hcc⟩
  rw [show c' = rows[j] from hK.1]
  exact hk
theorem NQ_F {A : Option Addr} {n cc : Nat} (h : NQ d e w base ok (.slice A n cc) xs) : F d w ok A n xs := fun W' hW => by
  have h2 := NQ_reads' (NQ_step h hW)
  rw [h2.1]
  exact h2.2.2
theorem own_drop (A : Option Addr) (k m n c sz : Nat) : (Value.slice (if c = k then A else A.map (·.add (k * sz))) (n - k) (c - k)).ownBlock = (Value.slice A m c).ownBlock := by
  split
  · cases A <;> rfl
  · cases A with
    | none => rfl
    | some a => simp [Value.ownBlock]; unfold Addr.add; split <;> rfl
theorem NQ_drop {A : Option Addr} {k n c : Nat} (h : NQ d e w base ok (.slice A n c) xs) (hk : k ≤ xs.length) : NQ d e w base ok (.slice (if c = k then A else A.map (·.add (k * d.sz))) (n - k) (c - k)) (xs.drop k) := by
  obtain ⟨h0, rows, hl, hR, hf⟩ := h
  have hb := own_drop A k n n c d.sz
  have hQ := Q_drop (raw_anyQ hR) (k := k) (by omega)
  refine ⟨fun j hj => h0 j (by rw [← hb]; exact hj), rows.drop k, by rw [List.length_drop, List.length_drop, hl], Q_tight rfl hQ, fun j x c' hx hc => ?_⟩
  rw [hb]
  rw [List.getElem?_drop] at hx hc
  exact hf _ x c' hx hc
theorem NQ_appended {rows news : List (List Value)} (h0 : ∀ k, v.ownBlock = some k → ok k) (hl : rows.length = xs.length) (hf : ∀ (j : Nat) (x : α) (c : List Value), xs[j]? = some x → rows[j]? = some c → FK d W (fun k => ok k ∧ some k ≠ v.ownBlock) x c)
    (hl2 : news.length = ys.length) (hf2 : ∀ (j : Nat) (x : α) (c : List Value), ys[j]? = some x → news[j]? = some c → FK d W okp x c) (hokp : ∀ k, okp k → ok k ∧ some k ≠ v.ownBlock) (hfresh : ∀ k, W.heap.size ≤ k → ok k)
    (hR : (raw d.sz).Q e w1 base (fun _ => True) v1 (rows ++ news)) (hg : W.grownBy w1 v.ownBlock) (hat : v1.ownBlock = v.ownBlock ∨ ∃ b, v1.ownBlock = some b ∧ W.heap.size ≤ b) : NQ d e w1 base ok v1 (xs ++ ys) := by
  have hne : ∀ k, some k ≠ v.ownBlock → k < W.heap.size → some k ≠ v1.ownBlock := by
    intro k hk hlt
    rcases hat with hat | ⟨b, hb, hle⟩
    · rw [hat]; exact hk
    · rw [hb]
      intro he
      injection he with he
      omega
  have step : ∀ {x : α} {c : List Value} {o : Nat → Prop}, FK d W o x c → (∀ k, o k → ok k ∧ some k ≠ v.ownBlock) → FK d w1 (fun k => ok k ∧ some k ≠ v1.ownBlock) x c := by
    intro x c o hq ho
    exact FK_mono (FK_step (FK_bound hq) (fun k hk hlt => hg.block k hlt (ho k hk.1).2)) (fun k hk => ⟨(ho k hk.1).1, hne k (ho k hk.1).2 hk.2⟩)
  refine ⟨fun k hk => ?_, rows ++ news, by rw [List.length_append, List.length_append, hl, hl2], Q_tight rfl hR, fun j x c hx hc => ?_⟩
  · rcases hat with hat | ⟨b, hb, hle⟩
    · exact h0 k (hat ▸ hk)
    · rw [hb] at hk
      injection hk with hk
      exact hfresh k (by omega)
  · rcases Nat.lt_or_ge j xs.length with hlt | hge
    · rw [List.getElem?_append_left hlt] at hx
      rw [List.getElem?_append_left (by omega)] at hc
      exact step (hf j x c hx hc) (fun _ hk => hk)
    · rw [List.getElem?_append_right hge] at hx
      rw [List.getElem?_append_right (by omega), hl] at hc
      exact step (hf2 _ x c hx hc) hokp
end
section
variable {α : Type} {P : Program} {ops : Array Oper} {rest : List Oper} {o : Oper} {a : Act} {Q' : Exit → Act → World → Prop}
theorem NQ_append (d : Kd α) {w0 W : World} (base : Nat) (hgd : o.guard = none) (s x : Operand) (t e : TypeId) (z : Value) (bytes : Nat)
    (ho : o.op = .call { callee := .builtin .append, args := #[s, x], argTypes := #[t, t] })
    (ht : P.underlying t = some (.slice e)) (hinfo : (P.info? e).map (fun i => (i.zero, i.size, i.bytes)) = some (some z, d.sz, bytes)) (hz : z.cells.size = d.sz) (hs0 : 0 < d.sz) (hb0 : 0 < bytes)
    (v : Value) (xs : List α) (p : α) (cs : List Value) (ok okp : Nat → Prop) (hs : a.eval s = v) (hx : a.eval x = .slice (some ⟨W.heap.size, 0, none⟩) 1 1) (hp : FK d W okp p cs) (hokp : ∀ k, okp k → ok k ∧ some k ≠ v.ownBlock) (hfresh : ∀ k, W.heap.size ≤ k → ok k)
    (HO : NQ d e W base ok v xs) (HB : Below base w0 W) (hbase : base ≤ W.heap.size) (hl : (xs.length + 1) * bytes ≤ 140737488355328)
    (h : ∀ v1 w1, NQ d e w1 base ok v1 (xs ++ [p]) → Below base w0 w1 → W.grownBy w1 v.ownBlock → (v1.ownBlock = v.ownBlock ∨ ∃ b, v1.ownBlock = some b ∧ W.heap.size ≤ b) → wpList P ops Q' rest (a.put o.dst v1) w1) :
    wpList P ops Q' (o :: rest) a (W.alloc (.cells cs.toArray e)) := by
  obtain ⟨h0, rows, hlr, hR, hf⟩ := HO
  refine Q_append (raw d.sz) base hgd s x t e z bytes ho ht hinfo hz hs0 hb0 v rows cs cs (fun _ => True) (fun _ => False) hs hx (FK_raw hp) (fun _ hk => hk.elim) (fun _ _ => trivial) (raw_anyQ hR) HB hbase (by rw [hlr]; exact hl) ?_
  intro v1 w1 hr hb hg hat
  exact h v1 w1 (NQ_appended h0 hlr hf (ys := [p]) (news := [cs]) rfl (fun j y c hy hc => by
    rcases j with _ | j
    · simp only [List.getElem?_cons_zero, Option.some.injEq] at hy hc
      rw [← hy, ← hc]; exact hp
    · simp at hy) hokp hfresh hr hg hat) hb hg hat
end
end Kd
end Go.Proofs.YtkigdcihhlkkdaaW.PrintWords
end
section
set_option linter.unusedVariables false
set_option linter.unusedSimpArgs false
namespace Go.Proofs.Ytkigdcihhlkkdaa.P
open Go.RowKit Go.Proofs.YtkigdcihhlkkdaaW.PrintWords Go.Proofs.YtkigdcihhlkkdaaW.PrintLast Go.Proofs.YtkigdcihhlkkdaaW.PrintMore
theorem info23 : (Try.prog.info? 23).map (fun i => (i.zero, i.size, i.bytes)) = some (some (.slice none 0 0), 1, 24) := by kernel_rfl
def PageAt (W : World) (ok : Nat → Prop) (g : Nat) (rows : List (List Int)) : Prop :=
  ok g ∧ ∃ v, W.heap[g]? = some (.cells #[v] 86 (0, 0)) ∧ Kd.NQ (Kd.slice 5 (Kd.int .u8)) 23 W 0 (fun k => ok k ∧ k ≠ g) v rows
namespace PageAt
variable {W W' : World} {ok ok' S : Nat → Prop} {g : Nat} {rows : List (List Int)}
theorem step (h : PageAt W ok g rows) (hm : ∀ k, ok k → k < W.heap.size → W'.heap[k]? = W.heap[k]?) : PageAt W' ok g rows := by
  obtain ⟨h0, v, hg, hv⟩ := h
  exact ⟨h0, v, (hm g h0 (blk_lt hg)).trans hg, Kd.NQ_step hv (fun k hk hlt => hm k hk.1 hlt)⟩
theorem mono (h : PageAt W ok g rows) (hok : ∀ k, ok k → ok' k) : PageAt W ok' g rows := by
  obtain ⟨h0, v, hg, hv⟩ := h
  exact ⟨hok g h0, v, hg, Kd.NQ_mono hv (fun k hk => ⟨hok k hk.1, hk.2⟩)⟩
theorem bound (h : PageAt W ok g rows) : PageAt W (fun k => ok k ∧ k < W.heap.size) g rows := by
  obtain ⟨h0, v, hg, hv⟩ := h
  exact ⟨⟨h0, blk_lt hg⟩, v, hg, Kd.NQ_mono (Kd.NQ_bound hv) (fun k hk => ⟨⟨hk.1.1, hk.2⟩, hk.1.2⟩)⟩
theorem lt (h : PageAt W ok g rows) : g < W.heap.size := by
  obtain ⟨h0, v, hg, hv⟩ := h
  exact blk_lt hg
theorem fr (h : PageAt W ok g rows) (hf : Fr S W W') (hs : ∀ k, ok k → ¬ S k) : PageAt W' ok g rows := h.step (fun k hk hlt => hf.block k hlt (hs k hk))
theorem below (h : PageAt W ok g rows) (hf : Below W.heap.size W W') : PageAt W' ok g rows := h.step (fun k hk hlt => hf.block k hlt)
end PageAt
set_option maxHeartbeats 2000000 in
set_option maxRecDepth 100000 in
theorem page_len (W : World) (ok : Nat → Prop) (g : Nat) (rows : List (List Int)) (h : PageAt W ok g rows) :
    Calls Try.prog 37 #[.pointer (some ⟨g, 0, none⟩)] W fun e w' => e = .returned (.int .i64 rows.length) ∧ Drawn0 W w' := by
  obtain ⟨_, v, hg, hv⟩ := h
  obtain ⟨A, c, rfl, hc⟩ := Kd.NQ_slice hv
  have hc0 : W.cell? ⟨g, 0, none⟩ = some (.slice A rows.length c) := by simp [World.cell?, hg]
  go_enter Try.func37, Try.ntmps37
  go_wp2
  all_goals go_ret
  all_goals exact ⟨by first | rfl | simp, Drawn0.refl _⟩
set_option maxHeartbeats 2000000 in
set_option maxRecDepth 100000 in
theorem page_new (W : World) : Calls Try.prog 33 #[] W fun e w' => ∃ g, e = .returned (.pointer (some ⟨g, 0, none⟩)) ∧ W.heap.size ≤ g ∧ PageAt w' (fun k => W.heap.size ≤ k) g [] ∧ Below W.heap.size W w' := by
  go_enter Try.func33, Try.ntmps33
  go_wp2
  go_ret
  exact ⟨W.heap.size, rfl, Nat.le_refl _, ⟨Nat.le_refl _, .slice none 0 0, by simp [World.alloc, -World.alloc_eq], Kd.NQ_nil _ _ _ _ _⟩, below_alloc (Below.refl _ _) _⟩
def addRows (rows : List (List Int)) (x : List Int) (b : Bool) : List (List Int) := if rows.length < 16 then (if b = true then rows ++ [x] else rows) else rows
set_option maxHeartbeats 4000000 in
set_option maxRecDepth 100000 in
theorem page_add (W : World) (ok : Nat → Prop) (g : Nat) (rows : List (List Int)) (A : Option Addr) (c : Nat) (l : List S45) (wr : Bool) (x : List Int) (b : Bool) (hpage : PageAt W ok g rows) (hC : Kd.C k45 W A l.length l)
    (hput : ∀ w, Kd.C k45 w A l.length l → Calls Try.prog 24 #[.agg #[.slice A l.length c, .bool wr]] w fun e w' => ∃ v0_ : Value, e = .returned (.tuple #[v0_, .bool b]) ∧ Kd.R (Kd.int .u8) 5 w' w.heap.size (fun _ => True) v0_ x ∧ Below w.heap.size w w') :
    Calls Try.prog 34 #[.pointer (some ⟨g, 0, none⟩), .agg #[.slice A l.length c, .bool wr]] W fun e W' => e = .returned (.bool (decide (rows.length < 16) && b)) ∧ PageAt W' (fun k => ok k ∨ W.heap.size ≤ k) g (addRows rows x b) ∧ Fr ok W W' := by
  have hlt := hpage.lt
  have hpage2 := hpage.bound
  obtain ⟨hokg, v, hg, hv⟩ := hpage
  obtain ⟨A0, c0, rfl, hc0⟩ := Kd.NQ_slice hv
  have hcell : W.cell? ⟨g, 0, none⟩ = some (.slice A0 rows.length c0) := by simp [World.cell?, hg]
  have hC1 := Kd.C_below hC (below_alloc (Below.refl _ _) (.cells #[.slice A l.length c, .bool wr] 31))
  have hb0 : Below W.heap.size W (W.alloc (.cells #[.slice A l.length c, .bool wr] 31)) := below_alloc (Below.refl _ _) _
  have hsz : (W.alloc (.cells #[.slice A l.length c, .bool wr] 31)).heap.size = W.heap.size + 1 := by simp
  go_enter Try.func34, Try.ntmps34
  go_wp2_with (first
    | (go_at_call 24; refine (hput _ hC1).mono ?_; rintro e w1 ⟨v0, rfl, hv0, hb1⟩
       obtain ⟨A1, c1, rfl⟩ := Kd.R_slice hv0
       have hvQ := Kd.NQ_mono (ok' := fun k => (ok k ∨ W.heap.size ≤ k) ∧ k ≠ g) (Kd.NQ_below hv (hb0.trans (hb1.mono (by rw [hsz]; omega)))) (fun k hk => ⟨.inl hk.1, hk.2⟩)
       have hb01 : Below W.heap.size W w1 := hb0.trans (hb1.mono (by rw [hsz]; omega))
       have hcell1 : w1.cell? ⟨g, 0, none⟩ = some (.slice A0 rows.length c0) := (blk_cell (blk_below hg hb01) 0).trans rfl
       have hfr1 : w1.frozen? ⟨g, 0, none⟩ = false := blk_frozen (blk_below hg hb01) 0)
    | ((with_reducible refine gate_builtin (b := .append) rfl ?_)
       refine Kd.NQ_append (Kd.slice 5 (Kd.int .u8)) (w0 := w1) (W := w1) 0 (by rfl) (.tmp 27) (.tmp 29) 84 23 (.slice none 0 0) 24 (by rfl) Try.underlying84 info23 rfl (by decide) (by decide) (.slice A0 rows.length c0) rows x [.slice A1 x.length c1] (fun k => (ok k ∨ W.heap.size ≤ k) ∧ k ≠ g) (fun k => W.heap.size + 1 ≤ k) (by rfl) (by rfl) ?hFK ?hokp ?hfr hvQ (Below.refl _ _) (Nat.zero_le _) (by omega) ?_
       case hFK =>
         refine Kd.FK_slice_mk (Kd.R_reads' hv0).2.1 (Kd.F_mono (Kd.R_F (Kd.R_bound hv0)) ?_)
         intro k hk
         rw [← hsz]
         exact hk.2.1
       case hokp =>
         intro k hk
         refine ⟨⟨.inr (by omega), by omega⟩, fun he => ?_⟩
         have := Kd.NQ_lt hv k he.symm
         omega
       case hfr =>
         intro k hk
         have := hb01.size
         exact ⟨.inr (by omega), by omega⟩
       intro v1 w2 hq2 hb2 hg2 hat2
       have hgne : some g ≠ (Value.slice A0 rows.length c0).ownBlock := fun he => (hv.1 g he.symm).2 rfl
       have hcell2 : w2.cell? ⟨g, 0, none⟩ = some (.slice A0 rows.length c0) := (blk_cell (blk_grown (blk_below hg hb01) hg2 hgne) 0).trans rfl
       have hfr2 : w2.frozen? ⟨g, 0, none⟩ = false := blk_frozen (blk_grown (blk_below hg hb01) hg2 hgne) 0
       obtain ⟨A2, c2, rfl, hc2⟩ := Kd.NQ_slice hq2))
  all_goals go_ret
  · have hn : ¬ rows.length < 16 := by omega
    refine ⟨by simp [hn], ?_, Fr.of_below hb0⟩
    rw [addRows, if_neg hn]
    exact (hpage2.below hb0).mono (fun k hk => .inl hk.1)
  · have hn : rows.length < 16 := by omega
    rename_i hbt
    subst hbt
    have hgne : some g ≠ (Value.slice A0 rows.length c0).ownBlock := fun he => (hv.1 g he.symm).2 rfl
    have hg2' := blk_grown (blk_below hg hb01) hg2 hgne
    refine ⟨by simp [hn], ⟨.inl hokg, _, (blk_set hg2' 0 _).trans rfl, ?_⟩, ?_⟩
    · rw [addRows, if_pos hn, if_pos rfl]
      rw [List.length_append, List.length_singleton] at hq2
      exact Kd.NQ_step hq2 (fun k hk _ => Below.heap_setCell w2 ⟨g, 0, none⟩ _ k hk.2)
    · refine Fr.setCell ?_ hokg _
      refine (Fr.of_below hb01).trans (S1 := ok) (Fr.of_grown hg2 (fun k hk => (hv.1 k hk).1)) (fun _ _ h => h)
  · have hn : rows.length < 16 := by omega
    rename_i hbt
    subst hbt
    refine ⟨by simp [hn], ?_, Fr.of_below hb01⟩
    rw [addRows, if_pos hn, if_neg (by simp)]
    exact (hpage2.below hb01).mono (fun k hk => .inl hk.1)
set_option maxHeartbeats 4000000 in
set_option maxRecDepth 100000 in
theorem page_cut (W : World) (ok : Nat → Prop) (g : Nat) (rows : List (List Int)) (n : Int) (hpage : PageAt W ok g rows) :
    Calls Try.prog 35 #[.pointer (some ⟨g, 0, none⟩), .int .i64 n] W fun e W' => e = .returned (.bool (decide (0 ≤ n) && decide (n ≤ rows.length))) ∧ PageAt W' ok g (if 0 ≤ n ∧ n ≤ rows.length then rows.drop n.toNat else rows) ∧ Fr ok W W' := by
  have hpage2 := hpage
  obtain ⟨hokg, v, hg, hv⟩ := hpage
  obtain ⟨A0, c0, rfl, hc0⟩ := Kd.NQ_slice hv
  have hcell : W.cell? ⟨g, 0, none⟩ = some (.slice A0 rows.length c0) := by simp [World.cell?, hg]
  have hfr : W.frozen? ⟨g, 0, none⟩ = false := blk_frozen hg 0
  go_enter Try.func35, Try.ntmps35
  go_wp2
  all_goals go_ret
  all_goals first
    | exact ⟨by first | rfl | simp_all, hpage2, Fr.refl _ _⟩
    | exact ⟨by simp; omega, hpage2, Fr.refl _ _⟩
    | skip
  all_goals
    have hd := Kd.NQ_drop hv (k := n.toNat) (by omega)
    refine ⟨rfl, ⟨hokg, _, (blk_set hg 0 _).trans rfl, ?_⟩, (Fr.refl _ _).setCell (p := ⟨g, 0, none⟩) hokg _⟩
    refine Kd.NQ_step ?_ (fun k hk _ => Below.heap_setCell W ⟨g, 0, none⟩ _ k hk.2)
    rw [show (Kd.slice 5 (Kd.int .u8)).sz = 1 from rfl, Nat.mul_one] at hd
    first
    | (rw [if_pos (by first | assumption | omega), show c0 - n.toNat = 0 by omega] at hd; exact hd)
    | (rw [if_pos rfl, Nat.sub_self] at hd; exact hd)
    | (rw [if_neg (by first | assumption | omega)] at hd; exact hd)
theorem info31s : (Try.prog.info? 31).map (·.size) = some 2 := by kernel_rfl
theorem blk2 {W : World} {g t : Nat} {a b : Value} (h : W.heap[g]? = some (.cells #[a, b] t (0, 0))) : W.cell? ⟨g, 0, none⟩ = some a ∧ W.cell? ⟨g, 1, none⟩ = some b ∧ W.frozen? ⟨g, 0, none⟩ = false ∧ W.frozen? ⟨g, 1, none⟩ = false :=
  ⟨(blk_cell h 0).trans rfl, (blk_cell h 1).trans rfl, blk_frozen h 0, blk_frozen h 1⟩
set_option maxHeartbeats 4000000 in
set_option maxRecDepth 100000 in
theorem page_at_in (W : World) (ok : Nat → Prop) (g : Nat) (rows : List (List Int)) (i : Int) (b : List Int) (cells : List S45) (wr : Bool) (n er : Int) (hpage : PageAt W ok g rows) (hi : 0 ≤ i) (hb : rows[i.toNat]? = some b)
    (hget : ∀ w A c, Kd.C (Kd.int .u8) w A b.length b → b.length ≤ c → Calls Try.prog 30 #[.slice A b.length c] w fun e w' => ∃ v0_ : Value, e = .returned (.tuple #[.agg #[v0_, .bool wr], .int .i64 n, .int .i64 er]) ∧ Kd.R k45 45 w' w.heap.size (fun _ => True) v0_ cells ∧ Below w.heap.size w w') :
    Calls Try.prog 36 #[.pointer (some ⟨g, 0, none⟩), .int .i64 i] W fun e W' => ∃ v0_ : Value, e = .returned (.tuple #[.agg #[v0_, .bool wr], .bool (decide (er = 0))]) ∧ Kd.R k45 45 W' W.heap.size (fun _ => True) v0_ cells ∧ Below W.heap.size W W' := by
  have hb0 : Below W.heap.size W (W.alloc (.cells #[.slice none 0 0, .bool false] 31)) := below_alloc (Below.refl _ _) _
  have hB0 := blk_new W (.cells #[.slice none 0 0, .bool false] 31)
  have hlen := page_len _ ok g rows (hpage.below hb0)
  have hil : i.toNat < rows.length := (List.getElem?_eq_some_iff.1 hb).1
  obtain ⟨hokg, v, hg, hv⟩ := hpage
  obtain ⟨A0, c0, rfl, hc0⟩ := Kd.NQ_slice hv
  go_enter Try.func36, Try.ntmps36
  go_wp2_with (first
    | (go_at_call 37; refine hlen.mono ?_; rintro e w1 ⟨rfl, hd1⟩
       have hb1 : Below W.heap.size W w1 := hb0.trans (hd1.below.mono (by simp))
       have hcell1 : w1.cell? ⟨g, 0, none⟩ = some (.slice A0 rows.length c0) := (blk_cell (blk_below hg hb1) 0).trans rfl
       obtain ⟨ad, cs, rfl, hcl, hFK, hcc, _⟩ := Kd.F_get (Kd.NQ_F (Kd.NQ_below hv hb1)) [] i hi (by omega)
       rw [List.getD_eq_getElem?_getD, hb, Option.getD_some] at hFK
       obtain ⟨A1, c1, rfl, hc1, hF1⟩ := Kd.FK_slice_open hFK
       have hce : w1.cell? (ad.add i.toNat) = some (.slice A1 b.length c1) := by simpa [Kd.slice] using hcc 0 _ rfl
       have hB1 := blk_below hB0 hd1.below)
    | (go_at_call 30; refine (hget _ _ _ (Kd.F_now hF1) hc1).mono ?_; rintro e w2 ⟨v0, rfl, hR0, hb2⟩
       obtain ⟨A2, c2, rfl⟩ := Kd.R_slice hR0
       have hb12 : Below W.heap.size W w2 := hb1.trans (hb2.mono hb1.size)
       have hR1 := Kd.R_alloc hR0 (.cells #[.slice A2 cells.length c2, .bool wr] 31)
       have hB2 := blk_below hB1 hb2
       have hB3 := blk_alloc hB2 (.cells #[.slice A2 cells.length c2, .bool wr] 31)
       have hne : W.heap.size ≠ w2.heap.size := Nat.ne_of_lt (blk_lt hB2)
       have hne2 : w2.heap.size ≠ W.heap.size := hne.symm
       obtain ⟨h00, h01, f00, f01⟩ := blk2 hB2
       obtain ⟨i00, i01, k00, k01⟩ := blk2 hB3))
  refine bodyPost_ret (results_ct rfl _ _ W.heap.size 31 #[.slice A2 cells.length c2, .bool wr] (0, 0) _ rfl ((blk_set (blk_set hB3 0 _) 1 _).trans rfl) Try.underlying31 rfl info31s) rfl ?_
  have hlt1 := blk_lt hB1
  refine ⟨_, rfl, Kd.R_mono (Kd.R_lower (Kd.R_far (Kd.R_far (Kd.R_alloc (Kd.R_bound hR0) _) (p := ⟨W.heap.size, 0, none⟩) ?h1 _) (p := ⟨W.heap.size, 1, none⟩) ?h2 _) hb1.size) (fun _ _ => trivial), below_set (below_set (below_alloc hb12 _) (Nat.le_refl _)) (Nat.le_refl _)⟩
  all_goals
    intro k hk
    have := hk.2.1
    show k ≠ W.heap.size
    omega
end Go.Proofs.Ytkigdcihhlkkdaa.P
end
section
set_option linter.unusedVariables false
set_option linter.unusedSimpArgs false
namespace Go.Proofs.Ytkigdcihhlkkdaa.P
open Go.RowKit Go.Proofs.YtkigdcihhlkkdaaW.PrintWords Go.Proofs.YtkigdcihhlkkdaaW.PrintLast Go.Proofs.YtkigdcihhlkkdaaW.PrintMore
structure Pg where
  blk : Nat
  ok : Nat → Prop
  rows : List (List Int)
def Pg.cell (p : Pg) : List Value := [.pointer (some ⟨p.blk, 0, none⟩)]
def flat (ps : List Pg) : List (List Int) := (ps.map Pg.rows).flatten
def mid : List Pg → Prop
  | [] => True
  | [_] => True
  | p :: q :: r => p.rows.length = 16 ∧ mid (q :: r)
structure Inv (ps : List Pg) : Prop where
  some_ : ∀ p ∈ ps, p.rows ≠ []
  most : ∀ p ∈ ps, p.rows.length ≤ 16
  full : mid ps.tail
theorem mid_tail : ∀ {ps : List Pg}, mid ps → mid ps.tail
  | [], _ => trivial
  | [_], _ => trivial
  | _ :: _ :: _, h => h.2
theorem Inv.tail {ps : List Pg} (h : Inv ps) : Inv ps.tail :=
  ⟨fun p hp => h.some_ p (List.mem_of_mem_tail hp), fun p hp => h.most p (List.mem_of_mem_tail hp), mid_tail h.full⟩
def StoreAt (W : World) (ok : Nat → Prop) (s : Nat) (lim n gone : Int) (ps : List Pg) : Prop :=
  ok s ∧ ∃ v, W.heap[s]? = some (.cells #[.int .i64 lim, v, .int .i64 n, .int .i64 gone] 91 (0, 0)) ∧ (Kd.raw 1).Q 49 W 0 (fun k => ok k ∧ k ≠ s) v (ps.map Pg.cell) ∧
    (∀ p ∈ ps, PageAt W p.ok p.blk p.rows ∧ ∀ k, p.ok k → ok k ∧ k ≠ s ∧ some k ≠ v.ownBlock) ∧ ps.Pairwise (fun p q => ∀ k, p.ok k → ¬ q.ok k)
namespace StoreAt
variable {W W' : World} {ok ok' S : Nat → Prop} {s : Nat} {lim n gone : Int} {ps : List Pg}
theorem step (h : StoreAt W ok s lim n gone ps) (hm : ∀ k, ok k → k < W.heap.size → W'.heap[k]? = W.heap[k]?) : StoreAt W' ok s lim n gone ps := by
  obtain ⟨h0, v, hg, hv, hp, hd⟩ := h
  exact ⟨h0, v, (hm s h0 (blk_lt hg)).trans hg, Kd.Q_step hv (fun k hk hlt => hm k hk.1 hlt), fun p hpm => ⟨(hp p hpm).1.step (fun k hk hlt => hm k ((hp p hpm).2 k hk).1 hlt), (hp p hpm).2⟩, hd⟩
theorem mono (h : StoreAt W ok s lim n gone ps) (hok : ∀ k, ok k → ok' k) : StoreAt W ok' s lim n gone ps := by
  obtain ⟨h0, v, hg, hv, hp, hd⟩ := h
  exact ⟨hok s h0, v, hg, Kd.Q_mono hv (fun k hk => ⟨hok k hk.1, hk.2⟩), fun p hpm => ⟨(hp p hpm).1, fun k hk => ⟨hok k ((hp p hpm).2 k hk).1, ((hp p hpm).2 k hk).2⟩⟩, hd⟩
theorem below (h : StoreAt W ok s lim n gone ps) (hf : Below W.heap.size W W') : StoreAt W' ok s lim n gone ps := h.step (fun k hk hlt => hf.block k hlt)
theorem fr (h : StoreAt W ok s lim n gone ps) (hf : Fr S W W') (hs : ∀ k, ok k → ¬ S k) : StoreAt W' ok s lim n gone ps := h.step (fun k hk hlt => hf.block k hlt (hs k hk))
theorem lt (h : StoreAt W ok s lim n gone ps) : s < W.heap.size := by
  obtain ⟨h0, v, hg, _⟩ := h
  exact blk_lt hg
end StoreAt
theorem blk4 {W : World} {g t : Nat} {a b c d : Value} (h : W.heap[g]? = some (.cells #[a, b, c, d] t (0, 0))) : (W.cell? ⟨g, 0, none⟩ = some a ∧ W.cell? ⟨g, 1, none⟩ = some b ∧ W.cell? ⟨g, 2, none⟩ = some c ∧ W.cell? ⟨g, 3, none⟩ = some d) ∧ W.frozen? ⟨g, 0, none⟩ = false ∧ W.frozen? ⟨g, 1, none⟩ = false ∧ W.frozen? ⟨g, 2, none⟩ = false ∧ W.frozen? ⟨g, 3, none⟩ = false :=
  ⟨⟨(blk_cell h 0).trans rfl, (blk_cell h 1).trans rfl, (blk_cell h 2).trans rfl, (blk_cell h 3).trans rfl⟩, blk_frozen h 0, blk_frozen h 1, blk_frozen h 2, blk_frozen h 3⟩
theorem Addr.add_zero_ (ad : Addr) : ad.add 0 = ad := rfl
theorem PageAt.drewN {W : World} {ok : Nat → Prop} {g : Nat} {rows : List (List Int)} (h : PageAt W ok g rows) (m : Nat) : PageAt (W.drewN m) ok g rows := h.step (fun _ _ _ => rfl)
theorem PageAt.set {W : World} {ok : Nat → Prop} {g s : Nat} {rows : List (List Int)} (h : PageAt W ok g rows) (hs : ¬ ok s) (j : Nat) (u : Value) : PageAt (W.setCell ⟨s, j, none⟩ u) ok g rows :=
  h.step (fun k hk _ => Below.heap_setCell W ⟨s, j, none⟩ u k (fun e => hs (by have e' : k = s := e; rw [← e']; exact hk)))
theorem cell_far_ {W : World} {ad : Addr} {v : Value} {s : Nat} (h : W.cell? ad = some v) (hne : ad.block ≠ s) (j : Nat) (u : Value) : (W.setCell ⟨s, j, none⟩ u).cell? ad = some v := by
  rw [← h]
  unfold World.cell?
  rw [Below.heap_setCell W ⟨s, j, none⟩ u ad.block hne]
theorem quiet_of2 {P : Program} {f : FuncId} {args : Array Value} {w : World} {a b : Nat} {v : Value}
    (h : Calls P f args (w.drewN (a + b)) fun e w' => e = .returned v ∧ ∃ m, w' = (w.drewN (a + b)).drewN m) : Calls P f args (w.drewN (a + b)) fun e w'' => e = .returned v ∧ ∃ n, w'' = w.drewN (a + n) :=
  h.mono fun _ _ ⟨he, m, hm⟩ => ⟨he, b + m, by rw [hm, World.drewN_drewN, Nat.add_assoc]⟩
theorem ptr_at {W : World} {okv : Nat → Prop} {A : Option Addr} {n c : Nat} {ps : List Pg} (h : (Kd.raw 1).Q 49 W 0 okv (.slice A n c) (ps.map Pg.cell)) {i : Nat} {p : Pg} (hp : ps[i]? = some p) : ∃ ad, A = some ad ∧ W.cell? (ad.add i) = some (.pointer (some ⟨p.blk, 0, none⟩)) := by
  obtain ⟨hn, hc, hC⟩ := Kd.Q_reads' h
  have hil := (List.getElem?_eq_some_iff.1 hp).1
  obtain ⟨ad, cs, hA, hcl, hK, hcc⟩ := ReadsRow.get_ hC [] (i : Int) (by omega) (by simp; omega)
  refine ⟨ad, hA, ?_⟩
  have hcs : cs = p.cell := by
    have := hK.1
    rw [this, List.getD_eq_getElem?_getD, Int.toNat_natCast, List.getElem?_map, hp]
    rfl
  subst hcs
  simpa [Kd.raw] using hcc 0 _ rfl
theorem StoreAt.rebuild {w2 w3 : World} {ok : Nat → Prop} {s : Nat} {lim n gone : Int} {v : Value} {ps : List Pg} (h0 : ok s) (hg : w3.heap[s]? = some (.cells #[.int .i64 lim, v, .int .i64 n, .int .i64 gone] 91 (0, 0)))
    (hoth : ∀ k, k ≠ s → w3.heap[k]? = w2.heap[k]?) (hQ : (Kd.raw 1).Q 49 w2 0 (fun k => ok k ∧ k ≠ s) v (ps.map Pg.cell))
    (hp : ∀ p ∈ ps, PageAt w2 p.ok p.blk p.rows ∧ ∀ k, p.ok k → ok k ∧ k ≠ s ∧ some k ≠ v.ownBlock) (hd : ps.Pairwise (fun p q => ∀ k, p.ok k → ¬ q.ok k)) : StoreAt w3 ok s lim n gone ps :=
  ⟨h0, v, hg, Kd.Q_step hQ (fun k hk _ => hoth k hk.2), fun p hpm => ⟨(hp p hpm).1.step (fun k hk _ => hoth k ((hp p hpm).2 k hk).2.1), (hp p hpm).2⟩, hd⟩
theorem flat_cons (p : Pg) (ps : List Pg) : flat (p :: ps) = p.rows ++ flat ps := rfl
theorem cut_inv {p0 : Pg} {rest : List Pg} {F : List (List Int)} {n n' gone gone' lim K : Int} {ok : Nat → Prop} {gk : Nat} (hI : Inv (p0 :: rest)) (hF : flat (p0 :: rest) = F.drop (n - n').toNat) (hN : n' = (flat (p0 :: rest)).length) (hnn : n' ≤ n) (hgn : gone' + n' = gone + n) (hk : (p0 :: rest).length < gk)
    (hK0 : 0 ≤ K ∧ K ≤ n' - lim ∧ K ≤ p0.rows.length ∧ (K = n' - lim ∨ K = p0.rows.length)) (ps2 : List Pg) (hps : (ps2 = rest ∧ p0.rows.length - K.toNat = 0) ∨ (ps2 = { p0 with rows := p0.rows.drop K.toNat } :: rest ∧ p0.rows.length - K.toNat ≠ 0)) :
    Inv ps2 ∧ flat ps2 = F.drop (n - (n' - K)).toNat ∧ n' - K = (flat ps2).length ∧ n' - K ≤ n ∧ (lim ≤ n' - K ∨ n' - K = n) ∧ (gone' + K) + (n' - K) = gone + n ∧ (lim < n' - K → ps2.length < gk - 1) := by
  have hfl : flat ps2 = (flat (p0 :: rest)).drop K.toNat := by
    rw [flat_cons]
    rcases hps with ⟨rfl, he⟩ | ⟨rfl, he⟩
    · rw [List.drop_append_of_le_length (by omega), List.drop_of_length_le (by omega), List.nil_append]
    · rw [flat_cons, List.drop_append_of_le_length (by omega)]
  have hlen : p0.rows.length ≤ (flat (p0 :: rest)).length := by rw [flat_cons, List.length_append]; omega
  refine ⟨?_, ?_, ?_, by omega, .inl (by omega), by omega, ?_⟩
  · rcases hps with ⟨rfl, he⟩ | ⟨rfl, he⟩
    · exact hI.tail
    · refine ⟨fun p hp => ?_, fun p hp => ?_, hI.full⟩
      · rcases List.mem_cons.1 hp with rfl | hp
        · intro h0
          have := congrArg List.length h0
          simp only [List.length_drop, List.length_nil] at this
          omega
        · exact hI.some_ p (by simp [hp])
      · rcases List.mem_cons.1 hp with rfl | hp
        · have := hI.most p0 (by simp)
          simp only [List.length_drop]
          omega
        · exact hI.most p (by simp [hp])
  · rw [hfl, hF, List.drop_drop]
    congr 1
    omega
  · rw [hfl, List.length_drop]
    omega
  · intro hlt
    simp only [List.length_cons] at hk
    rcases hps with ⟨rfl, he⟩ | ⟨rfl, he⟩
    · omega
    · omega
set_option maxHeartbeats 2000000 in
set_option maxRecDepth 100000 in
theorem store_len (W : World) (ok : Nat → Prop) (s : Nat) (lim n gone : Int) (ps : List Pg) (h : StoreAt W ok s lim n gone ps) :
    Calls Try.prog 44 #[.pointer (some ⟨s, 0, none⟩)] W fun e w' => e = .returned (.int .i64 n) ∧ Drawn0 W w' := by
  obtain ⟨_, v, hg, _⟩ := h
  obtain ⟨⟨h0, h1, h2, h3⟩, _⟩ := blk4 hg
  go_enter Try.func44, Try.ntmps44
  go_wp2
  all_goals go_ret
  all_goals exact ⟨by first | rfl | simp, Drawn0.refl _⟩
set_option maxHeartbeats 2000000 in
set_option maxRecDepth 100000 in
theorem store_gone (W : World) (ok : Nat → Prop) (s : Nat) (lim n gone : Int) (ps : List Pg) (h : StoreAt W ok s lim n gone ps) :
    Calls Try.prog 45 #[.pointer (some ⟨s, 0, none⟩)] W fun e w' => e = .returned (.int .i64 gone) ∧ Drawn0 W w' := by
  obtain ⟨_, v, hg, _⟩ := h
  obtain ⟨⟨h0, h1, h2, h3⟩, _⟩ := blk4 hg
  go_enter Try.func45, Try.ntmps45
  go_wp2
  all_goals go_ret
  all_goals exact ⟨by first | rfl | simp, Drawn0.refl _⟩
set_option maxHeartbeats 2000000 in
set_option maxRecDepth 100000 in
theorem store_new (W : World) (lim : Int) : Calls Try.prog 39 #[.int .i64 lim] W fun e w' => ∃ s, e = .returned (.pointer (some ⟨s, 0, none⟩)) ∧ W.heap.size ≤ s ∧ StoreAt w' (fun k => W.heap.size ≤ k) s (min (max lim 0) 1000000) 0 0 [] ∧ Below W.heap.size W w' := by
  go_enter Try.func39, Try.ntmps39
  go_wp2
  go_ret
  exact ⟨W.heap.size, rfl, Nat.le_refl _, ⟨Nat.le_refl _, .slice none 0 0, by simp [World.alloc, -World.alloc_eq], Kd.Q_nil _ _ _ _ _, fun p hp => by simp at hp, List.Pairwise.nil⟩, below_alloc (Below.refl _ _) _⟩
set_option maxHeartbeats 2000000 in
set_option maxRecDepth 100000 in
theorem store_cuts (W : World) (ok : Nat → Prop) (s : Nat) (lim n gone : Int) (ps : List Pg) (h : StoreAt W ok s lim n gone ps) (hi : Inv ps) (hn : n = (flat ps).length) (hn2 : n ≤ 1000000000) (hl : 0 ≤ lim) (hg0 : 0 ≤ gone) (hg1 : gone ≤ 1000000000) :
    Calls Try.prog 62 #[.pointer (some ⟨s, 0, none⟩)] W fun e w' => e = .returned (.tuple #[]) ∧ ∃ ps' n' gone', StoreAt w' ok s lim n' gone' ps' ∧ Inv ps' ∧ flat ps' = (flat ps).drop (n - n').toNat ∧ n' = min n lim ∧ gone' + n' = gone + n ∧ Fr ok W w' := by
  go_enter Try.func62, Try.ntmps62
  go_wp2
  go_loopg [2] (ps.length + 1) (fun kq v2 w' => ∃ (ps' : List Pg) (n' gone' : Int), Aside0 (StoreAt w' ok s lim n' gone' ps' ∧ Inv ps' ∧ flat ps' = (flat ps).drop (n - n').toNat ∧ n' = (flat ps').length ∧ n' ≤ n ∧ (lim ≤ n' ∨ n' = n) ∧ gone' + n' = gone + n ∧ Fr ok W w' ∧ (lim < n' → ps'.length < kq)))
  case atStart => exact ⟨ps, n, gone, ⟨h, hi, by simp, hn, Int.le_refl _, .inr rfl, rfl, Fr.refl _ _, fun _ => Nat.lt_succ_self _⟩⟩
  case round =>
    have HX := Aside0.mk hn
    clear hn
    obtain ⟨ps', n', gone', HA⟩ := hrel
    obtain ⟨hs0, v, hg, hv, hp, hd⟩ := HA.out.1
    obtain ⟨A, c, rfl, hc⟩ := Kd.Q_slice hv
    rw [List.length_map] at hg hv hc
    obtain ⟨⟨h0, h1, h2, h3⟩, f0, f1, f2, f3⟩ := blk4 hg
    by_cases hlt : lim < n'
    · have hne : ps' ≠ [] := by rintro rfl; have := HA.out.2.2.2.1; simp [flat] at this; omega
      obtain ⟨p0, rest, rfl⟩ := List.exists_cons_of_ne_nil hne
      obtain ⟨ad, rfl, hp0⟩ := ptr_at hv (i := 0) (p := p0) rfl
      rw [Addr.add_zero_] at hp0
      obtain ⟨hP0, hP0n⟩ := hp p0 (by simp)
      have hsn : ¬ p0.ok s := fun hq => (hP0n s hq).2.1 rfl
      have hvn : ∀ k, (Value.slice (some ad) (p0 :: rest).length c).ownBlock = some k → ¬ p0.ok k := fun k hk hq => (hP0n k hq).2.2 hk.symm
      have hw1 : IntKind.i64.wrap (n' - lim) = n' - lim := by have := HA.out; rw [IntKind.wrap_i64]; omega
      go_wp2
      go_quiet (fail)
      go_wp2
      go_quiet ((go_at_call 37; exact quiet_of2 ((page_len _ p0.ok p0.blk p0.rows (hP0.drewN _)).mono (fun e w1 h => ⟨h.1, h.2.out⟩))))
      go_wp2_with (first
        | (go_at_call 35
           generalize hKe : min (n' - lim) (p0.rows.length : Int) = K
           refine (page_cut _ p0.ok p0.blk p0.rows K (hP0.drewN _)).mono ?_
           rintro e w2 ⟨rfl, hP2, hfr2⟩
           have hK0 : 0 ≤ K ∧ K ≤ n' - lim ∧ K ≤ p0.rows.length ∧ (K = n' - lim ∨ K = p0.rows.length) := by omega
           rw [if_pos ⟨hK0.1, hK0.2.2.1⟩] at hP2
           have hg2 := hfr2.old hsn hg
           obtain ⟨⟨k0, k1, k2, k3⟩, j0, j1, j2, j3⟩ := blk4 hg2
           have hQ2 := Kd.Q_step (Kd.Q_tight rfl hv) (fun k hk hlt => hfr2.block k hlt (hvn k hk.symm))
           obtain ⟨ad2, hadq, hp2⟩ := ptr_at hQ2 (i := 0) (p := p0) rfl
           obtain rfl := Option.some.inj hadq
           rw [Addr.add_zero_] at hp2
           have hw2 : IntKind.i64.wrap (n' - K) = n' - K := by have := HA.out; rw [IntKind.wrap_i64]; omega
           have hw3 : IntKind.i64.wrap (gone' + K) = gone' + K := by have := HA.out; rw [IntKind.wrap_i64]; omega
           have hadn : ad.block ≠ s := (hv.1 ad.block rfl).2
           have hp3 := cell_far_ (cell_far_ hp2 hadn 2 (.int .i64 (n' - K))) hadn 3 (.int .i64 (gone' + K)))
        | (go_at_call 37
           refine (page_len _ p0.ok p0.blk (p0.rows.drop K.toNat) ((hP2.set hsn 2 _).set hsn 3 _)).mono ?_
           rintro e w3 ⟨rfl, hd3⟩
           obtain ⟨m3, rfl⟩ := hd3.out))
      all_goals
        have hall := HA.out
        have hkk := hall.2.2.2.2.2.2.2.2 hlt
        have hne1 : gk - 1 < gk := by simp only [List.length_cons] at hkk; omega
        have hdis : ∀ q ∈ rest, ∀ k, p0.ok k → ¬ q.ok k := (List.pairwise_cons.1 hd).1
        have hfr2b : Fr p0.ok wr w2 := ((Fr.refl p0.ok wr).drewN _).trans hfr2 (fun _ _ h => h)
        have hfr3 : Fr ok wr w2 := (hfr2b.mono (fun k hk => (hP0n k hk).1))
        have hfr4 : Fr ok W w2 := (hall.2.2.2.2.2.2.2.1).trans hfr3 (fun _ _ h => h)
        have hrest : ∀ q ∈ rest, PageAt w2 q.ok q.blk q.rows := fun q hq => (hp q (by simp [hq])).1.fr hfr2b (fun k hk hk2 => hdis q hq k hk2 hk)
        have hQ3 := Kd.Q_mono (ok' := fun k => ok k ∧ k ≠ s) hQ2 (fun k hk => hv.1 k hk.symm)
        have hQd := Kd.Q_drop (k := 1) hQ3 (by simp)
        simp only [List.map_cons, List.drop_succ_cons, List.drop_zero, List.length_cons, Nat.add_sub_cancel] at hQd
        have hz1 : (Kd.raw 1).sz = 1 := rfl
        have hlow : Fr ok W (((w2.setCell ⟨s, 2, none⟩ (.int .i64 (n' - K))).setCell ⟨s, 3, none⟩ (.int .i64 (gone' + K))).drewN m3) := ((hfr4.setCell (p := ⟨s, 2, none⟩) hs0 _).setCell (p := ⟨s, 3, none⟩) hs0 _).drewN m3
        have hblk := blk_drewN (blk_set (blk_set hg2 2 (.int .i64 (n' - K))) 3 (.int .i64 (gone' + K))) m3
        have hoth : ∀ k, k ≠ s → (((w2.setCell ⟨s, 2, none⟩ (.int .i64 (n' - K))).setCell ⟨s, 3, none⟩ (.int .i64 (gone' + K))).drewN m3).heap[k]? = w2.heap[k]? := fun k hk => (Below.heap_setCell _ ⟨s, 3, none⟩ _ k hk).trans (Below.heap_setCell _ ⟨s, 2, none⟩ _ k hk)
      · rename_i hz0
        have hz : p0.rows.length - K.toNat = 0 := by simpa using hz0
        have hcut := cut_inv (ok := ok) (gk := gk) hall.2.1 hall.2.2.1 hall.2.2.2.1 hall.2.2.2.2.1 hall.2.2.2.2.2.2.1 hkk hK0 rest (.inl ⟨rfl, hz⟩)
        go_roundg (gk - 1)
        case measure => exact hne1
        case rel =>
          refine ⟨rest, n' - K, gone' + K, ⟨StoreAt.rebuild (w2 := w2) hs0 ((blk_set hblk 1 _).trans rfl) (fun k hk => (Below.heap_setCell _ ⟨s, 1, none⟩ _ k hk).trans (hoth k hk)) (v := .slice (some ad) rest.length 0) ?_ (fun q hq => ⟨hrest q hq, fun k hk => (hp q (by simp [hq])).2 k hk⟩) (List.pairwise_cons.1 hd).2, hcut.1, hcut.2.1, hcut.2.2.1, hcut.2.2.2.1, hcut.2.2.2.2.1, hcut.2.2.2.2.2.1, hlow.setCell (p := ⟨s, 1, none⟩) hs0 _, hcut.2.2.2.2.2.2⟩⟩
          have hc1 : c = 1 := by first | assumption | omega
          subst hc1
          exact hQd
      · rename_i hz0
        have hz : p0.rows.length - K.toNat = 0 := by simpa using hz0
        have hcut := cut_inv (ok := ok) (gk := gk) hall.2.1 hall.2.2.1 hall.2.2.2.1 hall.2.2.2.2.1 hall.2.2.2.2.2.2.1 hkk hK0 rest (.inl ⟨rfl, hz⟩)
        go_roundg (gk - 1)
        case measure => exact hne1
        case rel =>
          refine ⟨rest, n' - K, gone' + K, ⟨StoreAt.rebuild (w2 := w2) hs0 ((blk_set hblk 1 _).trans rfl) (fun k hk => (Below.heap_setCell _ ⟨s, 1, none⟩ _ k hk).trans (hoth k hk)) (v := .slice (some ⟨ad.block, ad.off + 1, none⟩) rest.length (c - 1)) ?_ (fun q hq => ⟨hrest q hq, fun k hk => (hp q (by simp [hq])).2 k hk⟩) (List.pairwise_cons.1 hd).2, hcut.1, hcut.2.1, hcut.2.2.1, hcut.2.2.2.1, hcut.2.2.2.2.1, hcut.2.2.2.2.2.1, hlow.setCell (p := ⟨s, 1, none⟩) hs0 _, hcut.2.2.2.2.2.2⟩⟩
          rw [if_neg (by first | assumption | omega)] at hQd
          exact hQd
      · rename_i hz0
        have hz : p0.rows.length - K.toNat ≠ 0 := by simpa using hz0
        have hcut := cut_inv (ok := ok) (gk := gk) hall.2.1 hall.2.2.1 hall.2.2.2.1 hall.2.2.2.2.1 hall.2.2.2.2.2.2.1 hkk hK0 ({ p0 with rows := p0.rows.drop K.toNat } :: rest) (.inr ⟨rfl, hz⟩)
        go_roundg (gk - 1)
        case measure => exact hne1
        case rel =>
          refine ⟨{ p0 with rows := p0.rows.drop K.toNat } :: rest, n' - K, gone' + K, ⟨StoreAt.rebuild (w2 := w2) hs0 (hblk.trans rfl) hoth (v := .slice (some ad) (rest.length + 1) c) hQ3 (fun q hq => ?_) ?_, hcut.1, hcut.2.1, hcut.2.2.1, hcut.2.2.2.1, hcut.2.2.2.2.1, hcut.2.2.2.2.2.1, hlow, hcut.2.2.2.2.2.2⟩⟩
          · rcases List.mem_cons.1 hq with rfl | hq
            · exact ⟨hP2, hP0n⟩
            · exact ⟨hrest q hq, fun k hk => (hp q (by simp [hq])).2 k hk⟩
          · exact List.pairwise_cons.2 ⟨hdis, (List.pairwise_cons.1 hd).2⟩
    · go_wp2
      go_quiet (fail)
      go_wp2
      have hall := HA.out
      go_end0
      exact ⟨rfl, ps', n', gone', hall.1.step (fun _ _ _ => rfl), hall.2.1, hall.2.2.1, by have := HX.out; omega, hall.2.2.2.2.2.2.1, hall.2.2.2.2.2.2.2.1.drewN _⟩
end Go.Proofs.Ytkigdcihhlkkdaa.P
end
section
set_option linter.unusedVariables false
set_option linter.unusedSimpArgs false
namespace Go.Proofs.Ytkigdcihhlkkdaa.P
open Go.RowKit Go.Proofs.YtkigdcihhlkkdaaW.PrintWords Go.Proofs.YtkigdcihhlkkdaaW.PrintLast Go.Proofs.YtkigdcihhlkkdaaW.PrintMore
theorem mid_append : ∀ (l : List Pg) (q : Pg), mid (l ++ [q]) ↔ ∀ p ∈ l, p.rows.length = 16
  | [], q => by simp [mid]
  | [a], q => by simp [mid]
  | a :: b :: l, q => by
    have ih := mid_append (b :: l) q
    simp only [List.cons_append, mid, List.mem_cons, forall_eq_or_imp] at ih ⊢
    rw [ih]
theorem len_le : ∀ {ps : List Pg}, (∀ p ∈ ps, p.rows ≠ []) → ps.length ≤ (flat ps).length
  | [], _ => Nat.zero_le _
  | p :: t, h => by
    have ih := len_le (ps := t) (fun q hq => h q (by simp [hq]))
    have h1 : 0 < p.rows.length := List.length_pos_iff.2 (h p (by simp))
    rw [flat_cons, List.length_append, List.length_cons]
    omega
theorem flat_append (a b : List Pg) : flat (a ++ b) = flat a ++ flat b := by simp [flat]
theorem Inv.last {init : List Pg} {pl : Pg} (h : Inv (init ++ [pl])) : ∀ p ∈ init.tail, p.rows.length = 16 := by
  cases init with
  | nil => intro p hp; simp at hp
  | cons a t => exact (mid_append t pl).1 h.full
structure Room (wc W : World) (ok : Nat → Prop) (s : Nat) (lim n gone : Int) (ps init : List Pg) (pl : Pg) (box : Obj) : Prop where
  at_ : StoreAt wc (fun k => ok k ∨ W.heap.size ≤ k) s lim n gone (init ++ [pl])
  room : pl.rows.length < 16
  same : flat (init ++ [pl]) = flat ps
  all_ : ∀ p ∈ init, p.rows ≠ [] ∧ p.rows.length ≤ 16
  full : ∀ p ∈ init.tail, p.rows.length = 16
  fr : Fr ok W wc
  box : wc.heap[W.heap.size]? = some box
  lt_ : ∀ p ∈ init ++ [pl], ∀ k, p.ok k → k < wc.heap.size
def Full (ps : List Pg) : Prop := ps = [] ∨ ∃ init pl, ps = init ++ [pl] ∧ pl.rows.length = 16
theorem info49 : (Try.prog.info? 49).map (fun i => (i.zero, i.size, i.bytes)) = some (some (.pointer none), 1, 8) := by kernel_rfl
theorem room_new {W w1 w2 w3 : World} {ok : Nat → Prop} {s gN c0 c3 : Nat} {lim n gone : Int} {ps : List Pg} {A0 A3 : Option Addr} {box : Obj} (hs0 : ok s) (hsltW : s < W.heap.size) (hb2 : Below W.heap.size W w1) (hg : w1.heap[s]? = some (.cells #[.int .i64 lim, .slice A0 ps.length c0, .int .i64 n, .int .i64 gone] 91 (0, 0)))
    (hv : (Kd.raw 1).Q 49 w1 0 (fun k => ok k ∧ k ≠ s) (.slice A0 ps.length c0) (ps.map Pg.cell)) (hp : ∀ p ∈ ps, PageAt w1 p.ok p.blk p.rows ∧ ∀ k, p.ok k → ok k ∧ k ≠ s ∧ some k ≠ (Value.slice A0 ps.length c0).ownBlock) (hd : ps.Pairwise (fun p q => ∀ k, p.ok k → ¬ q.ok k)) (hbd : ∀ p ∈ ps, ∀ k, p.ok k → k < W.heap.size)
    (hvlt : ∀ k, (Value.slice A0 ps.length c0).ownBlock = some k → k < W.heap.size) (hi : Inv ps) (hfull : Full ps) (hbN : Below w1.heap.size w1 w2) (hPN : PageAt w2 (fun k => w1.heap.size ≤ k) gN []) (hg2 : w2.heap[s]? = some (.cells #[.int .i64 lim, .slice A0 ps.length c0, .int .i64 n, .int .i64 gone] 91 (0, 0)))
    (hgr : w2.grownBy w3 (Value.slice A0 ps.length c0).ownBlock) (hat : (Value.slice A3 (ps.map Pg.cell ++ [[Value.pointer (some ⟨gN, 0, none⟩)]]).length c3).ownBlock = (Value.slice A0 ps.length c0).ownBlock ∨ ∃ b, (Value.slice A3 (ps.map Pg.cell ++ [[Value.pointer (some ⟨gN, 0, none⟩)]]).length c3).ownBlock = some b ∧ w2.heap.size ≤ b)
    (hQ : (Kd.raw 1).Q 49 w3 0 (fun k => (ok k ∨ W.heap.size ≤ k) ∧ k ≠ s) (.slice A3 (ps.map Pg.cell ++ [[Value.pointer (some ⟨gN, 0, none⟩)]]).length c3) (ps.map Pg.cell ++ [[Value.pointer (some ⟨gN, 0, none⟩)]])) (hbox : w1.heap[W.heap.size]? = some box) (hlt1 : W.heap.size < w1.heap.size) :
    Room (w3.setCell ⟨s, 1, none⟩ (.slice A3 (ps.length + 1) c3)) W ok s lim n gone ps ps ⟨gN, fun k => w1.heap.size ≤ k ∧ k < w2.heap.size, []⟩ box := by
  have hgne : some s ≠ (Value.slice A0 ps.length c0).ownBlock := fun he => (hv.1 s he.symm).2 rfl
  have hg3 := blk_grown hg2 hgr hgne
  have hlen : (ps.map Pg.cell ++ [[Value.pointer (some ⟨gN, 0, none⟩)]]).length = ps.length + 1 := by simp
  rw [hlen] at hQ hat
  have hfr2 : Fr ok W w2 := Fr.of_below (hb2.trans (hbN.mono hb2.size))
  have hfr3 : Fr ok W w3 := hfr2.trans (S1 := ok) (Fr.of_grown hgr (fun k hk => (hv.1 k hk).1)) (fun _ _ h => h)
  refine ⟨⟨.inl hs0, .slice A3 (ps.length + 1) c3, (blk_set hg3 1 _).trans rfl, Kd.Q_step (by rw [List.map_append]; exact hQ) (fun k hk _ => Below.heap_setCell w3 ⟨s, 1, none⟩ _ k hk.2), fun q hq => ?_, ?_⟩, ?_, by rw [flat_append]; simp [flat], fun q hq => ⟨hi.some_ q hq, hi.most q hq⟩, ?_, hfr3.setCell (p := ⟨s, 1, none⟩) hs0 _, ?_, ?_⟩
  · rcases List.mem_append.1 hq with hq | hq
    · obtain ⟨hP, hn⟩ := hp q hq
      have hP3 : PageAt w3 q.ok q.blk q.rows := (hP.below hbN).step (fun k hk hlt => hgr.block k hlt (hn k hk).2.2)
      refine ⟨hP3.set (fun hk => (hn s hk).2.1 rfl) 1 _, fun k hk => ⟨.inl (hn k hk).1, (hn k hk).2.1, ?_⟩⟩
      rcases hat with hat | ⟨b, hb, hle⟩
      · rw [hat]; exact (hn k hk).2.2
      · rw [hb]
        intro he
        injection he with he
        have := hbd q hq k hk
        have := hfr2.size
        omega
    · simp only [List.mem_singleton] at hq
      subst hq
      have hP3 : PageAt w3 (fun k => w1.heap.size ≤ k ∧ k < w2.heap.size) gN [] := hPN.bound.step (fun k hk hlt => hgr.block k hlt (fun he => by have := hvlt k he.symm; have := hk.1; omega))
      refine ⟨hP3.set (fun hk => by have := hk.1; have := blk_lt hg; omega) 1 _, fun k hk => ⟨.inr (by have := hk.1; omega), fun he => by have := hk.1; omega, ?_⟩⟩
      rcases hat with hat | ⟨b, hb, hle⟩
      · rw [hat]
        intro he
        have := hvlt k he.symm
        have := hk.1
        omega
      · rw [hb]
        intro he
        injection he with he
        have := hk.2
        omega
  · refine List.pairwise_append.2 ⟨hd, List.pairwise_singleton _ _, fun a ha b hb k hk hk2 => ?_⟩
    simp only [List.mem_singleton] at hb
    subst hb
    have := hbd a ha k hk
    have := hk2.1
    omega
  · show 0 < 16
    omega
  · rcases hfull with rfl | ⟨init, pl, rfl, h16⟩
    · intro p hp; simp at hp
    · cases init with
      | nil => intro p hp; simp at hp
      | cons a t =>
        intro p hp
        simp only [List.cons_append, List.tail_cons, List.mem_append, List.mem_singleton] at hp
        rcases hp with hp | rfl
        · exact hi.last p hp
        · exact h16
  · have hne : some W.heap.size ≠ (Value.slice A0 ps.length c0).ownBlock := fun he => by have := hvlt _ he.symm; omega
    have h3 := blk_grown (blk_below hbox hbN) hgr hne
    rw [Below.heap_setCell w3 ⟨s, 1, none⟩ _ W.heap.size (by show W.heap.size ≠ s; omega)]
    exact h3
  · intro p hpm k hk
    have e1 := hgr.size
    have e2 : (w3.setCell ⟨s, 1, none⟩ (.slice A3 (ps.length + 1) c3)).heap.size = w3.heap.size := by simp [World.setCell]
    have e3 := hbN.size
    rw [e2]
    rcases List.mem_append.1 hpm with hpm | hpm
    · have := hbd p hpm k hk
      omega
    · simp only [List.mem_singleton] at hpm
      subst hpm
      have := hk.2
      omega
theorem room_old {W w1 : World} {ok : Nat → Prop} {s c0 : Nat} {lim n gone : Int} {ps init : List Pg} {pl : Pg} {A0 : Option Addr} {box : Obj} (hs0 : ok s) (hb2 : Below W.heap.size W w1) (hg : w1.heap[s]? = some (.cells #[.int .i64 lim, .slice A0 ps.length c0, .int .i64 n, .int .i64 gone] 91 (0, 0)))
    (hv : (Kd.raw 1).Q 49 w1 0 (fun k => ok k ∧ k ≠ s) (.slice A0 ps.length c0) (ps.map Pg.cell)) (hp : ∀ p ∈ ps, PageAt w1 p.ok p.blk p.rows ∧ ∀ k, p.ok k → ok k ∧ k ≠ s ∧ some k ≠ (Value.slice A0 ps.length c0).ownBlock) (hd : ps.Pairwise (fun p q => ∀ k, p.ok k → ¬ q.ok k)) (hi : Inv ps) (hps : ps = init ++ [pl]) (hnf : pl.rows.length ≠ 16) (hbd : ∀ p ∈ ps, ∀ k, p.ok k → k < W.heap.size) (hbox : w1.heap[W.heap.size]? = some box) (m : Nat) :
    Room (w1.drewN m) W ok s lim n gone ps init pl box := by
  have hS : StoreAt w1 ok s lim n gone ps := ⟨hs0, _, hg, hv, hp, hd⟩
  have hS2 : StoreAt (w1.drewN m) (fun k => ok k ∨ W.heap.size ≤ k) s lim n gone ps := StoreAt.mono (StoreAt.step (W' := w1.drewN m) hS (fun _ _ _ => rfl)) (fun k hk => Or.inl hk)
  subst hps
  refine ⟨hS2, ?_, rfl, fun p hp => ⟨hi.some_ p (by simp [hp]), hi.most p (by simp [hp])⟩, hi.last, (Fr.of_below hb2).drewN m, hbox, fun p hpm k hk => Nat.lt_of_lt_of_le (hbd p hpm k hk) hb2.size⟩
  have := hi.most pl (by simp)
  omega
theorem room_done {W wc w4 : World} {ok : Nat → Prop} {s : Nat} {lim n gone : Int} {ps init : List Pg} {pl : Pg} {box : Obj} {x : List Int} (hs0' : ok s) (hR : Room wc W ok s lim n gone ps init pl box)
    (hP4 : PageAt w4 (fun k => pl.ok k ∨ wc.heap.size ≤ k) pl.blk (pl.rows ++ [x])) (hf4 : Fr pl.ok wc w4) :
    ∃ ps', StoreAt (w4.setCell ⟨s, 2, none⟩ (.int .i64 (n + 1))) (fun k => ok k ∨ W.heap.size ≤ k) s lim (n + 1) gone ps' ∧ Inv ps' ∧ flat ps' = flat ps ++ [x] ∧ Fr ok W (w4.setCell ⟨s, 2, none⟩ (.int .i64 (n + 1))) := by
  obtain ⟨hs0, v, hg, hv, hp, hd⟩ := hR.at_
  have hplm := hp pl (by simp)
  have hsn : ¬ pl.ok s := fun hk => (hplm.2 s hk).2.1 rfl
  have hg4 := hf4.old hsn hg
  have hWc := hR.fr.size
  have hscW : s < wc.heap.size := blk_lt hg
  refine ⟨init ++ [⟨pl.blk, fun k => (pl.ok k ∨ wc.heap.size ≤ k) ∧ k < w4.heap.size, pl.rows ++ [x]⟩], ⟨hs0, v, (blk_set hg4 2 _).trans rfl, ?_, fun q hq => ?_, ?_⟩, ⟨fun p hpm => ?_, fun p hpm => ?_, ?_⟩, ?_, ?_⟩
  · have e : (init ++ [(⟨pl.blk, fun k => (pl.ok k ∨ wc.heap.size ≤ k) ∧ k < w4.heap.size, pl.rows ++ [x]⟩ : Pg)]).map Pg.cell = (init ++ [pl]).map Pg.cell := by simp [Pg.cell]
    rw [e]
    have h1 := Kd.Q_step (Kd.Q_tight rfl hv) (fun k hk hlt => hf4.block k hlt (fun hk2 => (hplm.2 k hk2).2.2 hk))
    exact Kd.Q_step (Kd.Q_mono h1 (fun k hk => hv.1 k hk.symm)) (fun k hk _ => Below.heap_setCell w4 ⟨s, 2, none⟩ _ k hk.2)
  · rcases List.mem_append.1 hq with hq | hq
    · obtain ⟨hP, hn⟩ := hp q (by simp [hq])
      have hdis := (List.pairwise_append.1 hd).2.2 q hq pl (by simp)
      exact ⟨(hP.fr hf4 (fun k hk hk2 => hdis k hk hk2)).set (fun hk => (hn s hk).2.1 rfl) 2 _, hn⟩
    · simp only [List.mem_singleton] at hq
      subst hq
      have hns : ¬ ((pl.ok s ∨ wc.heap.size ≤ s) ∧ s < w4.heap.size) := fun hk => hk.1.elim hsn (fun h => by omega)
      refine ⟨hP4.bound.set hns 2 _, fun k hk => ?_⟩
      rcases hk.1 with hk | hk
      · exact hplm.2 k hk
      · refine ⟨.inr (by omega), by omega, fun he => ?_⟩
        have := Kd.Q_lt hv k he.symm
        omega
  · obtain ⟨d1, d2, d3⟩ := List.pairwise_append.1 hd
    refine List.pairwise_append.2 ⟨d1, List.pairwise_singleton _ _, fun a ha b hb k hk hk2 => ?_⟩
    simp only [List.mem_singleton] at hb
    subst hb
    rcases hk2.1 with hk2 | hk2
    · exact d3 a ha pl (by simp) k hk hk2
    · have := hR.lt_ a (by simp [ha]) k hk
      omega
  · rcases List.mem_append.1 hpm with hpm | hpm
    · exact (hR.all_ p hpm).1
    · simp only [List.mem_singleton] at hpm
      subst hpm
      simp
  · rcases List.mem_append.1 hpm with hpm | hpm
    · exact (hR.all_ p hpm).2
    · simp only [List.mem_singleton] at hpm
      subst hpm
      have := hR.room
      simp only [List.length_append, List.length_singleton]
      omega
  · have hfull := hR.full
    cases init with
    | nil => trivial
    | cons a t => exact (mid_append t _).2 hfull
  · have := hR.same
    rw [flat_append] at this ⊢
    rw [← this]
    simp [flat]
  · refine Fr.setCell ?_ ?_ _
    · exact hR.fr.trans hf4 (fun i hi hk => ((hplm.2 i hk).1).elim id (fun h => by omega))
    · exact hs0'
set_option maxHeartbeats 4000000 in
set_option maxRecDepth 100000 in
theorem store_add_b (W : World) (ok : Nat → Prop) (s : Nat) (lim n gone : Int) (ps : List Pg) (A : Option Addr) (c : Nat) (l : List S45) (wr : Bool) (x : List Int) (h : StoreAt W ok s lim n gone ps) (hbd : ∀ p ∈ ps, ∀ k, p.ok k → k < W.heap.size) (hi : Inv ps) (hn : n = (flat ps).length) (hn2 : n ≤ 100000000) (hl : 0 ≤ lim) (hg0 : 0 ≤ gone) (hg1 : gone ≤ 100000000)
    (okc : Nat → Prop) (hF : Kd.F k45 W okc A l.length l) (hdj : ∀ k, okc k → ¬ ok k)
    (hmay : ∀ w, Kd.C k45 w A l.length l → Calls Try.prog 26 #[.agg #[.slice A l.length c, .bool wr]] w fun e w' => e = .returned (.bool true) ∧ Below w.heap.size w w')
    (hput : ∀ w, Kd.C k45 w A l.length l → Calls Try.prog 24 #[.agg #[.slice A l.length c, .bool wr]] w fun e w' => ∃ v0_ : Value, e = .returned (.tuple #[v0_, .bool true]) ∧ Kd.R (Kd.int .u8) 5 w' w.heap.size (fun _ => True) v0_ x ∧ Below w.heap.size w w') :
    Calls Try.prog 40 #[.pointer (some ⟨s, 0, none⟩), .agg #[.slice A l.length c, .bool wr]] W fun e w' => e = .returned (.bool true) ∧
      ∃ ps' n' gone', StoreAt w' (fun k => ok k ∨ W.heap.size ≤ k) s lim n' gone' ps' ∧ Inv ps' ∧ flat ps' = (flat ps ++ [x]).drop (n + 1 - n').toNat ∧ n' = min (n + 1) lim ∧ gone' + n' = gone + n + 1 ∧ Fr ok W w' := by
  have hb0 : Below W.heap.size W (W.alloc (.cells #[.slice A l.length c, .bool wr] 31)) := below_alloc (Below.refl _ _) _
  have hC1 := Kd.C_below (Kd.F_now hF) hb0
  have hbox := blk_new W (.cells #[.slice A l.length c, .bool wr] 31)
  have hInfo := Aside0.mk (And.intro hi hn)
  clear hi hn
  have hpl : ps.length ≤ 100000000 := by have h1 := len_le hInfo.out.1.some_; have h2 := hInfo.out.2; omega
  have hsltW : s < W.heap.size := h.lt
  obtain ⟨hs0, v, hgW, hvW, hpW, hd⟩ := h
  have hvlt := Kd.Q_lt hvW
  go_enter Try.func40, Try.ntmps40
  go_upto_if 33 with (first
      | (go_at_call 26; refine (hmay _ hC1).mono ?_; rintro e w1 ⟨rfl, hb1⟩
         have hb2 : Below W.heap.size W w1 := hb0.trans (hb1.mono hb0.size)
         have hbox1 := blk_below hbox hb1
         have hg := blk_below hgW hb2
         have hv := Kd.Q_below hvW hb2
         have hp : ∀ p ∈ ps, PageAt w1 p.ok p.blk p.rows ∧ ∀ k, p.ok k → ok k ∧ k ≠ s ∧ some k ≠ v.ownBlock := fun p hpm => ⟨(hpW p hpm).1.below hb2, (hpW p hpm).2⟩
         obtain ⟨A0, c0, rfl, hc0⟩ := Kd.Q_slice hv
         rw [List.length_map] at hg hv hc0 hp hvlt
         obtain ⟨⟨h0, h1, h2, h3⟩, f0, f1, f2, f3⟩ := blk4 hg)
      | fail)
  go_cut [3, 33] (fun v3 v33 wc => v3 = .pointer (some ⟨W.heap.size, 0, none⟩) ∧ (∃ m, wc = w1.drewN m) ∧ ((v33 = .bool true ∧ Full ps) ∨ (v33 = .bool false ∧ ∃ init pl, ps = init ++ [pl] ∧ pl.rows.length ≠ 16)))
  case first =>
    rcases List.eq_nil_or_concat ps with hps | ⟨init, pl, hps⟩
    · have hz : ps.length = 0 := by rw [hps]; rfl
      rw [hz] at hg hv hc0 h1
      go_quiet (fail)
      go_wp2
      go_meet
      case rel => exact ⟨rfl, ⟨_, rfl⟩, .inl ⟨rfl, .inl hps⟩⟩
    · rw [List.concat_eq_append] at hps
      have hlp : ps.length = init.length + 1 := by rw [hps]; simp
      have hplm := hp pl (by rw [hps]; simp)
      obtain ⟨ad, rfl, hpc⟩ := ptr_at hv (i := init.length) (p := pl) (by rw [hps]; simp)
      have hz : decide ((init.length : Int) + 1 = 0) = false := decide_eq_false (by omega)
      have hz2 : ((init.length : Int) + 1 == 0) = false := beq_eq_false_iff_ne.2 (by omega)
      have hw1 : IntKind.i64.wrap (init.length : Int) = init.length := by rw [IntKind.wrap_i64]; omega
      have hw2 : (init.length : Int) < (init.length : Int) + 1 := by omega
      have hw3 : (0 : Int) ≤ (init.length : Int) := by omega
      go_quiet ((go_at_call 37; exact Calls.quiet_of ((page_len _ pl.ok pl.blk pl.rows (hplm.1.drewN _)).mono (fun e w1 h => ⟨h.1, h.2.out⟩))))
      go_wp2
      go_meet
      case rel =>
        refine ⟨rfl, ⟨_, rfl⟩, ?_⟩
        by_cases h16 : pl.rows.length = 16
        · exact .inl ⟨by simp [h16], .inr ⟨init, pl, hps, h16⟩⟩
        · exact .inr ⟨by simp; omega, init, pl, hps, h16⟩
  case rest =>
    obtain ⟨rfl, ⟨m, rfl⟩, hcase⟩ := hcut
    have hlt1 : W.heap.size < w1.heap.size := blk_lt hbox1
    go_upto_if 33 with fail
    go_cut [3] (fun v3 wc => v3 = .pointer (some ⟨W.heap.size, 0, none⟩) ∧ ∃ (init : List Pg) (pl : Pg), Room wc W ok s lim n gone ps init pl (.cells #[.slice A l.length c, .bool wr] 31 (0, 0)))
    case first =>
      rcases hcase with ⟨rfl, hfull⟩ | ⟨rfl, init, pl, hps, hnf⟩
      · go_wp2
        have hQ1 : (Kd.raw 1).Q 49 w1 0 (fun k => (ok k ∨ W.heap.size ≤ k) ∧ k ≠ s) (.slice A0 ps.length c0) (ps.map Pg.cell) := Kd.Q_mono hv (fun k hk => ⟨.inl hk.1, hk.2⟩)
        have hnew : ∀ m, Calls Try.prog 33 #[] (w1.drewN m) fun e w2 => ∃ gN, e = .returned (.pointer (some ⟨gN, 0, none⟩)) ∧ Below w1.heap.size w1 w2 ∧ w1.heap.size ≤ gN ∧ PageAt w2 (fun k => w1.heap.size ≤ k) gN [] ∧ w2.heap[s]? = some (.cells #[.int .i64 lim, .slice A0 ps.length c0, .int .i64 n, .int .i64 gone] 91 (0, 0)) ∧
            (Kd.raw 1).Q 49 w2 0 (fun k => (ok k ∨ W.heap.size ≤ k) ∧ k ≠ s) (.slice A0 ps.length c0) (ps.map Pg.cell) ∧ W.heap.size ≤ w2.heap.size := by
          intro m
          refine (page_new _).mono ?_
          rintro e w2 ⟨gN, rfl, hgN, hPN, hbN⟩
          have hbN1 : Below w1.heap.size w1 w2 := (pw_below_drewN (Below.refl _ w1) m).trans hbN
          exact ⟨gN, rfl, hbN1, hgN, hPN, blk_below hg hbN1, Kd.Q_below hQ1 hbN1, Nat.le_trans hb2.size hbN1.size⟩
        go_region_law (first
          | (go_simp; go_at_call 33; refine (hnew _).mono ?_; rintro e w2 ⟨gN, rfl, hbN1, hgN1, hPN1, hg2, hQ2, hsW2⟩; obtain ⟨⟨k0, k1, k2, k3⟩, j0, j1, j2, j3⟩ := blk4 hg2; obtain ⟨⟨q0, q1, q2, q3⟩, r0, r1, r2, r3⟩ := blk4 (blk_alloc hg2 (.cells #[.pointer (some ⟨gN, 0, none⟩)] 49)))
          | (refine Kd.Q_append_step (Kd.raw 1) (w0 := w2) (W := w2) 0 (by rfl) (.tmp 38) (.tmp 40) 89 49 (.pointer none) 8 (by rfl) Try.underlying89 info49 rfl (by decide) (by decide) (.slice A0 ps.length c0) (ps.map Pg.cell) [.pointer (some ⟨gN, 0, none⟩)] [.pointer (some ⟨gN, 0, none⟩)] (fun k => (ok k ∨ W.heap.size ≤ k) ∧ k ≠ s) (fun _ => False) (by rfl) (by rfl) ⟨rfl, rfl, by simp [Value.oneCell']⟩ (fun _ hk => hk.elim) (fun k hk => ⟨.inr (by omega), by omega⟩) hQ2 (Below.refl _ _) (Nat.zero_le _) (by rw [List.length_map]; omega) ?_
             intro v1 w3 hQ3 hb3 hgr3 hat3
             have hgne : some s ≠ (Value.slice A0 ps.length c0).ownBlock := fun he => (hv.1 s he.symm).2 rfl
             have hg3 := blk_grown hg2 hgr3 hgne
             obtain ⟨A3, c3, rfl, hc3⟩ := Kd.Q_slice hQ3
             obtain ⟨⟨m0, m1, m2, m3⟩, n0, n1, n2, n3⟩ := blk4 hg3))
        all_goals
          (try go_wp2)
          go_meet
          case rel =>
            exact ⟨rfl, ps, _, room_new hs0 hsltW hb2 hg hv hp hd hbd hvlt hInfo.out.1 hfull hbN1 hPN1 hg2 hgr3 hat3 hQ3 hbox1 hlt1⟩
      · go_wp2
        go_meet
        case rel => exact ⟨rfl, init, pl, room_old hs0 hb2 hg hv hp hd hInfo.out.1 hps hnf hbd hbox1 m⟩
    case rest =>
      obtain ⟨rfl, init, pl, hR⟩ := hcut
      obtain ⟨_, v2, hg2, hv2, hp2, hd2⟩ := hR.at_
      obtain ⟨A2, c2, rfl, hc2⟩ := Kd.Q_slice hv2
      have hlm : ((init ++ [pl]).map Pg.cell).length = init.length + 1 := by simp
      rw [hlm] at hg2 hv2 hc2 hp2
      obtain ⟨⟨x0, x1, x2, x3⟩, y0, y1, y2, y3⟩ := blk4 hg2
      obtain ⟨ad2, rfl, hpc2⟩ := ptr_at hv2 (i := init.length) (p := pl) (by simp)
      obtain ⟨b0, b1, b2, b3⟩ := blk2 hR.box
      have hw1 : IntKind.i64.wrap (init.length : Int) = init.length := by have : init.length ≤ 100000000 := by have h1 := len_le (fun p hp => (hR.all_ p hp).1); have h2 := hInfo.out.2; have h3 := congrArg List.length hR.same; rw [flat_append, List.length_append] at h3; omega
                                                                          rw [IntKind.wrap_i64]; omega
      have hw2 : (init.length : Int) < (init.length : Int) + 1 := by omega
      have hw3 : (0 : Int) ≤ (init.length : Int) := by omega
      go_wp2
      go_still_tail 13, (by kernel_rfl)
      change wpList _ _ _ _ _ wc.drew
      have hplm := hp2 pl (by simp)
      have hsn : ¬ pl.ok s := fun hk => (hplm.2 s hk).2.1 rfl
      have hP2 : PageAt wc.drew pl.ok pl.blk pl.rows := hplm.1.step (fun _ _ _ => rfl)
      have hC2 : Kd.C k45 wc.drew A l.length l := Kd.F_now (Kd.F_step hF (fun k hk hlt => hR.fr.drew.block k hlt (hdj k hk)))
      have hwn : IntKind.i64.wrap (n + 1) = n + 1 := by have := hInfo.out.2; rw [IntKind.wrap_i64]; omega
      go_wp2_with (first
        | (go_at_call 34
           refine (page_add _ pl.ok pl.blk pl.rows A c l wr x true hP2 hC2 hput).mono ?_
           rintro e w4 ⟨rfl, hP4, hf4⟩
           rw [addRows, if_pos hR.room, if_pos rfl] at hP4
           have hf4c : Fr pl.ok wc w4 := ((Fr.refl pl.ok wc).drew).trans hf4 (fun _ _ h => h)
           have hg4 := hf4c.old hsn hg2
           obtain ⟨⟨x0, x1, x2, x3⟩, y0, y1, y2, y3⟩ := blk4 hg4)
        | (go_at_call 62
           obtain ⟨ps2, hS5, hI5, hfl5, hfr5⟩ := room_done hs0 hR hP4 hf4c
           refine (store_cuts _ _ s lim (n + 1) gone ps2 hS5 hI5 (by rw [hfl5, List.length_append, List.length_singleton]; have := hInfo.out.2; omega) (by omega) hl hg0 (by omega)).mono ?_
           rintro e w6 ⟨rfl, ps', n', gone', hS6, hI6, hfl6, hn6, hgn6, hfr6⟩)
        | fail)
      go_ret
      refine ⟨rfl, ps', n', gone', hS6, hI6, by rw [hfl6, hfl5], hn6, by omega, hfr5.trans hfr6 (fun i hi h => h.elim id (fun h => by omega))⟩
def bnd (W : World) (p : Pg) : Pg := ⟨p.blk, fun k => p.ok k ∧ k < W.heap.size, p.rows⟩
theorem flat_bnd (W : World) (ps : List Pg) : flat (ps.map (bnd W)) = flat ps := by
  unfold flat
  rw [List.map_map]
  rfl
theorem mid_bnd (W : World) : ∀ (ps : List Pg), mid ps → mid (ps.map (bnd W))
  | [], _ => trivial
  | [_], _ => trivial
  | p :: q :: r, h => ⟨h.1, mid_bnd W (q :: r) h.2⟩
theorem Inv.bnd {W : World} {ps : List Pg} (h : Inv ps) : Inv (ps.map (P.bnd W)) := by
  refine ⟨fun p hp => ?_, fun p hp => ?_, ?_⟩
  · obtain ⟨q, hq, rfl⟩ := List.mem_map.1 hp
    exact h.some_ q hq
  · obtain ⟨q, hq, rfl⟩ := List.mem_map.1 hp
    exact h.most q hq
  · rw [← List.map_tail]
    exact mid_bnd W _ h.full
theorem StoreAt.bnd {W : World} {ok : Nat → Prop} {s : Nat} {lim n gone : Int} {ps : List Pg} (h : StoreAt W ok s lim n gone ps) : StoreAt W ok s lim n gone (ps.map (P.bnd W)) := by
  obtain ⟨h0, v, hg, hv, hp, hd⟩ := h
  refine ⟨h0, v, hg, by rw [List.map_map]; exact hv, fun p hpm => ?_, ?_⟩
  · obtain ⟨q, hq, rfl⟩ := List.mem_map.1 hpm
    exact ⟨(hp q hq).1.bound, fun k hk => (hp q hq).2 k hk.1⟩
  · exact List.pairwise_map.2 (hd.imp (fun {a b} hab k hk hk2 => hab k hk.1 hk2.1))
theorem store_add (W : World) (ok : Nat → Prop) (s : Nat) (lim n gone : Int) (ps : List Pg) (A : Option Addr) (c : Nat) (l : List S45) (wr : Bool) (x : List Int) (h : StoreAt W ok s lim n gone ps) (hi : Inv ps) (hn : n = (flat ps).length) (hn2 : n ≤ 100000000) (hl : 0 ≤ lim) (hg0 : 0 ≤ gone) (hg1 : gone ≤ 100000000)
    (okc : Nat → Prop) (hF : Kd.F k45 W okc A l.length l) (hdj : ∀ k, okc k → ¬ ok k)
    (hmay : ∀ w, Kd.C k45 w A l.length l → Calls Try.prog 26 #[.agg #[.slice A l.length c, .bool wr]] w fun e w' => e = .returned (.bool true) ∧ Below w.heap.size w w')
    (hput : ∀ w, Kd.C k45 w A l.length l → Calls Try.prog 24 #[.agg #[.slice A l.length c, .bool wr]] w fun e w' => ∃ v0_ : Value, e = .returned (.tuple #[v0_, .bool true]) ∧ Kd.R (Kd.int .u8) 5 w' w.heap.size (fun _ => True) v0_ x ∧ Below w.heap.size w w') :
    Calls Try.prog 40 #[.pointer (some ⟨s, 0, none⟩), .agg #[.slice A l.length c, .bool wr]] W fun e w' => e = .returned (.bool true) ∧
      ∃ ps' n' gone', StoreAt w' (fun k => ok k ∨ W.heap.size ≤ k) s lim n' gone' ps' ∧ Inv ps' ∧ flat ps' = (flat ps ++ [x]).drop (n + 1 - n').toNat ∧ n' = min (n + 1) lim ∧ gone' + n' = gone + n + 1 ∧ Fr ok W w' := by
  have h1 := store_add_b W ok s lim n gone (ps.map (bnd W)) A c l wr x h.bnd (fun p hpm k hk => by
    obtain ⟨q, hq, rfl⟩ := List.mem_map.1 hpm
    exact hk.2) hi.bnd (by rw [flat_bnd]; exact hn) hn2 hl hg0 hg1 okc hF hdj hmay hput
  rw [flat_bnd] at h1
  exact h1
end Go.Proofs.Ytkigdcihhlkkdaa.P
end
