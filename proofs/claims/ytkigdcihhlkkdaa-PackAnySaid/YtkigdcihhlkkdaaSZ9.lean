/- own texts of this session, put together -/
import Derived.Test.YtkigdcihhlkkdaaSV1
import Derived.Test.YtkigdcihhlkkdaaSZ0
import Derived.Test.YtkigdcihhlkkdaaSZ6
section
set_option linter.unusedVariables false
set_option linter.unusedSimpArgs false
namespace Go.Proofs.YtkigdcihhlkkdaaW.PrintWords
open Go.RowKit
namespace Kd
def NQ {α : Type} (d : Kd α) (e : Nat) (w : World) (base : Nat) (ok : Nat → Prop) (v : Value) (xs : List α) : Prop :=
  (∀ k, v.ownBlock = some k → ok k) ∧ ∃ rows : List (List Value), rows.length = xs.length ∧ (raw d.sz).Q e w base (fun k => some k = v.ownBlock) v rows ∧ ∀ (j : Nat) (x : α) (c : List Value), xs[j]? = some x → rows[j]? = some c → FK d w (fun k => ok k ∧ some k ≠ v.ownBlock) x c
section
variable {α : Type} {d : Kd α} {e : Nat} {w w1 W : World} {base : Nat} {ok ok' okp : Nat → Prop} {v v1 : Value} {xs ys : List α}
theorem NQ_nil (d : Kd α) (e : Nat) (w : World) (base : Nat) (ok : Nat → Prop) : NQ d e w base ok (.slice none 0 0) [] :=
  ⟨fun k hk => by simp [Value.ownBlock] at hk, [], rfl, Q_nil _ _ _ _ _, fun j x c hx => by simp at hx⟩
theorem NQ_mono (h : NQ d e w base ok v xs) (hok : ∀ k, ok k → ok' k) : NQ d e w base ok' v xs := by
  obtain ⟨h0, rows, hl, hR, hf⟩ := h
  exact ⟨fun k hk => hok k (h0 k hk), rows, hl, hR, fun j x c hx hc => FK_mono (hf j x c hx hc) (fun k hk => ⟨hok k hk.1, hk.2⟩)⟩
theorem NQ_step (h : NQ d e W base ok v xs) (hm : ∀ k, ok k → k < W.heap.size → w1.heap[k]? = W.heap[k]?) : NQ d e w1 base ok v xs := by
  obtain ⟨h0, rows, hl, hR, hf⟩ := h
  exact ⟨h0, rows, hl, Q_step hR (fun k hk hlt => hm k (h0 k hk.symm) hlt), fun j x c hx hc => FK_step (hf j x c hx hc) (fun k hk hlt => hm k hk.1 hlt)⟩
theorem NQ_below (h : NQ d e W base ok v xs) (hb : Below W.heap.size W w1) : NQ d e w1 base ok v xs := NQ_step h (fun k _ hk => hb.block k hk)
theorem NQ_slice (h : NQ d e w base ok v xs) : ∃ A c, v = .slice A xs.length c ∧ xs.length ≤ c := by
  obtain ⟨_, rows, hl, hR, _⟩ := h
  obtain ⟨A, c, h1, h2⟩ := Q_slice hR
  exact ⟨A, c, by rw [h1, hl], by omega⟩
theorem raw_anyQ {sz : Nat} {rows : List (List Value)} (h : (raw sz).Q e w base ok v rows) : (raw sz).Q e w base (fun _ => True) v rows := Q_mono h (fun _ _ => trivial)
theorem NQ_lt (h : NQ d e w base ok v xs) : ∀ k, v.ownBlock = some k → k < w.heap.size := by
  obtain ⟨h0, rows, hl, hR, hf⟩ := h
  exact fun k hk => Q_lt hR k hk
theorem NQ_bound (h : NQ d e w base ok v xs) : NQ d e w base (fun k => ok k ∧ k < w.heap.size) v xs := by
  obtain ⟨h0, rows, hl, hR, hf⟩ := h
  exact ⟨fun k hk => ⟨h0 k hk, Q_lt hR k hk⟩, rows, hl, hR, fun j x c hx hc => FK_mono (FK_bound (hf j x c hx hc)) (fun k hk => ⟨⟨hk.1.1, hk.2⟩, hk.1.2⟩)⟩
theorem NQ_reads' {A : Option Addr} {n c : Nat} (h : NQ d e w base ok (.slice A n c) xs) : n = xs.length ∧ n ≤ c ∧ d.C w A xs.length xs := by
  obtain ⟨_, rows, hl, hR, hf⟩ := h
  obtain ⟨hn, hc, hC⟩ := Q_reads' hR
  refine ⟨by omega, hc, ?_⟩
  rw [hl] at hC
  refine ⟨rfl, hC.2.1, fun hp => ?_⟩
  obtain ⟨ad, he, hcell⟩ := hC.2.2 hp
  refine ⟨ad, he, fun j p hj => ?_⟩
  have hjl : j < rows.length := by have := (List.getElem?_eq_some_iff.1 hj).1; omega
  obtain ⟨c', hcl, hK, hcc⟩ := hcell j _ (List.getElem?_eq_getElem hjl)
  have hk := FK_now (hf j p _ hj (List.getElem?_eq_getElem hjl))
  refine ⟨c', hcl, ?_, hcc⟩
  rw [show c' = rows[j] from hK.1]
  exact hk
theorem NQ_F {A : Option Addr} {n cc : Nat} (h : NQ d e w base ok (.slice A n cc) xs) : F d w ok A n xs := fun W' hW => by
  have h2 := NQ_reads' (NQ_step h hW)
  rw [h2.1]
  exact h2.2.2
theorem own_drop (A : Option Addr) (k m n c sz : Nat) : (Value.slice (if c = k then A else A.map (·.add (k * sz))) (n - k) (c - k)).ownBlock = (Value.slice A m c).ownBlock := by
  split
  · cases A <;> rfl
  · cases A with
    | none => rfl
    | some a => simp [Value.ownBlock]; unfold Addr.add; split <;> rfl
theorem NQ_drop {A : Option Addr} {k n c : Nat} (h : NQ d e w base ok (.slice A n c) xs) (hk : k ≤ xs.length) : NQ d e w base ok (.slice (if c = k then A else A.map (·.add (k * d.sz))) (n - k) (c - k)) (xs.drop k) := by
  obtain ⟨h0, rows, hl, hR, hf⟩ := h
  have hb := own_drop A k n n c d.sz
  have hQ := Q_drop (raw_anyQ hR) (k := k) (by omega)
  refine ⟨fun j hj => h0 j (by rw [← hb]; exact hj), rows.drop k, by rw [List.length_drop, List.length_drop, hl], Q_tight rfl hQ, fun j x c' hx hc => ?_⟩
  rw [hb]
  rw [List.getElem?_drop] at hx hc
  exact hf _ x c' hx hc
theorem NQ_appended {rows news : List (List Value)} (h0 : ∀ k, v.ownBlock = some k → ok k) (hl : rows.length = xs.length) (hf : ∀ (j : Nat) (x : α) (c : List Value), xs[j]? = some x → rows[j]? = some c → FK d W (fun k => ok k ∧ some k ≠ v.ownBlock) x c)
    (hl2 : news.length = ys.length) (hf2 : ∀ (j : Nat) (x : α) (c : List Value), ys[j]? = some x → news[j]? = some c → FK d W okp x c) (hokp : ∀ k, okp k → ok k ∧ some k ≠ v.ownBlock) (hfresh : ∀ k, W.heap.size ≤ k → ok k)
    (hR : (raw d.sz).Q e w1 base (fun _ => True) v1 (rows ++ news)) (hg : W.grownBy w1 v.ownBlock) (hat : v1.ownBlock = v.ownBlock ∨ ∃ b, v1.ownBlock = some b ∧ W.heap.size ≤ b) : NQ d e w1 base ok v1 (xs ++ ys) := by
  have hne : ∀ k, some k ≠ v.ownBlock → k < W.heap.size → some k ≠ v1.ownBlock := by
    intro k hk hlt
    rcases hat with hat | ⟨b, hb, hle⟩
    · rw [hat]; exact hk
    · rw [hb]
      intro he
      injection he with he
      omega
  have step : ∀ {x : α} {c : List Value} {o : Nat → Prop}, FK d W o x c → (∀ k, o k → ok k ∧ some k ≠ v.ownBlock) → FK d w1 (fun k => ok k ∧ some k ≠ v1.ownBlock) x c := by
    intro x c o hq ho
    exact FK_mono (FK_step (FK_bound hq) (fun k hk hlt => hg.block k hlt (ho k hk.1).2)) (fun k hk => ⟨(ho k hk.1).1, hne k (ho k hk.1).2 hk.2⟩)
  refine ⟨fun k hk => ?_, rows ++ news, by rw [List.length_append, List.length_append, hl, hl2], Q_tight rfl hR, fun j x c hx hc => ?_⟩
  · rcases hat with hat | ⟨b, hb, hle⟩
    · exact h0 k (hat ▸ hk)
    · rw [hb] at hk
      injection hk with hk
      exact hfresh k (by omega)
  · rcases Nat.lt_or_ge j xs.length with hlt | hge
    · rw [List.getElem?_append_left hlt] at hx
      rw [List.getElem?_append_left (by omega)] at hc
      exact step (hf j x c hx hc) (fun _ hk => hk)
    · rw [List.getElem?_append_right hge] at hx
      rw [List.getElem?_append_right (by omega), hl] at hc
      exact step (hf2 _ x c hx hc) hokp
end
section
variable {α : Type} {P : Program} {ops : Array Oper} {rest : List Oper} {o : Oper} {a : Act} {Q' : Exit → Act → World → Prop}
theorem NQ_append (d : Kd α) {w0 W : World} (base : Nat) (hgd : o.guard = none) (s x : Operand) (t e : TypeId) (z : Value) (bytes : Nat)
    (ho : o.op = .call { callee := .builtin .append, args := #[s, x], argTypes := #[t, t] })
    (ht : P.underlying t = some (.slice e)) (hinfo : (P.info? e).map (fun i => (i.zero, i.size, i.bytes)) = some (some z, d.sz, bytes)) (hz : z.cells.size = d.sz) (hs0 : 0 < d.sz) (hb0 : 0 < bytes)
    (v : Value) (xs : List α) (p : α) (cs : List Value) (ok okp : Nat → Prop) (hs : a.eval s = v) (hx : a.eval x = .slice (some ⟨W.heap.size, 0, none⟩) 1 1) (hp : FK d W okp p cs) (hokp : ∀ k, okp k → ok k ∧ some k ≠ v.ownBlock) (hfresh : ∀ k, W.heap.size ≤ k → ok k)
    (HO : NQ d e W base ok v xs) (HB : Below base w0 W) (hbase : base ≤ W.heap.size) (hl : (xs.length + 1) * bytes ≤ 140737488355328)
    (h : ∀ v1 w1, NQ d e w1 base ok v1 (xs ++ [p]) → Below base w0 w1 → W.grownBy w1 v.ownBlock → (v1.ownBlock = v.ownBlock ∨ ∃ b, v1.ownBlock = some b ∧ W.heap.size ≤ b) → wpList P ops Q' rest (a.put o.dst v1) w1) :
    wpList P ops Q' (o :: rest) a (W.alloc (.cells cs.toArray e)) := by
  obtain ⟨h0, rows, hlr, hR, hf⟩ := HO
  refine Q_append (raw d.sz) base hgd s x t e z bytes ho ht hinfo hz hs0 hb0 v rows cs cs (fun _ => True) (fun _ => False) hs hx (FK_raw hp) (fun _ hk => hk.elim) (fun _ _ => trivial) (raw_anyQ hR) HB hbase (by rw [hlr]; exact hl) ?_
  intro v1 w1 hr hb hg hat
  exact h v1 w1 (NQ_appended h0 hlr hf (ys := [p]) (news := [cs]) rfl (fun j y c hy hc => by
    rcases j with _ | j
    · simp only [List.getElem?_cons_zero, Option.some.injEq] at hy hc
      rw [← hy, ← hc]; exact hp
    · simp at hy) hokp hfresh hr hg hat) hb hg hat
end
end Kd
end Go.Proofs.YtkigdcihhlkkdaaW.PrintWords
end
section
set_option linter.unusedVariables false
set_option linter.unusedSimpArgs false
namespace Go.Proofs.Ytkigdcihhlkkdaa.P
open Go.RowKit Go.Proofs.YtkigdcihhlkkdaaW.PrintWords Go.Proofs.YtkigdcihhlkkdaaW.PrintLast Go.Proofs.YtkigdcihhlkkdaaW.PrintMore
theorem info23 : (Try.prog.info? 23).map (fun i => (i.zero, i.size, i.bytes)) = some (some (.slice none 0 0), 1, 24) := by kernel_rfl
def PageAt (W : World) (ok : Nat → Prop) (g : Nat) (rows : List (List Int)) : Prop :=
  ok g ∧ ∃ v, W.heap[g]? = some (.cells #[v] 86 (0, 0)) ∧ Kd.NQ (Kd.slice 5 (Kd.int .u8)) 23 W 0 (fun k => ok k ∧ k ≠ g) v rows
namespace PageAt
variable {W W' : World} {ok ok' S : Nat → Prop} {g : Nat} {rows : List (List Int)}
theorem step (h : PageAt W ok g rows) (hm : ∀ k, ok k → k < W.heap.size → W'.heap[k]? = W.heap[k]?) : PageAt W' ok g rows := by
  obtain ⟨h0, v, hg, hv⟩ := h
  exact ⟨h0, v, (hm g h0 (blk_lt hg)).trans hg, Kd.NQ_step hv (fun k hk hlt => hm k hk.1 hlt)⟩
theorem mono (h : PageAt W ok g rows) (hok : ∀ k, ok k → ok' k) : PageAt W ok' g rows := by
  obtain ⟨h0, v, hg, hv⟩ := h
  exact ⟨hok g h0, v, hg, Kd.NQ_mono hv (fun k hk => ⟨hok k hk.1, hk.2⟩)⟩
theorem bound (h : PageAt W ok g rows) : PageAt W (fun k => ok k ∧ k < W.heap.size) g rows := by
  obtain ⟨h0, v, hg, hv⟩ := h
  exact ⟨⟨h0, blk_lt hg⟩, v, hg, Kd.NQ_mono (Kd.NQ_bound hv) (fun k hk => ⟨⟨hk.1.1, hk.2⟩, hk.1.2⟩)⟩
theorem lt (h : PageAt W ok g rows) : g < W.heap.size := by
  obtain ⟨h0, v, hg, hv⟩ := h
  exact blk_lt hg
theorem fr (h : PageAt W ok g rows) (hf : Fr S W W') (hs : ∀ k, ok k → ¬ S k) : PageAt W' ok g rows := h.step (fun k hk hlt => hf.block k hlt (hs k hk))
theorem below (h : PageAt W ok g rows) (hf : Below W.heap.size W W') : PageAt W' ok g rows := h.step (fun k hk hlt => hf.block k hlt)
end PageAt
set_option maxHeartbeats 2000000 in
set_option maxRecDepth 100000 in
theorem page_len (W : World) (ok : Nat → Prop) (g : Nat) (rows : List (List Int)) (h : PageAt W ok g rows) :
    Calls Try.prog 37 #[.pointer (some ⟨g, 0, none⟩)] W fun e w' => e = .returned (.int .i64 rows.length) ∧ Drawn0 W w' := by
  obtain ⟨_, v, hg, hv⟩ := h
  obtain ⟨A, c, rfl, hc⟩ := Kd.NQ_slice hv
  have hc0 : W.cell? ⟨g, 0, none⟩ = some (.slice A rows.length c) := by simp [World.cell?, hg]
  go_enter Try.func37, Try.ntmps37
  go_wp2
  all_goals go_ret
  all_goals exact ⟨by first | rfl | simp, Drawn0.refl _⟩
set_option maxHeartbeats 2000000 in
set_option maxRecDepth 100000 in
theorem page_new (W : World) : Calls Try.prog 33 #[] W fun e w' => ∃ g, e = .returned (.pointer (some ⟨g, 0, none⟩)) ∧ W.heap.size ≤ g ∧ PageAt w' (fun k => W.heap.size ≤ k) g [] ∧ Below W.heap.size W w' := by
  go_enter Try.func33, Try.ntmps33
  go_wp2
  go_ret
  exact ⟨W.heap.size, rfl, Nat.le_refl _, ⟨Nat.le_refl _, .slice none 0 0, by simp [World.alloc, -World.alloc_eq], Kd.NQ_nil _ _ _ _ _⟩, below_alloc (Below.refl _ _) _⟩
def addRows (rows : List (List Int)) (x : List Int) (b : Bool) : List (List Int) := if rows.length < 16 then (if b = true then rows ++ [x] else rows) else rows
set_option maxHeartbeats 4000000 in
set_option maxRecDepth 100000 in
theorem page_add (W : World) (ok : Nat → Prop) (g : Nat) (rows : List (List Int)) (A : Option Addr) (c : Nat) (l : List S45) (wr : Bool) (x : List Int) (b : Bool) (hpage : PageAt W ok g rows) (hC : Kd.C k45 W A l.length l)
    (hput : ∀ w, Kd.C k45 w A l.length l → Calls Try.prog 24 #[.agg #[.slice A l.length c, .bool wr]] w fun e w' => ∃ v0_ : Value, e = .returned (.tuple #[v0_, .bool b]) ∧ Kd.R (Kd.int .u8) 5 w' w.heap.size (fun _ => True) v0_ x ∧ Below w.heap.size w w') :
    Calls Try.prog 34 #[.pointer (some ⟨g, 0, none⟩), .agg #[.slice A l.length c, .bool wr]] W fun e W' => e = .returned (.bool (decide (rows.length < 16) && b)) ∧ PageAt W' (fun k => ok k ∨ W.heap.size ≤ k) g (addRows rows x b) ∧ Fr ok W W' := by
  have hlt := hpage.lt
  have hpage2 := hpage.bound
  obtain ⟨hokg, v, hg, hv⟩ := hpage
  obtain ⟨A0, c0, rfl, hc0⟩ := Kd.NQ_slice hv
  have hcell : W.cell? ⟨g, 0, none⟩ = some (.slice A0 rows.length c0) := by simp [World.cell?, hg]
  have hC1 := Kd.C_below hC (below_alloc (Below.refl _ _) (.cells #[.slice A l.length c, .bool wr] 31))
  have hb0 : Below W.heap.size W (W.alloc (.cells #[.slice A l.length c, .bool wr] 31)) := below_alloc (Below.refl _ _) _
  have hsz : (W.alloc (.cells #[.slice A l.length c, .bool wr] 31)).heap.size = W.heap.size + 1 := by simp
  go_enter Try.func34, Try.ntmps34
  go_wp2_with (first
    | (go_at_call 24; refine (hput _ hC1).mono ?_; rintro e w1 ⟨v0, rfl, hv0, hb1⟩
       obtain ⟨A1, c1, rfl⟩ := Kd.R_slice hv0
       have hvQ := Kd.NQ_mono (ok' := fun k => (ok k ∨ W.heap.size ≤ k) ∧ k ≠ g) (Kd.NQ_below hv (hb0.trans (hb1.mono (by rw [hsz]; omega)))) (fun k hk => ⟨.inl hk.1, hk.2⟩)
       have hb01 : Below W.heap.size W w1 := hb0.trans (hb1.mono (by rw [hsz]; omega))
       have hcell1 : w1.cell? ⟨g, 0, none⟩ = some (.slice A0 rows.length c0) := (blk_cell (blk_below hg hb01) 0).trans rfl
       have hfr1 : w1.frozen? ⟨g, 0, none⟩ = false := blk_frozen (blk_below hg hb01) 0)
    | ((with_reducible refine gate_builtin (b := .append) rfl ?_)
       refine Kd.NQ_append (Kd.slice 5 (Kd.int .u8)) (w0 := w1) (W := w1) 0 (by rfl) (.tmp 27) (.tmp 29) 84 23 (.slice none 0 0) 24 (by rfl) Try.underlying84 info23 rfl (by decide) (by decide) (.slice A0 rows.length c0) rows x [.slice A1 x.length c1] (fun k => (ok k ∨ W.heap.size ≤ k) ∧ k ≠ g) (fun k => W.heap.size + 1 ≤ k) (by rfl) (by rfl) ?hFK ?hokp ?hfr hvQ (Below.refl _ _) (Nat.zero_le _) (by omega) ?_
       case hFK =>
         refine Kd.FK_slice_mk (Kd.R_reads' hv0).2.1 (Kd.F_mono (Kd.R_F (Kd.R_bound hv0)) ?_)
         intro k hk
         rw [← hsz]
         exact hk.2.1
       case hokp =>
         intro k hk
         refine ⟨⟨.inr (by omega), by omega⟩, fun he => ?_⟩
         have := Kd.NQ_lt hv k he.symm
         omega
       case hfr =>
         intro k hk
         have := hb01.size
         exact ⟨.inr (by omega), by omega⟩
       intro v1 w2 hq2 hb2 hg2 hat2
       have hgne : some g ≠ (Value.slice A0 rows.length c0).ownBlock := fun he => (hv.1 g he.symm).2 rfl
       have hcell2 : w2.cell? ⟨g, 0, none⟩ = some (.slice A0 rows.length c0) := (blk_cell (blk_grown (blk_below hg hb01) hg2 hgne) 0).trans rfl
       have hfr2 : w2.frozen? ⟨g, 0, none⟩ = false := blk_frozen (blk_grown (blk_below hg hb01) hg2 hgne) 0
       obtain ⟨A2, c2, rfl, hc2⟩ := Kd.NQ_slice hq2))
  all_goals go_ret
  · have hn : ¬ rows.length < 16 := by omega
    refine ⟨by simp [hn], ?_, Fr.of_below hb0⟩
    rw [addRows, if_neg hn]
    exact (hpage2.below hb0).mono (fun k hk => .inl hk.1)
  · have hn : rows.length < 16 := by omega
    rename_i hbt
    subst hbt
    have hgne : some g ≠ (Value.slice A0 rows.length c0).ownBlock := fun he => (hv.1 g he.symm).2 rfl
    have hg2' := blk_grown (blk_below hg hb01) hg2 hgne
    refine ⟨by simp [hn], ⟨.inl hokg, _, (blk_set hg2' 0 _).trans rfl, ?_⟩, ?_⟩
    · rw [addRows, if_pos hn, if_pos rfl]
      rw [List.length_append, List.length_singleton] at hq2
      exact Kd.NQ_step hq2 (fun k hk _ => Below.heap_setCell w2 ⟨g, 0, none⟩ _ k hk.2)
    · refine Fr.setCell ?_ hokg _
      refine (Fr.of_below hb01).trans (S1 := ok) (Fr.of_grown hg2 (fun k hk => (hv.1 k hk).1)) (fun _ _ h => h)
  · have hn : rows.length < 16 := by omega
    rename_i hbt
    subst hbt
    refine ⟨by simp [hn], ?_, Fr.of_below hb01⟩
    rw [addRows, if_pos hn, if_neg (by simp)]
    exact (hpage2.below hb01).mono (fun k hk => .inl hk.1)
set_option maxHeartbeats 4000000 in
set_option maxRecDepth 100000 in
theorem page_cut (W : World) (ok : Nat → Prop) (g : Nat) (rows : List (List Int)) (n : Int) (hpage : PageAt W ok g rows) :
    Calls Try.prog 35 #[.pointer (some ⟨g, 0, none⟩), .int .i64 n] W fun e W' => e = .returned (.bool (decide (0 ≤ n) && decide (n ≤ rows.length))) ∧ PageAt W' ok g (if 0 ≤ n ∧ n ≤ rows.length then rows.drop n.toNat else rows) ∧ Fr ok W W' := by
  have hpage2 := hpage
  obtain ⟨hokg, v, hg, hv⟩ := hpage
  obtain ⟨A0, c0, rfl, hc0⟩ := Kd.NQ_slice hv
  have hcell : W.cell? ⟨g, 0, none⟩ = some (.slice A0 rows.length c0) := by simp [World.cell?, hg]
  have hfr : W.frozen? ⟨g, 0, none⟩ = false := blk_frozen hg 0
  go_enter Try.func35, Try.ntmps35
  go_wp2
  all_goals go_ret
  all_goals first
    | exact ⟨by first | rfl | simp_all, hpage2, Fr.refl _ _⟩
    | exact ⟨by simp; omega, hpage2, Fr.refl _ _⟩
    | skip
  all_goals
    have hd := Kd.NQ_drop hv (k := n.toNat) (by omega)
    refine ⟨rfl, ⟨hokg, _, (blk_set hg 0 _).trans rfl, ?_⟩, (Fr.refl _ _).setCell (p := ⟨g, 0, none⟩) hokg _⟩
    refine Kd.NQ_step ?_ (fun k hk _ => Below.heap_setCell W ⟨g, 0, none⟩ _ k hk.2)
    rw [show (Kd.slice 5 (Kd.int .u8)).sz = 1 from rfl, Nat.mul_one] at hd
    first
    | (rw [if_pos (by first | assumption | omega), show c0 - n.toNat = 0 by omega] at hd; exact hd)
    | (rw [if_pos rfl, Nat.sub_self] at hd; exact hd)
    | (rw [if_neg (by first | assumption | omega)] at hd; exact hd)
theorem info31s : (Try.prog.info? 31).map (·.size) = some 2 := by kernel_rfl
theorem blk2 {W : World} {g t : Nat} {a b : Value} (h : W.heap[g]? = some (.cells #[a, b] t (0, 0))) : W.cell? ⟨g, 0, none⟩ = some a ∧ W.cell? ⟨g, 1, none⟩ = some b ∧ W.frozen? ⟨g, 0, none⟩ = false ∧ W.frozen? ⟨g, 1, none⟩ = false :=
  ⟨(blk_cell h 0).trans rfl, (blk_cell h 1).trans rfl, blk_frozen h 0, blk_frozen h 1⟩
set_option maxHeartbeats 4000000 in
set_option maxRecDepth 100000 in
theorem page_at_in (W : World) (ok : Nat → Prop) (g : Nat) (rows : List (List Int)) (i : Int) (b : List Int) (cells : List S45) (wr : Bool) (n er : Int) (hpage : PageAt W ok g rows) (hi : 0 ≤ i) (hb : rows[i.toNat]? = some b)
    (hget : ∀ w A c, Kd.C (Kd.int .u8) w A b.length b → b.length ≤ c → Calls Try.prog 30 #[.slice A b.length c] w fun e w' => ∃ v0_ : Value, e = .returned (.tuple #[.agg #[v0_, .bool wr], .int .i64 n, .int .i64 er]) ∧ Kd.R k45 45 w' w.heap.size (fun _ => True) v0_ cells ∧ Below w.heap.size w w') :
    Calls Try.prog 36 #[.pointer (some ⟨g, 0, none⟩), .int .i64 i] W fun e W' => ∃ v0_ : Value, e = .returned (.tuple #[.agg #[v0_, .bool wr], .bool (decide (er = 0))]) ∧ Kd.R k45 45 W' W.heap.size (fun _ => True) v0_ cells ∧ Below W.heap.size W W' := by
  have hb0 : Below W.heap.size W (W.alloc (.cells #[.slice none 0 0, .bool false] 31)) := below_alloc (Below.refl _ _) _
  have hB0 := blk_new W (.cells #[.slice none 0 0, .bool false] 31)
  have hlen := page_len _ ok g rows (hpage.below hb0)
  have hil : i.toNat < rows.length := (List.getElem?_eq_some_iff.1 hb).1
  obtain ⟨hokg, v, hg, hv⟩ := hpage
  obtain ⟨A0, c0, rfl, hc0⟩ := Kd.NQ_slice hv
  go_enter Try.func36, Try.ntmps36
  go_wp2_with (first
    | (go_at_call 37; refine hlen.mono ?_; rintro e w1 ⟨rfl, hd1⟩
       have hb1 : Below W.heap.size W w1 := hb0.trans (hd1.below.mono (by simp))
       have hcell1 : w1.cell? ⟨g, 0, none⟩ = some (.slice A0 rows.length c0) := (blk_cell (blk_below hg hb1) 0).trans rfl
       obtain ⟨ad, cs, rfl, hcl, hFK, hcc, _⟩ := Kd.F_get (Kd.NQ_F (Kd.NQ_below hv hb1)) [] i hi (by omega)
       rw [List.getD_eq_getElem?_getD, hb, Option.getD_some] at hFK
       obtain ⟨A1, c1, rfl, hc1, hF1⟩ := Kd.FK_slice_open hFK
       have hce : w1.cell? (ad.add i.toNat) = some (.slice A1 b.length c1) := by simpa [Kd.slice] using hcc 0 _ rfl
       have hB1 := blk_below hB0 hd1.below)
    | (go_at_call 30; refine (hget _ _ _ (Kd.F_now hF1) hc1).mono ?_; rintro e w2 ⟨v0, rfl, hR0, hb2⟩
       obtain ⟨A2, c2, rfl⟩ := Kd.R_slice hR0
       have hb12 : Below W.heap.size W w2 := hb1.trans (hb2.mono hb1.size)
       have hR1 := Kd.R_alloc hR0 (.cells #[.slice A2 cells.length c2, .bool wr] 31)
       have hB2 := blk_below hB1 hb2
       have hB3 := blk_alloc hB2 (.cells #[.slice A2 cells.length c2, .bool wr] 31)
       have hne : W.heap.size ≠ w2.heap.size := Nat.ne_of_lt (blk_lt hB2)
       have hne2 : w2.heap.size ≠ W.heap.size := hne.symm
       obtain ⟨h00, h01, f00, f01⟩ := blk2 hB2
       obtain ⟨i00, i01, k00, k01⟩ := blk2 hB3))
  refine bodyPost_ret (results_ct rfl _ _ W.heap.size 31 #[.slice A2 cells.length c2, .bool wr] (0, 0) _ rfl ((blk_set (blk_set hB3 0 _) 1 _).trans rfl) Try.underlying31 rfl info31s) rfl ?_
  have hlt1 := blk_lt hB1
  refine ⟨_, rfl, Kd.R_mono (Kd.R_lower (Kd.R_far (Kd.R_far (Kd.R_alloc (Kd.R_bound hR0) _) (p := ⟨W.heap.size, 0, none⟩) ?h1 _) (p := ⟨W.heap.size, 1, none⟩) ?h2 _) hb1.size) (fun _ _ => trivial), below_set (below_set (below_alloc hb12 _) (Nat.le_refl _)) (Nat.le_refl _)⟩
  all_goals
    intro k hk
    have := hk.2.1
    show k ≠ W.heap.size
    omega
end Go.Proofs.Ytkigdcihhlkkdaa.P
end
section
namespace Go.Proofs.Ytkigdcihhlkkdaa.P
open Go.RowKit Go.Proofs.YtkigdcihhlkkdaaW.PrintWords Go.Proofs.YtkigdcihhlkkdaaW.PrintLast Go.Proofs.YtkigdcihhlkkdaaW.PrintMore
attribute [local go_sem] max2_int min2_int max_two min_two max_three min_three max_four min_four   -- for this text's walks alone
set_option linter.unusedVariables false
set_option linter.unusedSimpArgs false
def rotulusref1_Uint.l0 : Nat → Int → List Int → Option (List Int)
  | 0, _, _ => none
  | k + 1, x0, x3 => if x0 ≥ 128 then (if x3.length < 140737488355328 then (rotulusref1_Uint.l0 k (IntKind.u64.wrap (Int.tdiv x0 128)) (x3 ++ [((Int.tmod x0 128) + 128) % 256])) else (none)) else (if x3.length < 140737488355328 then (some (x3 ++ [(x0) % 256])) else (none))
def rotulusref1_Uint.f (k : Nat) (a0 : Int) : Option (List Int) := rotulusref1_Uint.l0 k a0 ([] : List Int)
theorem rotulusref1_Uint.mono_l : ∀ k, (∀ y0 y1, LeO (rotulusref1_Uint.l0 k y0 y1) (rotulusref1_Uint.l0 (k + 1) y0 y1))
  | 0 => fun _ _ r h => by simp [rotulusref1_Uint.l0] at h
  | k + 1 => by
    have ih0 := rotulusref1_Uint.mono_l k
    · intro y0 y1
      unfold rotulusref1_Uint.l0
      repeat' first
      | (with_reducible exact ih0 _ _)
      | (with_reducible exact LeO.refl _)
      | (with_reducible exact LeO.none _)
      | (with_reducible refine LeO.ite ?_ ?_)
      | (with_reducible refine LeO.bind ?_ (fun _ => ?_))
      | exact ih0 _ _
      | exact LeO.none _
      | refine LeO.ite ?_ ?_
      | refine LeO.bind ?_ (fun _ => ?_)
theorem rotulusref1_Uint.mono : ∀ a0 k, LeO (rotulusref1_Uint.f k a0) (rotulusref1_Uint.f (k + 1) a0) := by
  intro a0 k
  have ih0 := rotulusref1_Uint.mono_l k
  unfold rotulusref1_Uint.f
  repeat' first
      | (with_reducible exact ih0 _ _)
      | (with_reducible exact LeO.refl _)
      | (with_reducible exact LeO.none _)
      | (with_reducible refine LeO.ite ?_ ?_)
      | (with_reducible refine LeO.bind ?_ (fun _ => ?_))
      | exact ih0 _ _
      | exact LeO.none _
      | refine LeO.ite ?_ ?_
      | refine LeO.bind ?_ (fun _ => ?_)
set_option maxHeartbeats 8000000 in
set_option maxRecDepth 100000 in
theorem rotulusref1_Uint.calls (k : Nat) (a0 : Int) (r : List Int) (w : World) (h : rotulusref1_Uint.f k a0 = some r) :
    Calls Try.prog 22 #[.int .u64 a0] w fun e w' => ∃ v0_ : Value, e = .returned (v0_) ∧ Kd.R (Kd.int .u8) 5 w' w.heap.size (fun _ => True) v0_ r ∧ Below w.heap.size w w' := by
  have HB := Aside0.mk (Below.refl w.heap.size w)
  have H : (rotulusref1_Uint.l0 k a0 ([] : List Int)) = some r := h
  clear h
  have H' := Aside0.mk H
  clear H
  go_enter Try.func22, Try.ntmps22
  go_wp2
  go_loopg [0, 3] k (fun kq v0 v3 w' => ∃ (x0_1 : Int) (x3_1 : List Int), v0 = .int .u64 x0_1 ∧ Aside0 (rotulusref1_Uint.l0 kq x0_1 x3_1 = some r) ∧ Aside0 (kq ≤ k) ∧ Aside0 (Kd.R (Kd.int .u8) 5 w' w.heap.size (fun _ => True) v3 x3_1) ∧ Aside0 (Below w.heap.size w w'))
  case atStart => exact ⟨(a0), (([] : List Int)), (by first | rfl | (simp; done) | (simp [*]; done)), H', ⟨Nat.le_refl _⟩, ⟨by first | exact Kd.R_nil _ _ _ _ _ | exact Kd.N_nil _ _ _ _ _ | exact Kd.V_nil _ _ _ _ _ | exact Kd.Q_nil _ _ _ _ _ | exact Kd.S_nil _ _ _ _ _⟩, ⟨by repeat (first | (with_reducible first | exact HB.out | apply below_alloc | apply pw_below_drewN | apply below_drew1) | exact HB.out)⟩⟩
  case round =>
    clear H'
    obtain ⟨x0_1, x3_1, rfl, HA, HK1, HO_3, HB⟩ := hrel
    cases gk with
    | zero => exact absurd HA.out (by simp [rotulusref1_Uint.l0])
    | succ k1 =>
      have H := HA.out
      clear HA
      simp only [rotulusref1_Uint.l0] at H
      by_cases c2 : x0_1 ≥ 128
      · rw [if_pos c2] at H
        have c2b0 : decide (128 ≤ x0_1) = true := decide_eq_true c2
        clear c2
        have c3 : x3_1.length < 140737488355328 := Decidable.byContradiction fun hc_ => absurd ((if_neg hc_).symm.trans H) (by simp)
        rw [if_pos c3] at H
        have LMc3 := Aside0.mk c3
        clear c3
        obtain ⟨y448, hy448⟩ : ∃ y_ : List Int, y_ = (x3_1 ++ [((Int.tmod x0_1 128) + 128) % 256]) := ⟨_, rfl⟩
        replace H : (rotulusref1_Uint.l0 k1 (IntKind.u64.wrap (Int.tdiv x0_1 128)) y448) = some r := by first | (rw [hy448]; with_reducible exact H) | (have H2_ := (Option.bind_some _ _).symm.trans H; rw [hy448]; with_reducible exact H2_) | (have H2_ := (Option.bind_some _ _).symm.trans H; with_reducible exact H2_) | with_reducible exact H | (rw [hy448]; exact H) | exact H
        have Ny448 := Aside0.mk hy448
        clear hy448
        have H' := Aside0.mk H
        clear H
        go_wp2_with (first | ((with_reducible refine gate_builtin (b := .append) (xs := #[.tmp 6, .tmp 11]) rfl ?_); at_builtin; refine Kd.R_append (Kd.int .u8) (w0 := w) w.heap.size rfl (.tmp 6) (.tmp 11) 23 5 (.int .u8 0) 1 rfl Try.underlying23 info5 rfl (by decide) (by omega) u3 x3_1 (((Int.tmod x0_1 128) + 128) % 256) [.int .u8 (((Int.tmod x0_1 128) + 128) % 256)] (fun _ => True) (fun _ => False) rfl rfl ?aP (fun _ hk => hk.elim) ?aF ?aO ?aB ?aS ?aL ?_; (case aP => exact rfl); (case aB => exact (by repeat (first | (with_reducible first | exact HB.out | apply below_alloc | apply pw_below_drewN | apply below_drew1) | exact HB.out))); (case aF => exact (fun _ _ => trivial)); (case aO => exact (by (with_reducible repeat (first | apply Kd.R_alloc | apply Kd.R_drewN | apply Kd.R_drew)); exact HO_3.out)); (case aS => exact (below_size (by repeat (first | (with_reducible first | exact HB.out | apply below_alloc | apply pw_below_drewN | apply below_drew1) | exact HB.out)))); (case aL => have := LMc3.out; omega); intro v449 w4 ho hb hg hat; rw [← Ny448.out] at ho; have n0_ := Aside0.mk (hb); have n1_ := Aside0.mk (ho); clear HB; clear HO_3; have HB := n0_; have HO450 := n1_; clear n0_ n1_; clear ho hb hg hat))
        go_roundg k1
        case measure => have := HK1.out; omega
        case rel => exact ⟨(IntKind.u64.wrap (Int.tdiv x0_1 128)), (y448), (by first | rfl | (simp; done) | (simp [*]; done)), H', ⟨by have := HK1.out; omega⟩, ⟨by (with_reducible repeat (first | apply Kd.R_alloc | apply Kd.R_drewN | apply Kd.R_drew)); exact HO450.out⟩, ⟨by repeat (first | (with_reducible first | exact HB.out | apply below_alloc | apply pw_below_drewN | apply below_drew1) | exact HB.out)⟩⟩
      · rw [if_neg c2] at H
        have c2b0 : decide (128 ≤ x0_1) = false := decide_eq_false c2
        clear c2
        have c5 : x3_1.length < 140737488355328 := Decidable.byContradiction fun hc_ => absurd ((if_neg hc_).symm.trans H) (by simp)
        rw [if_pos c5] at H
        have LMc5 := Aside0.mk c5
        clear c5
        obtain ⟨y451, hy451⟩ : ∃ y_ : List Int, y_ = (x3_1 ++ [(x0_1) % 256]) := ⟨_, rfl⟩
        replace H : (some y451) = some r := by first | (rw [hy451]; with_reducible exact H) | (have H2_ := (Option.bind_some _ _).symm.trans H; rw [hy451]; with_reducible exact H2_) | (have H2_ := (Option.bind_some _ _).symm.trans H; with_reducible exact H2_) | with_reducible exact H | (rw [hy451]; exact H) | exact H
        have Ny451 := Aside0.mk hy451
        clear hy451
        obtain rfl := Option.some.inj H
        go_wp2_with (first | ((with_reducible refine gate_builtin (b := .append) (xs := #[.tmp 15, .tmp 18]) rfl ?_); at_builtin; refine Kd.R_append (Kd.int .u8) (w0 := w) w.heap.size rfl (.tmp 15) (.tmp 18) 23 5 (.int .u8 0) 1 rfl Try.underlying23 info5 rfl (by decide) (by omega) u3 x3_1 ((x0_1) % 256) [.int .u8 ((x0_1) % 256)] (fun _ => True) (fun _ => False) rfl rfl ?aP (fun _ hk => hk.elim) ?aF ?aO ?aB ?aS ?aL ?_; (case aP => exact rfl); (case aB => exact (by repeat (first | (with_reducible first | exact HB.out | apply below_alloc | apply pw_below_drewN | apply below_drew1) | exact HB.out))); (case aF => exact (fun _ _ => trivial)); (case aO => exact (by (with_reducible repeat (first | apply Kd.R_alloc | apply Kd.R_drewN | apply Kd.R_drew)); exact HO_3.out)); (case aS => exact (below_size (by repeat (first | (with_reducible first | exact HB.out | apply below_alloc | apply pw_below_drewN | apply below_drew1) | exact HB.out)))); (case aL => have := LMc5.out; omega); intro v452 w6 ho hb hg hat; rw [← Ny451.out] at ho; have n0_ := Aside0.mk (hb); have n1_ := Aside0.mk (ho); clear HB; clear HO_3; have HB := n0_; have HO453 := n1_; clear n0_ n1_; clear ho hb hg hat))
        go_ret
        exact ⟨_, by first | rfl | (simp [errW_none, errW_some] <;> rfl) | (simp [*, errW_none, errW_some] <;> rfl), by (with_reducible repeat (first | apply Kd.R_alloc | apply Kd.R_drewN | apply Kd.R_drew)); exact HO453.out, by repeat (first | (with_reducible first | exact HB.out | apply below_alloc | apply pw_below_drewN | apply below_drew1) | exact HB.out)⟩
end Go.Proofs.Ytkigdcihhlkkdaa.P
end
section
set_option linter.unusedVariables false
set_option linter.unusedSimpArgs false
namespace Go.Proofs.Ytkigdcihhlkkdaa.Pure
open Go.RowKit Go.Proofs.Ytkigdcihhlkkdaa.P Go.Proofs.YtkigdcihhlkkdaaW.PrintWords Go.Proofs.YtkigdcihhlkkdaaW.PrintLast
theorem refUint_loop : ∀ (f n : Nat) (acc : List Int), 0 < f → n < 128 ^ f → n < 18446744073709551616 → acc.length + f < 140737488355328 → Ev (fun k => rotulusref1_Uint.l0 k (n : Int) acc) (acc ++ uintL f n)
  | 0, n, acc, hf, _, _, _ => absurd hf (by decide)
  | f + 1, n, acc, hf, h, h64, hl => by
    refine Ev.step (f := _) (fun k => by simp only [rotulusref1_Uint.l0]; rfl) ?_
    unfold uintL
    by_cases h128 : 128 ≤ n
    · refine ev_pos (by omega) (ev_pos (by omega) ?_)
      rw [if_pos h128]
      have e : IntKind.u64.wrap (Int.tdiv (n : Int) 128) = ((n / 128 : Nat) : Int) := by rw [Int.tdiv_eq_ediv_of_nonneg (by omega), IntKind.wrap_u64]; omega
      have e2 : (Int.tmod (n : Int) 128 + 128) % 256 = ((n % 128 + 128 : Nat) : Int) := by rw [Int.tmod_eq_emod_of_nonneg (by omega)]; omega
      rw [e, e2]
      have h3 : n / 128 < 128 ^ f := by
        rw [Nat.div_lt_iff_lt_mul (by decide), ← Nat.pow_succ]
        exact h
      have hf1 : 0 < f := by
        rcases Nat.eq_zero_or_pos f with h0 | h0
        · subst h0; simp at h; omega
        · exact h0
      have := refUint_loop f (n / 128) (acc ++ [((n % 128 + 128 : Nat) : Int)]) hf1 h3 (by omega) (by simp; omega)
      rw [List.append_assoc] at this
      exact this
    · refine ev_neg (by omega) (ev_pos (by omega) ?_)
      rw [if_neg h128, show (n : Int) % 256 = (n : Int) by omega]
      exact Ev.now _
theorem refUint_ev (n : Nat) (h : n < 18446744073709551616) : Ev (fun k => rotulusref1_Uint.f k (n : Int)) (uintL 10 n) := by
  have := refUint_loop 10 n [] (by decide) (Nat.lt_of_lt_of_le h (by decide)) h (by decide)
  simpa [rotulusref1_Uint.f] using this
theorem refUint_ (x : Int) (w : World) : Calls Try.prog 22 #[.int .u64 (IntKind.u64.wrap x)] w fun e w' => ∃ v0 : Value, e = .returned v0 ∧ Kd.R (Kd.int .u8) 5 w' w.heap.size (fun _ => True) v0 (numB x) ∧ Below w.heap.size w w' := by
  have h := u64_wrap_range x
  obtain ⟨k, hk⟩ := Ev.rounds (refUint_ev (IntKind.u64.wrap x).toNat (by omega))
  rw [Int.toNat_of_nonneg h.1] at hk
  exact rotulusref1_Uint.calls k _ _ w hk
theorem runs_last (l : List S45) (i : Nat) (hi : i < l.length) : ∃ rs r, runs78 (l.take (i + 1)) = rs ++ [r] ∧ r.f1 = rd_T45 l (i : Int) := by
  rw [runs_take l i hi]
  generalize runs78 (l.take i) = q
  generalize rd_T45 l (i : Int) = c
  unfold step78
  split
  · rename_i hc
    rcases List.eq_nil_or_concat q with h0 | ⟨a, r, h0⟩
    · subst h0; simp at hc
    · rw [List.concat_eq_append] at h0
      subst h0
      have e1 : (a ++ [r]).length - 1 = a.length := by simp
      have e2 : rd_T78 (a ++ [r]) ((a.length : Nat) : Int) = r := by rw [rd_T78, Int.toNat_natCast, List.getD_eq_getElem?_getD]; simp
      rw [e1, e2] at hc ⊢
      obtain ⟨c0, c1, c2⟩ := c
      have hs := hc.2
      unfold same45 at hs
      simp only [Bool.and_eq_true, beq_iff_eq] at hs
      refine ⟨a, ⟨wrap64 (r.f0 + 1), r.f1⟩, by simp, ?_⟩
      obtain ⟨r0, ⟨d0, d1, d2⟩⟩ := r
      obtain ⟨h1, h2, h3⟩ := hs
      simp only at h1 h2 h3
      subst h1 h2 h3
      rfl
  · exact ⟨q, ⟨1, c⟩, rfl, rfl⟩
theorem runs_run (l : List S45) (i : Nat) (hb : 0 < i → same45 (rd_T45 l ((i : Int) - 1)) (rd_T45 l (i : Int)) = false) : ∀ n : Nat, i + (n + 1) ≤ l.length → l.length ≤ 1000000000 → (∀ j, j < n + 1 → rd_T45 l ((i : Int) + j) = rd_T45 l (i : Int)) →
    runs78 (l.take (i + (n + 1))) = runs78 (l.take i) ++ [⟨((n + 1 : Nat) : Int), rd_T45 l (i : Int)⟩]
  | 0, hl, _, _ => by
    rw [runs_take l i (by omega)]
    unfold step78
    rw [if_neg]
    · rfl
    · rintro ⟨h0, hs⟩
      rcases Nat.eq_zero_or_pos i with hz | hz
      · subst hz; simp [runs78] at h0
      · obtain ⟨j, rfl⟩ : ∃ j, i = j + 1 := ⟨i - 1, by omega⟩
        obtain ⟨rs, r, hr, hr1⟩ := runs_last l j (by omega)
        rw [hr] at hs
        have e1 : (rs ++ [r]).length - 1 = rs.length := by simp
        have e2 : rd_T78 (rs ++ [r]) ((rs.length : Nat) : Int) = r := by rw [rd_T78, Int.toNat_natCast, List.getD_eq_getElem?_getD]; simp
        rw [e1, e2, hr1] at hs
        have h2 := hb hz
        have e3 : ((j + 1 : Nat) : Int) - 1 = (j : Int) := by omega
        rw [e3, hs] at h2
        cases h2
  | n + 1, hl, hb9, hall => by
    have ih := runs_run l i hb n (by omega) hb9 (fun j hj => hall j (by omega))
    rw [show i + (n + 1 + 1) = (i + (n + 1)) + 1 by omega, runs_take l (i + (n + 1)) (by omega), ih]
    have hc := hall (n + 1) (by omega)
    rw [show (((i + (n + 1) : Nat)) : Int) = (i : Int) + ((n + 1 : Nat) : Int) by omega, hc]
    unfold step78
    have e1 : (runs78 (l.take i) ++ [(⟨((n + 1 : Nat) : Int), rd_T45 l (i : Int)⟩ : S78)]).length - 1 = (runs78 (l.take i)).length := by simp
    have e2 : rd_T78 (runs78 (l.take i) ++ [(⟨((n + 1 : Nat) : Int), rd_T45 l (i : Int)⟩ : S78)]) (((runs78 (l.take i)).length : Nat) : Int) = ⟨((n + 1 : Nat) : Int), rd_T45 l (i : Int)⟩ := by rw [rd_T78, Int.toNat_natCast, List.getD_eq_getElem?_getD]; simp
    rw [e1, e2, if_pos ⟨by simp, by simp [same45]⟩, w64_in _ (by simp only; omega)]
    simp
end Go.Proofs.Ytkigdcihhlkkdaa.Pure
end
