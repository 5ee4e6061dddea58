/- own texts of this session, put together -/
import Derived.Test.YtkigdcihhlkkdaaIZ10
import Derived.Test.YtkigdcihhlkkdaaIPx17
import Derived.Test.YtkigdcihhlkkdaaIZ8
import Derived.Test.YtkigdcihhlkkdaaIZ4
import Derived.Test.YtkigdcihhlkkdaaIZ5
import Derived.Test.YtkigdcihhlkkdaaIPx38
import Derived.Test.YtkigdcihhlkkdaaIZ0
import Derived.Test.YtkigdcihhlkkdaaIZ9
section
set_option linter.unusedVariables false
set_option linter.unusedSimpArgs false
namespace Go.Proofs.Ytkigdcihhlkkdaa.P
open Go.RowKit Go.Proofs.YtkigdcihhlkkdaaW.PrintWords Go.Proofs.YtkigdcihhlkkdaaW.PrintLast Go.Proofs.YtkigdcihhlkkdaaW.PrintMore
def row3 : List S45 := [⟨97, 1, 0⟩, ⟨97, 1, 0⟩, ⟨32, 1, 0⟩]
def bytes9 : List Int := [5, 2, 97, 1, 0, 1, 32, 1, 0]
theorem b_put3 : pack_Put.f 60 row3 true = some (bytes9, true) := by decide +kernel
theorem b_put0 : pack_Put.f 60 [] false = some ([0], true) := by decide +kernel
theorem b_may3 : pack_May.f 60 row3 true = some true := by decide +kernel
theorem b_may0 : pack_May.f 60 [] false = some true := by decide +kernel
theorem b_get3 : pack_Get.f 60 bytes9 = some (row3, true, 9, 0) := by kernel_rfl
theorem b_gu : pack_GetUint.f 60 [128, 1, 9] = some (128, 2) := by decide +kernel
theorem b_eq3 : pack_Eq.f 60 row3 true row3 true = some true := by decide +kernel
theorem b_one : rotuluslaw1_begun.f 60 = some true := by decide +kernel
theorem C_block {W : World} {g n : Nat} {l : List S45} (hg : W.heap[g]? = some (.cells (l.map cell3).flatten.toArray 45 (0, 0))) (hn : l.length ≤ 1000) : Kd.C k45 W (some ⟨g, 0, none⟩) l.length l := by
  refine ⟨rfl, by omega, fun _ => ⟨⟨g, 0, none⟩, rfl, fun j p hj => ⟨cell3 p, rfl, k45_mk W p, fun q u hq => ?_⟩⟩⟩
  have h4 : (⟨g, 0, none⟩ : Addr).add (j * k45.sz + q) = ⟨g, j * k45.sz + q, none⟩ := by unfold Addr.add; split <;> simp_all
  rw [h4, cell_of_row W g _ _ 45 (0, 0) hg]
  have hq3 : q < 3 := by have := (List.getElem?_eq_some_iff.1 hq).1; simpa [cell3] using this
  have key : ∀ (l : List S45) (j : Nat) (p : S45) (u : Value), l[j]? = some p → (cell3 p)[q]? = some u → (l.map cell3).flatten[j * 3 + q]? = some u := by
    intro l
    induction l with
    | nil => intro j p u hj; simp at hj
    | cons a t ih =>
      intro j p u hj hq
      rw [List.map_cons, List.flatten_cons]
      cases j with
      | zero =>
        simp only [List.getElem?_cons_zero, Option.some.injEq] at hj
        subst hj
        rw [List.getElem?_append_left (by simp [cell3]; omega)]
        simpa using hq
      | succ j =>
        rw [List.getElem?_cons_succ] at hj
        rw [List.getElem?_append_right (by simp [cell3]; omega)]
        have := ih j p u hj hq
        rw [← this]
        congr 1
        simp [cell3]
        omega
  have := key l j p u hj hq
  rw [show k45.sz = 3 from rfl]
  simpa using this
theorem F_block {W : World} {g : Nat} {l : List S45} (hg : W.heap[g]? = some (.cells (l.map cell3).flatten.toArray 45 (0, 0))) (hn : l.length ≤ 1000) : Kd.F k45 W (fun k => k = g) (some ⟨g, 0, none⟩) l.length l :=
  fun W' hW => C_block (g := g) (n := 0) ((hW g rfl (blk_lt hg)).trans hg) hn
set_option maxHeartbeats 1000000 in
set_option maxRecDepth 100000 in
theorem begun50 (w : World) : Calls Try.prog 50 #[] w fun e w' => e = .returned (.bool true) ∧ Below w.heap.size w w' := by
  have h := rotuluslaw1_begun.calls 60 true w b_one
  go_enter Try.func50, Try.ntmps50
  go_wp2_with (first | (go_at_call 64; refine h.mono ?_; rintro e w1 ⟨rfl, hb1⟩) | fail)
  go_ret
  exact ⟨rfl, hb1⟩
theorem put3_ (w : World) (A : Option Addr) (c : Nat) (hc : 3 ≤ c) (hC : Kd.C k45 w A row3.length row3) : Calls Try.prog 24 #[.agg #[.slice A row3.length c, .bool true]] w fun e w' => ∃ v0_ : Value, e = .returned (.tuple #[v0_, .bool true]) ∧ Kd.R (Kd.int .u8) 5 w' w.heap.size (fun _ => True) v0_ bytes9 ∧ Below w.heap.size w w' :=
  pack_Put.calls 60 A c row3 true bytes9 true w hC hc b_put3
theorem put0_ (w : World) (hC : Kd.C k45 w none ([] : List S45).length []) : Calls Try.prog 24 #[.agg #[.slice none ([] : List S45).length 0, .bool false]] w fun e w' => ∃ v0_ : Value, e = .returned (.tuple #[v0_, .bool true]) ∧ Kd.R (Kd.int .u8) 5 w' w.heap.size (fun _ => True) v0_ [0] ∧ Below w.heap.size w w' :=
  pack_Put.calls 60 none 0 [] false [0] true w hC (Nat.le_refl _) b_put0
theorem may3_ (w : World) (A : Option Addr) (c : Nat) (hc : 3 ≤ c) (hC : Kd.C k45 w A row3.length row3) : Calls Try.prog 26 #[.agg #[.slice A row3.length c, .bool true]] w fun e w' => e = .returned (.bool true) ∧ Below w.heap.size w w' :=
  pack_May.calls 60 A c row3 true true w hC hc b_may3
theorem may0_ (w : World) (hC : Kd.C k45 w none ([] : List S45).length []) : Calls Try.prog 26 #[.agg #[.slice none ([] : List S45).length 0, .bool false]] w fun e w' => e = .returned (.bool true) ∧ Below w.heap.size w w' :=
  pack_May.calls 60 none 0 [] false true w hC (Nat.le_refl _) b_may0
theorem get3_ (w : World) (A : Option Addr) (c : Nat) (hC : Kd.C (Kd.int .u8) w A bytes9.length bytes9) (hc : bytes9.length ≤ c) : Calls Try.prog 30 #[.slice A bytes9.length c] w fun e w' => ∃ v0_ : Value, e = .returned (.tuple #[.agg #[v0_, .bool true], .int .i64 9, .int .i64 0]) ∧ Kd.R k45 45 w' w.heap.size (fun _ => True) v0_ row3 ∧ Below w.heap.size w w' :=
  pack_Get.calls 60 A c bytes9 row3 true 9 0 w hC hc b_get3
theorem eq3_ (w : World) (A B : Option Addr) (c d : Nat) (hA : Kd.C k45 w A row3.length row3) (hc : 3 ≤ c) (hB : Kd.C k45 w B row3.length row3) (hd : 3 ≤ d) : Calls Try.prog 28 #[.agg #[.slice A row3.length c, .bool true], .agg #[.slice B row3.length d, .bool true]] w fun e w' => e = .returned (.bool true) ∧ Below w.heap.size w w' :=
  pack_Eq.calls 60 A c row3 true B d row3 true true w hA hc hB hd b_eq3
end Go.Proofs.Ytkigdcihhlkkdaa.P
end
section
set_option linter.unusedVariables false
set_option linter.unusedSimpArgs false
namespace Go.Proofs.Ytkigdcihhlkkdaa.P
open Go.RowKit Go.Proofs.YtkigdcihhlkkdaaW.PrintWords Go.Proofs.YtkigdcihhlkkdaaW.PrintLast Go.Proofs.YtkigdcihhlkkdaaW.PrintMore
attribute [local go_sem] Oper.semAt_some
theorem C_bytes3 {W : World} {g : Nat} (hg : W.heap[g]? = some (.cells #[.int .u8 128, .int .u8 1, .int .u8 9] 5 (0, 0))) : Kd.C (Kd.int .u8) W (some ⟨g, 0, none⟩) [(128 : Int), 1, 9].length [128, 1, 9] := by
  refine ⟨rfl, by decide, fun _ => ⟨⟨g, 0, none⟩, rfl, fun j p hj => ⟨[.int .u8 p], rfl, rfl, fun q u hq => ?_⟩⟩⟩
  have h0 : q = 0 := by have := (List.getElem?_eq_some_iff.1 hq).1; simpa using this
  subst h0
  have h4 : (⟨g, 0, none⟩ : Addr).add (j * (Kd.int .u8).sz + 0) = ⟨g, j, none⟩ := by unfold Addr.add; split <;> simp_all [Kd.int, Kd.scalar]
  rw [h4, blk_cell hg j]
  simp only [List.getElem?_cons_zero, Option.some.injEq] at hq
  subst hq
  match j, hj with
  | 0, hj => simp at hj; subst hj; rfl
  | 1, hj => simp at hj; subst hj; rfl
  | 2, hj => simp at hj; subst hj; rfl
  | n + 3, hj => simp at hj
theorem conv9 {W : World} {g c : Nat} (hF : Kd.C (Kd.int .u8) W (some ⟨g, 0, none⟩) bytes9.length bytes9) : (convert 23 9 (.slice (some ⟨g, 0, none⟩) 9 c)).run Try.prog W = .ok (.string ⟨#[5, 2, 97, 1, 0, 1, 32, 1, 0]⟩) W := by
  have h := run_convert_bytes_arg (P := Try.prog) W 23 5 Try.underlying23 Try.underlying5 g 0 9 c bytes9 rfl (fun i hi => by
    have := Kd.foot_int hF (i : Int) (by omega) (by exact_mod_cast hi)
    have e : (⟨g, 0, none⟩ : Addr).add i = ⟨g, 0 + i, none⟩ := by unfold Addr.add; split <;> simp_all
    rw [Int.toNat_natCast, e] at this
    exact this) 9 Try.underlying9
  rw [h]
  rfl
theorem eq59 (W : World) (b : Array Value) : (binOp .eql 59 (.func (.func 63) #[] b) .nilFunc).run Try.prog W = .ok (.bool false) W := by kernel_rfl
theorem sumR3 {xs : List Rw} (h : xs.map (fun x => (x.i, x.len)) = (List.range [bytes9].length).map (fun i => (i, row3.length))) : (xs.foldl (fun s x => wrap64 (s + wrap64 ((x.i : Int) + (x.len : Int)))) 0) = 3 := by
  match xs, h with
  | [], h => simp at h
  | [x], h =>
    simp only [List.map_cons, List.map_nil] at h
    have h2 : (x.i, x.len) = (0, 3) := by have := List.cons.inj h; exact this.1
    injection h2 with h3 h4
    simp [h3, h4, wrap64]
  | a :: b :: t, h => have := congrArg List.length h; simp at this
def sumR : List Rw → Int := fun l => l.foldl (fun s x => wrap64 (s + wrap64 ((x.i : Int) + (x.len : Int)))) 0
theorem gu_ (W : World) : Calls Try.prog 20 #[.slice (some ⟨W.heap.size, 0, none⟩) 3 3] (W.alloc (.cells #[.int .u8 128, .int .u8 1, .int .u8 9] 5)) fun e w' => e = .returned (.tuple #[.int .u64 128, .int .i64 2]) ∧ Below W.heap.size W w' :=
  (pack_GetUint.calls 60 (some ⟨W.heap.size, 0, none⟩) 3 [128, 1, 9] 128 2 (W.alloc (.cells #[.int .u8 128, .int .u8 1, .int .u8 9] 5)) (C_bytes3 (blk_new W _)) (by decide) b_gu).mono (fun e w' h => ⟨h.1, (below_alloc (Below.refl _ _) _).trans (h.2.mono (by simp))⟩)
set_option maxHeartbeats 8000000 in
set_option maxRecDepth 100000 in
theorem begun4_ (w : World) : Calls Try.prog 18 #[] w fun e w' => e = .returned (.bool true) ∧ Below w.heap.size w w' := by
  have hr0 := blk_new w (.cells #[.int .i32 97, .int .i64 1, .int .i64 0, .int .i32 97, .int .i64 1, .int .i64 0, .int .i32 32, .int .i64 1, .int .i64 0] 45)
  have hz0 : (w.alloc (.cells #[.int .i32 97, .int .i64 1, .int .i64 0, .int .i32 97, .int .i64 1, .int .i64 0, .int .i32 32, .int .i64 1, .int .i64 0] 45)).heap.size = w.heap.size + 1 := by simp
  have hr1 := blk_alloc hr0 (.cells #[.slice (some ⟨w.heap.size, 0, none⟩) 3 3, .bool true] 31)
  have hx1 := blk_new (w.alloc (.cells #[.int .i32 97, .int .i64 1, .int .i64 0, .int .i32 97, .int .i64 1, .int .i64 0, .int .i32 32, .int .i64 1, .int .i64 0] 45)) (.cells #[.slice (some ⟨w.heap.size, 0, none⟩) 3 3, .bool true] 31)
  rw [hz0] at hx1
  have hb1 : Below w.heap.size w ((w.alloc (.cells #[.int .i32 97, .int .i64 1, .int .i64 0, .int .i32 97, .int .i64 1, .int .i64 0, .int .i32 32, .int .i64 1, .int .i64 0] 45)).alloc (.cells #[.slice (some ⟨w.heap.size, 0, none⟩) 3 3, .bool true] 31)) := below_alloc (below_alloc (Below.refl _ _) _) _
  have hw1e : ∃ w1, w1 = (w.alloc (.cells #[.int .i32 97, .int .i64 1, .int .i64 0, .int .i32 97, .int .i64 1, .int .i64 0, .int .i32 32, .int .i64 1, .int .i64 0] 45)).alloc (.cells #[.slice (some ⟨w.heap.size, 0, none⟩) 3 3, .bool true] 31) := ⟨_, rfl⟩
  have hput := put3_ ((w.alloc (.cells #[.int .i32 97, .int .i64 1, .int .i64 0, .int .i32 97, .int .i64 1, .int .i64 0, .int .i32 32, .int .i64 1, .int .i64 0] 45)).alloc (.cells #[.slice (some ⟨w.heap.size, 0, none⟩) 3 3, .bool true] 31)) (some ⟨w.heap.size, 0, none⟩) 3 (by decide) (C_block (n := 0) hr1 (by decide))
  refine (callsIn_wide (n := 4)).1 ?_
  refine callsIn_of_wp_marks Try.func18 rfl trivial ?_ rfl
  simp only [Try.ntmps18, List.size_toArray, List.length_cons, List.length_nil, Nat.reduceAdd, Nat.reduceSub, Array.replicate_succ, Array.replicate_zero, List.push_toArray, List.append_toArray, List.nil_append, List.cons_append]
  refine wpIn_wide.2 ?_
  go_upto_region 10 with (first
    | (go_at_call 24; refine hput.mono ?_; rintro e w2 ⟨v2, rfl, hR2, hb2⟩
       obtain ⟨A2, c2, hv2⟩ := Kd.R_slice hR2; change v2 = .slice A2 9 c2 at hv2; subst hv2
       have hC2 := Kd.R_reads' hR2
       obtain ⟨ad2, hA2, _⟩ := hC2.2.2.2.2 (by decide)
       subst hA2
       obtain ⟨g2, rfl⟩ := Kd.R_head hR2
       have hFb2 := Kd.R_F (Kd.R_bound hR2)
       have hrow2 := blk_below hr1 hb2
       have hbox2 := blk_below hx1 hb2
       have hbb2 : Below w.heap.size w w2 := hb1.trans (hb2.mono hb1.size)
       clear hR2 hb2)
    | (go_at_call 30; refine (get3_ _ (some ⟨g2, 0, none⟩) c2 hC2.2.2 hC2.2.1).mono ?_; rintro e w3 ⟨v3, rfl, hR3, hb3⟩
       obtain ⟨A3, c3, hv3⟩ := Kd.R_slice hR3; change v3 = .slice A3 3 c3 at hv3; subst hv3
       have hcx := (Kd.R_reads' hR3).2.1
       have hFx3 := Kd.R_F (Kd.R_bound hR3)
       have hxb3 := blk_new w3 (.cells #[.slice A3 3 c3, .bool true] 31)
       have hgu := gu_ (w3.alloc (.cells #[.slice A3 3 c3, .bool true] 31))
       rw [show (w3.alloc (.cells #[.slice A3 3 c3, .bool true] 31)).heap.size = w3.heap.size + 1 by simp] at hgu
       have hrow3 := blk_below hrow2 hb3
       have hbox3 := blk_below hbox2 hb3
       have hFb3 := Kd.F_below hFb2 hb3
       have hbb3 : Below w.heap.size w w3 := hbb2.trans (hb3.mono hbb2.size)
       clear hR3 hb3)
    | (go_at_call 20; refine hgu.mono ?_; rintro e w4 ⟨rfl, hb4⟩
       have hb34 : Below w3.heap.size w3 w4 := (below_alloc (Below.refl _ _) _).trans (hb4.mono (by omega))
       have hAx := Aside0.mk (And.intro (blk_below (w := _) (by exact hxb3) (show Below (w3.alloc (.cells #[.slice A3 3 c3, .bool true] 31)).heap.size _ w4 by simpa using hb4)) (And.intro (blk_below hrow3 hb34) (And.intro (blk_below hbox3 hb34) (And.intro (Kd.F_bound (Kd.F_below hFb3 hb34)) (And.intro (Kd.F_bound (Kd.F_below hFx3 hb34)) (hbb3.trans (hb34.mono hbb3.size)))))))
       clear hb4 hb34 hxb3 hrow3 hbox3 hFb3 hFx3 hbb3 hC2 hput hr0 hr1 hx1 hb1 hbb2 hbox2 hrow2 hFb2 hz0 hw1e)
    | (go_at_call 33; refine (page_new _).mono ?_; rintro e w5 ⟨gp, rfl, hgp, hP5, hb5⟩
       have hP5b := hP5.bound
       have hnew := store_new w5 1
       clear hP5)
    | (go_at_call 39; refine hnew.mono ?_; rintro e w6 ⟨gs, rfl, hgs, hS6, hb6⟩
       have hb46 : Below w4.heap.size w4 w6 := hb5.trans (hb6.mono hb5.size)
       have hbox6 := blk_below hAx.out.2.2.1 hb46
       obtain ⟨bx0, bx1, bx2, bx3⟩ := blk2 hbox6
       have hadd := page_add w6 _ gp [] (some ⟨w.heap.size, 0, none⟩) 3 row3 true bytes9 true (hP5b.below hb6) (C_block (n := 0) (blk_below hAx.out.2.1 hb46) (by decide)) (fun w h => put3_ w _ 3 (by decide) h)
       have hSx := Aside0.mk (And.intro hS6.all_bnd (And.intro hb46 (And.intro hb6.size (And.intro hb5.size (And.intro hgp hgs)))))
       clear hS6 hb6 hb5 hb46 hP5b hnew hgp hgs hbox6)
    | (go_at_call 34; refine hadd.mono ?_
       rintro e w7 ⟨rfl, hP7, hf7⟩
       have hSo := hSx.out
       have hb47 : Below w4.heap.size w4 w7 := hSo.2.1.trans (hf7.below (B := w4.heap.size) hSo.2.1.size (fun k hk => hk.1))
       have hS7 := hSo.1.fr hf7 (fun k hk hk2 => by have h1 := hk.1; have h2 := hk2.2; omega)
       have hat := page_at_in w7 _ gp _ 0 bytes9 row3 true 9 0 hP7.bound (Int.le_refl _) rfl get3_
       have hPx := Aside0.mk (And.intro hP7.bound (And.intro hS7 (And.intro hb47 hf7.size)))
       clear hP7 hS7 hb47 hf7 hadd hSo bx0 bx1 bx2 bx3)
    | (go_at_call 36; refine hat.mono ?_
       rintro e w8 ⟨v8, rfl, hR8, hb8⟩
       obtain ⟨A8, c8, hv8⟩ := Kd.R_slice hR8; change v8 = .slice A8 3 c8 at hv8; subst hv8
       have hYx := Aside0.mk (And.intro (Kd.R_F (Kd.R_bound hR8)) (And.intro (Kd.R_reads' hR8).2.1 hb8))
       clear hR8 hb8 hat)
    | fail)
  obtain ⟨w9, hw9⟩ : ∃ w9, w9 = w8.alloc (.cells #[.slice A8 3 c8, .bool true] 31) := ⟨_, rfl⟩
  rw [← hw9]
  have hyb9 : w9.heap[w8.heap.size]? = some (.cells #[.slice A8 3 c8, .bool true] 31 (0, 0)) := by rw [hw9]; exact blk_new _ _
  have hb89 : Below w8.heap.size w8 w9 := by rw [hw9]; exact below_alloc (Below.refl _ _) _
  clear hw9
  have hPo := hPx.out
  have hSo := hSx.out
  have hYo := hYx.out
  have hAo := hAx.out
  have hb79 : Below w7.heap.size w7 w9 := hYo.2.2.trans (hb89.mono hYo.2.2.size)
  have hb49 : Below w4.heap.size w4 w9 := hPo.2.2.1.trans (hb79.mono hPo.2.2.1.size)
  have hS9 := hPo.2.1.below hb79
  have hs9 := hb49.size
  have hs79 := hb79.size
  have hs46 := hSo.2.1.size
  have hwl := hAo.2.2.2.2.2.size
  have hlt3 := blk_lt hAo.1
  have hltw := blk_lt hAo.2.1
  have hltx := blk_lt hAo.2.2.1
  have hadd1 := store_add w9 _ gs 1 0 0 _ none 0 [] false [0] hS9 ⟨fun p hp => by simp at hp, fun p hp => by simp at hp, trivial⟩ rfl (by decide) (by decide) (by decide) (by decide) (fun _ => False) (Kd.F_nil _ _ _) (fun _ h => h.elim) (fun w h => may0_ w h) (fun w h => put0_ w h)
  have hRow := Aside0.mk (And.intro hb49 (And.intro hyb9 (And.intro hS9 (And.intro hb79 (And.intro hs9 (And.intro hs79 (And.intro hs46 (And.intro hlt3 (And.intro hltw (And.intro hltx hb89))))))))))
  clear hyb9 hb89 hPo hSo hYo hAo hb79 hb49 hS9 hs9 hs79 hs46 hwl hlt3 hltw hltx
  go_upto_region 11 with (first
    | (go_at_call 40; refine hadd1.mono ?_; rintro e w10 ⟨rfl, ps1, n1, g1, hS10, hI10, hfl10, hn10, hg10, hf10⟩
       rw [show min ((0 : Int) + 1) 1 = 1 by decide] at hn10
       subst hn10
       obtain rfl : g1 = 0 := by omega
       have hfl10' : flat ps1 = [[0]] := hfl10
       have hWo := hRow.out
       have hSo := hSx.out
       have hAo := hAx.out
       have hb410 : Below w4.heap.size w4 w10 := hWo.1.trans (hf10.below (B := w4.heap.size) hWo.1.size (fun k hk => by have h1 := hk.1; omega))
       have hbox10 := blk_below hAo.2.2.1 hb410
       obtain ⟨bx0, bx1, bx2, bx3⟩ := blk2 hbox10
       have hadd2 := store_add w10 _ gs 1 1 0 ps1 (some ⟨w.heap.size, 0, none⟩) 3 row3 true bytes9 hS10 hI10 (by rw [hfl10']; rfl) (by decide) (by decide) (by decide) (by decide) (fun k => k = w.heap.size) (F_block (blk_below hAo.2.1 hb410) (by decide)) (fun k hk hk2 => by subst hk; rcases hk2 with h | h <;> omega) (fun w h => may3_ w _ 3 (by decide) h) (fun w h => put3_ w _ 3 (by decide) h)
       have hT10 := Aside0.mk (And.intro hf10 (And.intro hb410 hfl10'))
       clear hadd1 hS10 hI10 hfl10 hfl10' hg10 hf10 hWo hSo hAo hb410 hbox10)
    | fail)
  go_upto_region 13 with (first
    | (go_at_call 40; refine hadd2.mono ?_; rintro e w11 ⟨rfl, ps2, n2, g2, hS11, hI11, hfl11, hn11, hg11, hf11⟩
       rw [show min ((1 : Int) + 1) 1 = 1 by decide] at hn11
       subst hn11
       obtain rfl : g2 = 1 := by omega
       have hfl11' : flat ps2 = [bytes9] := by rw [hfl11, hT10.out.2.2]; rfl
       have hat11 := store_at_in w11 _ gs 1 1 1 ps2 0 bytes9 row3 true 9 0 hS11 hI11 (by rw [hfl11']; rfl) (by decide) (by decide) (by rw [hfl11']; rfl) get3_
       have hU11 := Aside0.mk (And.intro hS11 (And.intro hI11 (And.intro hfl11' hf11)))
       clear hadd2 hS11 hI11 hfl11 hfl11' hg11 hf11 bx0 bx1 bx2 bx3)
    | (go_at_call 43; refine hat11.mono ?_
       rintro e w12 ⟨v12, rfl, hR12, hb12⟩
       obtain ⟨A12, c12, hv12⟩ := Kd.R_slice hR12; change v12 = .slice A12 3 c12 at hv12; subst hv12
       have hZx := Aside0.mk (And.intro (Kd.R_F (Kd.R_bound hR12)) (And.intro (Kd.R_reads' hR12).2.1 hb12))
       clear hR12 hb12 hat11)
    | fail)
  obtain ⟨w13, hw13⟩ : ∃ w13, w13 = w12.alloc (.cells #[.slice A12 3 c12, .bool true] 31) := ⟨_, rfl⟩
  rw [← hw13]
  have hzb13 : w13.heap[w12.heap.size]? = some (.cells #[.slice A12 3 c12, .bool true] 31 (0, 0)) := by rw [hw13]; exact blk_new _ _
  have hb1213 : Below w12.heap.size w12 w13 := by rw [hw13]; exact below_alloc (Below.refl _ _) _
  clear hw13
  have hall1 := store_all (.pointer (some ⟨gs, 0, none⟩)) ⟨_, rfl⟩ (w13.alloc (.cells #[.int .i64 0] 3))
  have hall2 := store_all (.pointer (some ⟨gs, 0, none⟩)) ⟨_, rfl⟩ ((w13.alloc (.cells #[.int .i64 0] 3)).alloc (.cells #[.pointer (some ⟨gs, 0, none⟩)] 56))
  rw [show (w13.alloc (.cells #[.int .i64 0] 3)).heap.size = w13.heap.size + 1 by simp] at hall1
  rw [show ((w13.alloc (.cells #[.int .i64 0] 3)).alloc (.cells #[.pointer (some ⟨gs, 0, none⟩)] 56)).heap.size = w13.heap.size + 2 by simp] at hall2
  have hM := Aside0.mk (And.intro hzb13 hb1213)
  have he59 := eq59
  clear hzb13 hb1213
  go_upto_region 16 with (first
    | (go_at_call 41; refine hall1.mono ?_; rintro e w14 ⟨rfl, rfl⟩; clear hall1)
    | fail)
  go_wp2_with (first
    | (go_at_call 41; refine hall2.mono ?_; rintro e w15 ⟨rfl, hw15⟩; clear hall2)
    | fail)
  obtain ⟨w15, hw15e⟩ : ∃ w15, w15 = ((w13.alloc (.cells #[.int .i64 0] 3)).alloc (.cells #[.pointer (some ⟨gs, 0, none⟩)] 56)).alloc (.cells #[.pointer (some ⟨gs, 0, none⟩)] 56) := ⟨_, rfl⟩
  rw [← hw15e]
  have hcb15 : w15.heap[w13.heap.size]? = some (.cells #[.int .i64 0] 3 (0, 0)) := by rw [hw15e]; exact blk_alloc (blk_alloc (blk_new _ _) _) _
  have hbx15 : w15.heap[w13.heap.size + 2]? = some (.cells #[.pointer (some ⟨gs, 0, none⟩)] 56 (0, 0)) := by
    have := blk_new ((w13.alloc (.cells #[.int .i64 0] 3)).alloc (.cells #[.pointer (some ⟨gs, 0, none⟩)] 56)) (.cells #[.pointer (some ⟨gs, 0, none⟩)] 56)
    rw [hw15e]
    simpa using this
  have hb1315 : Below w13.heap.size w13 w15 := by rw [hw15e]; exact below_alloc (below_alloc (below_alloc (Below.refl _ _) _) _) _
  clear hw15e
  have hUo := hU11.out
  have hb1115 : Below w11.heap.size w11 w15 := hZx.out.2.2.trans ((hM.out.2.trans (hb1315.mono hM.out.2.size)).mono hZx.out.2.2.size)
  have hSb := hUo.1.all_bnd.below hb1115
  have hs1113 : w11.heap.size ≤ w13.heap.size := Nat.le_trans hZx.out.2.2.size hM.out.2.size
  have hs1315 := blk_lt hbx15
  have hL := Aside0.mk (And.intro hcb15 (And.intro hbx15 (And.intro hb1315 (And.intro hb1115 (And.intro hs1113 hs1315)))))
  have hseq := store_all_stops (4 - 1) (w13.heap.size + 2) (by decide) _ gs 1 1 1 _ (fun _ => (row3, true)) w15 hUo.2.1.bnd (by rw [flat_bnd, hUo.2.2.1]; rfl) (by decide) (fun k hk => Nat.lt_of_lt_of_le hk.2 hb1115.size) (fun i b hb => by
    rw [flat_bnd, hUo.2.2.1] at hb
    match i, hb with
    | 0, hb => simp only [List.getElem?_cons_zero, Option.some.injEq] at hb; subst hb; exact ⟨9, 0, get3_⟩
    | n + 1, hb => simp at hb) hSb hbx15
  rw [flat_bnd, hUo.2.2.1] at hseq
  refine (fun (a0 : Act) (ha0 : a0 = _) => ?_ : ∀ a0 : Act, a0 = _ → Code.wp Try.prog _ _ a0 _) _ rfl
  refine (wpIn_wide (n := 4)).1 ?_
  refine wpIn_rangeFunc_ownH (F := Fence.wide) (n := 4) rfl (by decide) (gf := 63) (lb := #[.pointer (some ⟨w13.heap.size + 2, 0, none⟩)]) (by rw [ha0]; rfl) trivial (enters_of Try.func63 (by kernel_rfl) rfl) hseq
    (fun h k => KeepOn.trans h k) ?hKb (Below.refl _ _) (fun _ => rfl)
    (fun pre W => W.heap[w13.heap.size]? = some (.cells #[.int .i64 (sumR pre)] 3 (0, 0)) ∧ Fr (fun k => k = w13.heap.size) w15 W) (fun _ _ _ => False) ?hI (fun _ _ _ _ _ h _ _ => h) ⟨hcb15, Fr.refl _ _⟩
    (fun x a' W => ∃ g, w15.heap.size ≤ g ∧ W.heap[g]? = some (.cells #[.slice x.A x.len x.c, .bool x.wr] 31 (0, 0)) ∧ a' = { tmps := (((a0.tmps.setIfInBounds 73 (.int .i64 (x.i : Int))).setIfInBounds 74 (.agg #[.slice x.A x.len x.c, .bool x.wr])).setIfInBounds 18 (.int .i64 (x.i : Int))).setIfInBounds 19 (.pointer (some ⟨g, 0, none⟩)), defers := [] }) ?hAx ?assign ?body ?done ?stop
  case hKb =>
    intro W l o o' hl ho hc hw
    refine ⟨by simp [World.putObj], fun k hk => World.putObj_heap_other ?_⟩
    rcases hk with hk | hk
    · have := hk.2
      omega
    · omega
  case hI =>
    intro xs A B row hs hg hr
    have hf : Fr (fun k => w15.heap.size ≤ k) A B := Fr.of_grown hg (fun k hk => (hr k hk).1)
    exact ⟨hf.old (by omega) hs.1, hs.2.trans hf (fun i hi h => by omega)⟩
  case hAx =>
    rintro x a' _ A B row ⟨g, h1, h2, h3⟩ hg hr
    exact ⟨g, h1, (grownBy_keeps_cells hg (fun r e => (hr r e).2) h2 rfl).trans h2, h3⟩
  case assign =>
    rintro l pre x W K ⟨hi1, hi2⟩ hK
    have hsz := hi2.size
    have hK2 := hK
    clear hK
    subst ha0
    dsimp only [Rw.encs]
    gi_wp2
    refine hK2 _ _ ((KeepsOthers.alloc _ _).from _) ⟨by simp, fun k hk => Below.heap_alloc W _ k ?_⟩ ⟨blk_alloc hi1 _, hi2.alloc _⟩ ⟨W.heap.size, hsz, blk_new _ _, ?_⟩
    · rcases hk with hk | hk
      · have := hk.2
        omega
      · omega
    · rfl
  case body =>
    rintro l pre x a' W hl _ ⟨hi1, hi2⟩ ⟨g, hg1, hg2, rfl⟩ hlt
    subst ha0
    simp only [List.setIfInBounds_toArray, List.set_cons_zero, List.set_cons_succ]
    obtain ⟨y0, y1, y2, y3⟩ := blk2 hg2
    have z0 : W.cell? ⟨w13.heap.size, 0, none⟩ = some (.int .i64 (sumR pre)) := (blk_cell hi1 0).trans rfl
    have z1 := blk_frozen hi1 0
    gi_wp2
    refine ⟨(KeepsOthers.setCell _ _ _).from _, ⟨by simp [World.setCell], fun k hk => Below.heap_setCell W ⟨w13.heap.size, 0, none⟩ _ k ?_⟩, (blk_set hi1 0 _).trans ?_, hi2.setCell (p := ⟨w13.heap.size, 0, none⟩) rfl _⟩
    · show k ≠ w13.heap.size
      rcases hk with hk | hk
      · have := hk.2
        omega
      · omega
    · simp [sumR, List.foldl_append]
  case stop =>
    rintro D c pre W _ _ h _
    exact h.elim
  case done =>
    rintro D xs W hD hxs ⟨hi1, hi2⟩ hK
    subst ha0
    have hsum : sumR xs = 3 := sumR3 hxs
    rw [hsum] at hi1
    have hAo := hAx.out
    have hSo := hSx.out
    have hPo := hPx.out
    have hYo := hYx.out
    have hRo := hRow.out
    have hTo := hT10.out
    have hUu := hU11.out
    have hZo := hZx.out
    have hMo := hM.out
    have hLo := hL.out
    have s45 := hSo.2.2.2.1
    have s56 := hSo.2.2.1
    have s46 := hSo.2.1.size
    have s67 := hPo.2.2.2
    have s78 := hYo.2.2.size
    have s79 := hRo.2.2.2.1.size
    have y9 := blk_lt hRo.2.1
    have s49 := hRo.1.size
    have s910 := hTo.1.size
    have s1011 := hUu.2.2.2.size
    have s1113 := hLo.2.2.2.2.1
    have s1315 := hLo.2.2.2.2.2
    have b4W : Below w4.heap.size w4 W := ((hTo.2.1.trans (hUu.2.2.2.below (B := w4.heap.size) hTo.2.1.size (fun k hk => by rcases hk with hk | hk <;> omega))).trans (hLo.2.2.2.1.mono (by omega))).trans (hi2.below (B := w4.heap.size) (by omega) (fun k hk => by omega))
    have f9W : Fr (fun k => w5.heap.size ≤ k ∧ k < w6.heap.size) w9 W := ((hTo.1.mono (S1 := fun k => w5.heap.size ≤ k ∧ k < w6.heap.size) (fun k hk => by omega)).trans hUu.2.2.2 (fun i hi hk => by rcases hk with hk | hk <;> omega)).trans ((Fr.of_below hLo.2.2.2.1).trans hi2 (fun i hi hk => hk)) (fun i hi hk => by omega)
    have rB := blk_below hAo.2.2.1 b4W
    have xB := blk_below hAo.1 b4W
    have yB := f9W.old (k := w8.heap.size) (fun h => by omega) hRo.2.1
    have zB := hi2.old (k := w12.heap.size) (fun h => by have := blk_lt hMo.1; omega) (blk_below hMo.1 hLo.2.2.1)
    have rF := F_block (l := row3) (blk_below hAo.2.1 b4W) (by decide)
    have xF := Kd.F_below hAo.2.2.2.2.1 ((Below.refl _ _).trans b4W)
    have bF := Kd.F_below hAo.2.2.2.1 b4W
    have yF := Kd.F_step (Kd.F_bound (Kd.F_below hYo.1 (show Below w8.heap.size w8 w9 from hRo.2.2.2.2.2.2.2.2.2.2))) (fun k hk hlt => f9W.block k hlt (fun h => by have := hk.1.2.1; omega))
    have zF := (Kd.F_step (Kd.F_bound (Kd.F_below hZo.1 (hMo.2.trans (hLo.2.2.1.mono hMo.2.size)))) (fun k hk hlt => hi2.block k hlt (fun h => by have := hk.1.2.2.1; have := hMo.2.size; omega)))
    have pW := (hPo.1.below hRo.2.2.2.1).step (W' := W) (fun k hk hlt => f9W.block k hlt (fun h => by omega))
    have sW := hSb.fr hi2 (fun k hk hk2 => by omega)
    have hbW : Below w.heap.size w W := hAo.2.2.2.2.2.trans (b4W.mono hAo.2.2.2.2.2.size)
    have hcy : 3 ≤ c8 := hYo.2.1
    have hcz : 3 ≤ c12 := hZo.2.1
    have hcx3 : 3 ≤ c3 := hcx
    have hBx : Aside0 (∀ W', Below W.heap.size W W' → ((W'.cell? ⟨w.heap.size + 1, 0, none⟩ = some (.slice (some ⟨w.heap.size, 0, none⟩) 3 3) ∧ W'.cell? ⟨w.heap.size + 1, 1, none⟩ = some (.bool true)) ∧ (W'.cell? ⟨w3.heap.size, 0, none⟩ = some (.slice A3 3 c3) ∧ W'.cell? ⟨w3.heap.size, 1, none⟩ = some (.bool true)) ∧
        (W'.cell? ⟨w8.heap.size, 0, none⟩ = some (.slice A8 3 c8) ∧ W'.cell? ⟨w8.heap.size, 1, none⟩ = some (.bool true)) ∧ (W'.cell? ⟨w12.heap.size, 0, none⟩ = some (.slice A12 3 c12) ∧ W'.cell? ⟨w12.heap.size, 1, none⟩ = some (.bool true)) ∧ W'.cell? ⟨w13.heap.size, 0, none⟩ = some (.int .i64 3))) :=
      ⟨fun W' hb => ⟨⟨(blk2 (blk_below rB hb)).1, (blk2 (blk_below rB hb)).2.1⟩, ⟨(blk2 (blk_below xB hb)).1, (blk2 (blk_below xB hb)).2.1⟩, ⟨(blk2 (blk_below yB hb)).1, (blk2 (blk_below yB hb)).2.1⟩, ⟨(blk2 (blk_below zB hb)).1, (blk2 (blk_below zB hb)).2.1⟩, (blk_cell (blk_below hi1 hb) 0).trans rfl⟩⟩
    have hFx : Aside0 (∀ W', Below W.heap.size W W' → Kd.C k45 W' (some ⟨w.heap.size, 0, none⟩) row3.length row3 ∧ Kd.C k45 W' A3 row3.length row3 ∧ Kd.C k45 W' A8 row3.length row3 ∧ Kd.C k45 W' A12 row3.length row3 ∧ Kd.C (Kd.int .u8) W' (some ⟨g2, 0, none⟩) bytes9.length bytes9) :=
      ⟨fun W' hb => ⟨Kd.F_now (Kd.F_below rF hb), Kd.F_now (Kd.F_below xF hb), Kd.F_now (Kd.F_below yF hb), Kd.F_now (Kd.F_below zF hb), Kd.F_now (Kd.F_below bF hb)⟩⟩
    have hPS : Aside0 (∀ W', Below W.heap.size W W' → (PageAt W' _ gp [bytes9] ∧ StoreAt W' _ gs 1 1 1 _)) := ⟨fun W' hb => ⟨pW.below hb, sW.below hb⟩⟩
    have h50 := begun50 W
    have hbl : bytes9.length = 9 := rfl
    have hsl : (sumLen [bytes9] : Int) = 9 := rfl
    have hsl2 : (sumLen (addRows [] bytes9 true) : Int) = 9 := rfl
    have hEnd := Aside0.mk (And.intro hbW hK)
    clear rB xB yB zB rF xF bF yF zF pW sW hbW hAo hSo hPo hYo hRo hTo hUu hZo hMo hLo s45 s56 s46 s67 s78 s79 y9 s49 s910 s1011 s1113 s1315 b4W f9W hi1 hi2 hseq hSb hUo hb1115 hb1315 hcb15 hbx15 hK
    go_wp2_with (first
      | (go_at_call 50; refine h50.mono ?_; rintro e w17 ⟨rfl, hc17⟩
         obtain ⟨⟨q0, q1⟩, ⟨x0, x1⟩, ⟨y0, y1⟩, ⟨z0, z1⟩, c0⟩ := hBx.out _ hc17
         have hcv := conv9 (c := c2) (hFx.out _ hc17).2.2.2.2
         have h28 := eq3_ w17 A3 (some ⟨w.heap.size, 0, none⟩) c3 3 (hFx.out _ hc17).2.1 hcx3 (hFx.out _ hc17).1 (by decide)
         clear h50)
      | (go_at_call 28; refine h28.mono ?_; rintro e w18 ⟨rfl, hb18⟩
         have hc18 := hc17.trans (hb18.mono hc17.size)
         clear q0 q1 x0 x1 y0 y1 z0 z1 c0 hcv h28 hc17 hb18
         obtain ⟨⟨q0, q1⟩, ⟨x0, x1⟩, ⟨y0, y1⟩, ⟨z0, z1⟩, c0⟩ := hBx.out _ hc18
         have h28y := eq3_ w18 A8 (some ⟨w.heap.size, 0, none⟩) c8 3 (hFx.out _ hc18).2.2.1 hcy (hFx.out _ hc18).1 (by decide))
      | (go_at_call 28; refine h28y.mono ?_; rintro e w19 ⟨rfl, hb19⟩
         have hc19 := hc18.trans (hb19.mono hc18.size)
         clear q0 q1 x0 x1 y0 y1 z0 z1 c0 h28y hc18 hb19
         obtain ⟨⟨q0, q1⟩, ⟨x0, x1⟩, ⟨y0, y1⟩, ⟨z0, z1⟩, c0⟩ := hBx.out _ hc19
         have h38 := page_bytes w19 _ gp _ (hPS.out _ hc19).1 (by decide) (by decide))
      | (go_at_call 38; refine h38.mono ?_; rintro e w20 ⟨rfl, hb20⟩
         have hc20 := hc19.trans (hb20.mono hc19.size)
         clear q0 q1 x0 x1 y0 y1 z0 z1 c0 h38 hc19 hb20
         obtain ⟨⟨q0, q1⟩, ⟨x0, x1⟩, ⟨y0, y1⟩, ⟨z0, z1⟩, c0⟩ := hBx.out _ hc20
         have h28z := eq3_ w20 A12 (some ⟨w.heap.size, 0, none⟩) c12 3 (hFx.out _ hc20).2.2.2.1 hcz (hFx.out _ hc20).1 (by decide))
      | (go_at_call 28; refine h28z.mono ?_; rintro e w21 ⟨rfl, hb21⟩
         have hc21 := hc20.trans (hb21.mono hc20.size)
         clear q0 q1 x0 x1 y0 y1 z0 z1 c0 h28z hc20 hb21
         obtain ⟨⟨q0, q1⟩, ⟨x0, x1⟩, ⟨y0, y1⟩, ⟨z0, z1⟩, c0⟩ := hBx.out _ hc21
         have h45 := store_gone w21 _ gs 1 1 1 _ (hPS.out _ hc21).2
         have h44 := fun m => store_len (w21.drewN m) _ gs 1 1 1 _ ((hPS.out _ hc21).2.step (W' := w21.drewN m) (fun _ _ _ => rfl))
         have h26 := fun m => may3_ (w21.drewN m) (some ⟨w.heap.size, 0, none⟩) 3 (by decide) (Kd.C_drewN (hFx.out _ hc21).1 m))
      | (go_at_call 45; refine h45.mono ?_; rintro e w22 ⟨rfl, hd22⟩; obtain ⟨m1, rfl⟩ := hd22.out; clear hd22 h45)
      | (go_at_call 44; refine (h44 _).mono ?_; rintro e w23 ⟨rfl, hd23⟩; obtain ⟨m2, rfl⟩ := hd23.out; clear hd23 h44)
      | (go_at_call 26; refine (h26 _).mono ?_; rintro e w24 ⟨rfl, hb24⟩)
      | fail)
    have hc24 : Below W.heap.size W w24 := (pw_below_drewN hc21 _).trans (hb24.mono hc21.size)
    have hK24 := blk_below hEnd.out.2 hc24
    have hB24 : Below w.heap.size w w24 := hEnd.out.1.trans (hc24.mono hEnd.out.1.size)
    have hDw : w.heap.size ≤ D := by
      have h1 := hEnd.out.1.size
      have h2 := hAx.out.2.2.2.2.2.size
      have h3 := hRow.out.1.size
      have h4 := hT10.out.1.size
      have h5 := hU11.out.2.2.2.size
      have h6 := hL.out.2.2.2.1.size
      omega
    refine ⟨by simp, .inl ⟨_, _, rfl, run_takeDeferred hK24, ?_⟩⟩
    exact ⟨_, results_tmp rfl _ _ _, rfl, hB24.trans (belowK_b (w := w) (Nat.le_refl _) w24 D _ _ hDw hK24 rfl rfl)⟩
end Go.Proofs.Ytkigdcihhlkkdaa.P
end
section
namespace Go.Proofs.Ytkigdcihhlkkdaa.P
open Go.RowKit Go.Proofs.YtkigdcihhlkkdaaW.PrintWords Go.Proofs.YtkigdcihhlkkdaaW.PrintLast Go.Proofs.YtkigdcihhlkkdaaW.PrintMore
attribute [local go_sem] max2_int min2_int max_two min_two max_three min_three max_four min_four   -- for this text's walks alone
set_option linter.unusedVariables false
set_option linter.unusedSimpArgs false
def rotulusref1_Copy.f (l0_0 : List (S45)) (a0_1 : Bool) : Option ((List (S45)) × Bool) := if ([] : List (S45)).length + l0_0.length < 5864062014805 then (some ((([] : List (S45)) ++ l0_0), a0_1)) else (none)
set_option maxHeartbeats 8000000 in
set_option maxRecDepth 100000 in
theorem rotulusref1_Copy.calls (A0_0 : Option Addr) (c0_0 : Nat) (l0_0 : List (S45)) (a0_1 : Bool) (r1 : List (S45)) (r2 : Bool) (w : World) (hr0_0 : Kd.C k45 w A0_0 l0_0.length l0_0) (hc0_0 : l0_0.length ≤ c0_0) (h : rotulusref1_Copy.f l0_0 a0_1 = some (r1, r2)) :
    Calls Try.prog 42 #[.agg #[.slice A0_0 l0_0.length c0_0, .bool a0_1]] w fun e w' => ∃ v0_ : Value, e = .returned (.agg #[v0_, .bool r2]) ∧ Kd.R k45 45 w' w.heap.size (fun _ => True) v0_ r1 ∧ Below w.heap.size w w' := by
  have hu31 := Try.underlying31
  have HR0_0 := Aside0.mk hr0_0
  have HC0_0 := Aside0.mk hc0_0
  clear hr0_0 hc0_0
  have HB := Aside0.mk (Below.refl w.heap.size w)
  have H : (if ([] : List (S45)).length + l0_0.length < 5864062014805 then (some ((([] : List (S45)) ++ l0_0), a0_1)) else (none)) = some (r1, r2) := h
  clear h
  have c2 : ([] : List (S45)).length + l0_0.length < 5864062014805 := Decidable.byContradiction fun hc_ => absurd ((if_neg hc_).symm.trans H) (by simp)
  rw [if_pos c2] at H
  have LMc2 := Aside0.mk c2
  clear c2
  obtain ⟨y482, hy482⟩ : ∃ y_ : List (S45), y_ = (([] : List (S45)) ++ l0_0) := ⟨_, rfl⟩
  replace H : (some (y482, a0_1)) = some (r1, r2) := by first | (rw [hy482]; with_reducible exact H) | (have H2_ := (Option.bind_some _ _).symm.trans H; rw [hy482]; with_reducible exact H2_) | (have H2_ := (Option.bind_some _ _).symm.trans H; with_reducible exact H2_) | with_reducible exact H | (rw [hy482]; exact H) | exact H
  have Ny482 := Aside0.mk hy482
  clear hy482
  simp only [Option.some.injEq, Prod.mk.injEq] at H
  obtain ⟨rfl, rfl⟩ := H
  go_enter Try.func42, Try.ntmps42
  try go_wp2_with (first | ((with_reducible refine gate_dst (N := 1) rfl ?_); refine box_event ?hg (N := 1) ?hd (cs := #[.slice A0_0 l0_0.length c0_0, .bool a0_1]) (t := 31) ?hr ?_; (case hd => rfl); (case hg => rfl); (case hr => first | (go_simp; done) | (go_simp; rfl)); intro gb480 hg w3 hbox hb; have n0_ := Aside0.mk (below_step (by repeat (first | (with_reducible first | exact HB.out | apply below_alloc | apply pw_below_drewN | apply below_drew1) | exact HB.out)) hb); have n1_ := Aside0.mk (hbox); have n2_ := Aside0.mk ((by rw [hg]; exact (below_size (by repeat (first | (with_reducible first | exact HB.out | apply below_alloc | apply pw_below_drewN | apply below_drew1) | exact HB.out))) : w.heap.size ≤ gb480)); have n3_ := Aside0.mk ((by rw [hg]; exact (below_size (by repeat (first | (with_reducible first | exact HB.out | apply below_alloc | apply pw_below_drewN | apply below_drew1) | exact HB.out))) : w.heap.size ≤ gb480)); clear HB; have HB := n0_; have BK480 := n1_; have GW480 := n2_; have GE480 := n3_; clear n0_ n1_ n2_ n3_; clear hb hbox hg) | ((with_reducible refine gate_dst (N := 2) rfl ?_); refine box_event ?hg (N := 2) ?hd (cs := #[.slice none 0 0, .bool false]) (t := 31) ?hr ?_; (case hd => rfl); (case hg => rfl); (case hr => first | (go_simp; done) | (go_simp; rfl)); intro gb481 hg w4 hbox hb; have n0_ := Aside0.mk (blk_below (g := gb480) (o := .cells #[.slice A0_0 l0_0.length c0_0, .bool a0_1] 31 (0, 0)) (by (with_reducible repeat (first | refine blk_drewN ?_ _ | refine blk_drew ?_ | refine blk_alloc ?_ _)); exact BK480.out) hb); have n1_ := Aside0.mk (below_step (by repeat (first | (with_reducible first | exact HB.out | apply below_alloc | apply pw_below_drewN | apply below_drew1 | refine below_set ?_ GE480.out) | exact HB.out)) hb); have n2_ := Aside0.mk (hbox); have n3_ := Aside0.mk ((by rw [hg]; exact (below_size (by repeat (first | (with_reducible first | exact HB.out | apply below_alloc | apply pw_below_drewN | apply below_drew1 | refine below_set ?_ GE480.out) | exact HB.out))) : w.heap.size ≤ gb481)); have n4_ := Aside0.mk ((by rw [hg]; exact (below_size (by repeat (first | (with_reducible first | exact HB.out | apply below_alloc | apply pw_below_drewN | apply below_drew1 | refine below_set ?_ GE480.out) | exact HB.out))) : w.heap.size ≤ gb481)); have n5_ := Aside0.mk ((by rw [hg]; exact Nat.ne_of_lt (blk_lt (g := gb480) (o := .cells #[.slice A0_0 l0_0.length c0_0, .bool a0_1] 31 (0, 0)) (by (with_reducible repeat (first | refine blk_drewN ?_ _ | refine blk_drew ?_ | refine blk_alloc ?_ _)); exact BK480.out)) : gb480 ≠ gb481)); have n6_ := Aside0.mk ((by rw [hg]; exact Nat.ne_of_gt (blk_lt (g := gb480) (o := .cells #[.slice A0_0 l0_0.length c0_0, .bool a0_1] 31 (0, 0)) (by (with_reducible repeat (first | refine blk_drewN ?_ _ | refine blk_drew ?_ | refine blk_alloc ?_ _)); exact BK480.out)) : gb481 ≠ gb480)); clear BK480; clear HB; have BK480 := n0_; have HB := n1_; have BK481 := n2_; have GW481 := n3_; have GE481 := n4_; have NB480_481 := n5_; have NB481_480 := n6_; clear n0_ n1_ n2_ n3_ n4_ n5_ n6_; clear hb hbox hg))
  have n0_ := Aside0.mk (blk_drew BK480.out)
  have n1_ := Aside0.mk (blk_drew BK481.out)
  have n2_ := Aside0.mk (below_drew1 HB.out)
  clear BK480
  clear BK481
  clear HB
  have BK480 := n0_
  have BK481 := n1_
  have HB := n2_
  clear n0_ n1_ n2_
  refine start_ (n := 7) (S := fun w' => w'.cell? ⟨gb480, 0, none⟩ = some (.slice A0_0 l0_0.length c0_0) ∧ w'.cell? ⟨gb480, 1, none⟩ = some (.bool a0_1)) (ds := []) #[false, false, false, false, false, false, false] (by kernel_rfl) rfl rfl ⟨(blk_cell BK480.out 0).trans rfl, (blk_cell BK480.out 1).trans rfl⟩ (fun hHeld => ?_)
  generalize w4.drew = w5 at BK480 BK481 HB hHeld ⊢
  refine pure_ (i := 0) (N := some 3) (v := ?_) (a' := ?_) #[true, false, false, false, false, false, false] rfl rfl (by kernel_rfl) (fun _ _ _ h => h) (Or.inl ⟨by rfl, ?_⟩) ?_ ?_
  rotate_left
  · intro w'
    go_simp
    with_reducible rfl
  rotate_left
  · simp only [Act.put, List.setIfInBounds_toArray, List.set_cons_zero, List.set_cons_succ, i64_w, i32_w]
    rfl
  refine pure_ (i := 3) (N := some 6) (v := ?_) (a' := ?_) #[true, false, false, true, false, false, false] rfl rfl (by kernel_rfl) (fun _ _ _ h => h) (Or.inl ⟨by rfl, ?_⟩) ?_ ?_
  rotate_left
  · intro w'
    go_simp
    with_reducible rfl
  rotate_left
  · simp only [Act.put, List.setIfInBounds_toArray, List.set_cons_zero, List.set_cons_succ, i64_w, i32_w]
    rfl
  refine take_ (i := 1) (N := some 4) (v := ?_) (a' := ?_) #[true, true, false, true, false, false, false] rfl rfl (by kernel_rfl) (fun _ _ _ h => h) (Or.inl ⟨by rfl, ?_⟩) hHeld ?_ ?_
  rotate_left
  · rintro w' ⟨s0, s1⟩
    go_simp
    with_reducible rfl
  rotate_left
  · simp only [Act.put, List.setIfInBounds_toArray, List.set_cons_zero, List.set_cons_succ, i64_w, i32_w]
    rfl
  refine take_ (i := 4) (N := some 7) (v := ?_) (a' := ?_) #[true, true, false, true, true, false, false] rfl rfl (by kernel_rfl) (fun _ _ _ h => h) (Or.inl ⟨by rfl, ?_⟩) hHeld ?_ ?_
  rotate_left
  · rintro w' ⟨s0, s1⟩
    go_simp
    with_reducible rfl
  rotate_left
  · simp only [Act.put, List.setIfInBounds_toArray, List.set_cons_zero, List.set_cons_succ, i64_w, i32_w]
    rfl
  refine one_ (i := 2) (N := some 5) #[true, true, true, true, true, false, false] rfl rfl (by kernel_rfl) (by decide) (fun K hK => ?_)
  refine Kd.R_append_rows_step k45 (w0 := w) w.heap.size (by rfl) (.const (.slice none 0 0)) (.tmp 4) 29 45 (.agg #[(.int .i32 0), (.int .i64 0), (.int .i64 0)]) 24 rfl Try.underlying29 info45 rfl (by decide) (by omega) (.slice none 0 0) ([] : List (S45)) l0_0 _ _ _ (fun _ => True) (fun _ => False) rfl rfl ?aO ?aR (fun _ _ h => h) (fun _ h => h.elim) ?aF ?aB ?aS ?aL ?_
  (case aR => repeat (first | exact (Kd.C_below HR0_0.out HB.out) | (with_reducible refine Kd.C_alloc ?_ _) | (with_reducible refine Kd.C_drewN ?_ _) | (with_reducible refine Kd.C_drew ?_) | exact Kd.C_drewN (Kd.C_below HR0_0.out HB.out) _ | exact Kd.C_drew (Kd.C_below HR0_0.out HB.out) | exact Kd.C_alloc (Kd.C_below HR0_0.out HB.out) _))
  (case aB => exact (by repeat (first | (with_reducible first | exact HB.out | apply below_alloc | apply pw_below_drewN | apply below_drew1 | refine below_set ?_ GE480.out | refine below_set ?_ GE481.out) | exact HB.out)))
  (case aF => exact (fun _ _ => trivial))
  (case aO => exact ((Kd.R_nil _ _ _ _ (fun _ => True))))
  (case aS => exact (below_size (by repeat (first | (with_reducible first | exact HB.out | apply below_alloc | apply pw_below_drewN | apply below_drew1 | refine below_set ?_ GE480.out | refine below_set ?_ GE481.out) | exact HB.out))))
  (case aL => have := LMc2.out; omega)
  intro v483 w6 ho hb hg hat
  rw [← Ny482.out] at ho
  have n0_ := Aside0.mk (blk_grown (g := gb480) (o := .cells #[.slice A0_0 l0_0.length c0_0, .bool a0_1] 31 (0, 0)) (by (with_reducible repeat (first | refine blk_drewN ?_ _ | refine blk_drew ?_ | refine blk_alloc ?_ _)); exact BK480.out) hg (by simp [Value.ownBlock]))
  have n1_ := Aside0.mk (blk_grown (g := gb481) (o := .cells #[.slice none 0 0, .bool false] 31 (0, 0)) (by (with_reducible repeat (first | refine blk_drewN ?_ _ | refine blk_drew ?_ | refine blk_alloc ?_ _)); exact BK481.out) hg (by simp [Value.ownBlock]))
  have n2_ := Aside0.mk (hb)
  have n3_ := Aside0.mk (ho)
  clear BK480
  clear BK481
  clear HB
  have BK480 := n0_
  have BK481 := n1_
  have HB := n2_
  have HO484 := n3_
  clear n0_ n1_ n2_ n3_
  clear ho hb hg hat
  obtain ⟨Ao7, co7, eo7⟩ := Kd.R_slice HO484.out
  (first | subst eo7 | (injection eo7 with f1_ f2_ f3_; have f4_ := f1_.symm; have f5_ := f3_.symm; clear f1_ f2_ f3_; subst f4_; subst f5_))
  refine hK.out _ _ ⟨(blk_cell BK480.out 0).trans rfl, (blk_cell BK480.out 1).trans rfl⟩ (fun hHeld => ?_)
  clear hK K
  refine norm_ (a' := ?_) ?_ ?_
  rotate_left
  · show Act.put _ (some 5) _ = _
    simp only [Act.put, List.setIfInBounds_toArray, List.set_cons_zero, List.set_cons_succ, i64_w, i32_w]
    rfl
  refine pure_ (i := 5) (N := some 8) (v := ?_) (a' := ?_) #[true, true, true, true, true, true, false] rfl rfl (by kernel_rfl) (fun _ _ _ h => h) (Or.inl ⟨by rfl, ?_⟩) ?_ ?_
  rotate_left
  · intro w'
    go_simp
    with_reducible rfl
  rotate_left
  · simp only [Act.put, List.setIfInBounds_toArray, List.set_cons_zero, List.set_cons_succ, i64_w, i32_w]
    rfl
  refine one_ (i := 6) (N := none) #[true, true, true, true, true, true, true] rfl rfl (by kernel_rfl) (by decide) (fun K hK => ?_)
  have hs8 : w6.cell? ⟨gb481, 0, none⟩ = some (.slice none 0 0) := (blk_cell BK481.out 0).trans rfl
  have hfs8 := blk_frozen BK481.out 0
  have hns8_0 := NB480_481.out
  have hms8_0 := NB481_480.out
  have hs9 : w6.cell? ⟨gb481, 1, none⟩ = some (.bool false) := (blk_cell BK481.out 1).trans rfl
  have hfs9 := blk_frozen BK481.out 1
  have hns9_0 := NB480_481.out
  have hms9_0 := NB481_480.out
  refine skip_ (w1 := ?_) (by rfl) rfl ?_ ?_
  rotate_left
  · go_simp
    rfl
  refine hK.out _ _ ⟨((cell_far (p := ⟨gb481, _, none⟩) NB480_481.out _).trans (((cell_far (p := ⟨gb481, _, none⟩) NB480_481.out _).trans (hHeld.1)))), ((cell_far (p := ⟨gb481, _, none⟩) NB480_481.out _).trans (((cell_far (p := ⟨gb481, _, none⟩) NB480_481.out _).trans (hHeld.2))))⟩ (fun hHeld => ?_)
  clear hK K
  refine done_ (by kernel_rfl) ?_
  try go_wp2
  refine bodyPost_ret (results_cell_row rfl _ _ gb481 31 #[.slice Ao7 y482.length co7, .bool a0_1] (0, 0) _ rfl (by (with_reducible repeat (first | refine blk_drewN ?_ _ | refine blk_drew ?_ | refine blk_alloc ?_ _)); refine blk_put (cs := #[.slice Ao7 y482.length co7, .bool false]) ?_ 1 _ rfl; (with_reducible repeat (first | refine blk_drewN ?_ _ | refine blk_drew ?_ | refine blk_alloc ?_ _)); refine blk_put (cs := #[.slice none 0 0, .bool false]) ?_ 0 _ rfl; (with_reducible repeat (first | refine blk_drewN ?_ _ | refine blk_drew ?_ | refine blk_alloc ?_ _)); exact BK481.out) Try.underlying31 rfl (by kernel_rfl)) rfl ?_
  exact ⟨_, by first | rfl | (simp [errW_none, errW_some] <;> rfl) | (simp [*, errW_none, errW_some] <;> rfl), by (with_reducible repeat (first | apply Kd.R_alloc | apply Kd.R_drewN | apply Kd.R_drew)); exact Kd.R_mono (Kd.R_far (p := ⟨gb481, 1, none⟩) (Kd.R_far (p := ⟨gb481, 0, none⟩) (Kd.R_types HO484.out BK481.out (by decide)) (fun _ hk => hk.2) (.slice Ao7 y482.length co7)) (fun _ hk => hk.2) (.bool a0_1)) (fun _ hk => trivial), by repeat (first | (with_reducible first | exact HB.out | apply below_alloc | apply pw_below_drewN | apply below_drew1 | refine below_set ?_ GE480.out | refine below_set ?_ GE481.out) | exact HB.out)⟩
end Go.Proofs.Ytkigdcihhlkkdaa.P
end
section
set_option linter.unusedVariables false
set_option linter.unusedSimpArgs false
namespace Go.Proofs.Ytkigdcihhlkkdaa.P
open Go.RowKit Go.Shelf Go.Proofs.YtkigdcihhlkkdaaW.PrintWords Go.Proofs.YtkigdcihhlkkdaaW.PrintLast Go.Proofs.YtkigdcihhlkkdaaW.PrintMore Go.Proofs.Ytkigdcihhlkkdaa.Pure
attribute [local go_sem] Oper.semAt_some
theorem take_in_ {l : List S45} (h : ∀ x ∈ l, in32 x) (n : Nat) : ∀ x ∈ l.take n, in32 x := fun x hx => h x (List.mem_of_mem_take hx)
theorem copy_ (A : Option Addr) (c : Nat) (l : List S45) (wr : Bool) (w : World) (hC : Kd.C k45 w A l.length l) (hc : l.length ≤ c) (hl : l.length ≤ 1000) :
    Calls Try.prog 42 #[.agg #[.slice A l.length c, .bool wr]] w fun e w' => ∃ v0 : Value, e = .returned (.agg #[v0, .bool wr]) ∧ Kd.R k45 45 w' w.heap.size (fun _ => True) v0 l ∧ Below w.heap.size w w' := by
  refine rotulusref1_Copy.calls A c l wr l wr w hC hc ?_
  unfold rotulusref1_Copy.f
  rw [if_pos (by simp; omega)]
  rfl
set_option maxHeartbeats 16000000 in
set_option maxRecDepth 100000 in
theorem storeOwn_ (A0 : Option Addr) (c0 : Nat) (l : List S45) (wr : Bool) (w : World) (hC : Kd.C k45 w A0 l.length l) (hc0 : l.length ≤ c0) (hwf : ∀ x ∈ l, in32 x) :
    Calls Try.prog 9 #[.agg #[.slice A0 l.length c0, .bool wr]] w fun e w' => e = .returned (.bool true) ∧ Below w.heap.size w w' := by
  have hb0 : Below w.heap.size w (w.alloc (.cells #[.slice A0 l.length c0, .bool wr] 31)) := below_alloc (Below.refl _ _) _
  have hB0 := blk_new w (.cells #[.slice A0 l.length c0, .bool wr] 31)
  have htk : (l.take 310).length ≤ 310 := by rw [List.length_take]; omega
  have hin := take_in_ hwf 310
  have hrow := fun (W : World) (hC : Kd.C k45 W A0 l.length l) => lawRow_ A0 c0 l wr W hC hc0
  generalize l.take 310 = q at *
  go_enter Try.func9, Try.ntmps9
  go_upto_region 5 with (first
    | (go_at_call 18; refine (begun4_ _).mono ?_; rintro e w1 ⟨rfl, hb1⟩
       have hbb := hb0.trans (hb1.mono hb0.size)
       have hB1 := blk_below hB0 hb1
       obtain ⟨x0, x1, y0, y1⟩ := blk2 hB1)
    | (go_at_call 23; refine (hrow _ (Kd.C_below hC hbb)).mono ?_; rintro e w2 ⟨v2, rfl, hR2, hb2⟩
       obtain ⟨A2, c2, hv2⟩ := Kd.R_slice hR2; subst hv2
       have hB2 := blk_below hB1 hb2
       have hbw2 := hbb.trans (hb2.mono hbb.size)
       clear x0 x1 y0 y1
       obtain ⟨x0, x1, y0, y1⟩ := blk2 hB2)
    | fail)
  clear x0 x1 y0 y1 hb0 hB0 hB1
  have hs12 := hb2.size
  have hwb := hbb.size
  have hlt1 : w.heap.size < w1.heap.size := blk_lt (blk_below (blk_new w _) hb1)
  have hRa := Kd.R_lower (Kd.R_mono (ok' := fun k => k ≠ w.heap.size) (Kd.R_bound hR2) (fun k hk => by have := hk.2.1; omega)) hbb.size
  obtain ⟨w3, hw3⟩ : ∃ w3, w3 = (w2.setCell ⟨w.heap.size, 0, none⟩ (.slice A2 q.length c2)).setCell ⟨w.heap.size, 1, none⟩ (.bool wr) := ⟨_, rfl⟩
  rw [← hw3]
  have hB3 : w3.heap[w.heap.size]? = some (.cells #[.slice A2 q.length c2, .bool wr] 31 (0, 0)) := by rw [hw3]; exact (blk_set (blk_set hB2 0 _) 1 _).trans rfl
  have hR3 : Kd.R k45 45 w3 w.heap.size (fun k => k ≠ w.heap.size) (.slice A2 q.length c2) q := by rw [hw3]; exact Kd.R_far (p := ⟨w.heap.size, 1, none⟩) (Kd.R_far (p := ⟨w.heap.size, 0, none⟩) hRa (fun k hk => hk) _) (fun k hk => hk) _
  have hbw3 : Below w.heap.size w w3 := by rw [hw3]; exact below_set (below_set hbw2 (Nat.le_refl _)) (Nat.le_refl _)
  clear hw3 hR2 hRa hbw2 hB2 hbb hb1 hb2
  obtain ⟨x0, x1, y0, y1⟩ := blk2 hB3
  have hR4 := Kd.R_reads' hR3
  have hmr := may_ref q hin
  have hr27 := refRow_ A2 c2 q wr w3 hR4.2.2 hR4.2.1 (by omega)
  rw [← hmr] at hr27
  cases hm : mayB q with
  | false =>
    rw [hm] at hr27
    go_wp2_with (first
      | (go_at_call 27; refine hr27.mono ?_; rintro e w4 ⟨rfl, hb4⟩)
      | fail)
    go_ret
    exact ⟨rfl, hbw3.trans (hb4.mono hbw3.size)⟩
  | true =>
  rw [hm] at hr27
  by_cases hq : q.length = 0
  · obtain rfl := List.length_eq_zero_iff.1 hq
    simp only [List.length_nil] at hr27 x0 hB3
    clear hR3 hR4 htk hq
    go_wp2_with (first
      | (go_at_call 27; refine hr27.mono ?_; rintro e w4 ⟨rfl, hb4⟩
         clear x0 x1 y0 y1
         obtain ⟨x0, x1, y0, y1⟩ := blk2 (blk_below hB3 hb4))
      | fail)
    go_ret
    exact ⟨rfl, hbw3.trans (hb4.mono hbw3.size)⟩
  have hq2 : ((q.length : Int) == 0) = false := by simpa using hq
  obtain ⟨ad2, hA2, _⟩ := at_T45 hR4.2.2 0 (by omega) (by omega)
  subst hA2
  obtain ⟨g2, rfl⟩ := Kd.R_head hR3
  clear hrow hC hc0 hwf hmr
  have hcq := hR4.2.1
  clear hR4
  have hR3b := Kd.R_mono (ok' := fun k => k ≠ w.heap.size ∧ k < w3.heap.size) (Kd.R_bound hR3) (fun k hk => ⟨hk.1, hk.2.2.1⟩)
  have hlt3 := blk_lt hB3
  have hgl3 : g2 < w3.heap.size := (hR3b.1 g2 rfl).2
  have hgn3 : g2 ≠ w.heap.size := (hR3b.1 g2 rfl).1
  have hbl : (rowB q wr).length = (rowB q wr).length := rfl
  go_upto_region 11 with (first
    | (go_at_call 27; refine hr27.mono ?_; rintro e w4 ⟨rfl, hb4⟩
       have hB4 := blk_below hB3 hb4
       clear x0 x1 y0 y1
       obtain ⟨x0, x1, y0, y1⟩ := blk2 hB4
       have hRr4 := Kd.R_below hR3b (hb4.mono (Nat.le_refl _))
       have hbw4 := hbw3.trans (hb4.mono hbw3.size)
       have h42 := copy_ (some ⟨g2, 0, none⟩) c2 q wr w4 (Kd.R_reads' hRr4).2.2 hcq (by omega)
       have hs4 := hb4.size
       clear hr27)
    | (go_at_call 42; refine h42.mono ?_; rintro e w5 ⟨v5, rfl, hR5, hb5⟩
       obtain ⟨A5, c5, hv5⟩ := Kd.R_slice hR5; subst hv5
       have hc5 := (Kd.R_reads' hR5).2.1
       have hF5 := Kd.R_F (Kd.R_bound hR5)
       have hs5 := hb5.size
       have hba : Below w5.heap.size w5 (w5.alloc (.cells #[.slice A5 q.length c5, .bool wr] 31)) := below_alloc (Below.refl _ _) _
       have hsa : (w5.alloc (.cells #[.slice A5 q.length c5, .bool wr] 31)).heap.size = w5.heap.size + 1 := by simp
       have hBa := blk_new w5 (.cells #[.slice A5 q.length c5, .bool wr] 31)
       have h4a : Below w4.heap.size w4 (w5.alloc (.cells #[.slice A5 q.length c5, .bool wr] 31)) := hb5.trans (hba.mono hb5.size)
       have h39 := store_new (w5.alloc (.cells #[.slice A5 q.length c5, .bool wr] 31)) 5
       rw [hsa] at h39
       clear h42 hR5 hb5)
    | (go_at_call 39; refine h39.mono ?_; rintro e w6 ⟨gs, rfl, hgs, hS, hb6⟩
       rw [← hsa] at hb6
       have hSb := hS.all_bnd
       have h46 : Below w4.heap.size w4 w6 := h4a.trans (hb6.mono (by omega))
       have hB6 := blk_below (w := _) (by exact hBa) hb6
       have hF6 := Kd.F_below (Kd.F_below hF5 hba) hb6
       have hs6 := hb6.size
       clear h39 hS hb6 h4a hF5 hba hBa)
    | (go_at_call 33; refine (page_new _).mono ?_; rintro e w7 ⟨gp, rfl, hgp, hP, hb7⟩
       have hPb := hP.bound
       have hS7 := hSb.below hb7
       have h47 := h46.trans (hb7.mono h46.size)
       have hB7 := blk_below hB6 hb7
       have hF7 := Kd.F_below hF6 hb7
       have hR7 := Kd.R_below hRr4 (h47.mono (Nat.le_refl _))
       clear x0 x1 y0 y1
       obtain ⟨x0, x1, y0, y1⟩ := blk2 (blk_below hB4 h47)
       have hs7 := hb7.size
       have hadd := store_add w7 _ gs (min (max 5 0) 1000000) 0 0 _ (some ⟨g2, 0, none⟩) c2 q wr (rowB q wr) hS7 ⟨fun p hp => by simp at hp, fun p hp => by simp at hp, trivial⟩ rfl (by decide) (by decide) (by decide) (by decide) (fun k => k ≠ w.heap.size ∧ k < w3.heap.size) (Kd.R_F hR7) (fun k hk hk2 => by have := hk2.1; omega) (fun W h => may_t q wr hm (some ⟨g2, 0, none⟩) c2 hcq W h) (fun W h => put_t q wr hm (some ⟨g2, 0, none⟩) c2 hcq W h)
       clear hP hSb hb7 h46 hB6 hF6 hS7)
    | (go_at_call 40; refine hadd.mono ?_; rintro e w8 ⟨rfl, ps8, n8, g8, hS8, hI8, hfl8, hn8, hg8, hf8⟩
       rw [show min ((0 : Int) + 1) (min (max 5 0) 1000000) = 1 by decide] at hn8
       subst hn8
       obtain rfl : g8 = 0 := by omega
       have hfl8' : flat ps8 = [rowB q wr] := hfl8
       have hB8 := hf8.old (fun hk => by have := hk.1; omega) (blk_below hB4 h47)
       have hX8 := hf8.old (fun hk => by have := hk.1; omega) hB7
       have hR8 := Kd.R_step hR7 (fun k hk hlt => hf8.block k hlt (fun h => by have := h.1; omega))
       have hF8 := Kd.F_step hF7 (fun k hk hlt => hf8.block k hlt (fun h => by have := h.1; have := hk.2.2.1; omega))
       have hP8 := hPb.fr hf8 (fun k hk hk2 => by have := hk.1; have := hk2.2; omega)
       clear x0 x1 y0 y1
       obtain ⟨x0, x1, y0, y1⟩ := blk2 hB8
       have hpadd := page_add w8 _ gp [] (some ⟨g2, 0, none⟩) c2 q wr (rowB q wr) true hP8 (Kd.R_reads' hR8).2.2 (fun W h => put_t q wr hm (some ⟨g2, 0, none⟩) c2 hcq W h)
       have hs8 := hf8.size
       clear hadd hfl8 hg8 hPb hR7 hF7 hP8 hB7)
    | (go_at_call 34; refine hpadd.mono ?_; rintro e w9 ⟨rfl, hP9, hf9⟩
       have hB9 := hf9.old (fun hk => by have := hk.1; omega) hB8
       have hX9 := hf9.old (fun hk => by have := hk.1; omega) hX8
       have hR9 := Kd.R_step hR8 (fun k hk hlt => hf9.block k hlt (fun h => by have := h.1; omega))
       have hF9 := Kd.F_step hF8 (fun k hk hlt => hf9.block k hlt (fun h => by have := h.1; have := hk.2.2.1; omega))
       have hS9 := hS8.all_bnd
       have hS9 := hS9.fr hf9 (fun k hk hk2 => by have h1 := hk.1; have h2 := hk2.1; have h3 := hk2.2; omega)
       have hP9b := hP9.bound
       have hs9 := hf9.size
       clear x0 x1 y0 y1 hpadd hR8 hF8 hB8 hX8 hS8 hP9)
    | fail)
  have hbw9 : Below w.heap.size w w9 := (hbw4.trans (h47.mono hbw4.size)).trans ((hf8.below (B := w.heap.size) (by omega) (fun k hk => by omega)).trans (hf9.below (B := w.heap.size) (by omega) (fun k hk => by omega)))
  rw [show addRows [] (rowB q wr) true = [rowB q wr] from rfl] at hP9b
  have hfl9 : flat (ps8.map (P.bnd w8)) = [rowB q wr] := by rw [flat_bnd]; exact hfl8'
  have hI9 : Inv (ps8.map (P.bnd w8)) := hI8.bnd
  rw [hsa] at hs6
  clear hB4 hb4 hbw4 h47 hf8 hf9 hfl8' hI8 hsa hbl hR3 hR3b hRr4 hbw3 hB3
  generalize ps8.map (P.bnd w8) = ps at hS9 hfl9 hI9
  obtain ⟨x0, x1, y0, y1⟩ := blk2 hB9
  go_wp2
  go_loopg [49] (q.length + 1) (fun kq vc w' => ∃ (j : Nat) (l' : List S45), vc = .int .i64 j ∧ Aside0 (j ≤ q.length ∧ kq = q.length + 1 - j ∧ l'.length = q.length ∧ Kd.R k45 45 w' w.heap.size (fun k => k ≠ w.heap.size ∧ k < w3.heap.size) (.slice (some ⟨g2, 0, none⟩) q.length c2) l' ∧ Fr (fun k => k = g2) w9 w'))
  case atStart => exact ⟨0, q, rfl, ⟨Nat.zero_le _, rfl, rfl, hR9, Fr.refl _ _⟩⟩
  case round =>
    obtain ⟨j, l', rfl, HA⟩ := hrel
    have hBr := HA.out.2.2.2.2.old (fun h => hgn3 h.symm) hB9
    obtain ⟨x0, x1, y0, y1⟩ := blk2 hBr
    by_cases hlt : j < q.length
    · have hw1 : IntKind.i64.wrap ((j : Int) + 1) = (j : Int) + 1 := by rw [IntKind.wrap_i64]; omega
      have hj0 : (0 : Int) ≤ (j : Int) := by omega
      have hj1 : (j : Int) < q.length := by omega
      obtain ⟨cs, hcl, hM, hcc, hfz⟩ := Kd.R_elem HA.out.2.2.2.1 z45 (j : Int) hj0 hj1
      generalize l'.getD (j : Int).toNat z45 = y at hM
      obtain rfl := k45_openM hM
      have hsz : k45.sz = 3 := rfl
      have hseg := (Kd.R_seg HA.out.2.2.2.1 (j : Int) hj0 hj1 (j := 2) (seg := [.int .i64 77]) hcl hcc (by decide) (okp := fun _ => False) (x' := ⟨y.f0, y.f1, 77⟩) (k45_mkM _ _ _ ⟨y.f0, y.f1, 77⟩) (fun _ hk => hk.elim)).1
      rw [Int.toNat_natCast, hsz] at hcc hfz hseg
      have q0 := hcc 0 _ rfl
      have q1 := hcc 1 _ rfl
      have q2 := hcc 2 _ rfl
      have f2 := hfz 2
      rw [Nat.add_zero] at q0
      clear hcc hfz hM hcl
      go_wp2
      go_roundg (q.length + 1 - (j + 1))
      case measure => rw [HA.out.2.1]; omega
      case rel => exact ⟨j + 1, l'.set j ⟨y.f0, y.f1, 77⟩, by simp, ⟨hlt, rfl, by rw [List.length_set]; exact HA.out.2.2.1, hseg, HA.out.2.2.2.2.setCell (p := ⟨g2, j * 3 + 2, none⟩) rfl _⟩⟩
    · have hfrw10 := HA.out.2.2.2.2
      rename World => w10
      clear HA x0 x1 y0 y1
      have hB10 := hfrw10.old (fun h => hgn3 h.symm) hB9
      have hX10 := hfrw10.old (k := w5.heap.size) (fun h => by omega) hX9
      have hF10 := Kd.F_step hF9 (fun k hk hlt => hfrw10.block k hlt (fun h => by have := hk.2.1; omega))
      have hS10 := hS9.fr hfrw10 (fun k hk h => by (try dsimp only at hk h); omega)
      have hP10 := hP9b.fr hfrw10 (fun k hk h => by (try dsimp only at hk h); omega)
      have hs10 := hfrw10.size
      have hbw10 := hbw9.trans (hfrw10.below (B := w.heap.size) hbw9.size (fun k hk => by have := (hR9.1 g2 rfl); have := Kd.R_base hR9 g2 rfl; omega))
      clear hB9 hX9 hF9 hS9 hP9b hbw9 hR9
      have hat := store_at_in w10 _ gs _ 1 0 ps 0 (rowB q wr) q wr (rowB q wr).length 0 hS10 hI9 (by rw [hfl9]; rfl) (by decide) (by decide) (by rw [hfl9]; rfl) (get_t q wr hm)
      go_upto_region 18 with (first
        | (go_at_call 43; refine hat.mono ?_; rintro e w11 ⟨v11, rfl, hR11, hb11⟩
           obtain ⟨A11, c11, hv11⟩ := Kd.R_slice hR11; subst hv11
           have hba : Below w11.heap.size w11 (w11.alloc (.cells #[.slice A11 q.length c11, .bool wr] 31)) := below_alloc (Below.refl _ _) _
           have hsa : (w11.alloc (.cells #[.slice A11 q.length c11, .bool wr] 31)).heap.size = w11.heap.size + 1 := (by simp)
           have hXa := blk_new w11 (.cells #[.slice A11 q.length c11, .bool wr] 31)
           have hRa := Kd.R_below (Kd.R_mono (ok' := fun k => w10.heap.size ≤ k ∧ k < w11.heap.size) (Kd.R_bound hR11) (fun k hk => ⟨hk.2.1, hk.2.2.1⟩)) hba
           have hb1a := hb11.trans (hba.mono hb11.size)
           have hs11 := hb11.size
           have hpat := page_at_in (w11.alloc (.cells #[.slice A11 q.length c11, .bool wr] 31)) _ gp _ 0 (rowB q wr) q wr (rowB q wr).length 0 (hP10.below hb1a) (Int.le_refl _) rfl (get_t q wr hm)
           clear hat hR11 hb11 hba)
        | (go_at_call 36; refine hpat.mono ?_; rintro e w12 ⟨v12, rfl, hR12, hb12⟩
           obtain ⟨A12, c12, hv12⟩ := Kd.R_slice hR12; subst hv12
           have hba : Below w12.heap.size w12 (w12.alloc (.cells #[.slice A12 q.length c12, .bool wr] 31)) := below_alloc (Below.refl _ _) _
           have hs12a : (w12.alloc (.cells #[.slice A12 q.length c12, .bool wr] 31)).heap.size = w12.heap.size + 1 := (by simp)
           have hb2a := hb12.trans (hba.mono hb12.size)
           have hs12b := hb12.size
           have hY := blk_new w12 (.cells #[.slice A12 q.length c12, .bool wr] 31)
           have hRy := Kd.R_below (Kd.R_mono (ok' := fun k => w11.heap.size + 1 ≤ k ∧ k < w12.heap.size) (Kd.R_bound hR12) (fun k hk => ⟨by have := hk.2.1; omega, hk.2.2.1⟩)) hba
           have hX := blk_below (w := _) (by exact hXa) hb2a
           have hRx := Kd.R_below hRa hb2a
           have hall := hb1a.trans (hb2a.mono hb1a.size)
           clear hpat hR12 hXa hRa hb1a hb2a hba)
        | fail)
      obtain ⟨w13, hw13⟩ : ∃ w13, w13 = w12.alloc (.cells #[.slice A12 q.length c12, .bool wr] 31) := ⟨_, rfl⟩
      rw [← hw13] at hs12a hY hRy hX hRx hall ⊢
      have hW13 := blk_below hX10 hall
      have hF13 := Kd.F_below hF10 hall
      have hS13 := hS10.below hall
      have hP13 := hP10.below hall
      have hbw13 := hbw10.trans (hall.mono hbw10.size)
      clear hw13 hX10 hF10 hS10 hP10 hbw10 hall hB10
      rw [hsa] at hs12b
      obtain ⟨adx, hAx, _⟩ := at_T45 (Kd.R_reads' hRx).2.2 0 (by omega) (by omega)
      subst hAx
      obtain ⟨g3, rfl⟩ := Kd.R_head hRx
      obtain ⟨ady, hAy, _⟩ := at_T45 (Kd.R_reads' hRy).2.2 0 (by omega) (by omega)
      subst hAy
      obtain ⟨g4, rfl⟩ := Kd.R_head hRy
      have hg3 := hRx.1 g3 rfl
      have hg4 := hRy.1 g4 rfl
      obtain ⟨x0, x1, y0, y1⟩ := blk2 hX
      go_wp2
      go_loopg [71] (q.length + 1) (fun kq vc w' => ∃ (j : Nat) (l' : List S45), vc = .int .i64 j ∧ Aside0 (j ≤ q.length ∧ kq = q.length + 1 - j ∧ l'.length = q.length ∧ Kd.R k45 45 w' w10.heap.size (fun k => w10.heap.size ≤ k ∧ k < w11.heap.size) (.slice (some ⟨g3, 0, none⟩) q.length c11) l' ∧ Fr (fun k => k = g3) w13 w'))
      case atStart => exact ⟨0, q, rfl, ⟨Nat.zero_le _, rfl, rfl, hRx, Fr.refl _ _⟩⟩
      case round =>
        obtain ⟨j, l', rfl, HA⟩ := hrel
        have hBr := HA.out.2.2.2.2.old (fun h => by omega) hX
        obtain ⟨x0, x1, y0, y1⟩ := blk2 hBr
        by_cases hlt : j < q.length
        · have hw1 : IntKind.i64.wrap ((j : Int) + 1) = (j : Int) + 1 := by rw [IntKind.wrap_i64]; omega
          have hj0 : (0 : Int) ≤ (j : Int) := by omega
          have hj1 : (j : Int) < q.length := by omega
          obtain ⟨cs, hcl, hM, hcc, hfz⟩ := Kd.R_elem HA.out.2.2.2.1 z45 (j : Int) hj0 hj1
          generalize l'.getD (j : Int).toNat z45 = y at hM
          obtain rfl := k45_openM hM
          have hsz : k45.sz = 3 := rfl
          have hseg := (Kd.R_seg HA.out.2.2.2.1 (j : Int) hj0 hj1 (j := 0) (seg := [.int .i32 122]) hcl hcc (by decide) (okp := fun _ => False) (x' := ⟨122, y.f1, y.f2⟩) (k45_mkM _ _ _ ⟨122, y.f1, y.f2⟩) (fun _ hk => hk.elim)).1
          rw [Int.toNat_natCast, hsz] at hcc hfz hseg
          have q0 := hcc 0 _ rfl
          have q1 := hcc 1 _ rfl
          have q2 := hcc 2 _ rfl
          have f0 := hfz 0
          rw [Nat.add_zero] at q0 f0 hseg
          clear hcc hfz hM hcl
          go_wp2
          go_roundg (q.length + 1 - (j + 1))
          case measure => rw [HA.out.2.1]; omega
          case rel => exact ⟨j + 1, l'.set j ⟨122, y.f1, y.f2⟩, by simp, ⟨hlt, rfl, by rw [List.length_set]; exact HA.out.2.2.1, hseg, HA.out.2.2.2.2.setCell (p := ⟨g3, j * 3 + 0, none⟩) rfl _⟩⟩
        · have hfrw14 := HA.out.2.2.2.2
          rename World => w14
          clear HA x0 x1 y0 y1
          have hY14 := hfrw14.old (k := w12.heap.size) (fun h => by omega) hY
          have hW14 := hfrw14.old (k := w5.heap.size) (fun h => by omega) hW13
          have hF14 := Kd.F_step hF13 (fun k hk hlt => hfrw14.block k hlt (fun h => by have := hk.2.2.1; omega))
          have hS14 := hS13.fr hfrw14 (fun k hk h => by (try dsimp only at hk h); omega)
          have hP14 := hP13.fr hfrw14 (fun k hk h => by (try dsimp only at hk h); omega)
          have hRy14 := Kd.R_step hRy (fun k hk hlt => hfrw14.block k hlt (fun h => by omega))
          have hbw14 := hbw13.trans (hfrw14.below (B := w.heap.size) hbw13.size (fun k hk => by have := hbw13.size; omega))
          have hs14 := hfrw14.size
          clear hY hW13 hF13 hS13 hP13 hRy hbw13 hRx hX
          obtain ⟨x0, x1, y0, y1⟩ := blk2 hY14
          go_wp2
          go_loopg [83] (q.length + 1) (fun kq vc w' => ∃ (j : Nat) (l' : List S45), vc = .int .i64 j ∧ Aside0 (j ≤ q.length ∧ kq = q.length + 1 - j ∧ l'.length = q.length ∧ Kd.R k45 45 w' w10.heap.size (fun k => w11.heap.size + 1 ≤ k ∧ k < w12.heap.size) (.slice (some ⟨g4, 0, none⟩) q.length c12) l' ∧ Fr (fun k => k = g4) w14 w'))
          case atStart => exact ⟨0, q, rfl, ⟨Nat.zero_le _, rfl, rfl, (Kd.R_lower hRy14 (by rw [hsa]; omega)), Fr.refl _ _⟩⟩
          case round =>
            obtain ⟨j, l', rfl, HA⟩ := hrel
            have hBr := HA.out.2.2.2.2.old (fun h => by omega) hY14
            obtain ⟨x0, x1, y0, y1⟩ := blk2 hBr
            by_cases hlt : j < q.length
            · have hw1 : IntKind.i64.wrap ((j : Int) + 1) = (j : Int) + 1 := by rw [IntKind.wrap_i64]; omega
              have hj0 : (0 : Int) ≤ (j : Int) := by omega
              have hj1 : (j : Int) < q.length := by omega
              obtain ⟨cs, hcl, hM, hcc, hfz⟩ := Kd.R_elem HA.out.2.2.2.1 z45 (j : Int) hj0 hj1
              generalize l'.getD (j : Int).toNat z45 = y at hM
              obtain rfl := k45_openM hM
              have hsz : k45.sz = 3 := rfl
              have hseg := (Kd.R_seg HA.out.2.2.2.1 (j : Int) hj0 hj1 (j := 0) (seg := [.int .i32 122]) hcl hcc (by decide) (okp := fun _ => False) (x' := ⟨122, y.f1, y.f2⟩) (k45_mkM _ _ _ ⟨122, y.f1, y.f2⟩) (fun _ hk => hk.elim)).1
              rw [Int.toNat_natCast, hsz] at hcc hfz hseg
              have q0 := hcc 0 _ rfl
              have q1 := hcc 1 _ rfl
              have q2 := hcc 2 _ rfl
              have f0 := hfz 0
              rw [Nat.add_zero] at q0 f0 hseg
              clear hcc hfz hM hcl
              go_wp2
              go_roundg (q.length + 1 - (j + 1))
              case measure => rw [HA.out.2.1]; omega
              case rel => exact ⟨j + 1, l'.set j ⟨122, y.f1, y.f2⟩, by simp, ⟨hlt, rfl, by rw [List.length_set]; exact HA.out.2.2.1, hseg, HA.out.2.2.2.2.setCell (p := ⟨g4, j * 3 + 0, none⟩) rfl _⟩⟩
            · have hfrw15 := HA.out.2.2.2.2
              rename World => w15
              clear HA x0 x1 y0 y1
              have hW15 := hfrw15.old (k := w5.heap.size) (fun h => by omega) hW14
              have hF15 := Kd.F_step hF14 (fun k hk hlt => hfrw15.block k hlt (fun h => by have := hk.2.2.1; omega))
              have hS15 := hS14.fr hfrw15 (fun k hk h => by (try dsimp only at hk h); omega)
              have hP15 := hP14.fr hfrw15 (fun k hk h => by (try dsimp only at hk h); omega)
              have hbw15 := hbw14.trans (hfrw15.below (B := w.heap.size) hbw14.size (fun k hk => by have := hbw14.size; omega))
              have hs15 := hfrw15.size
              clear hY14 hW14 hF14 hS14 hP14 hRy14 hbw14
              have hat := store_at_in w15 _ gs _ 1 0 ps 0 (rowB q wr) q wr (rowB q wr).length 0 hS15 hI9 (by rw [hfl9]; rfl) (by decide) (by decide) (by rw [hfl9]; rfl) (get_t q wr hm)
              go_wp2_with (first
                | (go_at_call 43; refine hat.mono ?_; rintro e w16 ⟨v16, rfl, hR16, hb16⟩
                   obtain ⟨A16, c16, hv16⟩ := Kd.R_slice hR16; subst hv16
                   have hba : Below w16.heap.size w16 (w16.alloc (.cells #[.slice A16 q.length c16, .bool wr] 31)) := below_alloc (Below.refl _ _) _
                   have hsa6 : (w16.alloc (.cells #[.slice A16 q.length c16, .bool wr] 31)).heap.size = w16.heap.size + 1 := (by simp)
                   have hZa := blk_new w16 (.cells #[.slice A16 q.length c16, .bool wr] 31)
                   have hc16 := (Kd.R_reads' hR16).2.1
                   have hFz := Kd.F_below (Kd.R_F (Kd.R_bound hR16)) hba
                   have hb5a := hb16.trans (hba.mono hb16.size)
                   have hpat := page_at_in (w16.alloc (.cells #[.slice A16 q.length c16, .bool wr] 31)) _ gp _ 0 (rowB q wr) q wr (rowB q wr).length 0 (hP15.below hb5a) (Int.le_refl _) rfl (get_t q wr hm)
                   clear hat hR16 hba hb16)
                | (go_at_call 36; refine hpat.mono ?_; rintro e w17 ⟨v17, rfl, hR17, hb17⟩
                   obtain ⟨A17, c17, hv17⟩ := Kd.R_slice hR17; subst hv17
                   have hba : Below w17.heap.size w17 (w17.alloc (.cells #[.slice A17 q.length c17, .bool wr] 31)) := below_alloc (Below.refl _ _) _
                   have hVb := blk_new w17 (.cells #[.slice A17 q.length c17, .bool wr] 31)
                   have hc17 := (Kd.R_reads' hR17).2.1
                   have hFv := Kd.F_below (Kd.R_F (Kd.R_bound hR17)) hba
                   have hb6a := hb17.trans (hba.mono hb17.size)
                   have hZb := blk_below (w := _) (by exact hZa) hb6a
                   have hFz7 := Kd.F_below hFz hb6a
                   have hb57 := hb5a.trans (hb6a.mono hb5a.size)
                   have hWb := blk_below hW15 hb57
                   have hF17 := Kd.F_below hF15 hb57
                   have hbw17 := hbw15.trans (hb57.mono hbw15.size)
                   obtain ⟨z0, z1, _, _⟩ := blk2 hZb
                   obtain ⟨u0, u1, _, _⟩ := blk2 hVb
                   obtain ⟨t0, t1, _, _⟩ := blk2 hWb
                   have h29 := eqRow_ A16 c16 q wr A5 c5 q wr _ (Kd.F_now hFz7) hc16 (Kd.F_now hF17) hc5 (by omega)
                   rw [eqB_self] at h29
                   clear hpat hR17 hZa hFz hb5a hb6a hba hb17 hb57)
                | (go_at_call 29; refine h29.mono ?_; rintro e w18 ⟨rfl, hb18⟩
                   have h29b := eqRow_ A17 c17 q wr A5 c5 q wr w18 (Kd.F_now (Kd.F_below hFv hb18)) hc17 (Kd.F_now (Kd.F_below hF17 hb18)) hc5 (by omega)
                   rw [eqB_self] at h29b
                   have hbw18 := hbw17.trans (hb18.mono hbw17.size)
                   clear z0 z1 u0 u1 t0 t1 h29
                   obtain ⟨u0, u1, _, _⟩ := blk2 (blk_below hVb hb18)
                   obtain ⟨t0, t1, _, _⟩ := blk2 (blk_below hWb hb18))
                | (go_at_call 29; refine h29b.mono ?_; rintro e w19 ⟨rfl, hb19⟩)
                | fail)
              go_ret
              exact ⟨rfl, hbw18.trans (hb19.mono hbw18.size)⟩
end Go.Proofs.Ytkigdcihhlkkdaa.P
end
