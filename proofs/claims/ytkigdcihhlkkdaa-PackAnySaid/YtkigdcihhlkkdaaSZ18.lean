/- own texts of this session, put together -/
import Derived.Test.YtkigdcihhlkkdaaSZ11
import Derived.Test.YtkigdcihhlkkdaaSPx17
import Derived.Test.YtkigdcihhlkkdaaSZ8
import Derived.Test.YtkigdcihhlkkdaaSPx12
import Derived.Test.YtkigdcihhlkkdaaSZ3
import Derived.Test.YtkigdcihhlkkdaaSPx38
import Derived.Test.YtkigdcihhlkkdaaSZ10
import Derived.Laws.BitsAllLaws
import Derived.Test.YtkigdcihhlkkdaaSZ0
import Derived.Deep.Strs
import Derived.ChangeSlices
import Derived.DataElems
import Derived.Test.YtkigdcihhlkkdaaSZ7
import Derived.WideShapes
section
set_option linter.unusedVariables false
set_option linter.unusedSimpArgs false
namespace Go.Proofs.Ytkigdcihhlkkdaa.P
open Go.RowKit Go.Proofs.YtkigdcihhlkkdaaW.PrintWords Go.Proofs.YtkigdcihhlkkdaaW.PrintLast Go.Proofs.YtkigdcihhlkkdaaW.PrintMore
def row3 : List S45 := [⟨97, 1, 0⟩, ⟨97, 1, 0⟩, ⟨32, 1, 0⟩]
def bytes9 : List Int := [5, 2, 97, 1, 0, 1, 32, 1, 0]
theorem b_put3 : pack_Put.f 60 row3 true = some (bytes9, true) := by decide +kernel
theorem b_put0 : pack_Put.f 60 [] false = some ([0], true) := by decide +kernel
theorem b_may3 : pack_May.f 60 row3 true = some true := by decide +kernel
theorem b_may0 : pack_May.f 60 [] false = some true := by decide +kernel
theorem b_get3 : pack_Get.f 60 bytes9 = some (row3, true, 9, 0) := by kernel_rfl
theorem b_gu : pack_GetUint.f 60 [128, 1, 9] = some (128, 2) := by decide +kernel
theorem b_eq3 : pack_Eq.f 60 row3 true row3 true = some true := by decide +kernel
theorem b_one : rotuluslaw1_begun.f 60 = some true := by decide +kernel
theorem C_block {W : World} {g n : Nat} {l : List S45} (hg : W.heap[g]? = some (.cells (l.map cell3).flatten.toArray 45 (0, 0))) (hn : l.length ≤ 1000) : Kd.C k45 W (some ⟨g, 0, none⟩) l.length l := by
  refine ⟨rfl, by omega, fun _ => ⟨⟨g, 0, none⟩, rfl, fun j p hj => ⟨cell3 p, rfl, k45_mk W p, fun q u hq => ?_⟩⟩⟩
  have h4 : (⟨g, 0, none⟩ : Addr).add (j * k45.sz + q) = ⟨g, j * k45.sz + q, none⟩ := by unfold Addr.add; split <;> simp_all
  rw [h4, cell_of_row W g _ _ 45 (0, 0) hg]
  have hq3 : q < 3 := by have := (List.getElem?_eq_some_iff.1 hq).1; simpa [cell3] using this
  have key : ∀ (l : List S45) (j : Nat) (p : S45) (u : Value), l[j]? = some p → (cell3 p)[q]? = some u → (l.map cell3).flatten[j * 3 + q]? = some u := by
    intro l
    induction l with
    | nil => intro j p u hj; simp at hj
    | cons a t ih =>
      intro j p u hj hq
      rw [List.map_cons, List.flatten_cons]
      cases j with
      | zero =>
        simp only [List.getElem?_cons_zero, Option.some.injEq] at hj
        subst hj
        rw [List.getElem?_append_left (by simp [cell3]; omega)]
        simpa using hq
      | succ j =>
        rw [List.getElem?_cons_succ] at hj
        rw [List.getElem?_append_right (by simp [cell3]; omega)]
        have := ih j p u hj hq
        rw [← this]
        congr 1
        simp [cell3]
        omega
  have := key l j p u hj hq
  rw [show k45.sz = 3 from rfl]
  simpa using this
theorem F_block {W : World} {g : Nat} {l : List S45} (hg : W.heap[g]? = some (.cells (l.map cell3).flatten.toArray 45 (0, 0))) (hn : l.length ≤ 1000) : Kd.F k45 W (fun k => k = g) (some ⟨g, 0, none⟩) l.length l :=
  fun W' hW => C_block (g := g) (n := 0) ((hW g rfl (blk_lt hg)).trans hg) hn
set_option maxHeartbeats 1000000 in
set_option maxRecDepth 100000 in
theorem begun50 (w : World) : Calls Try.prog 50 #[] w fun e w' => e = .returned (.bool true) ∧ Below w.heap.size w w' := by
  have h := rotuluslaw1_begun.calls 60 true w b_one
  go_enter Try.func50, Try.ntmps50
  go_wp2_with (first | (go_at_call 64; refine h.mono ?_; rintro e w1 ⟨rfl, hb1⟩) | fail)
  go_ret
  exact ⟨rfl, hb1⟩
theorem put3_ (w : World) (A : Option Addr) (c : Nat) (hc : 3 ≤ c) (hC : Kd.C k45 w A row3.length row3) : Calls Try.prog 24 #[.agg #[.slice A row3.length c, .bool true]] w fun e w' => ∃ v0_ : Value, e = .returned (.tuple #[v0_, .bool true]) ∧ Kd.R (Kd.int .u8) 5 w' w.heap.size (fun _ => True) v0_ bytes9 ∧ Below w.heap.size w w' :=
  pack_Put.calls 60 A c row3 true bytes9 true w hC hc b_put3
theorem put0_ (w : World) (hC : Kd.C k45 w none ([] : List S45).length []) : Calls Try.prog 24 #[.agg #[.slice none ([] : List S45).length 0, .bool false]] w fun e w' => ∃ v0_ : Value, e = .returned (.tuple #[v0_, .bool true]) ∧ Kd.R (Kd.int .u8) 5 w' w.heap.size (fun _ => True) v0_ [0] ∧ Below w.heap.size w w' :=
  pack_Put.calls 60 none 0 [] false [0] true w hC (Nat.le_refl _) b_put0
theorem may3_ (w : World) (A : Option Addr) (c : Nat) (hc : 3 ≤ c) (hC : Kd.C k45 w A row3.length row3) : Calls Try.prog 26 #[.agg #[.slice A row3.length c, .bool true]] w fun e w' => e = .returned (.bool true) ∧ Below w.heap.size w w' :=
  pack_May.calls 60 A c row3 true true w hC hc b_may3
theorem may0_ (w : World) (hC : Kd.C k45 w none ([] : List S45).length []) : Calls Try.prog 26 #[.agg #[.slice none ([] : List S45).length 0, .bool false]] w fun e w' => e = .returned (.bool true) ∧ Below w.heap.size w w' :=
  pack_May.calls 60 none 0 [] false true w hC (Nat.le_refl _) b_may0
theorem get3_ (w : World) (A : Option Addr) (c : Nat) (hC : Kd.C (Kd.int .u8) w A bytes9.length bytes9) (hc : bytes9.length ≤ c) : Calls Try.prog 30 #[.slice A bytes9.length c] w fun e w' => ∃ v0_ : Value, e = .returned (.tuple #[.agg #[v0_, .bool true], .int .i64 9, .int .i64 0]) ∧ Kd.R k45 45 w' w.heap.size (fun _ => True) v0_ row3 ∧ Below w.heap.size w w' :=
  pack_Get.calls 60 A c bytes9 row3 true 9 0 w hC hc b_get3
theorem eq3_ (w : World) (A B : Option Addr) (c d : Nat) (hA : Kd.C k45 w A row3.length row3) (hc : 3 ≤ c) (hB : Kd.C k45 w B row3.length row3) (hd : 3 ≤ d) : Calls Try.prog 28 #[.agg #[.slice A row3.length c, .bool true], .agg #[.slice B row3.length d, .bool true]] w fun e w' => e = .returned (.bool true) ∧ Below w.heap.size w w' :=
  pack_Eq.calls 60 A c row3 true B d row3 true true w hA hc hB hd b_eq3
end Go.Proofs.Ytkigdcihhlkkdaa.P
end
section
set_option linter.unusedVariables false
set_option linter.unusedSimpArgs false
namespace Go.Proofs.Ytkigdcihhlkkdaa.P
open Go.RowKit Go.Proofs.YtkigdcihhlkkdaaW.PrintWords Go.Proofs.YtkigdcihhlkkdaaW.PrintLast Go.Proofs.YtkigdcihhlkkdaaW.PrintMore
attribute [local go_sem] Oper.semAt_some
theorem C_bytes3 {W : World} {g : Nat} (hg : W.heap[g]? = some (.cells #[.int .u8 128, .int .u8 1, .int .u8 9] 5 (0, 0))) : Kd.C (Kd.int .u8) W (some ⟨g, 0, none⟩) [(128 : Int), 1, 9].length [128, 1, 9] := by
  refine ⟨rfl, by decide, fun _ => ⟨⟨g, 0, none⟩, rfl, fun j p hj => ⟨[.int .u8 p], rfl, rfl, fun q u hq => ?_⟩⟩⟩
  have h0 : q = 0 := by have := (List.getElem?_eq_some_iff.1 hq).1; simpa using this
  subst h0
  have h4 : (⟨g, 0, none⟩ : Addr).add (j * (Kd.int .u8).sz + 0) = ⟨g, j, none⟩ := by unfold Addr.add; split <;> simp_all [Kd.int, Kd.scalar]
  rw [h4, blk_cell hg j]
  simp only [List.getElem?_cons_zero, Option.some.injEq] at hq
  subst hq
  match j, hj with
  | 0, hj => simp at hj; subst hj; rfl
  | 1, hj => simp at hj; subst hj; rfl
  | 2, hj => simp at hj; subst hj; rfl
  | n + 3, hj => simp at hj
theorem conv9 {W : World} {g c : Nat} (hF : Kd.C (Kd.int .u8) W (some ⟨g, 0, none⟩) bytes9.length bytes9) : (convert 23 9 (.slice (some ⟨g, 0, none⟩) 9 c)).run Try.prog W = .ok (.string ⟨#[5, 2, 97, 1, 0, 1, 32, 1, 0]⟩) W := by
  have h := run_convert_bytes_arg (P := Try.prog) W 23 5 Try.underlying23 Try.underlying5 g 0 9 c bytes9 rfl (fun i hi => by
    have := Kd.foot_int hF (i : Int) (by omega) (by exact_mod_cast hi)
    have e : (⟨g, 0, none⟩ : Addr).add i = ⟨g, 0 + i, none⟩ := by unfold Addr.add; split <;> simp_all
    rw [Int.toNat_natCast, e] at this
    exact this) 9 Try.underlying9
  rw [h]
  rfl
theorem eq59 (W : World) (b : Array Value) : (binOp .eql 59 (.func (.func 63) #[] b) .nilFunc).run Try.prog W = .ok (.bool false) W := by kernel_rfl
theorem sumR3 {xs : List Rw} (h : xs.map (fun x => (x.i, x.len)) = (List.range [bytes9].length).map (fun i => (i, row3.length))) : (xs.foldl (fun s x => wrap64 (s + wrap64 ((x.i : Int) + (x.len : Int)))) 0) = 3 := by
  match xs, h with
  | [], h => simp at h
  | [x], h =>
    simp only [List.map_cons, List.map_nil] at h
    have h2 : (x.i, x.len) = (0, 3) := by have := List.cons.inj h; exact this.1
    injection h2 with h3 h4
    simp [h3, h4, wrap64]
  | a :: b :: t, h => have := congrArg List.length h; simp at this
def sumR : List Rw → Int := fun l => l.foldl (fun s x => wrap64 (s + wrap64 ((x.i : Int) + (x.len : Int)))) 0
theorem gu_ (W : World) : Calls Try.prog 20 #[.slice (some ⟨W.heap.size, 0, none⟩) 3 3] (W.alloc (.cells #[.int .u8 128, .int .u8 1, .int .u8 9] 5)) fun e w' => e = .returned (.tuple #[.int .u64 128, .int .i64 2]) ∧ Below W.heap.size W w' :=
  (pack_GetUint.calls 60 (some ⟨W.heap.size, 0, none⟩) 3 [128, 1, 9] 128 2 (W.alloc (.cells #[.int .u8 128, .int .u8 1, .int .u8 9] 5)) (C_bytes3 (blk_new W _)) (by decide) b_gu).mono (fun e w' h => ⟨h.1, (below_alloc (Below.refl _ _) _).trans (h.2.mono (by simp))⟩)
set_option maxHeartbeats 8000000 in
set_option maxRecDepth 100000 in
theorem begun4_ (w : World) : Calls Try.prog 18 #[] w fun e w' => e = .returned (.bool true) ∧ Below w.heap.size w w' := by
  have hr0 := blk_new w (.cells #[.int .i32 97, .int .i64 1, .int .i64 0, .int .i32 97, .int .i64 1, .int .i64 0, .int .i32 32, .int .i64 1, .int .i64 0] 45)
  have hz0 : (w.alloc (.cells #[.int .i32 97, .int .i64 1, .int .i64 0, .int .i32 97, .int .i64 1, .int .i64 0, .int .i32 32, .int .i64 1, .int .i64 0] 45)).heap.size = w.heap.size + 1 := by simp
  have hr1 := blk_alloc hr0 (.cells #[.slice (some ⟨w.heap.size, 0, none⟩) 3 3, .bool true] 31)
  have hx1 := blk_new (w.alloc (.cells #[.int .i32 97, .int .i64 1, .int .i64 0, .int .i32 97, .int .i64 1, .int .i64 0, .int .i32 32, .int .i64 1, .int .i64 0] 45)) (.cells #[.slice (some ⟨w.heap.size, 0, none⟩) 3 3, .bool true] 31)
  rw [hz0] at hx1
  have hb1 : Below w.heap.size w ((w.alloc (.cells #[.int .i32 97, .int .i64 1, .int .i64 0, .int .i32 97, .int .i64 1, .int .i64 0, .int .i32 32, .int .i64 1, .int .i64 0] 45)).alloc (.cells #[.slice (some ⟨w.heap.size, 0, none⟩) 3 3, .bool true] 31)) := below_alloc (below_alloc (Below.refl _ _) _) _
  have hw1e : ∃ w1, w1 = (w.alloc (.cells #[.int .i32 97, .int .i64 1, .int .i64 0, .int .i32 97, .int .i64 1, .int .i64 0, .int .i32 32, .int .i64 1, .int .i64 0] 45)).alloc (.cells #[.slice (some ⟨w.heap.size, 0, none⟩) 3 3, .bool true] 31) := ⟨_, rfl⟩
  have hput := put3_ ((w.alloc (.cells #[.int .i32 97, .int .i64 1, .int .i64 0, .int .i32 97, .int .i64 1, .int .i64 0, .int .i32 32, .int .i64 1, .int .i64 0] 45)).alloc (.cells #[.slice (some ⟨w.heap.size, 0, none⟩) 3 3, .bool true] 31)) (some ⟨w.heap.size, 0, none⟩) 3 (by decide) (C_block (n := 0) hr1 (by decide))
  refine (callsIn_wide (n := 4)).1 ?_
  refine callsIn_of_wp_marks Try.func18 rfl trivial ?_ rfl
  simp only [Try.ntmps18, List.size_toArray, List.length_cons, List.length_nil, Nat.reduceAdd, Nat.reduceSub, Array.replicate_succ, Array.replicate_zero, List.push_toArray, List.append_toArray, List.nil_append, List.cons_append]
  refine wpIn_wide.2 ?_
  go_upto_region 10 with (first
    | (go_at_call 24; refine hput.mono ?_; rintro e w2 ⟨v2, rfl, hR2, hb2⟩
       obtain ⟨A2, c2, hv2⟩ := Kd.R_slice hR2; change v2 = .slice A2 9 c2 at hv2; subst hv2
       have hC2 := Kd.R_reads' hR2
       obtain ⟨ad2, hA2, _⟩ := hC2.2.2.2.2 (by decide)
       subst hA2
       obtain ⟨g2, rfl⟩ := Kd.R_head hR2
       have hFb2 := Kd.R_F (Kd.R_bound hR2)
       have hrow2 := blk_below hr1 hb2
       have hbox2 := blk_below hx1 hb2
       have hbb2 : Below w.heap.size w w2 := hb1.trans (hb2.mono hb1.size)
       clear hR2 hb2)
    | (go_at_call 30; refine (get3_ _ (some ⟨g2, 0, none⟩) c2 hC2.2.2 hC2.2.1).mono ?_; rintro e w3 ⟨v3, rfl, hR3, hb3⟩
       obtain ⟨A3, c3, hv3⟩ := Kd.R_slice hR3; change v3 = .slice A3 3 c3 at hv3; subst hv3
       have hcx := (Kd.R_reads' hR3).2.1
       have hFx3 := Kd.R_F (Kd.R_bound hR3)
       have hxb3 := blk_new w3 (.cells #[.slice A3 3 c3, .bool true] 31)
       have hgu := gu_ (w3.alloc (.cells #[.slice A3 3 c3, .bool true] 31))
       rw [show (w3.alloc (.cells #[.slice A3 3 c3, .bool true] 31)).heap.size = w3.heap.size + 1 by simp] at hgu
       have hrow3 := blk_below hrow2 hb3
       have hbox3 := blk_below hbox2 hb3
       have hFb3 := Kd.F_below hFb2 hb3
       have hbb3 : Below w.heap.size w w3 := hbb2.trans (hb3.mono hbb2.size)
       clear hR3 hb3)
    | (go_at_call 20; refine hgu.mono ?_; rintro e w4 ⟨rfl, hb4⟩
       have hb34 : Below w3.heap.size w3 w4 := (below_alloc (Below.refl _ _) _).trans (hb4.mono (by omega))
       have hAx := Aside0.mk (And.intro (blk_below (w := _) (by exact hxb3) (show Below (w3.alloc (.cells #[.slice A3 3 c3, .bool true] 31)).heap.size _ w4 by simpa using hb4)) (And.intro (blk_below hrow3 hb34) (And.intro (blk_below hbox3 hb34) (And.intro (Kd.F_bound (Kd.F_below hFb3 hb34)) (And.intro (Kd.F_bound (Kd.F_below hFx3 hb34)) (hbb3.trans (hb34.mono hbb3.size)))))))
       clear hb4 hb34 hxb3 hrow3 hbox3 hFb3 hFx3 hbb3 hC2 hput hr0 hr1 hx1 hb1 hbb2 hbox2 hrow2 hFb2 hz0 hw1e)
    | (go_at_call 33; refine (page_new _).mono ?_; rintro e w5 ⟨gp, rfl, hgp, hP5, hb5⟩
       have hP5b := hP5.bound
       have hnew := store_new w5 1
       clear hP5)
    | (go_at_call 39; refine hnew.mono ?_; rintro e w6 ⟨gs, rfl, hgs, hS6, hb6⟩
       have hb46 : Below w4.heap.size w4 w6 := hb5.trans (hb6.mono hb5.size)
       have hbox6 := blk_below hAx.out.2.2.1 hb46
       obtain ⟨bx0, bx1, bx2, bx3⟩ := blk2 hbox6
       have hadd := page_add w6 _ gp [] (some ⟨w.heap.size, 0, none⟩) 3 row3 true bytes9 true (hP5b.below hb6) (C_block (n := 0) (blk_below hAx.out.2.1 hb46) (by decide)) (fun w h => put3_ w _ 3 (by decide) h)
       have hSx := Aside0.mk (And.intro hS6.all_bnd (And.intro hb46 (And.intro hb6.size (And.intro hb5.size (And.intro hgp hgs)))))
       clear hS6 hb6 hb5 hb46 hP5b hnew hgp hgs hbox6)
    | (go_at_call 34; refine hadd.mono ?_
       rintro e w7 ⟨rfl, hP7, hf7⟩
       have hSo := hSx.out
       have hb47 : Below w4.heap.size w4 w7 := hSo.2.1.trans (hf7.below (B := w4.heap.size) hSo.2.1.size (fun k hk => hk.1))
       have hS7 := hSo.1.fr hf7 (fun k hk hk2 => by have h1 := hk.1; have h2 := hk2.2; omega)
       have hat := page_at_in w7 _ gp _ 0 bytes9 row3 true 9 0 hP7.bound (Int.le_refl _) rfl get3_
       have hPx := Aside0.mk (And.intro hP7.bound (And.intro hS7 (And.intro hb47 hf7.size)))
       clear hP7 hS7 hb47 hf7 hadd hSo bx0 bx1 bx2 bx3)
    | (go_at_call 36; refine hat.mono ?_
       rintro e w8 ⟨v8, rfl, hR8, hb8⟩
       obtain ⟨A8, c8, hv8⟩ := Kd.R_slice hR8; change v8 = .slice A8 3 c8 at hv8; subst hv8
       have hYx := Aside0.mk (And.intro (Kd.R_F (Kd.R_bound hR8)) (And.intro (Kd.R_reads' hR8).2.1 hb8))
       clear hR8 hb8 hat)
    | fail)
  obtain ⟨w9, hw9⟩ : ∃ w9, w9 = w8.alloc (.cells #[.slice A8 3 c8, .bool true] 31) := ⟨_, rfl⟩
  rw [← hw9]
  have hyb9 : w9.heap[w8.heap.size]? = some (.cells #[.slice A8 3 c8, .bool true] 31 (0, 0)) := by rw [hw9]; exact blk_new _ _
  have hb89 : Below w8.heap.size w8 w9 := by rw [hw9]; exact below_alloc (Below.refl _ _) _
  clear hw9
  have hPo := hPx.out
  have hSo := hSx.out
  have hYo := hYx.out
  have hAo := hAx.out
  have hb79 : Below w7.heap.size w7 w9 := hYo.2.2.trans (hb89.mono hYo.2.2.size)
  have hb49 : Below w4.heap.size w4 w9 := hPo.2.2.1.trans (hb79.mono hPo.2.2.1.size)
  have hS9 := hPo.2.1.below hb79
  have hs9 := hb49.size
  have hs79 := hb79.size
  have hs46 := hSo.2.1.size
  have hwl := hAo.2.2.2.2.2.size
  have hlt3 := blk_lt hAo.1
  have hltw := blk_lt hAo.2.1
  have hltx := blk_lt hAo.2.2.1
  have hadd1 := store_add w9 _ gs 1 0 0 _ none 0 [] false [0] hS9 ⟨fun p hp => by simp at hp, fun p hp => by simp at hp, trivial⟩ rfl (by decide) (by decide) (by decide) (by decide) (fun _ => False) (Kd.F_nil _ _ _) (fun _ h => h.elim) (fun w h => may0_ w h) (fun w h => put0_ w h)
  have hRow := Aside0.mk (And.intro hb49 (And.intro hyb9 (And.intro hS9 (And.intro hb79 (And.intro hs9 (And.intro hs79 (And.intro hs46 (And.intro hlt3 (And.intro hltw (And.intro hltx hb89))))))))))
  clear hyb9 hb89 hPo hSo hYo hAo hb79 hb49 hS9 hs9 hs79 hs46 hwl hlt3 hltw hltx
  go_upto_region 11 with (first
    | (go_at_call 40; refine hadd1.mono ?_; rintro e w10 ⟨rfl, ps1, n1, g1, hS10, hI10, hfl10, hn10, hg10, hf10⟩
       rw [show min ((0 : Int) + 1) 1 = 1 by decide] at hn10
       subst hn10
       obtain rfl : g1 = 0 := by omega
       have hfl10' : flat ps1 = [[0]] := hfl10
       have hWo := hRow.out
       have hSo := hSx.out
       have hAo := hAx.out
       have hb410 : Below w4.heap.size w4 w10 := hWo.1.trans (hf10.below (B := w4.heap.size) hWo.1.size (fun k hk => by have h1 := hk.1; omega))
       have hbox10 := blk_below hAo.2.2.1 hb410
       obtain ⟨bx0, bx1, bx2, bx3⟩ := blk2 hbox10
       have hadd2 := store_add w10 _ gs 1 1 0 ps1 (some ⟨w.heap.size, 0, none⟩) 3 row3 true bytes9 hS10 hI10 (by rw [hfl10']; rfl) (by decide) (by decide) (by decide) (by decide) (fun k => k = w.heap.size) (F_block (blk_below hAo.2.1 hb410) (by decide)) (fun k hk hk2 => by subst hk; rcases hk2 with h | h <;> omega) (fun w h => may3_ w _ 3 (by decide) h) (fun w h => put3_ w _ 3 (by decide) h)
       have hT10 := Aside0.mk (And.intro hf10 (And.intro hb410 hfl10'))
       clear hadd1 hS10 hI10 hfl10 hfl10' hg10 hf10 hWo hSo hAo hb410 hbox10)
    | fail)
  go_upto_region 13 with (first
    | (go_at_call 40; refine hadd2.mono ?_; rintro e w11 ⟨rfl, ps2, n2, g2, hS11, hI11, hfl11, hn11, hg11, hf11⟩
       rw [show min ((1 : Int) + 1) 1 = 1 by decide] at hn11
       subst hn11
       obtain rfl : g2 = 1 := by omega
       have hfl11' : flat ps2 = [bytes9] := by rw [hfl11, hT10.out.2.2]; rfl
       have hat11 := store_at_in w11 _ gs 1 1 1 ps2 0 bytes9 row3 true 9 0 hS11 hI11 (by rw [hfl11']; rfl) (by decide) (by decide) (by rw [hfl11']; rfl) get3_
       have hU11 := Aside0.mk (And.intro hS11 (And.intro hI11 (And.intro hfl11' hf11)))
       clear hadd2 hS11 hI11 hfl11 hfl11' hg11 hf11 bx0 bx1 bx2 bx3)
    | (go_at_call 43; refine hat11.mono ?_
       rintro e w12 ⟨v12, rfl, hR12, hb12⟩
       obtain ⟨A12, c12, hv12⟩ := Kd.R_slice hR12; change v12 = .slice A12 3 c12 at hv12; subst hv12
       have hZx := Aside0.mk (And.intro (Kd.R_F (Kd.R_bound hR12)) (And.intro (Kd.R_reads' hR12).2.1 hb12))
       clear hR12 hb12 hat11)
    | fail)
  obtain ⟨w13, hw13⟩ : ∃ w13, w13 = w12.alloc (.cells #[.slice A12 3 c12, .bool true] 31) := ⟨_, rfl⟩
  rw [← hw13]
  have hzb13 : w13.heap[w12.heap.size]? = some (.cells #[.slice A12 3 c12, .bool true] 31 (0, 0)) := by rw [hw13]; exact blk_new _ _
  have hb1213 : Below w12.heap.size w12 w13 := by rw [hw13]; exact below_alloc (Below.refl _ _) _
  clear hw13
  have hall1 := store_all (.pointer (some ⟨gs, 0, none⟩)) ⟨_, rfl⟩ (w13.alloc (.cells #[.int .i64 0] 3))
  have hall2 := store_all (.pointer (some ⟨gs, 0, none⟩)) ⟨_, rfl⟩ ((w13.alloc (.cells #[.int .i64 0] 3)).alloc (.cells #[.pointer (some ⟨gs, 0, none⟩)] 56))
  rw [show (w13.alloc (.cells #[.int .i64 0] 3)).heap.size = w13.heap.size + 1 by simp] at hall1
  rw [show ((w13.alloc (.cells #[.int .i64 0] 3)).alloc (.cells #[.pointer (some ⟨gs, 0, none⟩)] 56)).heap.size = w13.heap.size + 2 by simp] at hall2
  have hM := Aside0.mk (And.intro hzb13 hb1213)
  have he59 := eq59
  clear hzb13 hb1213
  go_upto_region 16 with (first
    | (go_at_call 41; refine hall1.mono ?_; rintro e w14 ⟨rfl, rfl⟩; clear hall1)
    | fail)
  go_wp2_with (first
    | (go_at_call 41; refine hall2.mono ?_; rintro e w15 ⟨rfl, hw15⟩; clear hall2)
    | fail)
  obtain ⟨w15, hw15e⟩ : ∃ w15, w15 = ((w13.alloc (.cells #[.int .i64 0] 3)).alloc (.cells #[.pointer (some ⟨gs, 0, none⟩)] 56)).alloc (.cells #[.pointer (some ⟨gs, 0, none⟩)] 56) := ⟨_, rfl⟩
  rw [← hw15e]
  have hcb15 : w15.heap[w13.heap.size]? = some (.cells #[.int .i64 0] 3 (0, 0)) := by rw [hw15e]; exact blk_alloc (blk_alloc (blk_new _ _) _) _
  have hbx15 : w15.heap[w13.heap.size + 2]? = some (.cells #[.pointer (some ⟨gs, 0, none⟩)] 56 (0, 0)) := by
    have := blk_new ((w13.alloc (.cells #[.int .i64 0] 3)).alloc (.cells #[.pointer (some ⟨gs, 0, none⟩)] 56)) (.cells #[.pointer (some ⟨gs, 0, none⟩)] 56)
    rw [hw15e]
    simpa using this
  have hb1315 : Below w13.heap.size w13 w15 := by rw [hw15e]; exact below_alloc (below_alloc (below_alloc (Below.refl _ _) _) _) _
  clear hw15e
  have hUo := hU11.out
  have hb1115 : Below w11.heap.size w11 w15 := hZx.out.2.2.trans ((hM.out.2.trans (hb1315.mono hM.out.2.size)).mono hZx.out.2.2.size)
  have hSb := hUo.1.all_bnd.below hb1115
  have hs1113 : w11.heap.size ≤ w13.heap.size := Nat.le_trans hZx.out.2.2.size hM.out.2.size
  have hs1315 := blk_lt hbx15
  have hL := Aside0.mk (And.intro hcb15 (And.intro hbx15 (And.intro hb1315 (And.intro hb1115 (And.intro hs1113 hs1315)))))
  have hseq := store_all_stops (4 - 1) (w13.heap.size + 2) (by decide) _ gs 1 1 1 _ (fun _ => (row3, true)) w15 hUo.2.1.bnd (by rw [flat_bnd, hUo.2.2.1]; rfl) (by decide) (fun k hk => Nat.lt_of_lt_of_le hk.2 hb1115.size) (fun i b hb => by
    rw [flat_bnd, hUo.2.2.1] at hb
    match i, hb with
    | 0, hb => simp only [List.getElem?_cons_zero, Option.some.injEq] at hb; subst hb; exact ⟨9, 0, get3_⟩
    | n + 1, hb => simp at hb) hSb hbx15
  rw [flat_bnd, hUo.2.2.1] at hseq
  refine (fun (a0 : Act) (ha0 : a0 = _) => ?_ : ∀ a0 : Act, a0 = _ → Code.wp Try.prog _ _ a0 _) _ rfl
  refine (wpIn_wide (n := 4)).1 ?_
  refine wpIn_rangeFunc_ownH (F := Fence.wide) (n := 4) rfl (by decide) (gf := 63) (lb := #[.pointer (some ⟨w13.heap.size + 2, 0, none⟩)]) (by rw [ha0]; rfl) trivial (enters_of Try.func63 (by kernel_rfl) rfl) hseq
    (fun h k => KeepOn.trans h k) ?hKb (Below.refl _ _) (fun _ => rfl)
    (fun pre W => W.heap[w13.heap.size]? = some (.cells #[.int .i64 (sumR pre)] 3 (0, 0)) ∧ Fr (fun k => k = w13.heap.size) w15 W) (fun _ _ _ => False) ?hI (fun _ _ _ _ _ h _ _ => h) ⟨hcb15, Fr.refl _ _⟩
    (fun x a' W => ∃ g, w15.heap.size ≤ g ∧ W.heap[g]? = some (.cells #[.slice x.A x.len x.c, .bool x.wr] 31 (0, 0)) ∧ a' = { tmps := (((a0.tmps.setIfInBounds 73 (.int .i64 (x.i : Int))).setIfInBounds 74 (.agg #[.slice x.A x.len x.c, .bool x.wr])).setIfInBounds 18 (.int .i64 (x.i : Int))).setIfInBounds 19 (.pointer (some ⟨g, 0, none⟩)), defers := [] }) ?hAx ?assign ?body ?done ?stop
  case hKb =>
    intro W l o o' hl ho hc hw
    refine ⟨by simp [World.putObj], fun k hk => World.putObj_heap_other ?_⟩
    rcases hk with hk | hk
    · have := hk.2
      omega
    · omega
  case hI =>
    intro xs A B row hs hg hr
    have hf : Fr (fun k => w15.heap.size ≤ k) A B := Fr.of_grown hg (fun k hk => (hr k hk).1)
    exact ⟨hf.old (by omega) hs.1, hs.2.trans hf (fun i hi h => by omega)⟩
  case hAx =>
    rintro x a' _ A B row ⟨g, h1, h2, h3⟩ hg hr
    exact ⟨g, h1, (grownBy_keeps_cells hg (fun r e => (hr r e).2) h2 rfl).trans h2, h3⟩
  case assign =>
    rintro l pre x W K ⟨hi1, hi2⟩ hK
    have hsz := hi2.size
    have hK2 := hK
    clear hK
    subst ha0
    dsimp only [Rw.encs]
    gi_wp2
    refine hK2 _ _ ((KeepsOthers.alloc _ _).from _) ⟨by simp, fun k hk => Below.heap_alloc W _ k ?_⟩ ⟨blk_alloc hi1 _, hi2.alloc _⟩ ⟨W.heap.size, hsz, blk_new _ _, ?_⟩
    · rcases hk with hk | hk
      · have := hk.2
        omega
      · omega
    · rfl
  case body =>
    rintro l pre x a' W hl _ ⟨hi1, hi2⟩ ⟨g, hg1, hg2, rfl⟩ hlt
    subst ha0
    simp only [List.setIfInBounds_toArray, List.set_cons_zero, List.set_cons_succ]
    obtain ⟨y0, y1, y2, y3⟩ := blk2 hg2
    have z0 : W.cell? ⟨w13.heap.size, 0, none⟩ = some (.int .i64 (sumR pre)) := (blk_cell hi1 0).trans rfl
    have z1 := blk_frozen hi1 0
    gi_wp2
    refine ⟨(KeepsOthers.setCell _ _ _).from _, ⟨by simp [World.setCell], fun k hk => Below.heap_setCell W ⟨w13.heap.size, 0, none⟩ _ k ?_⟩, (blk_set hi1 0 _).trans ?_, hi2.setCell (p := ⟨w13.heap.size, 0, none⟩) rfl _⟩
    · show k ≠ w13.heap.size
      rcases hk with hk | hk
      · have := hk.2
        omega
      · omega
    · simp [sumR, List.foldl_append]
  case stop =>
    rintro D c pre W _ _ h _
    exact h.elim
  case done =>
    rintro D xs W hD hxs ⟨hi1, hi2⟩ hK
    subst ha0
    have hsum : sumR xs = 3 := sumR3 hxs
    rw [hsum] at hi1
    have hAo := hAx.out
    have hSo := hSx.out
    have hPo := hPx.out
    have hYo := hYx.out
    have hRo := hRow.out
    have hTo := hT10.out
    have hUu := hU11.out
    have hZo := hZx.out
    have hMo := hM.out
    have hLo := hL.out
    have s45 := hSo.2.2.2.1
    have s56 := hSo.2.2.1
    have s46 := hSo.2.1.size
    have s67 := hPo.2.2.2
    have s78 := hYo.2.2.size
    have s79 := hRo.2.2.2.1.size
    have y9 := blk_lt hRo.2.1
    have s49 := hRo.1.size
    have s910 := hTo.1.size
    have s1011 := hUu.2.2.2.size
    have s1113 := hLo.2.2.2.2.1
    have s1315 := hLo.2.2.2.2.2
    have b4W : Below w4.heap.size w4 W := ((hTo.2.1.trans (hUu.2.2.2.below (B := w4.heap.size) hTo.2.1.size (fun k hk => by rcases hk with hk | hk <;> omega))).trans (hLo.2.2.2.1.mono (by omega))).trans (hi2.below (B := w4.heap.size) (by omega) (fun k hk => by omega))
    have f9W : Fr (fun k => w5.heap.size ≤ k ∧ k < w6.heap.size) w9 W := ((hTo.1.mono (S1 := fun k => w5.heap.size ≤ k ∧ k < w6.heap.size) (fun k hk => by omega)).trans hUu.2.2.2 (fun i hi hk => by rcases hk with hk | hk <;> omega)).trans ((Fr.of_below hLo.2.2.2.1).trans hi2 (fun i hi hk => hk)) (fun i hi hk => by omega)
    have rB := blk_below hAo.2.2.1 b4W
    have xB := blk_below hAo.1 b4W
    have yB := f9W.old (k := w8.heap.size) (fun h => by omega) hRo.2.1
    have zB := hi2.old (k := w12.heap.size) (fun h => by have := blk_lt hMo.1; omega) (blk_below hMo.1 hLo.2.2.1)
    have rF := F_block (l := row3) (blk_below hAo.2.1 b4W) (by decide)
    have xF := Kd.F_below hAo.2.2.2.2.1 ((Below.refl _ _).trans b4W)
    have bF := Kd.F_below hAo.2.2.2.1 b4W
    have yF := Kd.F_step (Kd.F_bound (Kd.F_below hYo.1 (show Below w8.heap.size w8 w9 from hRo.2.2.2.2.2.2.2.2.2.2))) (fun k hk hlt => f9W.block k hlt (fun h => by have := hk.1.2.1; omega))
    have zF := (Kd.F_step (Kd.F_bound (Kd.F_below hZo.1 (hMo.2.trans (hLo.2.2.1.mono hMo.2.size)))) (fun k hk hlt => hi2.block k hlt (fun h => by have := hk.1.2.2.1; have := hMo.2.size; omega)))
    have pW := (hPo.1.below hRo.2.2.2.1).step (W' := W) (fun k hk hlt => f9W.block k hlt (fun h => by omega))
    have sW := hSb.fr hi2 (fun k hk hk2 => by omega)
    have hbW : Below w.heap.size w W := hAo.2.2.2.2.2.trans (b4W.mono hAo.2.2.2.2.2.size)
    have hcy : 3 ≤ c8 := hYo.2.1
    have hcz : 3 ≤ c12 := hZo.2.1
    have hcx3 : 3 ≤ c3 := hcx
    have hBx : Aside0 (∀ W', Below W.heap.size W W' → ((W'.cell? ⟨w.heap.size + 1, 0, none⟩ = some (.slice (some ⟨w.heap.size, 0, none⟩) 3 3) ∧ W'.cell? ⟨w.heap.size + 1, 1, none⟩ = some (.bool true)) ∧ (W'.cell? ⟨w3.heap.size, 0, none⟩ = some (.slice A3 3 c3) ∧ W'.cell? ⟨w3.heap.size, 1, none⟩ = some (.bool true)) ∧
        (W'.cell? ⟨w8.heap.size, 0, none⟩ = some (.slice A8 3 c8) ∧ W'.cell? ⟨w8.heap.size, 1, none⟩ = some (.bool true)) ∧ (W'.cell? ⟨w12.heap.size, 0, none⟩ = some (.slice A12 3 c12) ∧ W'.cell? ⟨w12.heap.size, 1, none⟩ = some (.bool true)) ∧ W'.cell? ⟨w13.heap.size, 0, none⟩ = some (.int .i64 3))) :=
      ⟨fun W' hb => ⟨⟨(blk2 (blk_below rB hb)).1, (blk2 (blk_below rB hb)).2.1⟩, ⟨(blk2 (blk_below xB hb)).1, (blk2 (blk_below xB hb)).2.1⟩, ⟨(blk2 (blk_below yB hb)).1, (blk2 (blk_below yB hb)).2.1⟩, ⟨(blk2 (blk_below zB hb)).1, (blk2 (blk_below zB hb)).2.1⟩, (blk_cell (blk_below hi1 hb) 0).trans rfl⟩⟩
    have hFx : Aside0 (∀ W', Below W.heap.size W W' → Kd.C k45 W' (some ⟨w.heap.size, 0, none⟩) row3.length row3 ∧ Kd.C k45 W' A3 row3.length row3 ∧ Kd.C k45 W' A8 row3.length row3 ∧ Kd.C k45 W' A12 row3.length row3 ∧ Kd.C (Kd.int .u8) W' (some ⟨g2, 0, none⟩) bytes9.length bytes9) :=
      ⟨fun W' hb => ⟨Kd.F_now (Kd.F_below rF hb), Kd.F_now (Kd.F_below xF hb), Kd.F_now (Kd.F_below yF hb), Kd.F_now (Kd.F_below zF hb), Kd.F_now (Kd.F_below bF hb)⟩⟩
    have hPS : Aside0 (∀ W', Below W.heap.size W W' → (PageAt W' _ gp [bytes9] ∧ StoreAt W' _ gs 1 1 1 _)) := ⟨fun W' hb => ⟨pW.below hb, sW.below hb⟩⟩
    have h50 := begun50 W
    have hbl : bytes9.length = 9 := rfl
    have hsl : (sumLen [bytes9] : Int) = 9 := rfl
    have hsl2 : (sumLen (addRows [] bytes9 true) : Int) = 9 := rfl
    have hEnd := Aside0.mk (And.intro hbW hK)
    clear rB xB yB zB rF xF bF yF zF pW sW hbW hAo hSo hPo hYo hRo hTo hUu hZo hMo hLo s45 s56 s46 s67 s78 s79 y9 s49 s910 s1011 s1113 s1315 b4W f9W hi1 hi2 hseq hSb hUo hb1115 hb1315 hcb15 hbx15 hK
    go_wp2_with (first
      | (go_at_call 50; refine h50.mono ?_; rintro e w17 ⟨rfl, hc17⟩
         obtain ⟨⟨q0, q1⟩, ⟨x0, x1⟩, ⟨y0, y1⟩, ⟨z0, z1⟩, c0⟩ := hBx.out _ hc17
         have hcv := conv9 (c := c2) (hFx.out _ hc17).2.2.2.2
         have h28 := eq3_ w17 A3 (some ⟨w.heap.size, 0, none⟩) c3 3 (hFx.out _ hc17).2.1 hcx3 (hFx.out _ hc17).1 (by decide)
         clear h50)
      | (go_at_call 28; refine h28.mono ?_; rintro e w18 ⟨rfl, hb18⟩
         have hc18 := hc17.trans (hb18.mono hc17.size)
         clear q0 q1 x0 x1 y0 y1 z0 z1 c0 hcv h28 hc17 hb18
         obtain ⟨⟨q0, q1⟩, ⟨x0, x1⟩, ⟨y0, y1⟩, ⟨z0, z1⟩, c0⟩ := hBx.out _ hc18
         have h28y := eq3_ w18 A8 (some ⟨w.heap.size, 0, none⟩) c8 3 (hFx.out _ hc18).2.2.1 hcy (hFx.out _ hc18).1 (by decide))
      | (go_at_call 28; refine h28y.mono ?_; rintro e w19 ⟨rfl, hb19⟩
         have hc19 := hc18.trans (hb19.mono hc18.size)
         clear q0 q1 x0 x1 y0 y1 z0 z1 c0 h28y hc18 hb19
         obtain ⟨⟨q0, q1⟩, ⟨x0, x1⟩, ⟨y0, y1⟩, ⟨z0, z1⟩, c0⟩ := hBx.out _ hc19
         have h38 := page_bytes w19 _ gp _ (hPS.out _ hc19).1 (by decide) (by decide))
      | (go_at_call 38; refine h38.mono ?_; rintro e w20 ⟨rfl, hb20⟩
         have hc20 := hc19.trans (hb20.mono hc19.size)
         clear q0 q1 x0 x1 y0 y1 z0 z1 c0 h38 hc19 hb20
         obtain ⟨⟨q0, q1⟩, ⟨x0, x1⟩, ⟨y0, y1⟩, ⟨z0, z1⟩, c0⟩ := hBx.out _ hc20
         have h28z := eq3_ w20 A12 (some ⟨w.heap.size, 0, none⟩) c12 3 (hFx.out _ hc20).2.2.2.1 hcz (hFx.out _ hc20).1 (by decide))
      | (go_at_call 28; refine h28z.mono ?_; rintro e w21 ⟨rfl, hb21⟩
         have hc21 := hc20.trans (hb21.mono hc20.size)
         clear q0 q1 x0 x1 y0 y1 z0 z1 c0 h28z hc20 hb21
         obtain ⟨⟨q0, q1⟩, ⟨x0, x1⟩, ⟨y0, y1⟩, ⟨z0, z1⟩, c0⟩ := hBx.out _ hc21
         have h45 := store_gone w21 _ gs 1 1 1 _ (hPS.out _ hc21).2
         have h44 := fun m => store_len (w21.drewN m) _ gs 1 1 1 _ ((hPS.out _ hc21).2.step (W' := w21.drewN m) (fun _ _ _ => rfl))
         have h26 := fun m => may3_ (w21.drewN m) (some ⟨w.heap.size, 0, none⟩) 3 (by decide) (Kd.C_drewN (hFx.out _ hc21).1 m))
      | (go_at_call 45; refine h45.mono ?_; rintro e w22 ⟨rfl, hd22⟩; obtain ⟨m1, rfl⟩ := hd22.out; clear hd22 h45)
      | (go_at_call 44; refine (h44 _).mono ?_; rintro e w23 ⟨rfl, hd23⟩; obtain ⟨m2, rfl⟩ := hd23.out; clear hd23 h44)
      | (go_at_call 26; refine (h26 _).mono ?_; rintro e w24 ⟨rfl, hb24⟩)
      | fail)
    have hc24 : Below W.heap.size W w24 := (pw_below_drewN hc21 _).trans (hb24.mono hc21.size)
    have hK24 := blk_below hEnd.out.2 hc24
    have hB24 : Below w.heap.size w w24 := hEnd.out.1.trans (hc24.mono hEnd.out.1.size)
    have hDw : w.heap.size ≤ D := by
      have h1 := hEnd.out.1.size
      have h2 := hAx.out.2.2.2.2.2.size
      have h3 := hRow.out.1.size
      have h4 := hT10.out.1.size
      have h5 := hU11.out.2.2.2.size
      have h6 := hL.out.2.2.2.1.size
      omega
    refine ⟨by simp, .inl ⟨_, _, rfl, run_takeDeferred hK24, ?_⟩⟩
    exact ⟨_, results_tmp rfl _ _ _, rfl, hB24.trans (belowK_b (w := w) (Nat.le_refl _) w24 D _ _ hDw hK24 rfl rfl)⟩
end Go.Proofs.Ytkigdcihhlkkdaa.P
end
section
set_option linter.unusedVariables false
set_option linter.unusedSimpArgs false
namespace Go.Proofs.Ytkigdcihhlkkdaa.P
open Go.RowKit Go.Shelf Go.Proofs.YtkigdcihhlkkdaaW.PrintWords Go.Proofs.YtkigdcihhlkkdaaW.PrintLast Go.Proofs.YtkigdcihhlkkdaaW.PrintMore Go.Proofs.Ytkigdcihhlkkdaa.Pure
attribute [local go_sem] Oper.semAt_some
attribute [local go_sem] max2_int min2_int max_two min_two
theorem wf_u8_ {x : Int} (h : (Lit.int .u8 x).wf = true) : 0 ≤ x ∧ x < 256 := by
  have h2 : IntKind.u8.min ≤ x ∧ x ≤ IntKind.u8.max := by simpa [Lit.wf] using h
  have e1 : IntKind.u8.min = 0 := by decide
  have e2 : IntKind.u8.max = 255 := by decide
  omega
theorem xor_u8_ (a b : Int) : 0 ≤ Go.bits .xor .u8 a b ∧ Go.bits .xor .u8 a b < 256 := by
  obtain ⟨z, hz⟩ : ∃ z, Go.bits .xor .u8 a b = IntKind.u8.wrap z := ⟨_, rfl⟩
  rw [hz, IntKind.wrap_u8']
  omega
theorem rowB_pos_ (l : List S45) (b : Bool) : 1 ≤ (rowB l b).length := by
  unfold rowB
  have h4 := numB_pos (2 * ((runs78 l).length : Int) + (if b then 1 else 0))
  rw [List.length_append]
  omega
set_option maxHeartbeats 16000000 in
set_option maxRecDepth 100000 in
theorem packAny_ (A0 : Option Addr) (c0 : Nat) (l0 : List Int) (A1 : Option Addr) (c1 : Nat) (l1 : List S45) (b1 : Bool) (at_ : Int) (x : Int) (w : World) (hC0 : Kd.C (Kd.int .u8) w A0 l0.length l0) (hc0 : l0.length ≤ c0) (hw0 : ∀ x ∈ l0, (Lit.int .u8 x).wf = true)
    (hC1 : Kd.C k45 w A1 l1.length l1) (hc1 : l1.length ≤ c1) (hw1 : ∀ x ∈ l1, in32 x) (hwx : (Lit.int .u8 x).wf = true) :
    Calls Try.prog 5 #[.slice A0 l0.length c0, .agg #[.slice A1 l1.length c1, .bool b1], .int .i64 at_, .int .u8 x] w fun e w' => e = .returned (.bool true) ∧ Below w.heap.size w w' := by
  have hx0 := blk_new w (.cells #[.slice A1 l1.length c1, .bool b1] 31)
  have hbw0 : Below w.heap.size w (w.alloc (.cells #[.slice A1 l1.length c1, .bool b1] 31)) := below_alloc (Below.refl _ _) _
  have hrow := fun (W : World) (hC : Kd.C k45 W A1 l1.length l1) => lawRow_ A1 c1 l1 b1 W hC hc1
  have htk : (l1.take 310).length ≤ 310 := by rw [List.length_take]; omega
  have hin : ∀ x ∈ l1.take 310, in32 x := fun x hx => hw1 x (List.mem_of_mem_take hx)
  generalize l1.take 310 = q at hrow htk hin
  have hmr := may_ref q hin
  obtain ⟨m, hmm⟩ : ∃ m : Nat, min l0.length 60 = m := ⟨_, rfl⟩
  have hmn : (if 60 < (l0.length : Int) then 60 else (l0.length : Int)) = (m : Int) := by split <;> omega
  have hm0 : (0 : Int) ≤ (m : Int) := by omega
  have hm1 : (m : Int) ≤ l0.length := by omega
  obtain ⟨i0, hi, _, hsz, _⟩ := info_parts info5
  have hcut := cut_to (P := Try.prog) 23 5 .i64 Try.underlying23 hi A0 l0.length c0 (m : Int) hm0 hm1 hc0
  rw [Int.toNat_natCast] at hcut
  have hCt := Kd.C_take (m := m) hC0 (by omega)
  obtain ⟨t, hqt⟩ : ∃ t, l0.take m = t := ⟨_, rfl⟩
  have htl : t.length = m := by rw [← hqt, List.length_take]; omega
  have htx : ∀ x ∈ t, 0 ≤ x ∧ x < 256 := fun x hx => wf_u8_ (hw0 x (List.mem_of_mem_take (hqt ▸ hx)))
  rw [hqt] at hCt
  rw [← htl] at hcut hmn hm0 hm1
  have ht60 : t.length ≤ 60 := by omega
  have htc : t.length ≤ c0 := by omega
  have hHid := Aside0.mk (And.intro hmr hin)
  clear hmm hsz hqt hC0 hw0 htl hmr hin
  go_enter Try.func5, Try.ntmps5
  go_upto_region 7 with (first
    | (go_at_call 18; refine (begun4_ _).mono ?_; rintro e w1 ⟨rfl, hb1⟩
       have hbw1 := hbw0.trans (hb1.mono hbw0.size))
    | (go_at_call 31; refine (tells_ t htx (by omega) A0 c0 _ (Kd.C_below hCt hbw1) htc).mono ?_; rintro e w2 ⟨rfl, hb2⟩)
    | fail)
  have hbw2 := hbw1.trans (hb2.mono hbw1.size)
  have hX2 := blk_below hx0 (hb1.trans (hb2.mono hb1.size))
  clear hx0 hbw0 hb1 hbw1 hb2 hcut hmn
  obtain ⟨s0, s1, _, _⟩ := blk2 hX2
  have hrow2 := hrow w2 (Kd.C_below hC1 hbw2)
  cases hm : mayB q
  case false =>
    have hput := fun (A : Option Addr) (c : Nat) (W : World) (hC : Kd.C k45 W A q.length q) (hc : q.length ≤ c) => put_ A c q b1 W hC hc (by omega)
    unfold putB at hput
    rw [hm] at hput
    have hmr : refRowB q = false := by rw [← hHid.out.1]; exact hm
    have h27 := fun (A : Option Addr) (c : Nat) (W : World) (hC : Kd.C k45 W A q.length q) (hc : q.length ≤ c) => refRow_ A c q b1 W hC hc (by omega)
    rw [hmr] at h27
    have hmr' := Aside0.mk hmr
    clear hmr
    simp only [Bool.false_eq_true, if_false] at hput
    go_upto_region 8 with (first
      | (go_at_call 23; refine hrow2.mono ?_; rintro e w3 ⟨v3, rfl, hR3, hb3⟩
         obtain ⟨A3, c3, hv3⟩ := Kd.R_slice hR3; subst hv3
         clear hrow2)
      | (go_at_call 24; refine (hput A3 c3 _ (Kd.R_reads' hR3).2.2 (Kd.R_reads' hR3).2.1).mono ?_; rintro e w4 ⟨v4, rfl, hR4, hb4⟩
         obtain ⟨A4, c4, hv4⟩ := Kd.R_slice hR4; subst hv4
         clear hput)
      | fail)
    have hb24 := hb3.trans (hb4.mono hb3.size)
    have hX4 := blk_below hX2 hb24
    have hbw4 := hbw2.trans (hb24.mono hbw2.size)
    clear s0 s1 hR3 hb3 hb4 hX2
    obtain ⟨s0, s1, _, _⟩ := blk2 hX4
    have hrow4 := hrow w4 (Kd.C_below hC1 hbw4)
    go_wp2_with (first
      | (go_at_call 23; refine hrow4.mono ?_; rintro e w5 ⟨v5, rfl, hR5, hb5⟩
         obtain ⟨A5, c5, hv5⟩ := Kd.R_slice hR5; subst hv5
         clear hrow4)
      | (go_at_call 27; refine (h27 A5 c5 _ (Kd.R_reads' hR5).2.2 (Kd.R_reads' hR5).2.1).mono ?_; rintro e w6 ⟨rfl, hb6⟩)
      | fail)
    go_ret
    exact ⟨rfl, hbw4.trans ((hb5.trans (hb6.mono hb5.size)).mono hbw4.size)⟩
  case true =>
    have hput := fun (A : Option Addr) (c : Nat) (W : World) (hC : Kd.C k45 W A q.length q) (hc : q.length ≤ c) => put_ A c q b1 W hC hc (by omega)
    unfold putB at hput
    rw [hm] at hput
    have hmr : refRowB q = true := by rw [← hHid.out.1]; exact hm
    have h27 := fun (A : Option Addr) (c : Nat) (W : World) (hC : Kd.C k45 W A q.length q) (hc : q.length ≤ c) => refRow_ A c q b1 W hC hc (by omega)
    rw [hmr] at h27
    have hmr' := Aside0.mk hmr
    clear hmr
    simp only [if_true] at hput
    obtain ⟨X, hX⟩ : ∃ X, rowB q b1 = X := ⟨_, rfl⟩
    rw [hX] at hput
    have hX1 : 1 ≤ X.length := by rw [← hX]; exact rowB_pos_ q b1
    have hXx : ∀ x ∈ X, 0 ≤ x ∧ x < 256 := by rw [← hX]; exact rowB_range q b1
    clear hX
    go_upto_region 8 with (first
      | (go_at_call 23; refine hrow2.mono ?_; rintro e w3 ⟨v3, rfl, hR3, hb3⟩
         obtain ⟨A3, c3, hv3⟩ := Kd.R_slice hR3; subst hv3
         clear hrow2)
      | (go_at_call 24; refine (hput A3 c3 _ (Kd.R_reads' hR3).2.2 (Kd.R_reads' hR3).2.1).mono ?_; rintro e w4 ⟨v4, rfl, hR4, hb4⟩
         obtain ⟨A4, c4, hv4⟩ := Kd.R_slice hR4; subst hv4
         clear hput)
      | fail)
    have hb24 := hb3.trans (hb4.mono hb3.size)
    have hX4 := blk_below hX2 hb24
    have hbw4 := hbw2.trans (hb24.mono hbw2.size)
    clear s0 s1 hR3 hb3 hb4 hX2
    obtain ⟨s0, s1, _, _⟩ := blk2 hX4
    have hrow4 := hrow w4 (Kd.C_below hC1 hbw4)
    have hj0 : (at_ < 0 ∨ ¬ at_ < 0) := by omega
    rcases hj0 with hj0 | hj0
    · go_wp2_with (first
        | (go_at_call 23; refine hrow4.mono ?_; rintro e w5 ⟨v5, rfl, hR5, hb5⟩
           obtain ⟨A5, c5, hv5⟩ := Kd.R_slice hR5; subst hv5
           clear hrow4)
        | (go_at_call 27; refine (h27 A5 c5 _ (Kd.R_reads' hR5).2.2 (Kd.R_reads' hR5).2.1).mono ?_; rintro e w6 ⟨rfl, hb6⟩)
        | fail)
      go_ret
      exact ⟨rfl, hbw4.trans ((hb5.trans (hb6.mono hb5.size)).mono hbw4.size)⟩
    · by_cases hj1 : 200 < X.length
      · have hj2 : (200 : Int) < (X.length : Int) := by omega
        go_wp2_with (first
          | (go_at_call 23; refine hrow4.mono ?_; rintro e w5 ⟨v5, rfl, hR5, hb5⟩
             obtain ⟨A5, c5, hv5⟩ := Kd.R_slice hR5; subst hv5
             clear hrow4)
          | (go_at_call 27; refine (h27 A5 c5 _ (Kd.R_reads' hR5).2.2 (Kd.R_reads' hR5).2.1).mono ?_; rintro e w6 ⟨rfl, hb6⟩)
          | fail)
        go_ret
        exact ⟨rfl, hbw4.trans ((hb5.trans (hb6.mono hb5.size)).mono hbw4.size)⟩
      · obtain ⟨j, hj, hjl⟩ : ∃ j : Nat, at_.tmod (X.length : Int) = (j : Int) ∧ j < X.length := by
          have h1 := Int.tmod_nonneg (X.length : Int) (show 0 ≤ at_ by omega)
          have h2 := Int.tmod_lt_of_pos at_ (show (0 : Int) < (X.length : Int) by omega)
          exact ⟨(at_.tmod (X.length : Int)).toNat, by omega, by omega⟩
        have hC4 := (Kd.R_reads' hR4).2.2
        have hc4 := (Kd.R_reads' hR4).2.1
        have hXne : ¬ (X.length : Int) = 0 := by omega
        clear h27 hrow4 s0 s1 hR4
        go_upto_region 11 with (first
          | ((with_reducible refine gate_builtin (b := .append) rfl ?_)
             refine Kd.R_append_rows (Kd.int .u8) (w0 := w4) (W := w4) w4.heap.size (by rfl) (.const (.slice none 0 0)) (.tmp 46) 23 5 (.int .u8 0) 1 (by rfl) Try.underlying23 info5 rfl (by decide) (by decide) (.slice none 0 0) [] X A4 X.length c4 (fun _ => True) (fun _ => False) (by rfl) (by rfl) (Kd.R_nil _ _ _ _ _) hC4 (fun _ _ h => h) (fun _ h => h.elim) (fun _ _ => trivial) (Below.refl _ _) (Nat.le_refl _) (by simp only [List.length_nil]; omega) ?_
             intro v5 w5 hR5 hb5 hg5 hat5
             rw [List.nil_append] at hR5
             obtain ⟨A5, c5, hv5⟩ := Kd.R_slice hR5; subst hv5)
          | fail)
        clear hg5 hat5
        obtain ⟨ad5, hA5, _⟩ := Kd.at_int (Kd.R_reads' hR5).2.2 0 (by omega) (by omega)
        subst hA5
        obtain ⟨g5, rfl⟩ := Kd.R_head hR5
        obtain ⟨cs, hcl, hM, hcc, hfz⟩ := Kd.R_elem hR5 0 (j : Int) (by omega) (by omega)
        generalize X.getD (j : Int).toNat 0 = y at hM
        obtain rfl : cs = [.int .u8 y] := hM
        have hsz1 : (Kd.int .u8).sz = 1 := rfl
        rw [Int.toNat_natCast, hsz1] at hcc hfz
        have q0 := hcc 0 _ rfl
        have f0 := hfz 0
        rw [Nat.mul_one, Nat.add_zero] at q0 f0
        have hR6 : Kd.R (Kd.int .u8) 5 (w5.setCell ⟨g5, j, none⟩ (.int .u8 (Go.bits .xor .u8 y x))) w4.heap.size (fun _ => True) (.slice (some ⟨g5, 0, none⟩) X.length c5) (X.set j (Go.bits .xor .u8 y x)) := by
          have := Kd.R_putn hR5 (j : Int) (Go.bits .xor .u8 y x)
          rw [Int.toNat_natCast] at this
          exact this
        have hg5 : w4.heap.size ≤ g5 := Kd.R_base hR5 g5 rfl
        have hb6 : Below w4.heap.size w4 (w5.setCell ⟨g5, j, none⟩ (.int .u8 (Go.bits .xor .u8 y x))) := below_set hb5 hg5
        have hxr := xor_u8_ y x
        clear hcc hfz hcl hsz1 hR5 hb5
        go_upto_region 12 with (fail)
        obtain ⟨w6, hw6⟩ : ∃ w6, w6 = w5.setCell ⟨g5, j, none⟩ (.int .u8 (Go.bits .xor .u8 y x)) := ⟨_, rfl⟩
        rw [← hw6] at hR6 hb6 ⊢
        clear hw6 q0 f0 hg5
        generalize Go.bits .xor .u8 y x = Y at hR6 hxr
        obtain ⟨Z, hZ⟩ : ∃ Z, X.set j Y = Z := ⟨_, rfl⟩
        have hZl : Z.length = X.length := by rw [← hZ, List.length_set]
        have hZx : ∀ x ∈ Z, 0 ≤ x ∧ x < 256 := fun v hv => by
          rw [← hZ] at hv
          rcases List.mem_or_eq_of_mem_set hv with h | h
          · exact hXx v h
          · rw [h]; exact hxr
        rw [hZ] at hR6
        have hCZ := (Kd.R_reads' hR6).2.2
        have hcZ := (Kd.R_reads' hR6).2.1
        have ht1 := tells_ Z hZx (by omega) (some ⟨g5, 0, none⟩) c5 w6 hCZ (by omega)
        rw [hZl] at ht1
        obtain ⟨i2, hi2, _, _, _⟩ := info_parts info5
        have hcut2 := cut_to (P := Try.prog) 23 5 .i64 Try.underlying23 hi2 A4 X.length c4 (j : Int) (by omega) (by omega) hc4
        rw [Int.toNat_natCast] at hcut2
        have hCj := Kd.C_take (m := j) hC4 (by omega)
        have hjlen : (X.take j).length = j := by rw [List.length_take]; omega
        have ht2 := fun (W : World) (h : Below w4.heap.size w4 W) => tells_ (X.take j) (fun v hv => hXx v (List.mem_of_mem_take hv)) (by omega) A4 c4 W (Kd.C_below hCj h) (by omega)
        rw [hjlen] at ht2
        have ht3 := fun (A : Option Addr) (c : Nat) (W : World) (h : Kd.C (Kd.int .u8) W A (X ++ t).length (X ++ t)) (h2 : (X ++ t).length ≤ c) => tells_ (X ++ t) (fun v hv => (List.mem_append.1 hv).elim (hXx v) (htx v)) (by rw [List.length_append]; omega) A c W h h2
        have hlt : (X ++ t).length = X.length + t.length := List.length_append
        obtain ⟨V, hV⟩ : ∃ V, X ++ t = V := ⟨_, rfl⟩
        rw [hV] at ht3 hlt
        have hHl := Aside0.mk hlt
        have hCt4 := Kd.C_below hCt hbw4
        clear hZ hZl hZx hxr hCZ hcZ hR6 hCj hjlen hi2 hlt
        go_wp2_with (first
          | (go_at_call 31; refine ht1.mono ?_; rintro e w7 ⟨rfl, hb7⟩
             have hb47 := hb6.trans (hb7.mono hb6.size)
             clear ht1)
          | (go_at_call 31; refine (ht2 _ hb47).mono ?_; rintro e w8 ⟨rfl, hb8⟩
             have hb48 := hb47.trans (hb8.mono hb47.size)
             clear ht2 hcut2)
          | ((with_reducible refine gate_builtin (b := .append) rfl ?_)
             refine gate_guard (by rfl) ?_
             refine Kd.R_append_rows (Kd.int .u8) (w0 := w8) (W := w8) w8.heap.size (by rfl) (.const (.slice none 0 0)) (.tmp 70) 23 5 (.int .u8 0) 1 (by rfl) Try.underlying23 info5 rfl (by decide) (by decide) (.slice none 0 0) [] X A4 X.length c4 (fun _ => True) (fun _ => False) (by rfl) (by rfl) (Kd.R_nil _ _ _ _ _) (Kd.C_below hC4 hb48) (fun _ _ h => h) (fun _ h => h.elim) (fun _ _ => trivial) (Below.refl _ _) (Nat.le_refl _) (by simp only [List.length_nil]; omega) ?_
             intro v9 w9 hR9 hb9 hg9 hat9
             rw [List.nil_append] at hR9
             have hb49 := hb48.trans (hb9.mono hb48.size))
          | ((with_reducible refine gate_builtin (b := .append) rfl ?_)
             refine gate_guard (by rfl) ?_
             refine Kd.R_append_rows (Kd.int .u8) (w0 := w8) (W := w9) w8.heap.size (by rfl) (.tmp 71) (.tmp 72) 23 5 (.int .u8 0) 1 (by rfl) Try.underlying23 info5 rfl (by decide) (by decide) v9 X t A0 t.length c0 (fun _ => True) (fun _ => False) (by rfl) (by rfl) hR9 (Kd.C_below hCt4 hb49) (fun _ _ h => h) (fun _ h => h.elim) (fun _ _ => trivial) hb9 hb9.size (by omega) ?_
             intro v10 w10 hR10 hb10 hg10 hat10
             rw [hV] at hR10
             obtain ⟨A10, c10, hv10⟩ := Kd.R_slice hR10; subst hv10)
          | (go_at_call 31; refine (ht3 A10 c10 _ (Kd.R_reads' hR10).2.2 (Kd.R_reads' hR10).2.1).mono ?_; rintro e w11 ⟨rfl, hb11⟩)
          | fail)
        go_ret
        exact ⟨rfl, hbw4.trans ((hb48.trans (hb10.mono hb48.size)).trans (hb11.mono (by have := hb48.size; have := hb10.size; omega)) |>.mono hbw4.size)⟩
end Go.Proofs.Ytkigdcihhlkkdaa.P
end
section
set_option linter.unusedVariables false
set_option linter.unusedSimpArgs false
namespace Go.Proofs.Ytkigdcihhlkkdaa.Pure
open Go.ChangeShapes Go.WideShapes Go.RowKit Go.Proofs.Ytkigdcihhlkkdaa.P Go.Proofs.YtkigdcihhlkkdaaW.PrintWords Go.Proofs.YtkigdcihhlkkdaaW.PrintLast
theorem list_of {α : Type} {Q : Nat → α → Prop} : ∀ n : Nat, (∀ i, i < n → ∃ z, Q i z) → ∃ l : List α, l.length = n ∧ ∀ i z, l[i]? = some z → Q i z
  | 0, _ => ⟨[], rfl, fun i z h => by simp at h⟩
  | n + 1, h => by
    obtain ⟨l, hl, hq⟩ := list_of n (fun i hi => h i (by omega))
    obtain ⟨z, hz⟩ := h n (by omega)
    refine ⟨l ++ [z], by simp [hl], fun i x hx => ?_⟩
    by_cases c : i < n
    · exact hq i x (by rwa [List.getElem?_append_left (by omega)] at hx)
    · rw [List.getElem?_append_right (by omega)] at hx
      by_cases e : i = n
      · subst e
        rw [hl, Nat.sub_self] at hx
        simp at hx
        subst hx
        exact hz
      · obtain ⟨j, hj⟩ : ∃ j, i - l.length = j + 1 := ⟨i - l.length - 1, by omega⟩
        rw [hj] at hx
        simp at hx
def wf45 (z : S45) : Prop := (Lit.int .i32 z.f0).wf = true ∧ (Lit.int .i64 z.f1).wf = true ∧ (Lit.int .i64 z.f2).wf = true
set_option maxRecDepth 100000
section
variable {H : Type} {enc : TypeId × Value → H} {w : World} {base : Nat} {spare : Nat → Bool} {held : Bool}
theorem open_cells {fuel : Nat} {cs : List Value} {x : DataW H × List MemPlace} (h : DataW.trod enc Try.prog w base spare held fuel 29 cs = some x) :
    ∃ (a : Option Addr) (len cap : Nat) (zs : List S45), cs = [.slice a len cap] ∧ len = zs.length ∧ len ≤ cap ∧ len ≤ maxLen ∧ Kd.C k45 w a zs.length zs ∧ ∀ z ∈ zs, wf45 z := by
  have hc : Try.prog.cellsOf 45 = 3 := by kernel_rfl
  have hc21 : Try.prog.cellsOf 21 = 1 := by kernel_rfl
  have hc3 : Try.prog.cellsOf 3 = 1 := by kernel_rfl
  rcases DataW.trod_slice (e := 45) Try.underlying29 h with ⟨h0, _⟩ | ⟨a, len, cap, elems, rest, n, _, rfl, _, hb, hl, hm, hlen, hel, _, _⟩
  · exact ⟨none, 0, 0, [], h0, rfl, Nat.le_refl _, Nat.zero_le _, Kd.C_nil k45 w, by simp⟩
  have each : ∀ i, i < len → ∃ z : S45, w.cells? base (a.add (i * 3)) 3 = some [.int .i32 z.f0, .int .i64 z.f1, .int .i64 z.f2] ∧ wf45 z := by
    intro i hi
    have he := hel i hi
    rw [List.getElem?_eq_getElem (by omega), hc, Option.bind_eq_some_iff] at he
    obtain ⟨cs', hcs, hy⟩ := he
    obtain ⟨y0, y1, y2, m, _, hn, h0, h1, h2⟩ := Go.Deep.trod_struct3 Try.underlying45 hy
    rw [hc] at hn
    match cs', hn with
    | [c0, c1, c2], _ =>
      simp only [hc21, hc3, List.drop_zero, List.take_succ_cons, List.take_zero, List.drop_succ_cons] at h0 h1 h2
      obtain ⟨n0, e0, _, w0⟩ := DataW.trod_int Try.underlying21 h0
      obtain ⟨n1, e1, _, w1⟩ := DataW.trod_int Try.underlying3 h1
      obtain ⟨n2, e2, _, w2⟩ := DataW.trod_int Try.underlying3 h2
      simp only [List.cons.injEq, and_true] at e0 e1 e2
      subst e0 e1 e2
      exact ⟨⟨n0, n1, n2⟩, hcs, w0, w1, w2⟩
  obtain ⟨zs, hz, hq⟩ := list_of len each
  have hmm : len ≤ maxLen := Nat.le_trans hl hm
  subst hz
  refine ⟨some a, zs.length, cap, zs, rfl, rfl, hl, hmm, ⟨rfl, by unfold maxLen at hmm; omega, fun _ => ⟨a, rfl, fun j p hp => ?_⟩⟩, fun z hz' => ?_⟩
  · obtain ⟨hc, _⟩ := hq j p hp
    refine ⟨_, rfl, k45_mk w p, fun i u hu => ?_⟩
    have hi : i < 3 := by
      have := (List.getElem?_eq_some_iff.1 hu).1
      simpa using this
    have := (World.cells?_some hc).2.2 i hi
    rw [Addr.add_add] at this
    exact this.trans hu
  · obtain ⟨i, hi⟩ := List.getElem?_of_mem hz'
    exact (hq i z hi).2
theorem open_row {fuel : Nat} {cs : List Value} {x : DataW H × List MemPlace} (h : DataW.trod enc Try.prog w base spare held fuel 31 cs = some x) :
    ∃ (a : Option Addr) (cap : Nat) (z : S31), cs = [.slice a z.f0.length cap, .bool z.f1] ∧ z.f0.length ≤ cap ∧ z.f0.length ≤ maxLen ∧ Kd.C k45 w a z.f0.length z.f0 ∧ ∀ c ∈ z.f0, wf45 c := by
  have hc : Try.prog.cellsOf 31 = 2 := by kernel_rfl
  have hc29 : Try.prog.cellsOf 29 = 1 := by kernel_rfl
  have hc4 : Try.prog.cellsOf 4 = 1 := by kernel_rfl
  obtain ⟨y0, y1, m, _, hn, h0, h1⟩ := trod_struct2 Try.underlying31 h
  rw [hc] at hn
  match cs, hn with
  | [c0, c1], _ =>
    simp only [hc29, hc4, List.drop_zero, List.take_succ_cons, List.take_zero, List.drop_succ_cons] at h0 h1
    obtain ⟨a, len, cap, zs, e0, rfl, hl, hm, hC, hw⟩ := open_cells h0
    obtain ⟨b, e1, _⟩ := DataW.trod_bool Try.underlying4 h1
    simp only [List.cons.injEq, and_true] at e0 e1
    subst e0 e1
    exact ⟨a, cap, ⟨zs, b⟩, rfl, hl, hm, hC, hw⟩
end
end Go.Proofs.Ytkigdcihhlkkdaa.Pure
end
section
set_option linter.unusedVariables false
set_option linter.unusedSimpArgs false
namespace Go.Proofs.Ytkigdcihhlkkdaa.Pure
open Go.ChangeShapes Go.WideShapes Go.RowKit Go.Proofs.Ytkigdcihhlkkdaa.P Go.Proofs.YtkigdcihhlkkdaaW.PrintWords Go.Proofs.YtkigdcihhlkkdaaW.PrintLast
set_option maxRecDepth 100000
theorem in32_of {z : S45} (h : wf45 z) : in32 z := by
  have := h.1
  simp [Lit.wf] at this
  exact this
section
variable {H : Type} {enc : TypeId × Value → H} {w : World} {base : Nat} {spare : Nat → Bool} {held : Bool}
theorem arg_row {r : Reach} {b0 : Nat} {v : Value} {d : DataW H} {ps : List MemPlace} (hval : Value.okWide Try.prog w r b0 31 v) (h : DataW.Trod enc Try.prog w base spare held 31 v d ps) :
    ∃ (a : Option Addr) (cap : Nat) (l : List S45) (b : Bool), v = .agg #[.slice a l.length cap, .bool b] ∧ l.length ≤ cap ∧ l.length ≤ maxLen ∧ Kd.C k45 w a l.length l ∧ ∀ c ∈ l, in32 c := by
  obtain ⟨cs, rfl, hs⟩ := okWide_struct Try.underlying31 hval
  obtain ⟨fuel, hf⟩ := h
  obtain ⟨a, cap, z, hcs, h1, h2, h3, h4⟩ := open_row hf
  obtain ⟨l, rfl⟩ : ∃ l : List Value, cs = l.toArray := ⟨cs.toList, by simp⟩
  simp only [Value.cells] at hcs
  subst hcs
  exact ⟨a, cap, z.f0, z.f1, rfl, h1, h2, h3, fun c hc => in32_of (h4 c hc)⟩
theorem arg_ints {T E : TypeId} {k : IntKind} (hT : Try.prog.underlying T = some (.slice E)) (hE : Try.prog.underlying E = some (.int k)) (hcE : Try.prog.cellsOf E = 1) {a : Option Addr} {len cap : Nat} {d : DataW H} {ps : List MemPlace} (h : DataW.Trod enc Try.prog w 0 (fun _ => true) true T (.slice a len cap) d ps) :
    ∃ zs : List Int, len = zs.length ∧ zs.length ≤ cap ∧ zs.length ≤ maxLen ∧ Kd.C (Kd.int k) w a zs.length zs ∧ ∀ x ∈ zs, (Lit.int k x).wf = true := by
  obtain ⟨fuel, hf⟩ := h
  rcases open_ints hT hE hcE hf with ⟨hcs, _⟩ | ⟨x, l, c, zs, hcs, _, hl, hm, hz, _, hcell, hwz⟩
  · simp [Value.cells] at hcs
    obtain ⟨rfl, rfl, rfl⟩ := hcs
    exact ⟨[], rfl, Nat.le_refl _, Nat.zero_le _, Kd.C_nil _ _, by simp⟩
  · simp [Value.cells] at hcs
    obtain ⟨rfl, rfl, rfl⟩ := hcs
    obtain ⟨l1, hl1, hr1, hm1, hw1, hc1⟩ := Go.Proofs.YtkigdcihhlkkdaaW.PrintWords.ReadsInt.ofRowC (.inr ⟨_, rfl, hl, hm, by simpa using hz, hcell, hwz⟩)
    subst hl1
    exact ⟨l1, rfl, hc1, hm1, Go.Proofs.YtkigdcihhlkkdaaW.PrintWords.Kd.C_of_reads (d := (0 : Int)) (h1 := fun _ => rfl) hr1, hw1⟩
end
end Go.Proofs.Ytkigdcihhlkkdaa.Pure
end
