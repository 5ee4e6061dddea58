/- own texts of this session, put together -/
import Derived.Test.YtkigdcihhlkkdaaTZ1
import Derived.Test.YtkigdcihhlkkdaaTPx17
import Derived.Test.YtkigdcihhlkkdaaTZ7
import Derived.Test.YtkigdcihhlkkdaaTZ3
import Derived.Test.YtkigdcihhlkkdaaTZ4
import Derived.Test.YtkigdcihhlkkdaaTPx38
import Derived.Test.YtkigdcihhlkkdaaTZ0
import Derived.Test.YtkigdcihhlkkdaaTZ2
section
set_option linter.unusedVariables false
set_option linter.unusedSimpArgs false
namespace Go.Proofs.Ytkigdcihhlkkdaa.P
open Go.RowKit Go.Proofs.YtkigdcihhlkkdaaW.PrintWords Go.Proofs.YtkigdcihhlkkdaaW.PrintLast Go.Proofs.YtkigdcihhlkkdaaW.PrintMore
def row3 : List S45 := [⟨97, 1, 0⟩, ⟨97, 1, 0⟩, ⟨32, 1, 0⟩]
def bytes9 : List Int := [5, 2, 97, 1, 0, 1, 32, 1, 0]
theorem b_put3 : pack_Put.f 60 row3 true = some (bytes9, true) := by decide +kernel
theorem b_put0 : pack_Put.f 60 [] false = some ([0], true) := by decide +kernel
theorem b_may3 : pack_May.f 60 row3 true = some true := by decide +kernel
theorem b_may0 : pack_May.f 60 [] false = some true := by decide +kernel
theorem b_get3 : pack_Get.f 60 bytes9 = some (row3, true, 9, 0) := by kernel_rfl
theorem b_gu : pack_GetUint.f 60 [128, 1, 9] = some (128, 2) := by decide +kernel
theorem b_eq3 : pack_Eq.f 60 row3 true row3 true = some true := by decide +kernel
theorem b_one : rotuluslaw1_begun.f 60 = some true := by decide +kernel
theorem C_block {W : World} {g n : Nat} {l : List S45} (hg : W.heap[g]? = some (.cells (l.map cell3).flatten.toArray 45 (0, 0))) (hn : l.length ≤ 1000) : Kd.C k45 W (some ⟨g, 0, none⟩) l.length l := by
  refine ⟨rfl, by omega, fun _ => ⟨⟨g, 0, none⟩, rfl, fun j p hj => ⟨cell3 p, rfl, k45_mk W p, fun q u hq => ?_⟩⟩⟩
  have h4 : (⟨g, 0, none⟩ : Addr).add (j * k45.sz + q) = ⟨g, j * k45.sz + q, none⟩ := by unfold Addr.add; split <;> simp_all
  rw [h4, cell_of_row W g _ _ 45 (0, 0) hg]
  have hq3 : q < 3 := by have := (List.getElem?_eq_some_iff.1 hq).1; simpa [cell3] using this
  have key : ∀ (l : List S45) (j : Nat) (p : S45) (u : Value), l[j]? = some p → (cell3 p)[q]? = some u → (l.map cell3).flatten[j * 3 + q]? = some u := by
    intro l
    induction l with
    | nil => intro j p u hj; simp at hj
    | cons a t ih =>
      intro j p u hj hq
      rw [List.map_cons, List.flatten_cons]
      cases j with
      | zero =>
        simp only [List.getElem?_cons_zero, Option.some.injEq] at hj
        subst hj
        rw [List.getElem?_append_left (by simp [cell3]; omega)]
        simpa using hq
      | succ j =>
        rw [List.getElem?_cons_succ] at hj
        rw [List.getElem?_append_right (by simp [cell3]; omega)]
        have := ih j p u hj hq
        rw [← this]
        congr 1
        simp [cell3]
        omega
  have := key l j p u hj hq
  rw [show k45.sz = 3 from rfl]
  simpa using this
theorem F_block {W : World} {g : Nat} {l : List S45} (hg : W.heap[g]? = some (.cells (l.map cell3).flatten.toArray 45 (0, 0))) (hn : l.length ≤ 1000) : Kd.F k45 W (fun k => k = g) (some ⟨g, 0, none⟩) l.length l :=
  fun W' hW => C_block (g := g) (n := 0) ((hW g rfl (blk_lt hg)).trans hg) hn
set_option maxHeartbeats 1000000 in
set_option maxRecDepth 100000 in
theorem begun50 (w : World) : Calls Try.prog 50 #[] w fun e w' => e = .returned (.bool true) ∧ Below w.heap.size w w' := by
  have h := rotuluslaw1_begun.calls 60 true w b_one
  go_enter Try.func50, Try.ntmps50
  go_wp2_with (first | (go_at_call 64; refine h.mono ?_; rintro e w1 ⟨rfl, hb1⟩) | fail)
  go_ret
  exact ⟨rfl, hb1⟩
theorem put3_ (w : World) (A : Option Addr) (c : Nat) (hc : 3 ≤ c) (hC : Kd.C k45 w A row3.length row3) : Calls Try.prog 24 #[.agg #[.slice A row3.length c, .bool true]] w fun e w' => ∃ v0_ : Value, e = .returned (.tuple #[v0_, .bool true]) ∧ Kd.R (Kd.int .u8) 5 w' w.heap.size (fun _ => True) v0_ bytes9 ∧ Below w.heap.size w w' :=
  pack_Put.calls 60 A c row3 true bytes9 true w hC hc b_put3
theorem put0_ (w : World) (hC : Kd.C k45 w none ([] : List S45).length []) : Calls Try.prog 24 #[.agg #[.slice none ([] : List S45).length 0, .bool false]] w fun e w' => ∃ v0_ : Value, e = .returned (.tuple #[v0_, .bool true]) ∧ Kd.R (Kd.int .u8) 5 w' w.heap.size (fun _ => True) v0_ [0] ∧ Below w.heap.size w w' :=
  pack_Put.calls 60 none 0 [] false [0] true w hC (Nat.le_refl _) b_put0
theorem may3_ (w : World) (A : Option Addr) (c : Nat) (hc : 3 ≤ c) (hC : Kd.C k45 w A row3.length row3) : Calls Try.prog 26 #[.agg #[.slice A row3.length c, .bool true]] w fun e w' => e = .returned (.bool true) ∧ Below w.heap.size w w' :=
  pack_May.calls 60 A c row3 true true w hC hc b_may3
theorem may0_ (w : World) (hC : Kd.C k45 w none ([] : List S45).length []) : Calls Try.prog 26 #[.agg #[.slice none ([] : List S45).length 0, .bool false]] w fun e w' => e = .returned (.bool true) ∧ Below w.heap.size w w' :=
  pack_May.calls 60 none 0 [] false true w hC (Nat.le_refl _) b_may0
theorem get3_ (w : World) (A : Option Addr) (c : Nat) (hC : Kd.C (Kd.int .u8) w A bytes9.length bytes9) (hc : bytes9.length ≤ c) : Calls Try.prog 30 #[.slice A bytes9.length c] w fun e w' => ∃ v0_ : Value, e = .returned (.tuple #[.agg #[v0_, .bool true], .int .i64 9, .int .i64 0]) ∧ Kd.R k45 45 w' w.heap.size (fun _ => True) v0_ row3 ∧ Below w.heap.size w w' :=
  pack_Get.calls 60 A c bytes9 row3 true 9 0 w hC hc b_get3
theorem eq3_ (w : World) (A B : Option Addr) (c d : Nat) (hA : Kd.C k45 w A row3.length row3) (hc : 3 ≤ c) (hB : Kd.C k45 w B row3.length row3) (hd : 3 ≤ d) : Calls Try.prog 28 #[.agg #[.slice A row3.length c, .bool true], .agg #[.slice B row3.length d, .bool true]] w fun e w' => e = .returned (.bool true) ∧ Below w.heap.size w w' :=
  pack_Eq.calls 60 A c row3 true B d row3 true true w hA hc hB hd b_eq3
end Go.Proofs.Ytkigdcihhlkkdaa.P
end
section
set_option linter.unusedVariables false
set_option linter.unusedSimpArgs false
namespace Go.Proofs.Ytkigdcihhlkkdaa.P
open Go.RowKit Go.Proofs.YtkigdcihhlkkdaaW.PrintWords Go.Proofs.YtkigdcihhlkkdaaW.PrintLast Go.Proofs.YtkigdcihhlkkdaaW.PrintMore
attribute [local go_sem] Oper.semAt_some
theorem C_bytes3 {W : World} {g : Nat} (hg : W.heap[g]? = some (.cells #[.int .u8 128, .int .u8 1, .int .u8 9] 5 (0, 0))) : Kd.C (Kd.int .u8) W (some ⟨g, 0, none⟩) [(128 : Int), 1, 9].length [128, 1, 9] := by
  refine ⟨rfl, by decide, fun _ => ⟨⟨g, 0, none⟩, rfl, fun j p hj => ⟨[.int .u8 p], rfl, rfl, fun q u hq => ?_⟩⟩⟩
  have h0 : q = 0 := by have := (List.getElem?_eq_some_iff.1 hq).1; simpa using this
  subst h0
  have h4 : (⟨g, 0, none⟩ : Addr).add (j * (Kd.int .u8).sz + 0) = ⟨g, j, none⟩ := by unfold Addr.add; split <;> simp_all [Kd.int, Kd.scalar]
  rw [h4, blk_cell hg j]
  simp only [List.getElem?_cons_zero, Option.some.injEq] at hq
  subst hq
  match j, hj with
  | 0, hj => simp at hj; subst hj; rfl
  | 1, hj => simp at hj; subst hj; rfl
  | 2, hj => simp at hj; subst hj; rfl
  | n + 3, hj => simp at hj
theorem conv9 {W : World} {g c : Nat} (hF : Kd.C (Kd.int .u8) W (some ⟨g, 0, none⟩) bytes9.length bytes9) : (convert 23 9 (.slice (some ⟨g, 0, none⟩) 9 c)).run Try.prog W = .ok (.string ⟨#[5, 2, 97, 1, 0, 1, 32, 1, 0]⟩) W := by
  have h := run_convert_bytes_arg (P := Try.prog) W 23 5 Try.underlying23 Try.underlying5 g 0 9 c bytes9 rfl (fun i hi => by
    have := Kd.foot_int hF (i : Int) (by omega) (by exact_mod_cast hi)
    have e : (⟨g, 0, none⟩ : Addr).add i = ⟨g, 0 + i, none⟩ := by unfold Addr.add; split <;> simp_all
    rw [Int.toNat_natCast, e] at this
    exact this) 9 Try.underlying9
  rw [h]
  rfl
theorem eq59 (W : World) (b : Array Value) : (binOp .eql 59 (.func (.func 63) #[] b) .nilFunc).run Try.prog W = .ok (.bool false) W := by kernel_rfl
theorem sumR3 {xs : List Rw} (h : xs.map (fun x => (x.i, x.len)) = (List.range [bytes9].length).map (fun i => (i, row3.length))) : (xs.foldl (fun s x => wrap64 (s + wrap64 ((x.i : Int) + (x.len : Int)))) 0) = 3 := by
  match xs, h with
  | [], h => simp at h
  | [x], h =>
    simp only [List.map_cons, List.map_nil] at h
    have h2 : (x.i, x.len) = (0, 3) := by have := List.cons.inj h; exact this.1
    injection h2 with h3 h4
    simp [h3, h4, wrap64]
  | a :: b :: t, h => have := congrArg List.length h; simp at this
def sumR : List Rw → Int := fun l => l.foldl (fun s x => wrap64 (s + wrap64 ((x.i : Int) + (x.len : Int)))) 0
theorem gu_ (W : World) : Calls Try.prog 20 #[.slice (some ⟨W.heap.size, 0, none⟩) 3 3] (W.alloc (.cells #[.int .u8 128, .int .u8 1, .int .u8 9] 5)) fun e w' => e = .returned (.tuple #[.int .u64 128, .int .i64 2]) ∧ Below W.heap.size W w' :=
  (pack_GetUint.calls 60 (some ⟨W.heap.size, 0, none⟩) 3 [128, 1, 9] 128 2 (W.alloc (.cells #[.int .u8 128, .int .u8 1, .int .u8 9] 5)) (C_bytes3 (blk_new W _)) (by decide) b_gu).mono (fun e w' h => ⟨h.1, (below_alloc (Below.refl _ _) _).trans (h.2.mono (by simp))⟩)
set_option maxHeartbeats 8000000 in
set_option maxRecDepth 100000 in
theorem begun4_ (w : World) : Calls Try.prog 18 #[] w fun e w' => e = .returned (.bool true) ∧ Below w.heap.size w w' := by
  have hr0 := blk_new w (.cells #[.int .i32 97, .int .i64 1, .int .i64 0, .int .i32 97, .int .i64 1, .int .i64 0, .int .i32 32, .int .i64 1, .int .i64 0] 45)
  have hz0 : (w.alloc (.cells #[.int .i32 97, .int .i64 1, .int .i64 0, .int .i32 97, .int .i64 1, .int .i64 0, .int .i32 32, .int .i64 1, .int .i64 0] 45)).heap.size = w.heap.size + 1 := by simp
  have hr1 := blk_alloc hr0 (.cells #[.slice (some ⟨w.heap.size, 0, none⟩) 3 3, .bool true] 31)
  have hx1 := blk_new (w.alloc (.cells #[.int .i32 97, .int .i64 1, .int .i64 0, .int .i32 97, .int .i64 1, .int .i64 0, .int .i32 32, .int .i64 1, .int .i64 0] 45)) (.cells #[.slice (some ⟨w.heap.size, 0, none⟩) 3 3, .bool true] 31)
  rw [hz0] at hx1
  have hb1 : Below w.heap.size w ((w.alloc (.cells #[.int .i32 97, .int .i64 1, .int .i64 0, .int .i32 97, .int .i64 1, .int .i64 0, .int .i32 32, .int .i64 1, .int .i64 0] 45)).alloc (.cells #[.slice (some ⟨w.heap.size, 0, none⟩) 3 3, .bool true] 31)) := below_alloc (below_alloc (Below.refl _ _) _) _
  have hw1e : ∃ w1, w1 = (w.alloc (.cells #[.int .i32 97, .int .i64 1, .int .i64 0, .int .i32 97, .int .i64 1, .int .i64 0, .int .i32 32, .int .i64 1, .int .i64 0] 45)).alloc (.cells #[.slice (some ⟨w.heap.size, 0, none⟩) 3 3, .bool true] 31) := ⟨_, rfl⟩
  have hput := put3_ ((w.alloc (.cells #[.int .i32 97, .int .i64 1, .int .i64 0, .int .i32 97, .int .i64 1, .int .i64 0, .int .i32 32, .int .i64 1, .int .i64 0] 45)).alloc (.cells #[.slice (some ⟨w.heap.size, 0, none⟩) 3 3, .bool true] 31)) (some ⟨w.heap.size, 0, none⟩) 3 (by decide) (C_block (n := 0) hr1 (by decide))
  refine (callsIn_wide (n := 4)).1 ?_
  refine callsIn_of_wp_marks Try.func18 rfl trivial ?_ rfl
  simp only [Try.ntmps18, List.size_toArray, List.length_cons, List.length_nil, Nat.reduceAdd, Nat.reduceSub, Array.replicate_succ, Array.replicate_zero, List.push_toArray, List.append_toArray, List.nil_append, List.cons_append]
  refine wpIn_wide.2 ?_
  go_upto_region 10 with (first
    | (go_at_call 24; refine hput.mono ?_; rintro e w2 ⟨v2, rfl, hR2, hb2⟩
       obtain ⟨A2, c2, hv2⟩ := Kd.R_slice hR2; change v2 = .slice A2 9 c2 at hv2; subst hv2
       have hC2 := Kd.R_reads' hR2
       obtain ⟨ad2, hA2, _⟩ := hC2.2.2.2.2 (by decide)
       subst hA2
       obtain ⟨g2, rfl⟩ := Kd.R_head hR2
       have hFb2 := Kd.R_F (Kd.R_bound hR2)
       have hrow2 := blk_below hr1 hb2
       have hbox2 := blk_below hx1 hb2
       have hbb2 : Below w.heap.size w w2 := hb1.trans (hb2.mono hb1.size)
       clear hR2 hb2)
    | (go_at_call 30; refine (get3_ _ (some ⟨g2, 0, none⟩) c2 hC2.2.2 hC2.2.1).mono ?_; rintro e w3 ⟨v3, rfl, hR3, hb3⟩
       obtain ⟨A3, c3, hv3⟩ := Kd.R_slice hR3; change v3 = .slice A3 3 c3 at hv3; subst hv3
       have hcx := (Kd.R_reads' hR3).2.1
       have hFx3 := Kd.R_F (Kd.R_bound hR3)
       have hxb3 := blk_new w3 (.cells #[.slice A3 3 c3, .bool true] 31)
       have hgu := gu_ (w3.alloc (.cells #[.slice A3 3 c3, .bool true] 31))
       rw [show (w3.alloc (.cells #[.slice A3 3 c3, .bool true] 31)).heap.size = w3.heap.size + 1 by simp] at hgu
       have hrow3 := blk_below hrow2 hb3
       have hbox3 := blk_below hbox2 hb3
       have hFb3 := Kd.F_below hFb2 hb3
       have hbb3 : Below w.heap.size w w3 := hbb2.trans (hb3.mono hbb2.size)
       clear hR3 hb3)
    | (go_at_call 20; refine hgu.mono ?_; rintro e w4 ⟨rfl, hb4⟩
       have hb34 : Below w3.heap.size w3 w4 := (below_alloc (Below.refl _ _) _).trans (hb4.mono (by omega))
       have hAx := Aside0.mk (And.intro (blk_below (w := _) (by exact hxb3) (show Below (w3.alloc (.cells #[.slice A3 3 c3, .bool true] 31)).heap.size _ w4 by simpa using hb4)) (And.intro (blk_below hrow3 hb34) (And.intro (blk_below hbox3 hb34) (And.intro (Kd.F_bound (Kd.F_below hFb3 hb34)) (And.intro (Kd.F_bound (Kd.F_below hFx3 hb34)) (hbb3.trans (hb34.mono hbb3.size)))))))
       clear hb4 hb34 hxb3 hrow3 hbox3 hFb3 hFx3 hbb3 hC2 hput hr0 hr1 hx1 hb1 hbb2 hbox2 hrow2 hFb2 hz0 hw1e)
    | (go_at_call 33; refine (page_new _).mono ?_; rintro e w5 ⟨gp, rfl, hgp, hP5, hb5⟩
       have hP5b := hP5.bound
       have hnew := store_new w5 1
       clear hP5)
    | (go_at_call 39; refine hnew.mono ?_; rintro e w6 ⟨gs, rfl, hgs, hS6, hb6⟩
       have hb46 : Below w4.heap.size w4 w6 := hb5.trans (hb6.mono hb5.size)
       have hbox6 := blk_below hAx.out.2.2.1 hb46
       obtain ⟨bx0, bx1, bx2, bx3⟩ := blk2 hbox6
       have hadd := page_add w6 _ gp [] (some ⟨w.heap.size, 0, none⟩) 3 row3 true bytes9 true (hP5b.below hb6) (C_block (n := 0) (blk_below hAx.out.2.1 hb46) (by decide)) (fun w h => put3_ w _ 3 (by decide) h)
       have hSx := Aside0.mk (And.intro hS6.all_bnd (And.intro hb46 (And.intro hb6.size (And.intro hb5.size (And.intro hgp hgs)))))
       clear hS6 hb6 hb5 hb46 hP5b hnew hgp hgs hbox6)
    | (go_at_call 34; refine hadd.mono ?_
       rintro e w7 ⟨rfl, hP7, hf7⟩
       have hSo := hSx.out
       have hb47 : Below w4.heap.size w4 w7 := hSo.2.1.trans (hf7.below (B := w4.heap.size) hSo.2.1.size (fun k hk => hk.1))
       have hS7 := hSo.1.fr hf7 (fun k hk hk2 => by have h1 := hk.1; have h2 := hk2.2; omega)
       have hat := page_at_in w7 _ gp _ 0 bytes9 row3 true 9 0 hP7.bound (Int.le_refl _) rfl get3_
       have hPx := Aside0.mk (And.intro hP7.bound (And.intro hS7 (And.intro hb47 hf7.size)))
       clear hP7 hS7 hb47 hf7 hadd hSo bx0 bx1 bx2 bx3)
    | (go_at_call 36; refine hat.mono ?_
       rintro e w8 ⟨v8, rfl, hR8, hb8⟩
       obtain ⟨A8, c8, hv8⟩ := Kd.R_slice hR8; change v8 = .slice A8 3 c8 at hv8; subst hv8
       have hYx := Aside0.mk (And.intro (Kd.R_F (Kd.R_bound hR8)) (And.intro (Kd.R_reads' hR8).2.1 hb8))
       clear hR8 hb8 hat)
    | fail)
  obtain ⟨w9, hw9⟩ : ∃ w9, w9 = w8.alloc (.cells #[.slice A8 3 c8, .bool true] 31) := ⟨_, rfl⟩
  rw [← hw9]
  have hyb9 : w9.heap[w8.heap.size]? = some (.cells #[.slice A8 3 c8, .bool true] 31 (0, 0)) := by rw [hw9]; exact blk_new _ _
  have hb89 : Below w8.heap.size w8 w9 := by rw [hw9]; exact below_alloc (Below.refl _ _) _
  clear hw9
  have hPo := hPx.out
  have hSo := hSx.out
  have hYo := hYx.out
  have hAo := hAx.out
  have hb79 : Below w7.heap.size w7 w9 := hYo.2.2.trans (hb89.mono hYo.2.2.size)
  have hb49 : Below w4.heap.size w4 w9 := hPo.2.2.1.trans (hb79.mono hPo.2.2.1.size)
  have hS9 := hPo.2.1.below hb79
  have hs9 := hb49.size
  have hs79 := hb79.size
  have hs46 := hSo.2.1.size
  have hwl := hAo.2.2.2.2.2.size
  have hlt3 := blk_lt hAo.1
  have hltw := blk_lt hAo.2.1
  have hltx := blk_lt hAo.2.2.1
  have hadd1 := store_add w9 _ gs 1 0 0 _ none 0 [] false [0] hS9 ⟨fun p hp => by simp at hp, fun p hp => by simp at hp, trivial⟩ rfl (by decide) (by decide) (by decide) (by decide) (fun _ => False) (Kd.F_nil _ _ _) (fun _ h => h.elim) (fun w h => may0_ w h) (fun w h => put0_ w h)
  have hRow := Aside0.mk (And.intro hb49 (And.intro hyb9 (And.intro hS9 (And.intro hb79 (And.intro hs9 (And.intro hs79 (And.intro hs46 (And.intro hlt3 (And.intro hltw (And.intro hltx hb89))))))))))
  clear hyb9 hb89 hPo hSo hYo hAo hb79 hb49 hS9 hs9 hs79 hs46 hwl hlt3 hltw hltx
  go_upto_region 11 with (first
    | (go_at_call 40; refine hadd1.mono ?_; rintro e w10 ⟨rfl, ps1, n1, g1, hS10, hI10, hfl10, hn10, hg10, hf10⟩
       rw [show min ((0 : Int) + 1) 1 = 1 by decide] at hn10
       subst hn10
       obtain rfl : g1 = 0 := by omega
       have hfl10' : flat ps1 = [[0]] := hfl10
       have hWo := hRow.out
       have hSo := hSx.out
       have hAo := hAx.out
       have hb410 : Below w4.heap.size w4 w10 := hWo.1.trans (hf10.below (B := w4.heap.size) hWo.1.size (fun k hk => by have h1 := hk.1; omega))
       have hbox10 := blk_below hAo.2.2.1 hb410
       obtain ⟨bx0, bx1, bx2, bx3⟩ := blk2 hbox10
       have hadd2 := store_add w10 _ gs 1 1 0 ps1 (some ⟨w.heap.size, 0, none⟩) 3 row3 true bytes9 hS10 hI10 (by rw [hfl10']; rfl) (by decide) (by decide) (by decide) (by decide) (fun k => k = w.heap.size) (F_block (blk_below hAo.2.1 hb410) (by decide)) (fun k hk hk2 => by subst hk; rcases hk2 with h | h <;> omega) (fun w h => may3_ w _ 3 (by decide) h) (fun w h => put3_ w _ 3 (by decide) h)
       have hT10 := Aside0.mk (And.intro hf10 (And.intro hb410 hfl10'))
       clear hadd1 hS10 hI10 hfl10 hfl10' hg10 hf10 hWo hSo hAo hb410 hbox10)
    | fail)
  go_upto_region 13 with (first
    | (go_at_call 40; refine hadd2.mono ?_; rintro e w11 ⟨rfl, ps2, n2, g2, hS11, hI11, hfl11, hn11, hg11, hf11⟩
       rw [show min ((1 : Int) + 1) 1 = 1 by decide] at hn11
       subst hn11
       obtain rfl : g2 = 1 := by omega
       have hfl11' : flat ps2 = [bytes9] := by rw [hfl11, hT10.out.2.2]; rfl
       have hat11 := store_at_in w11 _ gs 1 1 1 ps2 0 bytes9 row3 true 9 0 hS11 hI11 (by rw [hfl11']; rfl) (by decide) (by decide) (by rw [hfl11']; rfl) get3_
       have hU11 := Aside0.mk (And.intro hS11 (And.intro hI11 (And.intro hfl11' hf11)))
       clear hadd2 hS11 hI11 hfl11 hfl11' hg11 hf11 bx0 bx1 bx2 bx3)
    | (go_at_call 43; refine hat11.mono ?_
       rintro e w12 ⟨v12, rfl, hR12, hb12⟩
       obtain ⟨A12, c12, hv12⟩ := Kd.R_slice hR12; change v12 = .slice A12 3 c12 at hv12; subst hv12
       have hZx := Aside0.mk (And.intro (Kd.R_F (Kd.R_bound hR12)) (And.intro (Kd.R_reads' hR12).2.1 hb12))
       clear hR12 hb12 hat11)
    | fail)
  obtain ⟨w13, hw13⟩ : ∃ w13, w13 = w12.alloc (.cells #[.slice A12 3 c12, .bool true] 31) := ⟨_, rfl⟩
  rw [← hw13]
  have hzb13 : w13.heap[w12.heap.size]? = some (.cells #[.slice A12 3 c12, .bool true] 31 (0, 0)) := by rw [hw13]; exact blk_new _ _
  have hb1213 : Below w12.heap.size w12 w13 := by rw [hw13]; exact below_alloc (Below.refl _ _) _
  clear hw13
  have hall1 := store_all (.pointer (some ⟨gs, 0, none⟩)) ⟨_, rfl⟩ (w13.alloc (.cells #[.int .i64 0] 3))
  have hall2 := store_all (.pointer (some ⟨gs, 0, none⟩)) ⟨_, rfl⟩ ((w13.alloc (.cells #[.int .i64 0] 3)).alloc (.cells #[.pointer (some ⟨gs, 0, none⟩)] 56))
  rw [show (w13.alloc (.cells #[.int .i64 0] 3)).heap.size = w13.heap.size + 1 by simp] at hall1
  rw [show ((w13.alloc (.cells #[.int .i64 0] 3)).alloc (.cells #[.pointer (some ⟨gs, 0, none⟩)] 56)).heap.size = w13.heap.size + 2 by simp] at hall2
  have hM := Aside0.mk (And.intro hzb13 hb1213)
  have he59 := eq59
  clear hzb13 hb1213
  go_upto_region 16 with (first
    | (go_at_call 41; refine hall1.mono ?_; rintro e w14 ⟨rfl, rfl⟩; clear hall1)
    | fail)
  go_wp2_with (first
    | (go_at_call 41; refine hall2.mono ?_; rintro e w15 ⟨rfl, hw15⟩; clear hall2)
    | fail)
  obtain ⟨w15, hw15e⟩ : ∃ w15, w15 = ((w13.alloc (.cells #[.int .i64 0] 3)).alloc (.cells #[.pointer (some ⟨gs, 0, none⟩)] 56)).alloc (.cells #[.pointer (some ⟨gs, 0, none⟩)] 56) := ⟨_, rfl⟩
  rw [← hw15e]
  have hcb15 : w15.heap[w13.heap.size]? = some (.cells #[.int .i64 0] 3 (0, 0)) := by rw [hw15e]; exact blk_alloc (blk_alloc (blk_new _ _) _) _
  have hbx15 : w15.heap[w13.heap.size + 2]? = some (.cells #[.pointer (some ⟨gs, 0, none⟩)] 56 (0, 0)) := by
    have := blk_new ((w13.alloc (.cells #[.int .i64 0] 3)).alloc (.cells #[.pointer (some ⟨gs, 0, none⟩)] 56)) (.cells #[.pointer (some ⟨gs, 0, none⟩)] 56)
    rw [hw15e]
    simpa using this
  have hb1315 : Below w13.heap.size w13 w15 := by rw [hw15e]; exact below_alloc (below_alloc (below_alloc (Below.refl _ _) _) _) _
  clear hw15e
  have hUo := hU11.out
  have hb1115 : Below w11.heap.size w11 w15 := hZx.out.2.2.trans ((hM.out.2.trans (hb1315.mono hM.out.2.size)).mono hZx.out.2.2.size)
  have hSb := hUo.1.all_bnd.below hb1115
  have hs1113 : w11.heap.size ≤ w13.heap.size := Nat.le_trans hZx.out.2.2.size hM.out.2.size
  have hs1315 := blk_lt hbx15
  have hL := Aside0.mk (And.intro hcb15 (And.intro hbx15 (And.intro hb1315 (And.intro hb1115 (And.intro hs1113 hs1315)))))
  have hseq := store_all_stops (4 - 1) (w13.heap.size + 2) (by decide) _ gs 1 1 1 _ (fun _ => (row3, true)) w15 hUo.2.1.bnd (by rw [flat_bnd, hUo.2.2.1]; rfl) (by decide) (fun k hk => Nat.lt_of_lt_of_le hk.2 hb1115.size) (fun i b hb => by
    rw [flat_bnd, hUo.2.2.1] at hb
    match i, hb with
    | 0, hb => simp only [List.getElem?_cons_zero, Option.some.injEq] at hb; subst hb; exact ⟨9, 0, get3_⟩
    | n + 1, hb => simp at hb) hSb hbx15
  rw [flat_bnd, hUo.2.2.1] at hseq
  refine (fun (a0 : Act) (ha0 : a0 = _) => ?_ : ∀ a0 : Act, a0 = _ → Code.wp Try.prog _ _ a0 _) _ rfl
  refine (wpIn_wide (n := 4)).1 ?_
  refine wpIn_rangeFunc_ownH (F := Fence.wide) (n := 4) rfl (by decide) (gf := 63) (lb := #[.pointer (some ⟨w13.heap.size + 2, 0, none⟩)]) (by rw [ha0]; rfl) trivial (enters_of Try.func63 (by kernel_rfl) rfl) hseq
    (fun h k => KeepOn.trans h k) ?hKb (Below.refl _ _) (fun _ => rfl)
    (fun pre W => W.heap[w13.heap.size]? = some (.cells #[.int .i64 (sumR pre)] 3 (0, 0)) ∧ Fr (fun k => k = w13.heap.size) w15 W) (fun _ _ _ => False) ?hI (fun _ _ _ _ _ h _ _ => h) ⟨hcb15, Fr.refl _ _⟩
    (fun x a' W => ∃ g, w15.heap.size ≤ g ∧ W.heap[g]? = some (.cells #[.slice x.A x.len x.c, .bool x.wr] 31 (0, 0)) ∧ a' = { tmps := (((a0.tmps.setIfInBounds 73 (.int .i64 (x.i : Int))).setIfInBounds 74 (.agg #[.slice x.A x.len x.c, .bool x.wr])).setIfInBounds 18 (.int .i64 (x.i : Int))).setIfInBounds 19 (.pointer (some ⟨g, 0, none⟩)), defers := [] }) ?hAx ?assign ?body ?done ?stop
  case hKb =>
    intro W l o o' hl ho hc hw
    refine ⟨by simp [World.putObj], fun k hk => World.putObj_heap_other ?_⟩
    rcases hk with hk | hk
    · have := hk.2
      omega
    · omega
  case hI =>
    intro xs A B row hs hg hr
    have hf : Fr (fun k => w15.heap.size ≤ k) A B := Fr.of_grown hg (fun k hk => (hr k hk).1)
    exact ⟨hf.old (by omega) hs.1, hs.2.trans hf (fun i hi h => by omega)⟩
  case hAx =>
    rintro x a' _ A B row ⟨g, h1, h2, h3⟩ hg hr
    exact ⟨g, h1, (grownBy_keeps_cells hg (fun r e => (hr r e).2) h2 rfl).trans h2, h3⟩
  case assign =>
    rintro l pre x W K ⟨hi1, hi2⟩ hK
    have hsz := hi2.size
    have hK2 := hK
    clear hK
    subst ha0
    dsimp only [Rw.encs]
    gi_wp2
    refine hK2 _ _ ((KeepsOthers.alloc _ _).from _) ⟨by simp, fun k hk => Below.heap_alloc W _ k ?_⟩ ⟨blk_alloc hi1 _, hi2.alloc _⟩ ⟨W.heap.size, hsz, blk_new _ _, ?_⟩
    · rcases hk with hk | hk
      · have := hk.2
        omega
      · omega
    · rfl
  case body =>
    rintro l pre x a' W hl _ ⟨hi1, hi2⟩ ⟨g, hg1, hg2, rfl⟩ hlt
    subst ha0
    simp only [List.setIfInBounds_toArray, List.set_cons_zero, List.set_cons_succ]
    obtain ⟨y0, y1, y2, y3⟩ := blk2 hg2
    have z0 : W.cell? ⟨w13.heap.size, 0, none⟩ = some (.int .i64 (sumR pre)) := (blk_cell hi1 0).trans rfl
    have z1 := blk_frozen hi1 0
    gi_wp2
    refine ⟨(KeepsOthers.setCell _ _ _).from _, ⟨by simp [World.setCell], fun k hk => Below.heap_setCell W ⟨w13.heap.size, 0, none⟩ _ k ?_⟩, (blk_set hi1 0 _).trans ?_, hi2.setCell (p := ⟨w13.heap.size, 0, none⟩) rfl _⟩
    · show k ≠ w13.heap.size
      rcases hk with hk | hk
      · have := hk.2
        omega
      · omega
    · simp [sumR, List.foldl_append]
  case stop =>
    rintro D c pre W _ _ h _
    exact h.elim
  case done =>
    rintro D xs W hD hxs ⟨hi1, hi2⟩ hK
    subst ha0
    have hsum : sumR xs = 3 := sumR3 hxs
    rw [hsum] at hi1
    have hAo := hAx.out
    have hSo := hSx.out
    have hPo := hPx.out
    have hYo := hYx.out
    have hRo := hRow.out
    have hTo := hT10.out
    have hUu := hU11.out
    have hZo := hZx.out
    have hMo := hM.out
    have hLo := hL.out
    have s45 := hSo.2.2.2.1
    have s56 := hSo.2.2.1
    have s46 := hSo.2.1.size
    have s67 := hPo.2.2.2
    have s78 := hYo.2.2.size
    have s79 := hRo.2.2.2.1.size
    have y9 := blk_lt hRo.2.1
    have s49 := hRo.1.size
    have s910 := hTo.1.size
    have s1011 := hUu.2.2.2.size
    have s1113 := hLo.2.2.2.2.1
    have s1315 := hLo.2.2.2.2.2
    have b4W : Below w4.heap.size w4 W := ((hTo.2.1.trans (hUu.2.2.2.below (B := w4.heap.size) hTo.2.1.size (fun k hk => by rcases hk with hk | hk <;> omega))).trans (hLo.2.2.2.1.mono (by omega))).trans (hi2.below (B := w4.heap.size) (by omega) (fun k hk => by omega))
    have f9W : Fr (fun k => w5.heap.size ≤ k ∧ k < w6.heap.size) w9 W := ((hTo.1.mono (S1 := fun k => w5.heap.size ≤ k ∧ k < w6.heap.size) (fun k hk => by omega)).trans hUu.2.2.2 (fun i hi hk => by rcases hk with hk | hk <;> omega)).trans ((Fr.of_below hLo.2.2.2.1).trans hi2 (fun i hi hk => hk)) (fun i hi hk => by omega)
    have rB := blk_below hAo.2.2.1 b4W
    have xB := blk_below hAo.1 b4W
    have yB := f9W.old (k := w8.heap.size) (fun h => by omega) hRo.2.1
    have zB := hi2.old (k := w12.heap.size) (fun h => by have := blk_lt hMo.1; omega) (blk_below hMo.1 hLo.2.2.1)
    have rF := F_block (l := row3) (blk_below hAo.2.1 b4W) (by decide)
    have xF := Kd.F_below hAo.2.2.2.2.1 ((Below.refl _ _).trans b4W)
    have bF := Kd.F_below hAo.2.2.2.1 b4W
    have yF := Kd.F_step (Kd.F_bound (Kd.F_below hYo.1 (show Below w8.heap.size w8 w9 from hRo.2.2.2.2.2.2.2.2.2.2))) (fun k hk hlt => f9W.block k hlt (fun h => by have := hk.1.2.1; omega))
    have zF := (Kd.F_step (Kd.F_bound (Kd.F_below hZo.1 (hMo.2.trans (hLo.2.2.1.mono hMo.2.size)))) (fun k hk hlt => hi2.block k hlt (fun h => by have := hk.1.2.2.1; have := hMo.2.size; omega)))
    have pW := (hPo.1.below hRo.2.2.2.1).step (W' := W) (fun k hk hlt => f9W.block k hlt (fun h => by omega))
    have sW := hSb.fr hi2 (fun k hk hk2 => by omega)
    have hbW : Below w.heap.size w W := hAo.2.2.2.2.2.trans (b4W.mono hAo.2.2.2.2.2.size)
    have hcy : 3 ≤ c8 := hYo.2.1
    have hcz : 3 ≤ c12 := hZo.2.1
    have hcx3 : 3 ≤ c3 := hcx
    have hBx : Aside0 (∀ W', Below W.heap.size W W' → ((W'.cell? ⟨w.heap.size + 1, 0, none⟩ = some (.slice (some ⟨w.heap.size, 0, none⟩) 3 3) ∧ W'.cell? ⟨w.heap.size + 1, 1, none⟩ = some (.bool true)) ∧ (W'.cell? ⟨w3.heap.size, 0, none⟩ = some (.slice A3 3 c3) ∧ W'.cell? ⟨w3.heap.size, 1, none⟩ = some (.bool true)) ∧
        (W'.cell? ⟨w8.heap.size, 0, none⟩ = some (.slice A8 3 c8) ∧ W'.cell? ⟨w8.heap.size, 1, none⟩ = some (.bool true)) ∧ (W'.cell? ⟨w12.heap.size, 0, none⟩ = some (.slice A12 3 c12) ∧ W'.cell? ⟨w12.heap.size, 1, none⟩ = some (.bool true)) ∧ W'.cell? ⟨w13.heap.size, 0, none⟩ = some (.int .i64 3))) :=
      ⟨fun W' hb => ⟨⟨(blk2 (blk_below rB hb)).1, (blk2 (blk_below rB hb)).2.1⟩, ⟨(blk2 (blk_below xB hb)).1, (blk2 (blk_below xB hb)).2.1⟩, ⟨(blk2 (blk_below yB hb)).1, (blk2 (blk_below yB hb)).2.1⟩, ⟨(blk2 (blk_below zB hb)).1, (blk2 (blk_below zB hb)).2.1⟩, (blk_cell (blk_below hi1 hb) 0).trans rfl⟩⟩
    have hFx : Aside0 (∀ W', Below W.heap.size W W' → Kd.C k45 W' (some ⟨w.heap.size, 0, none⟩) row3.length row3 ∧ Kd.C k45 W' A3 row3.length row3 ∧ Kd.C k45 W' A8 row3.length row3 ∧ Kd.C k45 W' A12 row3.length row3 ∧ Kd.C (Kd.int .u8) W' (some ⟨g2, 0, none⟩) bytes9.length bytes9) :=
      ⟨fun W' hb => ⟨Kd.F_now (Kd.F_below rF hb), Kd.F_now (Kd.F_below xF hb), Kd.F_now (Kd.F_below yF hb), Kd.F_now (Kd.F_below zF hb), Kd.F_now (Kd.F_below bF hb)⟩⟩
    have hPS : Aside0 (∀ W', Below W.heap.size W W' → (PageAt W' _ gp [bytes9] ∧ StoreAt W' _ gs 1 1 1 _)) := ⟨fun W' hb => ⟨pW.below hb, sW.below hb⟩⟩
    have h50 := begun50 W
    have hbl : bytes9.length = 9 := rfl
    have hsl : (sumLen [bytes9] : Int) = 9 := rfl
    have hsl2 : (sumLen (addRows [] bytes9 true) : Int) = 9 := rfl
    have hEnd := Aside0.mk (And.intro hbW hK)
    clear rB xB yB zB rF xF bF yF zF pW sW hbW hAo hSo hPo hYo hRo hTo hUu hZo hMo hLo s45 s56 s46 s67 s78 s79 y9 s49 s910 s1011 s1113 s1315 b4W f9W hi1 hi2 hseq hSb hUo hb1115 hb1315 hcb15 hbx15 hK
    go_wp2_with (first
      | (go_at_call 50; refine h50.mono ?_; rintro e w17 ⟨rfl, hc17⟩
         obtain ⟨⟨q0, q1⟩, ⟨x0, x1⟩, ⟨y0, y1⟩, ⟨z0, z1⟩, c0⟩ := hBx.out _ hc17
         have hcv := conv9 (c := c2) (hFx.out _ hc17).2.2.2.2
         have h28 := eq3_ w17 A3 (some ⟨w.heap.size, 0, none⟩) c3 3 (hFx.out _ hc17).2.1 hcx3 (hFx.out _ hc17).1 (by decide)
         clear h50)
      | (go_at_call 28; refine h28.mono ?_; rintro e w18 ⟨rfl, hb18⟩
         have hc18 := hc17.trans (hb18.mono hc17.size)
         clear q0 q1 x0 x1 y0 y1 z0 z1 c0 hcv h28 hc17 hb18
         obtain ⟨⟨q0, q1⟩, ⟨x0, x1⟩, ⟨y0, y1⟩, ⟨z0, z1⟩, c0⟩ := hBx.out _ hc18
         have h28y := eq3_ w18 A8 (some ⟨w.heap.size, 0, none⟩) c8 3 (hFx.out _ hc18).2.2.1 hcy (hFx.out _ hc18).1 (by decide))
      | (go_at_call 28; refine h28y.mono ?_; rintro e w19 ⟨rfl, hb19⟩
         have hc19 := hc18.trans (hb19.mono hc18.size)
         clear q0 q1 x0 x1 y0 y1 z0 z1 c0 h28y hc18 hb19
         obtain ⟨⟨q0, q1⟩, ⟨x0, x1⟩, ⟨y0, y1⟩, ⟨z0, z1⟩, c0⟩ := hBx.out _ hc19
         have h38 := page_bytes w19 _ gp _ (hPS.out _ hc19).1 (by decide) (by decide))
      | (go_at_call 38; refine h38.mono ?_; rintro e w20 ⟨rfl, hb20⟩
         have hc20 := hc19.trans (hb20.mono hc19.size)
         clear q0 q1 x0 x1 y0 y1 z0 z1 c0 h38 hc19 hb20
         obtain ⟨⟨q0, q1⟩, ⟨x0, x1⟩, ⟨y0, y1⟩, ⟨z0, z1⟩, c0⟩ := hBx.out _ hc20
         have h28z := eq3_ w20 A12 (some ⟨w.heap.size, 0, none⟩) c12 3 (hFx.out _ hc20).2.2.2.1 hcz (hFx.out _ hc20).1 (by decide))
      | (go_at_call 28; refine h28z.mono ?_; rintro e w21 ⟨rfl, hb21⟩
         have hc21 := hc20.trans (hb21.mono hc20.size)
         clear q0 q1 x0 x1 y0 y1 z0 z1 c0 h28z hc20 hb21
         obtain ⟨⟨q0, q1⟩, ⟨x0, x1⟩, ⟨y0, y1⟩, ⟨z0, z1⟩, c0⟩ := hBx.out _ hc21
         have h45 := store_gone w21 _ gs 1 1 1 _ (hPS.out _ hc21).2
         have h44 := fun m => store_len (w21.drewN m) _ gs 1 1 1 _ ((hPS.out _ hc21).2.step (W' := w21.drewN m) (fun _ _ _ => rfl))
         have h26 := fun m => may3_ (w21.drewN m) (some ⟨w.heap.size, 0, none⟩) 3 (by decide) (Kd.C_drewN (hFx.out _ hc21).1 m))
      | (go_at_call 45; refine h45.mono ?_; rintro e w22 ⟨rfl, hd22⟩; obtain ⟨m1, rfl⟩ := hd22.out; clear hd22 h45)
      | (go_at_call 44; refine (h44 _).mono ?_; rintro e w23 ⟨rfl, hd23⟩; obtain ⟨m2, rfl⟩ := hd23.out; clear hd23 h44)
      | (go_at_call 26; refine (h26 _).mono ?_; rintro e w24 ⟨rfl, hb24⟩)
      | fail)
    have hc24 : Below W.heap.size W w24 := (pw_below_drewN hc21 _).trans (hb24.mono hc21.size)
    have hK24 := blk_below hEnd.out.2 hc24
    have hB24 : Below w.heap.size w w24 := hEnd.out.1.trans (hc24.mono hEnd.out.1.size)
    have hDw : w.heap.size ≤ D := by
      have h1 := hEnd.out.1.size
      have h2 := hAx.out.2.2.2.2.2.size
      have h3 := hRow.out.1.size
      have h4 := hT10.out.1.size
      have h5 := hU11.out.2.2.2.size
      have h6 := hL.out.2.2.2.1.size
      omega
    refine ⟨by simp, .inl ⟨_, _, rfl, run_takeDeferred hK24, ?_⟩⟩
    exact ⟨_, results_tmp rfl _ _ _, rfl, hB24.trans (belowK_b (w := w) (Nat.le_refl _) w24 D _ _ hDw hK24 rfl rfl)⟩
end Go.Proofs.Ytkigdcihhlkkdaa.P
end
section
namespace Go.Proofs.Ytkigdcihhlkkdaa.P
open Go.RowKit Go.Proofs.YtkigdcihhlkkdaaW.PrintWords Go.Proofs.YtkigdcihhlkkdaaW.PrintLast Go.Proofs.YtkigdcihhlkkdaaW.PrintMore
attribute [local go_sem] max2_int min2_int max_two min_two max_three min_three max_four min_four   -- for this text's walks alone
set_option linter.unusedVariables false
set_option linter.unusedSimpArgs false
def rotulusref1_Width.zeros : List (Int × Int) := [(-2147483648, 31), (127, 159), (768, 879), (8203, 8207), (65024, 65039), (1114112, 2147483647), (55296, 57343)]
def rotulusref1_Width.wides : List (Int × Int) := [(4352, 4447), (11904, 12350), (12353, 13311), (13312, 19903), (19968, 40959), (40960, 42191), (44032, 55203), (63744, 64255), (65072, 65135), (65280, 65376), (65504, 65510), (127744, 128591), (129280, 129535), (131072, 262141)]
def rotulusref1_Width.isIn (l : List (Int × Int)) (r : Int) : Bool := l.any fun p => decide (p.1 ≤ r) && decide (r ≤ p.2)
def rotulusref1_Width.w (r : Int) : Int := if rotulusref1_Width.isIn rotulusref1_Width.zeros r = true then 0 else if rotulusref1_Width.isIn rotulusref1_Width.wides r = true then 2 else 1
def rotulusref1_Width.f (a0 : Int) : Option Int := some (rotulusref1_Width.w a0)
def rotulusref1_Width.cells (l : List (Int × Int)) : List Value := l.flatMap fun p => [.int .i32 p.1, .int .i32 p.2]
theorem rotulusref1_Width.yes (l : List (Int × Int)) (r : Int) (i : Nat) (hi : i < l.length) (h1 : l[i].1 ≤ r) (h2 : r ≤ l[i].2) : rotulusref1_Width.isIn l r = true := by
  unfold rotulusref1_Width.isIn
  rw [List.any_eq_true]
  exact ⟨l[i], List.getElem_mem hi, by simp [h1, h2]⟩
theorem rotulusref1_Width.no (l : List (Int × Int)) (r : Int) (h : ∀ i, ∀ hi : i < l.length, ¬ (l[i].1 ≤ r ∧ r ≤ l[i].2)) : rotulusref1_Width.isIn l r = false := by
  unfold rotulusref1_Width.isIn
  rw [List.any_eq_false]
  intro p hp
  obtain ⟨i, hi, rfl⟩ := List.mem_iff_getElem.1 hp
  have := h i hi
  simp
  intro h1
  by_cases h2 : r ≤ l[i].2
  · exact absurd ⟨h1, h2⟩ this
  · omega
theorem rotulusref1_Width.row (W : World) (B : Nat) (l : List (Int × Int)) (hW : W.heap[B]? = some (.cells (rotulusref1_Width.cells l).toArray 96 (0, 0))) (i : Nat) (hi : i < l.length) :
    W.cell? ⟨B, i * 2, none⟩ = some (.int .i32 l[i].1) ∧ W.cell? ⟨B, i * 2 + 1, none⟩ = some (.int .i32 l[i].2) := by
  have key : ∀ (l : List (Int × Int)) (i : Nat) (hi : i < l.length), (rotulusref1_Width.cells l)[i * 2]? = some (.int .i32 l[i].1) ∧ (rotulusref1_Width.cells l)[i * 2 + 1]? = some (.int .i32 l[i].2) := by
    intro l
    induction l with
    | nil => intro i hi; simp at hi
    | cons p l ih =>
      intro i hi
      cases i with
      | zero => simp [rotulusref1_Width.cells]
      | succ i =>
        have := ih i (by simpa using hi)
        have e1 : (i + 1) * 2 = i * 2 + 2 := by omega
        simp only [rotulusref1_Width.cells, List.flatMap_cons, e1] at this ⊢
        simpa using this
  have k := key l i hi
  constructor
  · simp only [World.cell?, hW]
    simpa using k.1
  · simp only [World.cell?, hW]
    simpa using k.2
set_option maxHeartbeats 4000000 in
set_option maxRecDepth 100000 in
theorem rotulusref1_Width.calls (a0 : Int) (r : Int) (w : World) (h : rotulusref1_Width.f a0 = some r) :
    Calls Try.prog 59 #[.int .i32 a0] w fun e w' => e = .returned (.int .i64 r) ∧ Below w.heap.size w w' := by
  obtain rfl := Option.some.inj h
  clear h
  go_enter Try.func59, Try.ntmps59
  go_wp2
  have HB : Aside0 (Below w.heap.size w ((w.alloc (.cells #[.int .i32 (-2147483648), .int .i32 31, .int .i32 127, .int .i32 159, .int .i32 768, .int .i32 879, .int .i32 8203, .int .i32 8207, .int .i32 65024, .int .i32 65039, .int .i32 1114112, .int .i32 2147483647, .int .i32 55296, .int .i32 57343] 96)).alloc (.cells #[.int .i32 4352, .int .i32 4447, .int .i32 11904, .int .i32 12350, .int .i32 12353, .int .i32 13311, .int .i32 13312, .int .i32 19903, .int .i32 19968, .int .i32 40959, .int .i32 40960, .int .i32 42191, .int .i32 44032, .int .i32 55203, .int .i32 63744, .int .i32 64255, .int .i32 65072, .int .i32 65135, .int .i32 65280, .int .i32 65376, .int .i32 65504, .int .i32 65510, .int .i32 127744, .int .i32 128591, .int .i32 129280, .int .i32 129535, .int .i32 131072, .int .i32 262141] 96))) := ⟨below_alloc (below_alloc (Below.refl _ _) _) _⟩
  have hz : Aside0 (((w.alloc (.cells #[.int .i32 (-2147483648), .int .i32 31, .int .i32 127, .int .i32 159, .int .i32 768, .int .i32 879, .int .i32 8203, .int .i32 8207, .int .i32 65024, .int .i32 65039, .int .i32 1114112, .int .i32 2147483647, .int .i32 55296, .int .i32 57343] 96)).alloc (.cells #[.int .i32 4352, .int .i32 4447, .int .i32 11904, .int .i32 12350, .int .i32 12353, .int .i32 13311, .int .i32 13312, .int .i32 19903, .int .i32 19968, .int .i32 40959, .int .i32 40960, .int .i32 42191, .int .i32 44032, .int .i32 55203, .int .i32 63744, .int .i32 64255, .int .i32 65072, .int .i32 65135, .int .i32 65280, .int .i32 65376, .int .i32 65504, .int .i32 65510, .int .i32 127744, .int .i32 128591, .int .i32 129280, .int .i32 129535, .int .i32 131072, .int .i32 262141] 96)).heap[w.heap.size]? = some (.cells (rotulusref1_Width.cells rotulusref1_Width.zeros).toArray 96 (0, 0))) := ⟨blk_alloc (blk_new w _) _⟩
  have hwd : Aside0 (((w.alloc (.cells #[.int .i32 (-2147483648), .int .i32 31, .int .i32 127, .int .i32 159, .int .i32 768, .int .i32 879, .int .i32 8203, .int .i32 8207, .int .i32 65024, .int .i32 65039, .int .i32 1114112, .int .i32 2147483647, .int .i32 55296, .int .i32 57343] 96)).alloc (.cells #[.int .i32 4352, .int .i32 4447, .int .i32 11904, .int .i32 12350, .int .i32 12353, .int .i32 13311, .int .i32 13312, .int .i32 19903, .int .i32 19968, .int .i32 40959, .int .i32 40960, .int .i32 42191, .int .i32 44032, .int .i32 55203, .int .i32 63744, .int .i32 64255, .int .i32 65072, .int .i32 65135, .int .i32 65280, .int .i32 65376, .int .i32 65504, .int .i32 65510, .int .i32 127744, .int .i32 128591, .int .i32 129280, .int .i32 129535, .int .i32 131072, .int .i32 262141] 96)).heap[w.heap.size + 1]? = some (.cells (rotulusref1_Width.cells rotulusref1_Width.wides).toArray 96 (0, 0))) := ⟨by have h_ := blk_new (w.alloc (.cells #[.int .i32 (-2147483648), .int .i32 31, .int .i32 127, .int .i32 159, .int .i32 768, .int .i32 879, .int .i32 8203, .int .i32 8207, .int .i32 65024, .int .i32 65039, .int .i32 1114112, .int .i32 2147483647, .int .i32 55296, .int .i32 57343] 96)) (.cells #[.int .i32 4352, .int .i32 4447, .int .i32 11904, .int .i32 12350, .int .i32 12353, .int .i32 13311, .int .i32 13312, .int .i32 19903, .int .i32 19968, .int .i32 40959, .int .i32 40960, .int .i32 42191, .int .i32 44032, .int .i32 55203, .int .i32 63744, .int .i32 64255, .int .i32 65072, .int .i32 65135, .int .i32 65280, .int .i32 65376, .int .i32 65504, .int .i32 65510, .int .i32 127744, .int .i32 128591, .int .i32 129280, .int .i32 129535, .int .i32 131072, .int .i32 262141] 96); rw [World.size_alloc] at h_; exact h_⟩
  generalize (w.alloc (.cells #[.int .i32 (-2147483648), .int .i32 31, .int .i32 127, .int .i32 159, .int .i32 768, .int .i32 879, .int .i32 8203, .int .i32 8207, .int .i32 65024, .int .i32 65039, .int .i32 1114112, .int .i32 2147483647, .int .i32 55296, .int .i32 57343] 96)).alloc (.cells #[.int .i32 4352, .int .i32 4447, .int .i32 11904, .int .i32 12350, .int .i32 12353, .int .i32 13311, .int .i32 13312, .int .i32 19903, .int .i32 19968, .int .i32 40959, .int .i32 40960, .int .i32 42191, .int .i32 44032, .int .i32 55203, .int .i32 63744, .int .i32 64255, .int .i32 65072, .int .i32 65135, .int .i32 65280, .int .i32 65376, .int .i32 65504, .int .i32 65510, .int .i32 127744, .int .i32 128591, .int .i32 129280, .int .i32 129535, .int .i32 131072, .int .i32 262141] 96) = W at HB hz hwd ⊢
  go_loopg [5] 7 (fun gg s wr => ∃ kk : Nat, kk ≤ 7 ∧ 7 - kk ≤ gg ∧ s = .int .i64 kk ∧ Aside0 (wr = W) ∧ Aside0 (∀ i, i < kk → ∀ hi : i < rotulusref1_Width.zeros.length, ¬ (rotulusref1_Width.zeros[i].1 ≤ a0 ∧ a0 ≤ rotulusref1_Width.zeros[i].2)))
  case atStart => exact ⟨0, Nat.zero_le _, by omega, rfl, ⟨rfl⟩, ⟨fun i hi => absurd hi (Nat.not_lt_zero _)⟩⟩
  case round =>
    obtain ⟨kk, hkk, hg, rfl, hwr, HA⟩ := hrel
    obtain rfl := hwr.out
    clear hwr
    by_cases hlt : kk < 7
    · have hltz : (kk : Int) < 7 := by omega
      have hi : kk < rotulusref1_Width.zeros.length := hlt
      obtain ⟨hx0, hx1⟩ := rotulusref1_Width.row wr w.heap.size rotulusref1_Width.zeros hz.out kk hi
      have hyes := Lib.hid (rotulusref1_Width.yes rotulusref1_Width.zeros a0 kk hi)
      obtain ⟨lo, hlo⟩ : ∃ lo, lo = rotulusref1_Width.zeros[kk].1 := ⟨_, rfl⟩
      obtain ⟨hi_, hhi⟩ : ∃ hi_, hi_ = rotulusref1_Width.zeros[kk].2 := ⟨_, rfl⟩
      rw [← hlo] at hx0
      rw [← hhi] at hx1
      have Hlo := Lib.hid hlo
      have Hhi := Lib.hid hhi
      clear hlo hhi
      by_cases h1 : lo ≤ a0
      · by_cases h2 : a0 ≤ hi_
        · have hin := Lib.hid (hyes.out (by rw [← Hlo.out]; exact h1) (by rw [← Hhi.out]; exact h2))
          clear hyes HA
          have d1 : decide (a0 ≥ lo) = true := by simpa using h1
          have d2 : decide (a0 ≤ hi_) = true := by simpa using h2
          go_wp2
          go_ret
          exact ⟨by rw [rotulusref1_Width.w, if_pos hin.out] <;> rfl, HB.out⟩
        · have HA2 : Aside0 (∀ i, i < kk + 1 → ∀ hi : i < rotulusref1_Width.zeros.length, ¬ (rotulusref1_Width.zeros[i].1 ≤ a0 ∧ a0 ≤ rotulusref1_Width.zeros[i].2)) := ⟨fun i hi hl hh => by
            by_cases e : i = kk
            · subst e
              exact h2 (by rw [Hhi.out]; exact hh.2)
            · exact HA.out i (by omega) hl hh⟩
          clear HA hyes
          have d1 : decide (a0 ≥ lo) = true := by simpa using h1
          have d2 : decide (a0 ≤ hi_) = false := by simpa using h2
          go_wp2
          go_roundg (7 - (kk + 1))
          case measure => omega
          case rel => exact ⟨kk + 1, by omega, by omega, by go_num, ⟨rfl⟩, HA2⟩
      · have HA2 : Aside0 (∀ i, i < kk + 1 → ∀ hi : i < rotulusref1_Width.zeros.length, ¬ (rotulusref1_Width.zeros[i].1 ≤ a0 ∧ a0 ≤ rotulusref1_Width.zeros[i].2)) := ⟨fun i hi hl hh => by
          by_cases e : i = kk
          · subst e
            exact h1 (by rw [Hlo.out]; exact hh.1)
          · exact HA.out i (by omega) hl hh⟩
        clear HA hyes
        have d1 : decide (a0 ≥ lo) = false := by simpa using h1
        go_wp2
        go_roundg (7 - (kk + 1))
        case measure => omega
        case rel => exact ⟨kk + 1, by omega, by omega, by go_num, ⟨rfl⟩, HA2⟩
    · have hltz : ¬ (kk : Int) < 7 := by omega
      obtain rfl : kk = 7 := by omega
      have hout := Lib.hid (rotulusref1_Width.no rotulusref1_Width.zeros a0 fun i hi => HA.out i hi hi)
      clear HA
      go_wp2
      have hout0 := hout
      clear hout
      obtain ⟨W2, hW2⟩ : ∃ W2, W2 = wr := ⟨_, rfl⟩
      subst hW2
      go_loopg [6] 14 (fun gg s wr => ∃ kk : Nat, kk ≤ 14 ∧ 14 - kk ≤ gg ∧ s = .int .i64 kk ∧ Aside0 (wr = W2) ∧ Aside0 (∀ i, i < kk → ∀ hi : i < rotulusref1_Width.wides.length, ¬ (rotulusref1_Width.wides[i].1 ≤ a0 ∧ a0 ≤ rotulusref1_Width.wides[i].2)))
      case atStart => exact ⟨0, Nat.zero_le _, by omega, rfl, ⟨rfl⟩, ⟨fun i hi => absurd hi (Nat.not_lt_zero _)⟩⟩
      case round =>
        obtain ⟨kk, hkk, hg, rfl, hwr, HA⟩ := hrel
        obtain rfl := hwr.out
        clear hwr
        by_cases hlt : kk < 14
        · have hltz : (kk : Int) < 14 := by omega
          have hi : kk < rotulusref1_Width.wides.length := hlt
          obtain ⟨hx0, hx1⟩ := rotulusref1_Width.row wr (w.heap.size + 1) rotulusref1_Width.wides hwd.out kk hi
          have hyes := Lib.hid (rotulusref1_Width.yes rotulusref1_Width.wides a0 kk hi)
          obtain ⟨lo, hlo⟩ : ∃ lo, lo = rotulusref1_Width.wides[kk].1 := ⟨_, rfl⟩
          obtain ⟨hi_, hhi⟩ : ∃ hi_, hi_ = rotulusref1_Width.wides[kk].2 := ⟨_, rfl⟩
          rw [← hlo] at hx0
          rw [← hhi] at hx1
          have Hlo := Lib.hid hlo
          have Hhi := Lib.hid hhi
          clear hlo hhi
          by_cases h1 : lo ≤ a0
          · by_cases h2 : a0 ≤ hi_
            · have hin := Lib.hid (hyes.out (by rw [← Hlo.out]; exact h1) (by rw [← Hhi.out]; exact h2))
              clear hyes HA
              have d1 : decide (a0 ≥ lo) = true := by simpa using h1
              have d2 : decide (a0 ≤ hi_) = true := by simpa using h2
              go_wp2
              go_ret
              exact ⟨by rw [rotulusref1_Width.w, if_neg (by rw [hout0.out]; decide), if_pos hin.out] <;> rfl, HB.out⟩
            · have HA2 : Aside0 (∀ i, i < kk + 1 → ∀ hi : i < rotulusref1_Width.wides.length, ¬ (rotulusref1_Width.wides[i].1 ≤ a0 ∧ a0 ≤ rotulusref1_Width.wides[i].2)) := ⟨fun i hi hl hh => by
                by_cases e : i = kk
                · subst e
                  exact h2 (by rw [Hhi.out]; exact hh.2)
                · exact HA.out i (by omega) hl hh⟩
              clear HA hyes
              have d1 : decide (a0 ≥ lo) = true := by simpa using h1
              have d2 : decide (a0 ≤ hi_) = false := by simpa using h2
              go_wp2
              go_roundg (14 - (kk + 1))
              case measure => omega
              case rel => exact ⟨kk + 1, by omega, by omega, by go_num, ⟨rfl⟩, HA2⟩
          · have HA2 : Aside0 (∀ i, i < kk + 1 → ∀ hi : i < rotulusref1_Width.wides.length, ¬ (rotulusref1_Width.wides[i].1 ≤ a0 ∧ a0 ≤ rotulusref1_Width.wides[i].2)) := ⟨fun i hi hl hh => by
              by_cases e : i = kk
              · subst e
                exact h1 (by rw [Hlo.out]; exact hh.1)
              · exact HA.out i (by omega) hl hh⟩
            clear HA hyes
            have d1 : decide (a0 ≥ lo) = false := by simpa using h1
            go_wp2
            go_roundg (14 - (kk + 1))
            case measure => omega
            case rel => exact ⟨kk + 1, by omega, by omega, by go_num, ⟨rfl⟩, HA2⟩
        · have hltz : ¬ (kk : Int) < 14 := by omega
          obtain rfl : kk = 14 := by omega
          have hout := Lib.hid (rotulusref1_Width.no rotulusref1_Width.wides a0 fun i hi => HA.out i hi hi)
          clear HA
          go_wp2
          go_ret
          exact ⟨by rw [rotulusref1_Width.w, if_neg (by rw [hout0.out]; decide), if_neg (by rw [hout.out]; decide)] <;> rfl, HB.out⟩
end Go.Proofs.Ytkigdcihhlkkdaa.P
end
section
namespace Go.Proofs.Ytkigdcihhlkkdaa.P
open Go.RowKit Go.Proofs.YtkigdcihhlkkdaaW.PrintWords Go.Proofs.YtkigdcihhlkkdaaW.PrintLast Go.Proofs.YtkigdcihhlkkdaaW.PrintMore
attribute [local go_sem] max2_int min2_int max_two min_two max_three min_three max_four min_four   -- for this text's walks alone
set_option linter.unusedVariables false
set_option linter.unusedSimpArgs false
def rotulusref1_Pad.f  : Option (Int × Int × Int) := some (0, 1, 0)
set_option maxHeartbeats 8000000 in
set_option maxRecDepth 100000 in
theorem rotulusref1_Pad.calls  (r1 : Int) (r2 : Int) (r3 : Int) (w : World) (h : rotulusref1_Pad.f  = some (r1, r2, r3)) :
    Calls Try.prog 67 #[] w fun e w' => e = .returned (.agg #[.int .i32 r1, .int .i64 r2, .int .i64 r3]) ∧ Below w.heap.size w w' := by
  have hu45 := Try.underlying45
  have HB := Aside0.mk (Below.refl w.heap.size w)
  have H : (some (0, 1, 0)) = some (r1, r2, r3) := h
  clear h
  simp only [Option.some.injEq, Prod.mk.injEq] at H
  obtain ⟨rfl, rfl, rfl⟩ := H
  go_enter Try.func67, Try.ntmps67
  go_wp2_with (first | ((with_reducible refine gate_dst (N := 0) rfl ?_); refine box_event ?hg (N := 0) ?hd (cs := #[.int .i32 0, .int .i64 0, .int .i64 0]) (t := 45) ?hr ?_; (case hd => rfl); (case hg => rfl); (case hr => first | (go_simp; done) | (go_simp; rfl)); intro gb493 hg w1 hbox hb; have n0_ := Aside0.mk (below_step (by repeat (first | (with_reducible first | exact HB.out | apply below_alloc | apply pw_below_drewN | apply below_drew1) | exact HB.out)) hb); have n1_ := Aside0.mk (hbox); have n2_ := Aside0.mk ((by rw [hg]; exact (below_size (by repeat (first | (with_reducible first | exact HB.out | apply below_alloc | apply pw_below_drewN | apply below_drew1) | exact HB.out))) : w.heap.size ≤ gb493)); have n3_ := Aside0.mk ((by rw [hg]; exact (below_size (by repeat (first | (with_reducible first | exact HB.out | apply below_alloc | apply pw_below_drewN | apply below_drew1) | exact HB.out))) : w.heap.size ≤ gb493)); clear HB; have HB := n0_; have BK493 := n1_; have GW493 := n2_; have GE493 := n3_; clear n0_ n1_ n2_ n3_; clear hb hbox hg; have hcz2_0 : w1.cell? ⟨gb493, 0, none⟩ = some (.int .i32 0) := (blk_cell BK493.out 0).trans rfl; have hcz2_1 : w1.cell? ⟨gb493, 1, none⟩ = some (.int .i64 0) := (blk_cell BK493.out 1).trans rfl; have hcz2_2 : w1.cell? ⟨gb493, 2, none⟩ = some (.int .i64 0) := (blk_cell BK493.out 2).trans rfl; have hfz2_0 := blk_frozen BK493.out 0; have hfz2_1 := blk_frozen BK493.out 1; have hfz2_2 := blk_frozen BK493.out 2))
  refine bodyPost_ret (results_cell_row rfl _ _ gb493 45 #[.int .i32 0, .int .i64 1, .int .i64 0] (0, 0) _ rfl (by (with_reducible repeat (first | refine blk_drewN ?_ _ | refine blk_drew ?_ | refine blk_alloc ?_ _)); refine blk_put (cs := #[.int .i32 0, .int .i64 1, .int .i64 0]) ?_ 2 _ rfl; (with_reducible repeat (first | refine blk_drewN ?_ _ | refine blk_drew ?_ | refine blk_alloc ?_ _)); refine blk_put (cs := #[.int .i32 0, .int .i64 0, .int .i64 0]) ?_ 1 _ rfl; (with_reducible repeat (first | refine blk_drewN ?_ _ | refine blk_drew ?_ | refine blk_alloc ?_ _)); refine blk_put (cs := #[.int .i32 0, .int .i64 0, .int .i64 0]) ?_ 0 _ rfl; (with_reducible repeat (first | refine blk_drewN ?_ _ | refine blk_drew ?_ | refine blk_alloc ?_ _)); exact BK493.out) Try.underlying45 rfl (by kernel_rfl)) rfl ?_
  exact ⟨by first | rfl | (simp [errW_none, errW_some] <;> rfl) | (simp [*, errW_none, errW_some] <;> rfl), by repeat (first | (with_reducible first | exact HB.out | apply below_alloc | apply pw_below_drewN | apply below_drew1 | refine below_set ?_ GE493.out) | exact HB.out)⟩
end Go.Proofs.Ytkigdcihhlkkdaa.P
end
section
set_option linter.unusedVariables false
set_option linter.unusedSimpArgs false
namespace Go.Proofs.Ytkigdcihhlkkdaa.P
open Go.RowKit Go.Proofs.YtkigdcihhlkkdaaW.PrintWords Go.Proofs.YtkigdcihhlkkdaaW.PrintLast Go.Proofs.YtkigdcihhlkkdaaW.PrintMore
attribute [local go_sem high] eqA45
def refCellB (c : S45) : Bool := decide (0 ≤ c.f2) && (decide (c.f2 ≤ 255) && ((c.f0 == 0 && (c.f1 == 1 && c.f2 == 0)) || ((c.f1 == 0 && c.f0 == 0) || (decide (0 < c.f1) && c.f1 == rotulusref1_Width.w c.f0))))
def tab_54_3 : Bool × List (List Nat × List Nat) := (true, [([], []), ([], []), ([0, 1], [0, 1]), ([2, 1], [2]), ([3], [3]), ([4, 3], [3, 4]), ([5, 3], [3, 5]), ([6, 3, 3], [3, 6]), ([7], [7]), ([8, 7], [7, 8]), ([9, 7], [7, 9]), ([7, 10, 3], [3, 7, 10]), ([3, 11], [3, 11]), ([12, 7], [12]), ([13], [13]), ([14, 13], [13, 14]), ([15, 13], [13, 15]), ([16, 13, 13], [13, 16]), ([17], [17]), ([18, 17], [17, 18]), ([17], [17]), ([20, 17], [17, 20]), ([21, 17, 17], [17, 21]), ([19, 22, 17], [17, 19, 22]), ([17, 23, 13], [13, 17, 23]), ([13, 24], [13, 24]), ([25, 22, 0, 1, 2, 3, 4, 5, 6, 7, 8, 9, 10, 11, 12, 13, 14, 15, 16, 17, 18, 19, 20, 21, 22, 23, 24, 25], [25])])
theorem tab_54_3_ : rtab .any (opsOf Try.f54 3) = tab_54_3 := by kernel_rfl
theorem pad_ (W : World) : Calls Try.prog 67 #[] W fun e w' => e = .returned (.agg #[.int .i32 0, .int .i64 1, .int .i64 0]) ∧ Below W.heap.size W w' := rotulusref1_Pad.calls 0 1 0 W (by rfl)
theorem width_ (r : Int) (W : World) : Calls Try.prog 59 #[.int .i32 r] W fun e w' => e = .returned (.int .i64 (rotulusref1_Width.w r)) ∧ Below W.heap.size W w' := rotulusref1_Width.calls r _ W rfl
set_option maxHeartbeats 4000000 in
set_option maxRecDepth 100000 in
theorem refCell_ (c : S45) (W : World) : Calls Try.prog 54 #[.agg #[.int .i32 c.f0, .int .i64 c.f1, .int .i64 c.f2]] W fun e w' => e = .returned (.bool (refCellB c)) ∧ Below W.heap.size W w' := by
  have hb0 : Below W.heap.size W (W.alloc (.cells #[.int .i32 c.f0, .int .i64 c.f1, .int .i64 c.f2] 45)) := below_alloc (Below.refl _ _) _
  have hB0 := blk_new W (.cells #[.int .i32 c.f0, .int .i64 c.f1, .int .i64 c.f2] 45)
  obtain ⟨x0, x1, x2⟩ := blk3 hB0
  have hu := Try.underlying45
  by_cases h1 : c.f2 < 0
  · go_enter Try.func54, Try.ntmps54
    go_wp2
    go_ret
    refine ⟨by simp [refCellB]; omega, hb0⟩
  by_cases h2 : 255 < c.f2
  · go_enter Try.func54, Try.ntmps54
    go_wp2
    go_ret
    refine ⟨by simp [refCellB]; omega, hb0⟩
  have hS0 : SC W c (W.alloc (.cells #[.int .i32 c.f0, .int .i64 c.f1, .int .i64 c.f2] 45)).drew := SC.mk' hB0 (below_drew1 hb0)
  have e1 : decide (0 ≤ c.f2) = true := decide_eq_true (by omega)
  have e2 : decide (c.f2 ≤ 255) = true := decide_eq_true (by omega)
  unfold refCellB
  rw [e1, e2, Bool.true_and, Bool.true_and]
  clear e1 e2 x0 x1 x2
  obtain ⟨cr, cw, ca⟩ := c
  dsimp only at *
  cases hp : (cr == 0 && (cw == 1 && ca == 0))
  case true =>
    go_enter Try.func54, Try.ntmps54
    go_wp2
    refine start_ (n := 27) (S := SC W ⟨cr, cw, ca⟩) (ds := []) (bl_ [0, 27]) (by kernel_rfl) rfl rfl hS0 (fun _ => ?_)
    refine with_tab tab_54_3_ (fun HT_ => ?_)
    refine takes_ [0] 26 (bl_ [1, 26]) rfl HT_.out (by kernel_rfl) hS0 (a' := ?_) ?_ ?_
    rotate_left
    · repeat (first | exact rfl | (refine tkN rfl rfl (fun _ _ _ h => h) (by rfl) (by simp only [Act.put, List.setIfInBounds_toArray, List.set_cons_zero, List.set_cons_succ, i64_w, i32_w]; rfl) ?_) | (refine tkY rfl rfl (fun _ _ _ h => h) (by rfl) (fun w' hw' => by (obtain ⟨⟨s0, s1, s2⟩, _⟩ := hw'; go_simp; with_reducible rfl)) (by simp only [Act.put, List.setIfInBounds_toArray, List.set_cons_zero, List.set_cons_succ, i64_w, i32_w]; rfl) ?_))
    refine one_ (i := 1) (N := some 12) (bl_ [2, 25]) rfl rfl (one_of HT_.out (by kernel_rfl)) (by decide) (fun K hK => ?_)
    refine goes_ Try.func67 (by kernel_rfl) rfl #[] (by rfl) rfl rfl (by (try simp only [List.map_toArray, List.map_cons, List.map_nil]); first | done | rfl) ?_
    refine (pad_ _).mono ?_
    rintro e w1 ⟨rfl, hb1⟩
    have hS1 := hS0.next hb1
    refine ⟨_, rfl, hK.out _ _ hS1 (fun _ => ?_)⟩
    refine takes_ (List.range' 2 25) 0 (bl_ [27]) rfl HT_.out (by kernel_rfl) hS1 (a' := ?_) ?_ ?_
    rotate_left
    · repeat (first | exact rfl | (refine tkN rfl rfl (fun _ _ _ h => h) (by rfl) (by simp only [Act.put, List.setIfInBounds_toArray, List.set_cons_zero, List.set_cons_succ, i64_w, i32_w]; rfl) ?_) | (refine tkY rfl rfl (fun _ _ _ h => h) (by rfl) (fun w' hw' => by (obtain ⟨⟨s0, s1, s2⟩, _⟩ := hw'; go_simp; with_reducible rfl)) (by simp only [Act.put, List.setIfInBounds_toArray, List.set_cons_zero, List.set_cons_succ, i64_w, i32_w]; rfl) ?_))
    refine done_ (done_of HT_.out (by kernel_rfl)) ?_
    go_wp2
    go_ret
    exact ⟨by simp, hS1.2.out.2⟩
  case false =>
    by_cases c1 : cw = 0
    · subst c1
      by_cases c0 : cr = 0
      · subst c0
        go_enter Try.func54, Try.ntmps54
        go_wp2
        refine start_ (n := 27) (S := SC W ⟨0, 0, ca⟩) (ds := []) (bl_ [0, 27]) (by kernel_rfl) rfl rfl hS0 (fun _ => ?_)
        refine with_tab tab_54_3_ (fun HT_ => ?_)
        refine takes_ [0] 26 (bl_ [1, 26]) rfl HT_.out (by kernel_rfl) hS0 (a' := ?_) ?_ ?_
        rotate_left
        · repeat (first | exact rfl | (refine tkN rfl rfl (fun _ _ _ h => h) (by rfl) (by simp only [Act.put, List.setIfInBounds_toArray, List.set_cons_zero, List.set_cons_succ, i64_w, i32_w]; rfl) ?_) | (refine tkY rfl rfl (fun _ _ _ h => h) (by rfl) (fun w' hw' => by (obtain ⟨⟨s0, s1, s2⟩, _⟩ := hw'; go_simp; with_reducible rfl)) (by simp only [Act.put, List.setIfInBounds_toArray, List.set_cons_zero, List.set_cons_succ, i64_w, i32_w]; rfl) ?_))
        refine one_ (i := 1) (N := some 12) (bl_ [2, 25]) rfl rfl (one_of HT_.out (by kernel_rfl)) (by decide) (fun K hK => ?_)
        refine goes_ Try.func67 (by kernel_rfl) rfl #[] (by rfl) rfl rfl (by (try simp only [List.map_toArray, List.map_cons, List.map_nil]); first | done | rfl) ?_
        refine (pad_ _).mono ?_
        rintro e w1 ⟨rfl, hb1⟩
        have hS1 := hS0.next hb1
        refine ⟨_, rfl, hK.out _ _ hS1 (fun _ => ?_)⟩
        refine takes_ (List.range' 2 25) 0 (bl_ [27]) rfl HT_.out (by kernel_rfl) hS1 (a' := ?_) ?_ ?_
        rotate_left
        · repeat (first | exact rfl | (refine tkN rfl rfl (fun _ _ _ h => h) (by rfl) (by simp only [Act.put, List.setIfInBounds_toArray, List.set_cons_zero, List.set_cons_succ, i64_w, i32_w]; rfl) ?_) | (refine tkY rfl rfl (fun _ _ _ h => h) (by rfl) (fun w' hw' => by (obtain ⟨⟨s0, s1, s2⟩, _⟩ := hw'; go_simp; with_reducible rfl)) (by simp only [Act.put, List.setIfInBounds_toArray, List.set_cons_zero, List.set_cons_succ, i64_w, i32_w]; rfl) ?_))
        refine done_ (done_of HT_.out (by kernel_rfl)) ?_
        go_wp2
        go_ret
        exact ⟨by simp, hS1.2.out.2⟩
      · have q0 : (cr == 0) = false := by simp [c0]
        go_enter Try.func54, Try.ntmps54
        go_wp2
        refine start_ (n := 27) (S := SC W ⟨cr, 0, ca⟩) (ds := []) (bl_ [0, 27]) (by kernel_rfl) rfl rfl hS0 (fun _ => ?_)
        refine with_tab tab_54_3_ (fun HT_ => ?_)
        refine takes_ [0] 26 (bl_ [1, 26]) rfl HT_.out (by kernel_rfl) hS0 (a' := ?_) ?_ ?_
        rotate_left
        · repeat (first | exact rfl | (refine tkN rfl rfl (fun _ _ _ h => h) (by rfl) (by simp only [Act.put, List.setIfInBounds_toArray, List.set_cons_zero, List.set_cons_succ, i64_w, i32_w]; rfl) ?_) | (refine tkY rfl rfl (fun _ _ _ h => h) (by rfl) (fun w' hw' => by (obtain ⟨⟨s0, s1, s2⟩, _⟩ := hw'; go_simp; with_reducible rfl)) (by simp only [Act.put, List.setIfInBounds_toArray, List.set_cons_zero, List.set_cons_succ, i64_w, i32_w]; rfl) ?_))
        refine one_ (i := 1) (N := some 12) (bl_ [2, 25]) rfl rfl (one_of HT_.out (by kernel_rfl)) (by decide) (fun K hK => ?_)
        refine goes_ Try.func67 (by kernel_rfl) rfl #[] (by rfl) rfl rfl (by (try simp only [List.map_toArray, List.map_cons, List.map_nil]); first | done | rfl) ?_
        refine (pad_ _).mono ?_
        rintro e w1 ⟨rfl, hb1⟩
        have hS1 := hS0.next hb1
        refine ⟨_, rfl, hK.out _ _ hS1 (fun _ => ?_)⟩
        refine takes_ (List.range' 2 25) 0 (bl_ [27]) rfl HT_.out (by kernel_rfl) hS1 (a' := ?_) ?_ ?_
        rotate_left
        · repeat (first | exact rfl | (refine tkN rfl rfl (fun _ _ _ h => h) (by rfl) (by simp only [Act.put, List.setIfInBounds_toArray, List.set_cons_zero, List.set_cons_succ, i64_w, i32_w]; rfl) ?_) | (refine tkY rfl rfl (fun _ _ _ h => h) (by rfl) (fun w' hw' => by (obtain ⟨⟨s0, s1, s2⟩, _⟩ := hw'; go_simp; with_reducible rfl)) (by simp only [Act.put, List.setIfInBounds_toArray, List.set_cons_zero, List.set_cons_succ, i64_w, i32_w]; rfl) ?_))
        refine done_ (done_of HT_.out (by kernel_rfl)) ?_
        go_wp2
        go_ret
        exact ⟨by simp [c0], hS1.2.out.2⟩
    · have q1 : (cw == 0) = false := by simp [c1]
      by_cases c2 : 0 < cw
      · have q2 : decide (0 < cw) = true := by simp [c2]
        go_enter Try.func54, Try.ntmps54
        go_wp2
        refine start_ (n := 27) (S := SC W ⟨cr, cw, ca⟩) (ds := []) (bl_ [0, 27]) (by kernel_rfl) rfl rfl hS0 (fun _ => ?_)
        refine with_tab tab_54_3_ (fun HT_ => ?_)
        refine takes_ [0] 26 (bl_ [1, 26]) rfl HT_.out (by kernel_rfl) hS0 (a' := ?_) ?_ ?_
        rotate_left
        · repeat (first | exact rfl | (refine tkN rfl rfl (fun _ _ _ h => h) (by rfl) (by simp only [Act.put, List.setIfInBounds_toArray, List.set_cons_zero, List.set_cons_succ, i64_w, i32_w]; rfl) ?_) | (refine tkY rfl rfl (fun _ _ _ h => h) (by rfl) (fun w' hw' => by (obtain ⟨⟨s0, s1, s2⟩, _⟩ := hw'; go_simp; with_reducible rfl)) (by simp only [Act.put, List.setIfInBounds_toArray, List.set_cons_zero, List.set_cons_succ, i64_w, i32_w]; rfl) ?_))
        refine one_ (i := 1) (N := some 12) (bl_ [2, 25]) rfl rfl (one_of HT_.out (by kernel_rfl)) (by decide) (fun K hK => ?_)
        refine goes_ Try.func67 (by kernel_rfl) rfl #[] (by rfl) rfl rfl (by (try simp only [List.map_toArray, List.map_cons, List.map_nil]); first | done | rfl) ?_
        refine (pad_ _).mono ?_
        rintro e w1 ⟨rfl, hb1⟩
        have hS1 := hS0.next hb1
        refine ⟨_, rfl, hK.out _ _ hS1 (fun _ => ?_)⟩
        refine takes_ (List.range' 2 20) 5 (bl_ [22, 5]) rfl HT_.out (by kernel_rfl) hS1 (a' := ?_) ?_ ?_
        rotate_left
        · repeat (first | exact rfl | (refine tkN rfl rfl (fun _ _ _ h => h) (by rfl) (by simp only [Act.put, List.setIfInBounds_toArray, List.set_cons_zero, List.set_cons_succ, i64_w, i32_w]; rfl) ?_) | (refine tkY rfl rfl (fun _ _ _ h => h) (by rfl) (fun w' hw' => by (obtain ⟨⟨s0, s1, s2⟩, _⟩ := hw'; go_simp; with_reducible rfl)) (by simp only [Act.put, List.setIfInBounds_toArray, List.set_cons_zero, List.set_cons_succ, i64_w, i32_w]; rfl) ?_))
        refine one_ (i := 22) (N := some 33) (bl_ [23, 4]) rfl rfl (one_of HT_.out (by kernel_rfl)) (by decide) (fun K hK => ?_)
        refine goes_ Try.func59 (by kernel_rfl) rfl #[.int .i32 cr] (by rfl) rfl rfl (by (try simp only [List.map_toArray, List.map_cons, List.map_nil]); first | done | rfl) ?_
        refine (width_ _ _).mono ?_
        rintro e w2 ⟨rfl, hb2⟩
        have hS2 := hS1.next hb2
        refine ⟨_, rfl, hK.out _ _ hS2 (fun _ => ?_)⟩
        refine takes_ (List.range' 23 4) 0 (bl_ [27]) rfl HT_.out (by kernel_rfl) hS2 (a' := ?_) ?_ ?_
        rotate_left
        · repeat (first | exact rfl | (refine tkN rfl rfl (fun _ _ _ h => h) (by rfl) (by simp only [Act.put, List.setIfInBounds_toArray, List.set_cons_zero, List.set_cons_succ, i64_w, i32_w]; rfl) ?_) | (refine tkY rfl rfl (fun _ _ _ h => h) (by rfl) (fun w' hw' => by (obtain ⟨⟨s0, s1, s2⟩, _⟩ := hw'; go_simp; with_reducible rfl)) (by simp only [Act.put, List.setIfInBounds_toArray, List.set_cons_zero, List.set_cons_succ, i64_w, i32_w]; rfl) ?_))
        refine done_ (done_of HT_.out (by kernel_rfl)) ?_
        go_wp2
        go_ret
        exact ⟨by simp [c1, c2], hS2.2.out.2⟩
      · have q2 : decide (0 < cw) = false := by simp [c2]
        go_enter Try.func54, Try.ntmps54
        go_wp2
        refine start_ (n := 27) (S := SC W ⟨cr, cw, ca⟩) (ds := []) (bl_ [0, 27]) (by kernel_rfl) rfl rfl hS0 (fun _ => ?_)
        refine with_tab tab_54_3_ (fun HT_ => ?_)
        refine takes_ [0] 26 (bl_ [1, 26]) rfl HT_.out (by kernel_rfl) hS0 (a' := ?_) ?_ ?_
        rotate_left
        · repeat (first | exact rfl | (refine tkN rfl rfl (fun _ _ _ h => h) (by rfl) (by simp only [Act.put, List.setIfInBounds_toArray, List.set_cons_zero, List.set_cons_succ, i64_w, i32_w]; rfl) ?_) | (refine tkY rfl rfl (fun _ _ _ h => h) (by rfl) (fun w' hw' => by (obtain ⟨⟨s0, s1, s2⟩, _⟩ := hw'; go_simp; with_reducible rfl)) (by simp only [Act.put, List.setIfInBounds_toArray, List.set_cons_zero, List.set_cons_succ, i64_w, i32_w]; rfl) ?_))
        refine one_ (i := 1) (N := some 12) (bl_ [2, 25]) rfl rfl (one_of HT_.out (by kernel_rfl)) (by decide) (fun K hK => ?_)
        refine goes_ Try.func67 (by kernel_rfl) rfl #[] (by rfl) rfl rfl (by (try simp only [List.map_toArray, List.map_cons, List.map_nil]); first | done | rfl) ?_
        refine (pad_ _).mono ?_
        rintro e w1 ⟨rfl, hb1⟩
        have hS1 := hS0.next hb1
        refine ⟨_, rfl, hK.out _ _ hS1 (fun _ => ?_)⟩
        refine takes_ (List.range' 2 25) 0 (bl_ [27]) rfl HT_.out (by kernel_rfl) hS1 (a' := ?_) ?_ ?_
        rotate_left
        · repeat (first | exact rfl | (refine tkN rfl rfl (fun _ _ _ h => h) (by rfl) (by simp only [Act.put, List.setIfInBounds_toArray, List.set_cons_zero, List.set_cons_succ, i64_w, i32_w]; rfl) ?_) | (refine tkY rfl rfl (fun _ _ _ h => h) (by rfl) (fun w' hw' => by (obtain ⟨⟨s0, s1, s2⟩, _⟩ := hw'; go_simp; with_reducible rfl)) (by simp only [Act.put, List.setIfInBounds_toArray, List.set_cons_zero, List.set_cons_succ, i64_w, i32_w]; rfl) ?_))
        refine done_ (done_of HT_.out (by kernel_rfl)) ?_
        go_wp2
        go_ret
        exact ⟨by simp [q1, q2], hS1.2.out.2⟩
end Go.Proofs.Ytkigdcihhlkkdaa.P
end
