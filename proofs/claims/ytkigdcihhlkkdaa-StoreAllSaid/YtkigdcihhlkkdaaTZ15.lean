/- own texts of this session, put together -/
import Derived.Test.YtkigdcihhlkkdaaTZ14
import Derived.Test.YtkigdcihhlkkdaaTZ1
import Derived.Test.YtkigdcihhlkkdaaTZ3
import Derived.Test.YtkigdcihhlkkdaaTZ4
import Derived.Test.YtkigdcihhlkkdaaTPx17
section
set_option linter.unusedVariables false
set_option linter.unusedSimpArgs false
namespace Go.Proofs.Ytkigdcihhlkkdaa.P
open Go.RowKit Go.Proofs.YtkigdcihhlkkdaaW.PrintWords Go.Proofs.YtkigdcihhlkkdaaW.PrintLast Go.Proofs.YtkigdcihhlkkdaaW.PrintMore
attribute [local go_sem high] eqA45
def tab_27_5 : Bool × List (List Nat × List Nat) := (true, [([], []), ([], []), ([0, 1], [0, 1]), ([2], [2]), ([3], [3]), ([4], [4]), ([5, 4], [5]), ([6], [6]), ([6], [6]), ([7, 8, 6], [6, 7, 8]), ([9, 6], [6, 9]), ([10, 6], [6, 10]), ([11, 6], [6, 11]), ([12, 6, 6], [6, 12]), ([13], [13]), ([14, 13], [13, 14]), ([13], [13]), ([16, 13], [13, 16]), ([15, 17, 13], [13, 15, 17]), ([18, 13, 13], [13, 18]), ([19], [19]), ([19], [19]), ([21, 19], [19, 21]), ([20, 22, 19], [19, 20, 22]), ([23, 19], [19, 23]), ([19], [19]), ([19], [19]), ([25, 26, 19], [19, 25, 26]), ([27, 19], [19, 27]), ([28, 19], [19, 28]), ([29, 19], [19, 29]), ([24, 30, 19], [19, 24, 30]), ([19, 31, 13], [13, 19, 31]), ([13, 32, 6], [6, 13, 32]), ([6, 33], [6, 33]), ([34, 19], [34]), ([35], [35]), ([35], [35]), ([36, 37, 35], [35, 36, 37]), ([38, 35], [35, 38]), ([39, 35], [35, 39]), ([40, 35], [35, 40]), ([41, 35, 35], [35, 41]), ([42], [42]), ([43, 42], [42, 43]), ([44, 42, 42], [42, 44]), ([45], [45]), ([45], [45]), ([47, 45], [45, 47]), ([46, 48, 45], [45, 46, 48]), ([49, 45], [45, 49]), ([50, 45], [45, 50]), ([51, 45], [45, 51]), ([45, 52, 42], [42, 45, 52]), ([53, 45, 42], [42, 53]), ([54], [54]), ([54], [54]), ([56, 54], [54, 56]), ([55, 57, 54], [54, 55, 57]), ([58, 54], [54, 58]), ([59, 54], [54, 59]), ([54], [54]), ([54], [54]), ([61, 62, 54], [54, 61, 62]), ([63, 54], [54, 63]), ([64, 54], [54, 64]), ([60, 65, 54], [54, 60, 65]), ([54, 66, 42], [42, 54, 66]), ([42, 67, 35], [35, 42, 67]), ([35, 68], [35, 68])])
theorem tab_27_5_ : rtab .any (opsOf Try.f27 5) = tab_27_5 := by kernel_rfl
def SB (W : World) (w : World) : Prop := Below W.heap.size W w
theorem SB.next {W w w' : World} (h : SB W w) (hb : Below w.heap.size w w') : SB W w' := Below.trans h (hb.mono (Below.size h))
theorem SB.drew {W w : World} (h : SB W w) : SB W w.drew := below_drew1 h
def rowOk (l : List S45) (j : Nat) : Bool :=
  refCellB (rd_T45 l j) && ((!((rd_T45 l j).f1 == 2) || (decide (j + 1 < l.length) && ((rd_T45 l ((j : Int) + 1)).f0 == 0 && ((rd_T45 l ((j : Int) + 1)).f1 == 0 && (rd_T45 l ((j : Int) + 1)).f2 == (rd_T45 l j).f2)))) &&
    (!((rd_T45 l j).f1 == 0) || (decide (0 < j) && ((rd_T45 l ((j : Int) - 1)).f1 == 2 && (rd_T45 l ((j : Int) - 1)).f2 == (rd_T45 l j).f2))))
def refRowB (l : List S45) : Bool := (List.range l.length).all (rowOk l) && decide (l.length ≤ 300)
theorem refRow_no {l : List S45} {i : Nat} (hi : i < l.length) (h : rowOk l i = false) : refRowB l = false := by
  have : (List.range l.length).all (rowOk l) = false := by
    rw [List.all_eq_false]
    exact ⟨i, List.mem_range.2 hi, by simp [h]⟩
  unfold refRowB
  rw [this, Bool.false_and]
theorem refRow_yes {l : List S45} (h : ∀ j, j < l.length → rowOk l j = true) : refRowB l = decide (l.length ≤ 300) := by
  have : (List.range l.length).all (rowOk l) = true := List.all_eq_true.2 (fun j hj => h j (List.mem_range.1 hj))
  unfold refRowB
  rw [this, Bool.true_and]
set_option maxHeartbeats 16000000 in
set_option maxRecDepth 100000 in
theorem refRow_ (A : Option Addr) (cp : Nat) (l : List S45) (wr : Bool) (W : World) (hC : Kd.C k45 W A l.length l) (hcp : l.length ≤ cp) (hlen : l.length ≤ 1000000000) :
    Calls Try.prog 27 #[.agg #[.slice A l.length cp, .bool wr]] W fun e w' => e = .returned (.bool (refRowB l)) ∧ Below W.heap.size W w' := by
  go_enter Try.func27, Try.ntmps27
  go_wp2
  go_loopg [4] (l.length + 1) (fun kq v4 w' => ∃ i : Nat, v4 = .int .i64 i ∧ Aside0 (i ≤ l.length ∧ kq = l.length + 1 - i ∧ (∀ j, j < i → rowOk l j = true) ∧ Below W.heap.size W w'))
  case atStart => exact ⟨0, rfl, ⟨Nat.zero_le _, rfl, fun j h => absurd h (Nat.not_lt_zero _), below_alloc (Below.refl _ _) _⟩⟩
  case round =>
    obtain ⟨i, rfl, HA⟩ := hrel
    by_cases hlt : i < l.length
    · have hw1 : IntKind.i64.wrap ((i : Int) + 1) = i + 1 := by rw [IntKind.wrap_i64]; omega
      have hw2 : IntKind.i64.wrap ((i : Int) - 1) = i - 1 := by rw [IntKind.wrap_i64]; omega
      obtain ⟨ad, rfl, _⟩ := at_T45 hC (i : Int) (by omega) (by omega)
      have HK : ∀ (j : Int), 0 ≤ j → j < l.length → ∀ w', SB W w' → w'.cell? (ad.add (j.toNat * 3)) = some (.int .i32 (rd_T45 l j).f0) ∧ w'.cell? ⟨(ad.add (j.toNat * 3)).block, (ad.add (j.toNat * 3)).off + 1, none⟩ = some (.int .i64 (rd_T45 l j).f1) ∧ w'.cell? ⟨(ad.add (j.toNat * 3)).block, (ad.add (j.toNat * 3)).off + 2, none⟩ = some (.int .i64 (rd_T45 l j).f2) := by
        intro j h0 h1 w' hb
        obtain ⟨ad', he, h⟩ := at_T45 (Kd.C_below hC hb) j h0 h1
        obtain rfl := Option.some.inj he
        exact h
      have HB : SB W wr := HA.out.2.2.2
      have HB0 : SB W wr.drew := HB.drew
      have hrk : rowOk l i = true ∨ rowOk l i = false := by cases rowOk l i <;> simp
      unfold rowOk at hrk
      have HCi := Aside0.mk (HK (i : Int) (by omega) (by omega))
      rw [Int.toNat_natCast] at HCi
      generalize hc : rd_T45 l (i : Int) = c at HCi hrk
      obtain ⟨cr, cw, ca⟩ := c
      dsimp only at HCi hrk
      clear hrk
      cases hcell : refCellB ⟨cr, cw, ca⟩
      case false =>
        have hno : rowOk l i = false := by unfold rowOk; rw [hc, hcell, Bool.false_and]
        go_wp2
        try simp only [List.append_eq, List.cons_append, List.nil_append]
        refine start_ (n := 70) (S := SB W) (ds := []) (bl_ [0, 70]) (by kernel_rfl) (by kernel_rfl) rfl HB0 (fun _ => ?_)
        refine with_tab tab_27_5_ (fun HT_ => ?_)
        refine takes_ (List.range' 0 4) 66 (bl_ [4, 66]) rfl HT_.out (by kernel_rfl) HB0 (a' := ?_) ?_ ?_
        rotate_left
        · repeat (first | exact rfl | (refine tkN rfl rfl (fun _ _ _ h => h) (by rfl) (by simp only [Act.put, List.setIfInBounds_toArray, List.set_cons_zero, List.set_cons_succ, i64_w, i32_w]; rfl) ?_) | (refine tkY rfl rfl (fun _ _ _ h => h) (by rfl) (fun w' hw' => by (obtain ⟨s0, s1, s2⟩ := HCi.out w' hw'; go_simp; with_reducible rfl)) (by simp only [Act.put, List.setIfInBounds_toArray, List.set_cons_zero, List.set_cons_succ, i64_w, i32_w]; rfl) ?_))
        refine one_ (i := 4) (N := some 17) (bl_ [5, 65]) rfl rfl (one_of HT_.out (by kernel_rfl)) (by decide) (fun K hK => ?_)
        refine goes_ Try.func54 (by kernel_rfl) rfl #[.agg #[.int .i32 cr, .int .i64 cw, .int .i64 ca]] (by rfl) rfl rfl (by (try simp only [List.map_toArray, List.map_cons, List.map_nil]); first | done | rfl) ?_
        refine (refCell_ ⟨cr, cw, ca⟩ _).mono ?_
        rintro e w1 ⟨rfl, hb1⟩
        have HB1 := HB0.next hb1
        rw [hcell]
        refine ⟨_, rfl, hK.out _ _ HB1 (fun _ => ?_)⟩
        refine takes_ [5, 6, 7, 8, 9, 10, 11, 12, 13, 14, 15, 16, 17, 18, 19, 20, 21, 22, 23, 24, 25, 26, 27, 28, 29, 30, 31, 32, 33, 34, 35, 36, 37, 38, 39, 40, 41, 42, 43, 44, 45, 46, 47, 48, 49, 50, 51, 52, 53, 54, 55, 56, 57, 58, 59, 60, 61, 62, 63, 64, 65, 66, 67, 68, 69] 0 (bl_ [70]) rfl HT_.out (by kernel_rfl) HB1 (a' := ?_) ?_ ?_
        rotate_left
        · repeat (first | exact rfl | (refine tkN rfl rfl (fun _ _ _ h => h) (by rfl) (by simp only [Act.put, List.setIfInBounds_toArray, List.set_cons_zero, List.set_cons_succ, i64_w, i32_w]; rfl) ?_) | (refine tkY rfl rfl (fun _ _ _ h => h) (by rfl) (fun w' hw' => by (obtain ⟨s0, s1, s2⟩ := HCi.out w' hw'; go_simp; with_reducible rfl)) (by simp only [Act.put, List.setIfInBounds_toArray, List.set_cons_zero, List.set_cons_succ, i64_w, i32_w]; rfl) ?_))
        refine done_ (done_of HT_.out (by kernel_rfl)) ?_
        go_wp2
        go_ret
        exact ⟨by rw [refRow_no hlt hno]; rfl, HB1⟩
      case true =>
        by_cases c2 : cw = 2
        · subst c2
          by_cases cn : l.length ≤ i + 1
          · have hq : (l.length : Int) ≤ (i : Int) + 1 := by omega
            have hq2 : decide ((l.length : Int) ≤ (i : Int) + 1) = true := decide_eq_true hq
            have hno : rowOk l i = false := by unfold rowOk; rw [hc]; simp [hcell]; omega
            go_wp2
            try simp only [List.append_eq, List.cons_append, List.nil_append]
            refine start_ (n := 70) (S := SB W) (ds := []) (bl_ [0, 70]) (by kernel_rfl) (by kernel_rfl) rfl HB0 (fun _ => ?_)
            refine with_tab tab_27_5_ (fun HT_ => ?_)
            refine takes_ (List.range' 0 4) 66 (bl_ [4, 66]) rfl HT_.out (by kernel_rfl) HB0 (a' := ?_) ?_ ?_
            rotate_left
            · repeat (first | exact rfl | (refine tkN rfl rfl (fun _ _ _ h => h) (by rfl) (by simp only [Act.put, List.setIfInBounds_toArray, List.set_cons_zero, List.set_cons_succ, i64_w, i32_w]; rfl) ?_) | (refine tkY rfl rfl (fun _ _ _ h => h) (by rfl) (fun w' hw' => by (obtain ⟨s0, s1, s2⟩ := HCi.out w' hw'; go_simp; with_reducible rfl)) (by simp only [Act.put, List.setIfInBounds_toArray, List.set_cons_zero, List.set_cons_succ, i64_w, i32_w]; rfl) ?_))
            refine one_ (i := 4) (N := some 17) (bl_ [5, 65]) rfl rfl (one_of HT_.out (by kernel_rfl)) (by decide) (fun K hK => ?_)
            refine goes_ Try.func54 (by kernel_rfl) rfl #[.agg #[.int .i32 cr, .int .i64 2, .int .i64 ca]] (by rfl) rfl rfl (by (try simp only [List.map_toArray, List.map_cons, List.map_nil]); first | done | rfl) ?_
            refine (refCell_ ⟨cr, 2, ca⟩ _).mono ?_
            rintro e w1 ⟨rfl, hb1⟩
            have HB1 := HB0.next hb1
            rw [hcell]
            refine ⟨_, rfl, hK.out _ _ HB1 (fun _ => ?_)⟩
            refine takes_ [5, 6, 7, 8, 9, 10, 11, 12, 13, 14, 15, 16, 17, 18, 19, 20, 21, 22, 23, 24, 25, 26, 27, 28, 29, 30, 31, 32, 33, 34, 35, 36, 37, 38, 39, 40, 41, 42, 43, 44, 45, 46, 47, 48, 49, 50, 51, 52, 53, 54, 55, 56, 57, 58, 59, 60, 61, 62, 63, 64, 65, 66, 67, 68, 69] 0 (bl_ [70]) rfl HT_.out (by kernel_rfl) HB1 (a' := ?_) ?_ ?_
            rotate_left
            · repeat (first | exact rfl | (refine tkN rfl rfl (fun _ _ _ h => h) (by rfl) (by simp only [Act.put, List.setIfInBounds_toArray, List.set_cons_zero, List.set_cons_succ, i64_w, i32_w]; rfl) ?_) | (refine tkY rfl rfl (fun _ _ _ h => h) (by rfl) (fun w' hw' => by (obtain ⟨s0, s1, s2⟩ := HCi.out w' hw'; go_simp; with_reducible rfl)) (by simp only [Act.put, List.setIfInBounds_toArray, List.set_cons_zero, List.set_cons_succ, i64_w, i32_w]; rfl) ?_))
            refine done_ (done_of HT_.out (by kernel_rfl)) ?_
            go_wp2
            go_ret
            exact ⟨by rw [refRow_no hlt hno]; rfl, HB1⟩
          · have hq : ¬ (l.length : Int) ≤ (i : Int) + 1 := by omega
            have hq2 : decide ((l.length : Int) ≤ (i : Int) + 1) = false := decide_eq_false hq
            have hq3 : (i : Int) + 1 < l.length := by omega
            have hq4 : 0 ≤ (i : Int) + 1 := by omega
            have HCj := Aside0.mk (HK ((i : Int) + 1) (by omega) (by omega))
            rw [show ((i : Int) + 1).toNat = i + 1 by omega] at HCj
            generalize hd : rd_T45 l ((i : Int) + 1) = d at HCj
            obtain ⟨dr, dw, da⟩ := d
            dsimp only at HCj
            cases he : (dr == 0 && (dw == 0 && da == ca))
            case false =>
              have hno : rowOk l i = false := by unfold rowOk; rw [hc]; simp [hcell, hd] at he ⊢; exact fun _ => he
              go_wp2
              try simp only [List.append_eq, List.cons_append, List.nil_append]
              refine start_ (n := 70) (S := SB W) (ds := []) (bl_ [0, 70]) (by kernel_rfl) (by kernel_rfl) rfl HB0 (fun _ => ?_)
              refine with_tab tab_27_5_ (fun HT_ => ?_)
              refine takes_ (List.range' 0 4) 66 (bl_ [4, 66]) rfl HT_.out (by kernel_rfl) HB0 (a' := ?_) ?_ ?_
              rotate_left
              · repeat (first | exact rfl | (refine tkN rfl rfl (fun _ _ _ h => h) (by rfl) (by simp only [Act.put, List.setIfInBounds_toArray, List.set_cons_zero, List.set_cons_succ, i64_w, i32_w]; rfl) ?_) | (refine tkY rfl rfl (fun _ _ _ h => h) (by rfl) (fun w' hw' => by (obtain ⟨s0, s1, s2⟩ := HCi.out w' hw'; obtain ⟨t0, t1, t2⟩ := HCj.out w' hw'; go_simp; with_reducible rfl)) (by simp only [Act.put, List.setIfInBounds_toArray, List.set_cons_zero, List.set_cons_succ, i64_w, i32_w]; rfl) ?_))
              refine one_ (i := 4) (N := some 17) (bl_ [5, 65]) rfl rfl (one_of HT_.out (by kernel_rfl)) (by decide) (fun K hK => ?_)
              refine goes_ Try.func54 (by kernel_rfl) rfl #[.agg #[.int .i32 cr, .int .i64 2, .int .i64 ca]] (by rfl) rfl rfl (by (try simp only [List.map_toArray, List.map_cons, List.map_nil]); first | done | rfl) ?_
              refine (refCell_ ⟨cr, 2, ca⟩ _).mono ?_
              rintro e w1 ⟨rfl, hb1⟩
              have HB1 := HB0.next hb1
              rw [hcell]
              refine ⟨_, rfl, hK.out _ _ HB1 (fun _ => ?_)⟩
              refine takes_ [5, 6, 7, 8, 9, 10, 11, 12, 13, 14, 15, 16, 17, 18, 19, 20, 21, 22, 23, 24, 25, 26, 27, 28, 29, 30, 31, 32, 33, 34, 35, 36, 37, 38, 39, 40, 41, 42, 43, 44, 45, 46, 47, 48, 49, 50, 51, 52, 53, 54, 55, 56, 57, 58, 59, 60, 61, 62, 63, 64, 65, 66, 67, 68, 69] 0 (bl_ [70]) rfl HT_.out (by kernel_rfl) HB1 (a' := ?_) ?_ ?_
              rotate_left
              · repeat (first | exact rfl | (refine tkN rfl rfl (fun _ _ _ h => h) (by rfl) (by simp only [Act.put, List.setIfInBounds_toArray, List.set_cons_zero, List.set_cons_succ, i64_w, i32_w]; rfl) ?_) | (refine tkY rfl rfl (fun _ _ _ h => h) (by rfl) (fun w' hw' => by (obtain ⟨s0, s1, s2⟩ := HCi.out w' hw'; obtain ⟨t0, t1, t2⟩ := HCj.out w' hw'; go_simp; with_reducible rfl)) (by simp only [Act.put, List.setIfInBounds_toArray, List.set_cons_zero, List.set_cons_succ, i64_w, i32_w]; rfl) ?_))
              refine done_ (done_of HT_.out (by kernel_rfl)) ?_
              go_wp2
              go_ret
              exact ⟨by rw [refRow_no hlt hno]; rfl, HB1⟩
            case true =>
              have hyes : rowOk l i = true := by unfold rowOk; rw [hc]; simp [hcell, hd] at he ⊢; exact ⟨by omega, he⟩
              go_wp2
              try simp only [List.append_eq, List.cons_append, List.nil_append]
              refine start_ (n := 70) (S := SB W) (ds := []) (bl_ [0, 70]) (by kernel_rfl) (by kernel_rfl) rfl HB0 (fun _ => ?_)
              refine with_tab tab_27_5_ (fun HT_ => ?_)
              refine takes_ (List.range' 0 4) 66 (bl_ [4, 66]) rfl HT_.out (by kernel_rfl) HB0 (a' := ?_) ?_ ?_
              rotate_left
              · repeat (first | exact rfl | (refine tkN rfl rfl (fun _ _ _ h => h) (by rfl) (by simp only [Act.put, List.setIfInBounds_toArray, List.set_cons_zero, List.set_cons_succ, i64_w, i32_w]; rfl) ?_) | (refine tkY rfl rfl (fun _ _ _ h => h) (by rfl) (fun w' hw' => by (obtain ⟨s0, s1, s2⟩ := HCi.out w' hw'; obtain ⟨t0, t1, t2⟩ := HCj.out w' hw'; go_simp; with_reducible rfl)) (by simp only [Act.put, List.setIfInBounds_toArray, List.set_cons_zero, List.set_cons_succ, i64_w, i32_w]; rfl) ?_))
              refine one_ (i := 4) (N := some 17) (bl_ [5, 65]) rfl rfl (one_of HT_.out (by kernel_rfl)) (by decide) (fun K hK => ?_)
              refine goes_ Try.func54 (by kernel_rfl) rfl #[.agg #[.int .i32 cr, .int .i64 2, .int .i64 ca]] (by rfl) rfl rfl (by (try simp only [List.map_toArray, List.map_cons, List.map_nil]); first | done | rfl) ?_
              refine (refCell_ ⟨cr, 2, ca⟩ _).mono ?_
              rintro e w1 ⟨rfl, hb1⟩
              have HB1 := HB0.next hb1
              rw [hcell]
              refine ⟨_, rfl, hK.out _ _ HB1 (fun _ => ?_)⟩
              refine takes_ [5, 6, 7, 8, 9, 10, 11, 12, 13, 14, 15, 16, 17, 18, 19, 20, 21, 22, 23, 24, 25, 26, 27, 28, 29, 30, 31, 32, 33, 34, 35, 36, 37, 38, 39, 40, 41, 42, 43, 44, 45, 46, 47, 48, 49, 50, 51, 52, 53, 54, 55, 56, 57, 58, 59, 60, 61, 62, 63, 64, 65, 66, 67, 68, 69] 0 (bl_ [70]) rfl HT_.out (by kernel_rfl) HB1 (a' := ?_) ?_ ?_
              rotate_left
              · repeat (first | exact rfl | (refine tkN rfl rfl (fun _ _ _ h => h) (by rfl) (by simp only [Act.put, List.setIfInBounds_toArray, List.set_cons_zero, List.set_cons_succ, i64_w, i32_w]; rfl) ?_) | (refine tkY rfl rfl (fun _ _ _ h => h) (by rfl) (fun w' hw' => by (obtain ⟨s0, s1, s2⟩ := HCi.out w' hw'; obtain ⟨t0, t1, t2⟩ := HCj.out w' hw'; go_simp; with_reducible rfl)) (by simp only [Act.put, List.setIfInBounds_toArray, List.set_cons_zero, List.set_cons_succ, i64_w, i32_w]; rfl) ?_))
              refine done_ (done_of HT_.out (by kernel_rfl)) ?_
              go_wp2
              go_roundg (l.length + 1 - (i + 1))
              case measure => rw [HA.out.2.1]; omega
              case rel => exact ⟨i + 1, by simp, ⟨hlt, rfl, fun j hj => by rcases Nat.lt_succ_iff_lt_or_eq.1 hj with h | h; exact HA.out.2.2.1 j h; rw [h]; exact hyes, HB1⟩⟩
        · have q2 : (cw == 2) = false := by simp [c2]
          by_cases c0 : cw = 0
          · subst c0
            by_cases ci : i = 0
            · have hi0 : ((i : Int) == 0) = true := by simp [ci]
              have hno : rowOk l i = false := by unfold rowOk; rw [hc]; simp [hcell, ci]
              clear ci
              go_wp2
              try simp only [List.append_eq, List.cons_append, List.nil_append]
              refine start_ (n := 70) (S := SB W) (ds := []) (bl_ [0, 70]) (by kernel_rfl) (by kernel_rfl) rfl HB0 (fun _ => ?_)
              refine with_tab tab_27_5_ (fun HT_ => ?_)
              refine takes_ (List.range' 0 4) 66 (bl_ [4, 66]) rfl HT_.out (by kernel_rfl) HB0 (a' := ?_) ?_ ?_
              rotate_left
              · repeat (first | exact rfl | (refine tkN rfl rfl (fun _ _ _ h => h) (by rfl) (by simp only [Act.put, List.setIfInBounds_toArray, List.set_cons_zero, List.set_cons_succ, i64_w, i32_w]; rfl) ?_) | (refine tkY rfl rfl (fun _ _ _ h => h) (by rfl) (fun w' hw' => by (obtain ⟨s0, s1, s2⟩ := HCi.out w' hw'; go_simp; with_reducible rfl)) (by simp only [Act.put, List.setIfInBounds_toArray, List.set_cons_zero, List.set_cons_succ, i64_w, i32_w]; rfl) ?_))
              refine one_ (i := 4) (N := some 17) (bl_ [5, 65]) rfl rfl (one_of HT_.out (by kernel_rfl)) (by decide) (fun K hK => ?_)
              refine goes_ Try.func54 (by kernel_rfl) rfl #[.agg #[.int .i32 cr, .int .i64 0, .int .i64 ca]] (by rfl) rfl rfl (by (try simp only [List.map_toArray, List.map_cons, List.map_nil]); first | done | rfl) ?_
              refine (refCell_ ⟨cr, 0, ca⟩ _).mono ?_
              rintro e w1 ⟨rfl, hb1⟩
              have HB1 := HB0.next hb1
              rw [hcell]
              refine ⟨_, rfl, hK.out _ _ HB1 (fun _ => ?_)⟩
              refine takes_ [5, 6, 7, 8, 9, 10, 11, 12, 13, 14, 15, 16, 17, 18, 19, 20, 21, 22, 23, 24, 25, 26, 27, 28, 29, 30, 31, 32, 33, 34, 35, 36, 37, 38, 39, 40, 41, 42, 43, 44, 45, 46, 47, 48, 49, 50, 51, 52, 53, 54, 55, 56, 57, 58, 59, 60, 61, 62, 63, 64, 65, 66, 67, 68, 69] 0 (bl_ [70]) rfl HT_.out (by kernel_rfl) HB1 (a' := ?_) ?_ ?_
              rotate_left
              · repeat (first | exact rfl | (refine tkN rfl rfl (fun _ _ _ h => h) (by rfl) (by simp only [Act.put, List.setIfInBounds_toArray, List.set_cons_zero, List.set_cons_succ, i64_w, i32_w]; rfl) ?_) | (refine tkY rfl rfl (fun _ _ _ h => h) (by rfl) (fun w' hw' => by (obtain ⟨s0, s1, s2⟩ := HCi.out w' hw'; go_simp; with_reducible rfl)) (by simp only [Act.put, List.setIfInBounds_toArray, List.set_cons_zero, List.set_cons_succ, i64_w, i32_w]; rfl) ?_))
              refine done_ (done_of HT_.out (by kernel_rfl)) ?_
              go_wp2
              go_ret
              exact ⟨by rw [refRow_no hlt hno]; rfl, HB1⟩
            · have hi0 : ((i : Int) == 0) = false := by simp [ci]
              have hq3 : (i : Int) - 1 < l.length := by omega
              have hq4 : 0 ≤ (i : Int) - 1 := by omega
              have hr1 : (1 : Int) ≤ (i : Int) := by omega
              have hr2 : 1 ≤ i := by omega
              have hr3 : 0 < i := by omega
              have hr4 : i ≤ l.length := by omega
              have hr5 : (i : Int) ≤ l.length := by omega
              have HCj := Aside0.mk (HK ((i : Int) - 1) (by omega) (by omega))
              rw [show ((i : Int) - 1).toNat = i - 1 by omega] at HCj
              generalize hd : rd_T45 l ((i : Int) - 1) = d at HCj
              obtain ⟨dr, dw, da⟩ := d
              dsimp only at HCj
              by_cases c3 : dw = 2
              · subst c3
                cases he : (da == ca)
                case false =>
                  have hno : rowOk l i = false := by unfold rowOk; rw [hc]; simp [hcell, hd, hi0] at he ⊢; exact fun _ => he
                  go_wp2
                  try simp only [List.append_eq, List.cons_append, List.nil_append]
                  refine start_ (n := 70) (S := SB W) (ds := []) (bl_ [0, 70]) (by kernel_rfl) (by kernel_rfl) rfl HB0 (fun _ => ?_)
                  refine with_tab tab_27_5_ (fun HT_ => ?_)
                  refine takes_ (List.range' 0 4) 66 (bl_ [4, 66]) rfl HT_.out (by kernel_rfl) HB0 (a' := ?_) ?_ ?_
                  rotate_left
                  · repeat (first | exact rfl | (refine tkN rfl rfl (fun _ _ _ h => h) (by rfl) (by simp only [Act.put, List.setIfInBounds_toArray, List.set_cons_zero, List.set_cons_succ, i64_w, i32_w]; rfl) ?_) | (refine tkY rfl rfl (fun _ _ _ h => h) (by rfl) (fun w' hw' => by (obtain ⟨s0, s1, s2⟩ := HCi.out w' hw'; obtain ⟨t0, t1, t2⟩ := HCj.out w' hw'; go_simp; with_reducible rfl)) (by simp only [Act.put, List.setIfInBounds_toArray, List.set_cons_zero, List.set_cons_succ, i64_w, i32_w]; rfl) ?_))
                  refine one_ (i := 4) (N := some 17) (bl_ [5, 65]) rfl rfl (one_of HT_.out (by kernel_rfl)) (by decide) (fun K hK => ?_)
                  refine goes_ Try.func54 (by kernel_rfl) rfl #[.agg #[.int .i32 cr, .int .i64 0, .int .i64 ca]] (by rfl) rfl rfl (by (try simp only [List.map_toArray, List.map_cons, List.map_nil]); first | done | rfl) ?_
                  refine (refCell_ ⟨cr, 0, ca⟩ _).mono ?_
                  rintro e w1 ⟨rfl, hb1⟩
                  have HB1 := HB0.next hb1
                  rw [hcell]
                  refine ⟨_, rfl, hK.out _ _ HB1 (fun _ => ?_)⟩
                  refine takes_ [5, 6, 7, 8, 9, 10, 11, 12, 13, 14, 15, 16, 17, 18, 19, 20, 21, 22, 23, 24, 25, 26, 27, 28, 29, 30, 31, 32, 33, 34, 35, 36, 37, 38, 39, 40, 41, 42, 43, 44, 45, 46, 47, 48, 49, 50, 51, 52, 53, 54, 55, 56, 57, 58, 59, 60, 61, 62, 63, 64, 65, 66, 67, 68, 69] 0 (bl_ [70]) rfl HT_.out (by kernel_rfl) HB1 (a' := ?_) ?_ ?_
                  rotate_left
                  · repeat (first | exact rfl | (refine tkN rfl rfl (fun _ _ _ h => h) (by rfl) (by simp only [Act.put, List.setIfInBounds_toArray, List.set_cons_zero, List.set_cons_succ, i64_w, i32_w]; rfl) ?_) | (refine tkY rfl rfl (fun _ _ _ h => h) (by rfl) (fun w' hw' => by (obtain ⟨s0, s1, s2⟩ := HCi.out w' hw'; obtain ⟨t0, t1, t2⟩ := HCj.out w' hw'; go_simp; with_reducible rfl)) (by simp only [Act.put, List.setIfInBounds_toArray, List.set_cons_zero, List.set_cons_succ, i64_w, i32_w]; rfl) ?_))
                  refine done_ (done_of HT_.out (by kernel_rfl)) ?_
                  go_wp2
                  go_ret
                  exact ⟨by rw [refRow_no hlt hno]; rfl, HB1⟩
                case true =>
                  have hyes : rowOk l i = true := by unfold rowOk; rw [hc]; simp [hcell, hd] at he ⊢; exact ⟨by omega, he⟩
                  go_wp2
                  try simp only [List.append_eq, List.cons_append, List.nil_append]
                  refine start_ (n := 70) (S := SB W) (ds := []) (bl_ [0, 70]) (by kernel_rfl) (by kernel_rfl) rfl HB0 (fun _ => ?_)
                  refine with_tab tab_27_5_ (fun HT_ => ?_)
                  refine takes_ (List.range' 0 4) 66 (bl_ [4, 66]) rfl HT_.out (by kernel_rfl) HB0 (a' := ?_) ?_ ?_
                  rotate_left
                  · repeat (first | exact rfl | (refine tkN rfl rfl (fun _ _ _ h => h) (by rfl) (by simp only [Act.put, List.setIfInBounds_toArray, List.set_cons_zero, List.set_cons_succ, i64_w, i32_w]; rfl) ?_) | (refine tkY rfl rfl (fun _ _ _ h => h) (by rfl) (fun w' hw' => by (obtain ⟨s0, s1, s2⟩ := HCi.out w' hw'; obtain ⟨t0, t1, t2⟩ := HCj.out w' hw'; go_simp; with_reducible rfl)) (by simp only [Act.put, List.setIfInBounds_toArray, List.set_cons_zero, List.set_cons_succ, i64_w, i32_w]; rfl) ?_))
                  refine one_ (i := 4) (N := some 17) (bl_ [5, 65]) rfl rfl (one_of HT_.out (by kernel_rfl)) (by decide) (fun K hK => ?_)
                  refine goes_ Try.func54 (by kernel_rfl) rfl #[.agg #[.int .i32 cr, .int .i64 0, .int .i64 ca]] (by rfl) rfl rfl (by (try simp only [List.map_toArray, List.map_cons, List.map_nil]); first | done | rfl) ?_
                  refine (refCell_ ⟨cr, 0, ca⟩ _).mono ?_
                  rintro e w1 ⟨rfl, hb1⟩
                  have HB1 := HB0.next hb1
                  rw [hcell]
                  refine ⟨_, rfl, hK.out _ _ HB1 (fun _ => ?_)⟩
                  refine takes_ [5, 6, 7, 8, 9, 10, 11, 12, 13, 14, 15, 16, 17, 18, 19, 20, 21, 22, 23, 24, 25, 26, 27, 28, 29, 30, 31, 32, 33, 34, 35, 36, 37, 38, 39, 40, 41, 42, 43, 44, 45, 46, 47, 48, 49, 50, 51, 52, 53, 54, 55, 56, 57, 58, 59, 60, 61, 62, 63, 64, 65, 66, 67, 68, 69] 0 (bl_ [70]) rfl HT_.out (by kernel_rfl) HB1 (a' := ?_) ?_ ?_
                  rotate_left
                  · repeat (first | exact rfl | (refine tkN rfl rfl (fun _ _ _ h => h) (by rfl) (by simp only [Act.put, List.setIfInBounds_toArray, List.set_cons_zero, List.set_cons_succ, i64_w, i32_w]; rfl) ?_) | (refine tkY rfl rfl (fun _ _ _ h => h) (by rfl) (fun w' hw' => by (obtain ⟨s0, s1, s2⟩ := HCi.out w' hw'; obtain ⟨t0, t1, t2⟩ := HCj.out w' hw'; go_simp; with_reducible rfl)) (by simp only [Act.put, List.setIfInBounds_toArray, List.set_cons_zero, List.set_cons_succ, i64_w, i32_w]; rfl) ?_))
                  refine done_ (done_of HT_.out (by kernel_rfl)) ?_
                  go_wp2
                  go_roundg (l.length + 1 - (i + 1))
                  case measure => rw [HA.out.2.1]; omega
                  case rel => exact ⟨i + 1, by simp, ⟨hlt, rfl, fun j hj => by rcases Nat.lt_succ_iff_lt_or_eq.1 hj with h | h; exact HA.out.2.2.1 j h; rw [h]; exact hyes, HB1⟩⟩
              · have q3 : (dw == 2) = false := by simp [c3]
                have q4 : (dw != 2) = true := by simp [c3]
                have hno : rowOk l i = false := by unfold rowOk; rw [hc]; simp [hcell, hd, c3]
                go_wp2
                try simp only [List.append_eq, List.cons_append, List.nil_append]
                refine start_ (n := 70) (S := SB W) (ds := []) (bl_ [0, 70]) (by kernel_rfl) (by kernel_rfl) rfl HB0 (fun _ => ?_)
                refine with_tab tab_27_5_ (fun HT_ => ?_)
                refine takes_ (List.range' 0 4) 66 (bl_ [4, 66]) rfl HT_.out (by kernel_rfl) HB0 (a' := ?_) ?_ ?_
                rotate_left
                · repeat (first | exact rfl | (refine tkN rfl rfl (fun _ _ _ h => h) (by rfl) (by simp only [Act.put, List.setIfInBounds_toArray, List.set_cons_zero, List.set_cons_succ, i64_w, i32_w]; rfl) ?_) | (refine tkY rfl rfl (fun _ _ _ h => h) (by rfl) (fun w' hw' => by (obtain ⟨s0, s1, s2⟩ := HCi.out w' hw'; obtain ⟨t0, t1, t2⟩ := HCj.out w' hw'; go_simp; with_reducible rfl)) (by simp only [Act.put, List.setIfInBounds_toArray, List.set_cons_zero, List.set_cons_succ, i64_w, i32_w]; rfl) ?_))
                refine one_ (i := 4) (N := some 17) (bl_ [5, 65]) rfl rfl (one_of HT_.out (by kernel_rfl)) (by decide) (fun K hK => ?_)
                refine goes_ Try.func54 (by kernel_rfl) rfl #[.agg #[.int .i32 cr, .int .i64 0, .int .i64 ca]] (by rfl) rfl rfl (by (try simp only [List.map_toArray, List.map_cons, List.map_nil]); first | done | rfl) ?_
                refine (refCell_ ⟨cr, 0, ca⟩ _).mono ?_
                rintro e w1 ⟨rfl, hb1⟩
                have HB1 := HB0.next hb1
                rw [hcell]
                refine ⟨_, rfl, hK.out _ _ HB1 (fun _ => ?_)⟩
                refine takes_ [5, 6, 7, 8, 9, 10, 11, 12, 13, 14, 15, 16, 17, 18, 19, 20, 21, 22, 23, 24, 25, 26, 27, 28, 29, 30, 31, 32, 33, 34, 35, 36, 37, 38, 39, 40, 41, 42, 43, 44, 45, 46, 47, 48, 49, 50, 51, 52, 53, 54, 55, 56, 57, 58, 59, 60, 61, 62, 63, 64, 65, 66, 67, 68, 69] 0 (bl_ [70]) rfl HT_.out (by kernel_rfl) HB1 (a' := ?_) ?_ ?_
                rotate_left
                · repeat (first | exact rfl | (refine tkN rfl rfl (fun _ _ _ h => h) (by rfl) (by simp only [Act.put, List.setIfInBounds_toArray, List.set_cons_zero, List.set_cons_succ, i64_w, i32_w]; rfl) ?_) | (refine tkY rfl rfl (fun _ _ _ h => h) (by rfl) (fun w' hw' => by (obtain ⟨s0, s1, s2⟩ := HCi.out w' hw'; obtain ⟨t0, t1, t2⟩ := HCj.out w' hw'; go_simp; with_reducible rfl)) (by simp only [Act.put, List.setIfInBounds_toArray, List.set_cons_zero, List.set_cons_succ, i64_w, i32_w]; rfl) ?_))
                refine done_ (done_of HT_.out (by kernel_rfl)) ?_
                go_wp2
                go_ret
                exact ⟨by rw [refRow_no hlt hno]; rfl, HB1⟩
          · have q0 : (cw == 0) = false := by simp [c0]
            have hyes : rowOk l i = true := by unfold rowOk; rw [hc]; simp [hcell, c2, c0]
            go_wp2
            try simp only [List.append_eq, List.cons_append, List.nil_append]
            refine start_ (n := 70) (S := SB W) (ds := []) (bl_ [0, 70]) (by kernel_rfl) (by kernel_rfl) rfl HB0 (fun _ => ?_)
            refine with_tab tab_27_5_ (fun HT_ => ?_)
            refine takes_ (List.range' 0 4) 66 (bl_ [4, 66]) rfl HT_.out (by kernel_rfl) HB0 (a' := ?_) ?_ ?_
            rotate_left
            · repeat (first | exact rfl | (refine tkN rfl rfl (fun _ _ _ h => h) (by rfl) (by simp only [Act.put, List.setIfInBounds_toArray, List.set_cons_zero, List.set_cons_succ, i64_w, i32_w]; rfl) ?_) | (refine tkY rfl rfl (fun _ _ _ h => h) (by rfl) (fun w' hw' => by (obtain ⟨s0, s1, s2⟩ := HCi.out w' hw'; go_simp; with_reducible rfl)) (by simp only [Act.put, List.setIfInBounds_toArray, List.set_cons_zero, List.set_cons_succ, i64_w, i32_w]; rfl) ?_))
            refine one_ (i := 4) (N := some 17) (bl_ [5, 65]) rfl rfl (one_of HT_.out (by kernel_rfl)) (by decide) (fun K hK => ?_)
            refine goes_ Try.func54 (by kernel_rfl) rfl #[.agg #[.int .i32 cr, .int .i64 cw, .int .i64 ca]] (by rfl) rfl rfl (by (try simp only [List.map_toArray, List.map_cons, List.map_nil]); first | done | rfl) ?_
            refine (refCell_ ⟨cr, cw, ca⟩ _).mono ?_
            rintro e w1 ⟨rfl, hb1⟩
            have HB1 := HB0.next hb1
            rw [hcell]
            refine ⟨_, rfl, hK.out _ _ HB1 (fun _ => ?_)⟩
            refine takes_ [5, 6, 7, 8, 9, 10, 11, 12, 13, 14, 15, 16, 17, 18, 19, 20, 21, 22, 23, 24, 25, 26, 27, 28, 29, 30, 31, 32, 33, 34, 35, 36, 37, 38, 39, 40, 41, 42, 43, 44, 45, 46, 47, 48, 49, 50, 51, 52, 53, 54, 55, 56, 57, 58, 59, 60, 61, 62, 63, 64, 65, 66, 67, 68, 69] 0 (bl_ [70]) rfl HT_.out (by kernel_rfl) HB1 (a' := ?_) ?_ ?_
            rotate_left
            · repeat (first | exact rfl | (refine tkN rfl rfl (fun _ _ _ h => h) (by rfl) (by simp only [Act.put, List.setIfInBounds_toArray, List.set_cons_zero, List.set_cons_succ, i64_w, i32_w]; rfl) ?_) | (refine tkY rfl rfl (fun _ _ _ h => h) (by rfl) (fun w' hw' => by (obtain ⟨s0, s1, s2⟩ := HCi.out w' hw'; go_simp; with_reducible rfl)) (by simp only [Act.put, List.setIfInBounds_toArray, List.set_cons_zero, List.set_cons_succ, i64_w, i32_w]; rfl) ?_))
            refine done_ (done_of HT_.out (by kernel_rfl)) ?_
            go_wp2
            go_roundg (l.length + 1 - (i + 1))
            case measure => rw [HA.out.2.1]; omega
            case rel => exact ⟨i + 1, by simp, ⟨hlt, rfl, fun j hj => by rcases Nat.lt_succ_iff_lt_or_eq.1 hj with h | h; exact HA.out.2.2.1 j h; rw [h]; exact hyes, HB1⟩⟩
    · go_wp2
      have hall := HA.out
      obtain rfl : i = l.length := by omega
      go_ret
      exact ⟨by rw [refRow_yes hall.2.2.1]; simp; omega, hall.2.2.2⟩
end Go.Proofs.Ytkigdcihhlkkdaa.P
end
section
set_option linter.unusedVariables false
set_option linter.unusedSimpArgs false
namespace Go.Proofs.Ytkigdcihhlkkdaa.Pure
open Go.RowKit Go.Proofs.Ytkigdcihhlkkdaa.P Go.Proofs.YtkigdcihhlkkdaaW.PrintWords Go.Proofs.YtkigdcihhlkkdaaW.PrintLast
theorem ev_pos {α : Type} {c : Prop} [Decidable c] (h : c) {f g : Nat → Option α} {r : α} (x : Ev f r) : Ev (fun k => if c then f k else g k) r := by
  simpa only [if_pos h] using x
theorem ev_neg {α : Type} {c : Prop} [Decidable c] (h : ¬ c) {f g : Nat → Option α} {r : α} (x : Ev g r) : Ev (fun k => if c then f k else g k) r := by
  simpa only [if_neg h] using x
def uintL : Nat → Nat → List Int
  | 0, _ => []
  | f + 1, n => if 128 ≤ n then ((n % 128 + 128 : Nat) : Int) :: uintL f (n / 128) else [(n : Int)]
theorem or128 (n : Nat) : Go.bits .or .u8 ((n : Int) % 256) 128 = ((n % 128 + 128 : Nat) : Int) := by
  have h1 : (n : Int) % 256 = ((n % 256 : Nat) : Int) := by omega
  have h2 : ∀ a : Fin 256, (a.val ||| 128) = a.val % 128 + 128 := by decide +kernel
  rw [h1, show (128 : Int) = ((128 : Nat) : Int) from rfl, u8_or_nat _ _ (by omega) (by decide)]
  have := h2 ⟨n % 256, by omega⟩
  simp only at this
  rw [this]
  congr 1
  omega
theorem uint_loop : ∀ (f n : Nat) (acc : List Int), 0 < f → n < 128 ^ f → acc.length + f < 140737488355328 → Ev (fun k => pack_Uint.l0 k (n : Int) acc) (acc ++ uintL f n)
  | 0, n, acc, hf, _, _ => absurd hf (by decide)
  | f + 1, n, acc, hf, h, hl => by
    refine Ev.step (f := _) (fun k => by simp only [pack_Uint.l0]; rfl) ?_
    unfold uintL
    by_cases h128 : 128 ≤ n
    · refine ev_pos (by omega) (ev_pos (by omega) ?_)
      rw [if_pos h128, or128]
      have e : (n : Int) / 128 = ((n / 128 : Nat) : Int) := by omega
      rw [e]
      have h3 : n / 128 < 128 ^ f := by
        rw [Nat.div_lt_iff_lt_mul (by decide), ← Nat.pow_succ]
        exact h
      have hf1 : 0 < f := by
        rcases Nat.eq_zero_or_pos f with h0 | h0
        · subst h0; simp at h; omega
        · exact h0
      have := uint_loop f (n / 128) (acc ++ [((n % 128 + 128 : Nat) : Int)]) hf1 h3 (by simp; omega)
      rw [List.append_assoc] at this
      exact this
    · refine ev_neg (by omega) (ev_pos (by omega) ?_)
      rw [if_neg h128, show (n : Int) % 256 = (n : Int) by omega]
      exact Ev.now _
theorem uint_ev (n : Nat) (h : n < 18446744073709551616) : Ev (fun k => pack_Uint.f k (n : Int)) (uintL 10 n) := by
  have := uint_loop 10 n [] (by decide) (Nat.lt_of_lt_of_le h (by decide)) (by decide)
  simpa [pack_Uint.f] using this
theorem uintL_bound : ∀ (f n : Nat), (uintL f n).length ≤ f
  | 0, _ => Nat.le_refl _
  | f + 1, n => by
    unfold uintL
    split
    · have := uintL_bound f (n / 128)
      simp only [List.length_cons]; omega
    · simp
theorem uintL_pos : ∀ (f n : Nat), 0 < f → 1 ≤ (uintL f n).length
  | f + 1, n, _ => by
    unfold uintL
    split <;> simp
theorem uintL_range : ∀ (f n : Nat), ∀ x ∈ uintL f n, 0 ≤ x ∧ x < 256
  | 0, _, x, h => by simp [uintL] at h
  | f + 1, n, x, h => by
    unfold uintL at h
    split at h
    · rcases List.mem_cons.1 h with rfl | h
      · omega
      · exact uintL_range f _ x h
    · simp only [List.mem_singleton] at h
      omega
end Go.Proofs.Ytkigdcihhlkkdaa.Pure
end
section
set_option linter.unusedVariables false
set_option linter.unusedSimpArgs false
namespace Go.Proofs.Ytkigdcihhlkkdaa.Pure
open Go.RowKit Go.Proofs.Ytkigdcihhlkkdaa.P Go.Proofs.YtkigdcihhlkkdaaW.PrintWords Go.Proofs.YtkigdcihhlkkdaaW.PrintLast
theorem w64_in (n : Int) (h : -9223372036854775808 ≤ n ∧ n ≤ 9223372036854775807) : wrap64 n = n := by unfold wrap64; omega
def numB (x : Int) : List Int := uintL 10 (IntKind.u64.wrap x).toNat
theorem u64_wrap_range (x : Int) : 0 ≤ IntKind.u64.wrap x ∧ IntKind.u64.wrap x < 18446744073709551616 := by
  rw [IntKind.wrap_u64]
  omega
theorem numB_ev (x : Int) : Ev (fun k => pack_Uint.f k (IntKind.u64.wrap x)) (numB x) := by
  have h := u64_wrap_range x
  have := uint_ev (IntKind.u64.wrap x).toNat (by omega)
  rwa [Int.toNat_of_nonneg h.1] at this
theorem numB_len (x : Int) : (numB x).length ≤ 10 := uintL_bound 10 _
def runB (r : S78) : List Int := numB r.f0 ++ (numB (wrap64 r.f1.f0) ++ (numB r.f1.f1 ++ numB r.f1.f2))
theorem runB_len (r : S78) : (runB r).length ≤ 40 := by
  have h0 := numB_len r.f0
  have h1 := numB_len (wrap64 r.f1.f0)
  have h2 := numB_len r.f1.f1
  have h3 := numB_len r.f1.f2
  simp only [runB, List.length_append]
  omega
theorem put_l1_step (rs : List S78) (len : Int) (i : Int) (y : List Int) (j : Nat) (acc : List Int) (r : List Int × Bool) (hj : j < y.length) (hy : y.length ≤ 100) (hacc : acc.length + 10 < 140737488355328)
    (h : Ev (fun k => pack_Put.l1 k (acc ++ numB (rd y (j : Int))) rs len i y (y.length : Int) ((j + 1 : Nat) : Int)) r) : Ev (fun k => pack_Put.l1 k acc rs len i y (y.length : Int) (j : Int)) r := by
  refine Ev.step (f := _) (fun k => by rw [pack_Put.l1]) ?_
  refine ev_pos (by omega) (ev_pos (by omega) (ev_pos (by omega) ?_))
  refine Ev.bind (numB_ev (rd y (j : Int))) ?_
  have hl := numB_len (rd y (j : Int))
  refine ev_pos (by omega) ?_
  have e : wrap64 ((j : Int) + 1) = ((j + 1 : Nat) : Int) := by rw [w64_in _ (by omega)]; omega
  rw [e]
  exact h
theorem put_l1_end (rs : List S78) (len : Int) (i : Int) (y : List Int) (acc : List Int) (r : List Int × Bool) (h : Ev (fun k => pack_Put.l0 k acc rs len (wrap64 (i + 1))) r) : Ev (fun k => pack_Put.l1 k acc rs len i y (y.length : Int) (y.length : Int)) r := by
  refine Ev.step (f := _) (fun k => by rw [pack_Put.l1]) ?_
  exact ev_neg (by omega) h
theorem put_l0_ev (rs : List S78) (hrs : rs.length ≤ 100000) : ∀ (d i : Nat) (acc : List Int), i + d = rs.length → acc.length + 40 * d < 140737488355000 → Ev (fun k => pack_Put.l0 k acc rs (rs.length : Int) (i : Int)) (acc ++ ((rs.drop i).map runB).flatten, true)
  | 0, i, acc, hi, hl => by
    refine Ev.step (f := _) (fun k => by rw [pack_Put.l0]) ?_
    refine ev_neg (by omega) ?_
    rw [List.drop_of_length_le (by omega)]
    simpa using Ev.now (acc, true)
  | d + 1, i, acc, hi, hl => by
    have hlt : i < rs.length := by omega
    refine Ev.step (f := _) (fun k => by rw [pack_Put.l0]) ?_
    refine ev_pos (by omega) (ev_pos (by omega) (ev_pos (by omega) ?_))
    have hr : rd_T78 rs (i : Int) = rs[i] := by rw [rd_T78, Int.toNat_natCast, List.getD_eq_getElem?_getD, List.getElem?_eq_getElem hlt]; rfl
    rw [hr]
    generalize hgr : rs[i] = q
    have hd : rs.drop i = q :: rs.drop (i + 1) := by rw [← hgr]; exact List.drop_eq_getElem_cons hlt
    have hq := runB_len q
    have ih := put_l0_ev rs hrs d (i + 1) (acc ++ runB q) (by omega) (by rw [List.length_append]; omega)
    have e0 : rd [q.f0, wrap64 q.f1.f0, q.f1.f1, q.f1.f2] ((0 : Nat) : Int) = q.f0 := rfl
    have e1 : rd [q.f0, wrap64 q.f1.f0, q.f1.f1, q.f1.f2] ((1 : Nat) : Int) = wrap64 q.f1.f0 := rfl
    have e2 : rd [q.f0, wrap64 q.f1.f0, q.f1.f1, q.f1.f2] ((2 : Nat) : Int) = q.f1.f1 := rfl
    have e3 : rd [q.f0, wrap64 q.f1.f0, q.f1.f1, q.f1.f2] ((3 : Nat) : Int) = q.f1.f2 := rfl
    have n0 := numB_len q.f0
    have n1 := numB_len (wrap64 q.f1.f0)
    have n2 := numB_len q.f1.f1
    have n3 := numB_len q.f1.f2
    refine Ev.bind (Ev.now [q.f0, wrap64 q.f1.f0, q.f1.f1, q.f1.f2]) ?_
    refine put_l1_step rs _ _ [q.f0, wrap64 q.f1.f0, q.f1.f1, q.f1.f2] 0 acc _ (by simp) (by simp) (by omega) ?_
    rw [e0]
    refine put_l1_step rs _ _ [q.f0, wrap64 q.f1.f0, q.f1.f1, q.f1.f2] 1 _ _ (by simp) (by simp) (by simp only [List.length_append]; omega) ?_
    rw [e1]
    refine put_l1_step rs _ _ [q.f0, wrap64 q.f1.f0, q.f1.f1, q.f1.f2] 2 _ _ (by simp) (by simp) (by simp only [List.length_append]; omega) ?_
    rw [e2]
    refine put_l1_step rs _ _ [q.f0, wrap64 q.f1.f0, q.f1.f1, q.f1.f2] 3 _ _ (by simp) (by simp) (by simp only [List.length_append]; omega) ?_
    rw [e3]
    refine put_l1_end rs _ _ [q.f0, wrap64 q.f1.f0, q.f1.f1, q.f1.f2] _ _ ?_
    have e : wrap64 ((i : Int) + 1) = ((i + 1 : Nat) : Int) := by rw [w64_in _ (by omega)]; omega
    rw [e, hd, List.map_cons, List.flatten_cons]
    have e4 : acc ++ numB q.f0 ++ numB (wrap64 q.f1.f0) ++ numB q.f1.f1 ++ numB q.f1.f2 = acc ++ runB q := by simp [runB]
    rw [e4, ← List.append_assoc]
    exact ih
def rowB (l : List S45) (w : Bool) : List Int := numB (2 * ((runs78 l).length : Int) + (if w then 1 else 0)) ++ ((runs78 l).map runB).flatten
theorem runs78_le (l : List S45) : (runs78 l).length ≤ l.length := by have := runs78_len l []; simpa [runs78] using this
theorem put_ev (l : List S45) (w : Bool) (hl : l.length ≤ 1000) (hm : Ev (fun k => pack_May.f k l w) true) : Ev (fun k => pack_Put.f k l w) (rowB l w, true) := by
  unfold pack_Put.f
  refine Ev.bind hm ?_
  refine ev_pos rfl ?_
  have hr := runs78_le l
  unfold pack_runs.f
  rw [if_pos (by omega)]
  simp only [Option.bind_some]
  have e1 : wrap64 (2 * ((runs78 l).length : Int)) = 2 * ((runs78 l).length : Int) := w64_in _ (by omega)
  have hn := numB_len (2 * ((runs78 l).length : Int) + (if w then 1 else 0))
  have key : ∀ x : Int, x = 2 * ((runs78 l).length : Int) + (if w then 1 else 0) → Ev (fun k => pack_Put.j0 k (runs78 l) (IntKind.u64.wrap x)) (rowB l w, true) := by
    rintro x rfl
    refine Ev.step (f := _) (fun k => by rw [pack_Put.j0]) ?_
    refine Ev.bind (numB_ev _) ?_
    exact put_l0_ev (runs78 l) (by omega) (runs78 l).length 0 _ (by omega) (by omega)
  cases w with
  | true =>
    refine ev_pos rfl ?_
    have e2 : IntKind.u64.wrap (IntKind.u64.wrap (wrap64 (2 * ((runs78 l).length : Int))) + 1) = IntKind.u64.wrap (2 * ((runs78 l).length : Int) + 1) := by
      rw [e1, IntKind.wrap_u64, IntKind.wrap_u64, IntKind.wrap_u64]; omega
    rw [e2]
    exact key _ rfl
  | false =>
    refine ev_neg (by decide) ?_
    rw [e1]
    exact key _ (by simp)
theorem put_no (l : List S45) (w : Bool) (hm : Ev (fun k => pack_May.f k l w) false) : Ev (fun k => pack_Put.f k l w) (([] : List Int), false) := by
  unfold pack_Put.f
  refine Ev.bind hm ?_
  exact ev_neg (by decide) (Ev.now _)
end Go.Proofs.Ytkigdcihhlkkdaa.Pure
end
section
set_option linter.unusedVariables false
set_option linter.unusedSimpArgs false
namespace Go.Proofs.Ytkigdcihhlkkdaa.Pure
open Go.RowKit Go.Proofs.Ytkigdcihhlkkdaa.P Go.Proofs.YtkigdcihhlkkdaaW.PrintWords Go.Proofs.YtkigdcihhlkkdaaW.PrintLast
theorem w64_in_ (n : Int) (h : -9223372036854775808 ≤ n ∧ n ≤ 9223372036854775807) : wrap64 n = n := by unfold wrap64; omega
theorem rd_at {l : List Int} {i : Nat} (h : i < l.length) : rd l (i : Int) = l[i] := by
  simp [rd, List.getD_eq_getElem?_getD, List.getElem?_eq_getElem h]
theorem eqb_loop (a b : List Int) (hab : a.length = b.length) (hl : a.length ≤ 1000000000) : ∀ (d i : Nat), i + d = a.length → Ev (fun k => slices_Equal_byte_byte.l0 k a b (a.length : Int) (i : Int)) (decide (a.drop i = b.drop i))
  | 0, i, hi => by
    refine Ev.step (f := _) (fun k => by rw [slices_Equal_byte_byte.l0]) ?_
    refine ev_neg (by omega) ?_
    rw [List.drop_of_length_le (by omega), List.drop_of_length_le (by omega)]
    exact Ev.now _
  | d + 1, i, hi => by
    have ha : i < a.length := by omega
    have hb : i < b.length := by omega
    refine Ev.step (f := _) (fun k => by rw [slices_Equal_byte_byte.l0]) ?_
    refine ev_pos (by omega) (ev_pos (by omega) (ev_pos (by omega) (ev_pos (by omega) ?_)))
    rw [rd_at ha, rd_at hb]
    have e : wrap64 ((i : Int) + 1) = ((i + 1 : Nat) : Int) := by rw [w64_in_ _ (by omega)]; omega
    rw [e, List.drop_eq_getElem_cons ha, List.drop_eq_getElem_cons hb]
    by_cases h : a[i] = b[i]
    · refine ev_pos h ?_
      have := eqb_loop a b hab hl d (i + 1) (by omega)
      rw [h]
      simp only [List.cons.injEq, true_and]
      exact this
    · refine ev_neg h ?_
      have : decide (a[i] :: a.drop (i + 1) = b[i] :: b.drop (i + 1)) = false := by
        rw [decide_eq_false_iff_not]
        intro hh
        injection hh with h1 _
        exact h h1
      rw [this]
      exact Ev.now _
theorem eqb_ev (a b : List Int) (hl : a.length ≤ 1000000000) : Ev (fun k => slices_Equal_byte_byte.f k a b) (decide (a = b)) := by
  unfold slices_Equal_byte_byte.f
  by_cases h : a.length = b.length
  · refine ev_pos (by omega) ?_
    exact eqb_loop a b h hl a.length 0 (by omega)
  · refine ev_neg (by omega) ?_
    have : decide (a = b) = false := by
      rw [decide_eq_false_iff_not]
      rintro rfl
      exact h rfl
    rw [this]
    exact Ev.now _
theorem and127 (n : Nat) (h : n < 256) : Go.bits .and .u8 (n : Int) 127 = ((n % 128 : Nat) : Int) := by
  have h2 : ∀ a : Fin 256, (a.val &&& 127) = a.val % 128 := by decide +kernel
  rw [show (127 : Int) = ((127 : Nat) : Int) from rfl, u8_and_nat _ _ h (by decide)]
  have := h2 ⟨n, h⟩
  simp only at this
  rw [this]
def addB (acc i x : Nat) : Nat := (acc + x % 128 * 128 ^ i) % 18446744073709551616
theorem pow128 (i : Nat) : 128 ^ i = 2 ^ (7 * i) := by
  rw [Nat.pow_mul]
theorem addB_ev (acc i x : Nat) (hi : i < 10) (ha : acc < 128 ^ i) (hx : x < 256) : Go.bits .or .u64 (acc : Int) (shl .u64 (IntKind.u64.wrap (Go.bits .and .u8 (x : Int) 127)) (wrap64 (7 * (i : Int)))) = ((addB acc i x : Nat) : Int) := by
  rw [and127 x hx, w64_in_ _ (by omega)]
  have e1 : IntKind.u64.wrap ((x % 128 : Nat) : Int) = ((x % 128 : Nat) : Int) := by rw [IntKind.wrap_u64]; omega
  rw [e1]
  unfold shl
  have e2 : min (7 * (i : Int)).toNat IntKind.u64.bits = 7 * i := by
    have : IntKind.u64.bits = 64 := rfl
    omega
  rw [e2, IntKind.wrap_u64]
  have e3 : (((x % 128 : Nat) : Int) * 2 ^ (7 * i)) % 18446744073709551616 = ((x % 128 * 2 ^ (7 * i) % 18446744073709551616 : Nat) : Int) := by
    have : ((x % 128 : Nat) : Int) * 2 ^ (7 * i) = ((x % 128 * 2 ^ (7 * i) : Nat) : Int) := by rw [Int.natCast_mul, Int.natCast_pow]; rfl
    rw [this]
    omega
  rw [e3]
  have hacc : acc < 18446744073709551616 := Nat.lt_of_lt_of_le ha (by
    rw [pow128]
    exact Nat.le_trans (Nat.pow_le_pow_right (by decide) (show 7 * i ≤ 63 by omega)) (by decide))
  rw [u64_or_nat _ _ (by omega) (by omega)]
  congr 1
  unfold addB
  rw [pow128] at *
  by_cases h9 : i = 9
  · subst h9
    have e4 : x % 128 * 2 ^ (7 * 9) % 18446744073709551616 = (x % 2) * 2 ^ 63 := by omega
    rw [e4, Nat.or_comm, ← Nat.shiftLeft_eq, ← Nat.shiftLeft_add_eq_or_of_lt (by omega), Nat.shiftLeft_eq]
    omega
  · have hp : 2 ^ (7 * i) ≤ 2 ^ 56 := Nat.pow_le_pow_right (by decide) (by omega)
    have h1 : x % 128 * 2 ^ (7 * i) ≤ 127 * 2 ^ 56 := Nat.mul_le_mul (by omega) hp
    have h2 : acc + x % 128 * 2 ^ (7 * i) < 18446744073709551616 := by
      generalize x % 128 * 2 ^ (7 * i) = q at *
      generalize 2 ^ (7 * i) = p at *
      omega
    have h3 : x % 128 * 2 ^ (7 * i) < 18446744073709551616 := by omega
    rw [Nat.mod_eq_of_lt h2, Nat.mod_eq_of_lt h3, Nat.or_comm, ← Nat.shiftLeft_eq, ← Nat.shiftLeft_add_eq_or_of_lt ha, Nat.add_comm]
theorem addB_lt (acc i x : Nat) (hi : i < 9) (ha : acc < 128 ^ i) : addB acc i x < 128 ^ (i + 1) := by
  unfold addB
  refine Nat.lt_of_le_of_lt (Nat.mod_le _ _) ?_
  rw [Nat.pow_succ]
  have : x % 128 * 128 ^ i ≤ 127 * 128 ^ i := Nat.mul_le_mul_right _ (by omega)
  omega
theorem addB_lt64 (acc i x : Nat) : addB acc i x < 18446744073709551616 := Nat.mod_lt _ (by decide)
def getL (x0 : List Int) : Nat → Nat → Nat → List Int → Int × Int
  | 0, _, _, _ => (0, 0)
  | _ + 1, _, _, [] => (0, 0)
  | f + 1, i, acc, x :: t => if x < 128 then (if uintL 10 (addB acc i x.toNat) = x0.take (i + 1) then (((addB acc i x.toNat : Nat) : Int), ((i + 1 : Nat) : Int)) else (0, 0)) else getL x0 f (i + 1) (addB acc i x.toNat) t
theorem getL_ev (x0 : List Int) (hx : ∀ x ∈ x0, 0 ≤ x ∧ x < 256) : ∀ (f i acc : Nat), i + f = 10 → acc < 128 ^ i → Ev (fun k => pack_GetUint.l0 k x0 (acc : Int) (x0.take 10) ((x0.take 10).length : Int) (i : Int)) (getL x0 f i acc (x0.drop i))
  | 0, i, acc, hi, ha => by
    refine Ev.step (f := _) (fun k => by rw [pack_GetUint.l0]) ?_
    refine ev_neg (by rw [List.length_take]; omega) ?_
    exact Ev.now _
  | f + 1, i, acc, hi, ha => by
    refine Ev.step (f := _) (fun k => by rw [pack_GetUint.l0]) ?_
    by_cases hlt : i < x0.length
    · have hlt2 : i < (x0.take 10).length := by rw [List.length_take]; omega
      have hb := hx x0[i] (List.getElem_mem hlt)
      rw [List.drop_eq_getElem_cons hlt, rd_at hlt2, List.getElem_take]
      generalize x0[i] = x at hb
      obtain ⟨n, rfl⟩ : ∃ n : Nat, x = n := ⟨x.toNat, by omega⟩
      rw [addB_ev acc i n (by omega) ha (by omega)]
      have e : wrap64 ((i : Int) + 1) = ((i + 1 : Nat) : Int) := by rw [w64_in_ _ (by omega)]; omega
      rw [e]
      refine ev_pos (by omega) (ev_pos (by omega) (ev_pos (by omega) (ev_pos (by rw [w64_in_ _ (by omega)]; omega) ?_)))
      unfold getL
      rw [Int.toNat_natCast]
      by_cases h128 : (n : Int) < 128
      · refine ev_pos h128 ?_
        rw [if_pos h128]
        refine Ev.bind (uint_ev _ (addB_lt64 _ _ _)) ?_
        refine ev_pos (by omega) (ev_pos (by omega) ?_)
        have hlen := uintL_bound 10 (addB acc i n)
        refine Ev.bind (eqb_ev _ _ (by omega)) ?_
        rw [Int.toNat_natCast]
        by_cases heq : uintL 10 (addB acc i n) = x0.take (i + 1)
        · rw [if_pos heq]
          exact ev_pos (by simpa using heq) (Ev.now _)
        · rw [if_neg heq]
          exact ev_neg (by simpa using heq) (Ev.now _)
      · refine ev_neg h128 ?_
        rw [if_neg h128]
        by_cases h9 : i = 9
        · subst h9
          obtain rfl : f = 0 := by omega
          refine Ev.step (f := _) (fun k => by rw [pack_GetUint.l0]) ?_
          refine ev_neg (by rw [List.length_take]; omega) ?_
          exact Ev.now _
        · exact getL_ev x0 hx f (i + 1) (addB acc i n) (by omega) (addB_lt _ _ _ (by omega) ha)
    · refine ev_neg (by rw [List.length_take]; omega) ?_
      rw [List.drop_of_length_le (by omega)]
      exact Ev.now _
theorem getUint_ev (x0 : List Int) (hx : ∀ x ∈ x0, 0 ≤ x ∧ x < 256) : Ev (fun k => pack_GetUint.f k x0) (getL x0 10 0 0 x0) := by
  unfold pack_GetUint.f
  have hmn : mn (x0.length : Int) 10 = ((min x0.length 10 : Nat) : Int) := by unfold mn; split <;> omega
  rw [hmn]
  refine ev_pos (by omega) (ev_pos (by omega) ?_)
  have e : x0.take ((min x0.length 10 : Nat) : Int).toNat = x0.take 10 := by
    rw [Int.toNat_natCast]
    by_cases h : x0.length ≤ 10
    · rw [Nat.min_eq_left h, List.take_of_length_le (by omega), List.take_of_length_le (by omega)]
    · rw [Nat.min_eq_right (by omega)]
  rw [e]
  simp only [Option.bind_some]
  exact getL_ev x0 hx 10 0 0 (by decide) (by decide)
theorem uintL_succ (f n : Nat) : uintL (f + 1) n = if 128 ≤ n then ((n % 128 + 128 : Nat) : Int) :: uintL f (n / 128) else [(n : Int)] := rfl
theorem getL_uint (x0 rest : List Int) (n : Nat) (hn : n < 18446744073709551616) (hx0 : x0 = uintL 10 n ++ rest) : ∀ (f i : Nat), i + f = 10 → n / 128 ^ i < 128 ^ f → (uintL 10 n).length = i + (uintL f (n / 128 ^ i)).length → 0 < f →
    getL x0 f i (n % 128 ^ i) (uintL f (n / 128 ^ i) ++ rest) = ((n : Int), ((uintL 10 n).length : Int))
  | 0, i, hi, hlt, hlen, hf => absurd hf (by decide)
  | f + 1, i, hi, hlt, hlen, hf => by
    have hdiv : n / 128 ^ (i + 1) = n / 128 ^ i / 128 := by rw [Nat.pow_succ, Nat.div_div_eq_div_mul]
    have hmod : n % 128 ^ (i + 1) = n % 128 ^ i + 128 ^ i * (n / 128 ^ i % 128) := Nat.mod_pow_succ
    have hle : n % 128 ^ (i + 1) ≤ n := Nat.mod_le _ _
    have hsum : n = n % 128 ^ i + 128 ^ i * (n / 128 ^ i) := (Nat.mod_add_div n (128 ^ i)).symm
    rw [uintL_succ f (n / 128 ^ i)] at hlen ⊢
    by_cases h128 : 128 ≤ n / 128 ^ i
    · rw [if_pos h128] at hlen ⊢
      rw [List.cons_append]
      unfold getL
      rw [if_neg (by omega), Int.toNat_natCast]
      have hadd : addB (n % 128 ^ i) i (n / 128 ^ i % 128 + 128) = n % 128 ^ (i + 1) := by
        unfold addB
        rw [show (n / 128 ^ i % 128 + 128) % 128 = n / 128 ^ i % 128 by omega, Nat.mul_comm, ← hmod]
        exact Nat.mod_eq_of_lt (by omega)
      have hf0 : 0 < f := by
        rcases Nat.eq_zero_or_pos f with h0 | h0
        · subst h0; simp at hlt; omega
        · exact h0
      have h3 : n / 128 ^ i / 128 < 128 ^ f := by
        rw [Nat.div_lt_iff_lt_mul (by decide), ← Nat.pow_succ]
        exact hlt
      rw [hadd]
      rw [← hdiv] at h3 hlen ⊢
      exact getL_uint x0 rest n hn hx0 f (i + 1) (by omega) h3 (by simp only [List.length_cons] at hlen; omega) hf0
    · rw [if_neg h128] at hlen ⊢
      rw [List.cons_append, List.nil_append]
      unfold getL
      rw [if_pos (by omega), Int.toNat_natCast]
      have hadd : addB (n % 128 ^ i) i (n / 128 ^ i) = n := by
        unfold addB
        rw [Nat.mod_eq_of_lt (show n / 128 ^ i < 128 by omega), Nat.mul_comm, ← hsum]
        exact Nat.mod_eq_of_lt hn
      simp only [List.length_singleton] at hlen
      rw [hadd, if_pos (by rw [hx0, ← hlen, List.take_left]), hlen]
theorem getL_num (n : Nat) (hn : n < 18446744073709551616) (rest : List Int) : getL (uintL 10 n ++ rest) 10 0 0 (uintL 10 n ++ rest) = ((n : Int), ((uintL 10 n).length : Int)) := by
  have := getL_uint (uintL 10 n ++ rest) rest n hn rfl 10 0 (by decide) (by simp; exact Nat.lt_of_lt_of_le hn (by decide)) (by simp) (by decide)
  rw [Nat.pow_zero, Nat.mod_one, Nat.div_one] at this
  exact this
theorem getUint_num (n : Nat) (hn : n < 18446744073709551616) (rest : List Int) (hr : ∀ x ∈ rest, 0 ≤ x ∧ x < 256) : Ev (fun k => pack_GetUint.f k (uintL 10 n ++ rest)) ((n : Int), ((uintL 10 n).length : Int)) := by
  have := getUint_ev (uintL 10 n ++ rest) (fun x hx => (List.mem_append.1 hx).elim (uintL_range 10 n x) (hr x))
  rwa [getL_num n hn rest] at this
end Go.Proofs.Ytkigdcihhlkkdaa.Pure
end
section
set_option linter.unusedVariables false
set_option linter.unusedSimpArgs false
namespace Go.Proofs.Ytkigdcihhlkkdaa.Pure
open Go.RowKit Go.Proofs.Ytkigdcihhlkkdaa.P Go.Proofs.YtkigdcihhlkkdaaW.PrintWords Go.Proofs.YtkigdcihhlkkdaaW.PrintLast
def wOf (r : Int) : Int := if width_none.b r = true then 0 else if width_wide.b r = true then 2 else 1
theorem wOf_eq (r : Int) : width_Of.f r = some (wOf r) := by
  unfold width_Of.f width_none.f width_wide.f wOf
  simp only [Option.bind_some]
  split
  · rfl
  · split <;> rfl
def padB (c : S45) : Bool := c.f0 == 0 && (c.f1 == 1 && c.f2 == 0)
def cellB (c : S45) : Bool := decide (0 ≤ c.f2 ∧ c.f2 ≤ 255) && (padB c || (c.f1 == 0 && c.f0 == 0) || ((c.f1 == 1 || c.f1 == 2) && c.f1 == wOf c.f0))
theorem cellMay_ev (c : S45) : Ev (fun k => cell_May.f k c.f0 c.f1 c.f2) (cellB c) := by
  obtain ⟨r, w, a⟩ := c
  unfold cell_May.f cellB padB
  by_cases h0 : a < 0
  · refine ev_pos h0 ?_
    refine Ev.step (f := _) (fun k => by rw [cell_May.j0]) (ev_pos rfl ?_)
    rw [decide_eq_false (show ¬ (0 ≤ a ∧ a ≤ 255) by omega)]
    exact Ev.now _
  · refine ev_neg h0 ?_
    refine Ev.step (f := _) (fun k => by rw [cell_May.j0]) ?_
    by_cases h1 : a > 255
    · refine ev_pos (by simpa using h1) ?_
      rw [decide_eq_false (by simp only; omega)]
      exact Ev.now _
    · refine ev_neg (by simpa using h1) ?_
      rw [decide_eq_true (by simp only; omega), Bool.true_and]
      unfold cell_IsPad.f cell_Pad.f
      simp only [Option.bind_some, wOf_eq]
      have tail : ∀ x : Bool, x = false → Ev (fun k => if w = 1 then some (w == wOf r) else if w = 2 then some (w == wOf r) else some false) (x || ((w == 1 || w == 2) && w == wOf r)) := by
        rintro x rfl
        by_cases e1 : w = 1
        · refine ev_pos e1 ?_
          subst e1
          simpa using Ev.now _
        · refine ev_neg e1 ?_
          by_cases e2 : w = 2
          · refine ev_pos e2 ?_
            subst e2
            simpa using Ev.now _
          · refine ev_neg e2 ?_
            have : ((w == 1 || w == 2) && w == wOf r) = false := by simp [e1, e2]
            rw [Bool.false_or, this]
            exact Ev.now _
      by_cases hp : (r == 0 && (w == 1 && a == 0)) = true
      · rw [hp]
        by_cases hw : w = 0
        · refine ev_pos hw ?_
          simpa using Ev.now true
        · refine ev_neg hw ?_
          simpa using Ev.now true
      · have hp2 : (r == 0 && (w == 1 && a == 0)) = false := by simpa using hp
        rw [hp2]
        by_cases hw : w = 0
        · refine ev_pos hw (ev_neg (by simp) ?_)
          by_cases hr : r = 0
          · refine ev_pos hr ?_
            subst hr hw
            simpa using Ev.now true
          · refine ev_neg hr ?_
            have := tail (false || (w == 0 && r == 0)) (by simp [hr])
            exact this
        · refine ev_neg hw (ev_neg (by simp) ?_)
          have := tail (false || (w == 0 && r == 0)) (by simp [hw])
          exact this
theorem cellB_range {c : S45} (h : cellB c = true) : 0 ≤ c.f0 ∧ c.f0 ≤ 1114111 ∧ 0 ≤ c.f1 ∧ c.f1 ≤ 2 ∧ 0 ≤ c.f2 ∧ c.f2 ≤ 255 := by
  unfold cellB padB at h
  rw [Bool.and_eq_true] at h
  have h2 := of_decide_eq_true h.1
  have h3 := h.2
  simp only [Bool.or_eq_true, Bool.and_eq_true, beq_iff_eq] at h3
  rcases h3 with (h3 | h3) | h3
  · omega
  · omega
  · have hw := h3.2
    unfold wOf at hw
    split at hw
    · omega
    · rename_i hn
      have : ¬ width_none.c c.f0 := fun h => hn (decide_eq_true h)
      unfold width_none.c at this
      omega
def mayL : Bool → Int → List S45 → Bool
  | o, _, [] => !o
  | o, a, c :: t => cellB c && (o == (c.f1 == 0) && ((!o || c.f2 == a) && mayL (c.f1 == 2) c.f2 t))
theorem rd45_at {l : List S45} {i : Nat} (h : i < l.length) : rd_T45 l (i : Int) = l[i] := by
  rw [rd_T45, Int.toNat_natCast, List.getD_eq_getElem?_getD, List.getElem?_eq_getElem h]; rfl
theorem may_loop (l : List S45) (hl : l.length ≤ 100000) : ∀ (d i : Nat) (o : Bool) (a : Int), i + d = l.length → Ev (fun k => pack_May.l0 k o a l (l.length : Int) (i : Int)) (mayL o a (l.drop i))
  | 0, i, o, a, hi => by
    refine Ev.step (f := _) (fun k => by rw [pack_May.l0]) ?_
    refine ev_neg (by omega) ?_
    rw [List.drop_of_length_le (by omega)]
    exact Ev.now _
  | d + 1, i, o, a, hi => by
    have hlt : i < l.length := by omega
    refine Ev.step (f := _) (fun k => by rw [pack_May.l0]) ?_
    refine ev_pos (by omega) (ev_pos (by omega) (ev_pos (by omega) ?_))
    rw [rd45_at hlt, List.drop_eq_getElem_cons hlt]
    generalize l[i] = c
    refine Ev.bind (cellMay_ev c) ?_
    have e : wrap64 ((i : Int) + 1) = ((i + 1 : Nat) : Int) := by rw [w64_in _ (by omega)]; omega
    rw [e]
    have ih := may_loop l hl d (i + 1) (c.f1 == 2) c.f2 (by omega)
    unfold mayL
    cases hc : cellB c with
    | false =>
      refine ev_neg (by decide) ?_
      exact Ev.now _
    | true =>
      refine ev_pos rfl ?_
      rw [Bool.true_and]
      cases o with
      | true =>
        cases h1 : (c.f1 == 0) with
        | true =>
          refine ev_neg (by decide) (ev_pos rfl ?_)
          by_cases h2 : c.f2 = a
          · refine ev_pos h2 ?_
            simpa [h2] using ih
          · refine ev_neg h2 ?_
            have e2 : (c.f2 == a) = false := by simpa using h2
            rw [e2]
            exact Ev.now _
        | false =>
          refine ev_pos (by decide) ?_
          exact Ev.now _
      | false =>
        cases h1 : (c.f1 == 0) with
        | true =>
          refine ev_pos (by decide) ?_
          exact Ev.now _
        | false =>
          refine ev_neg (by decide) (ev_neg (by decide) ?_)
          simpa using ih
def mayB (l : List S45) : Bool := decide (l.length ≤ 300) && mayL false 0 l
theorem may_ev (l : List S45) (w : Bool) (hl : l.length ≤ 100000) : Ev (fun k => pack_May.f k l w) (mayB l) := by
  unfold pack_May.f mayB
  by_cases h : l.length ≤ 300
  · refine ev_neg (by omega) ?_
    rw [decide_eq_true h, Bool.true_and]
    exact may_loop l hl l.length 0 false 0 (by omega)
  · refine ev_pos (by omega) ?_
    rw [decide_eq_false h]
    exact Ev.now _
theorem mayL_cells : ∀ {l : List S45} {o : Bool} {a : Int}, mayL o a l = true → ∀ c ∈ l, cellB c = true
  | [], _, _, _, c, hc => by simp at hc
  | d :: t, o, a, h, c, hc => by
    unfold mayL at h
    simp only [Bool.and_eq_true] at h
    rcases List.mem_cons.1 hc with rfl | hc
    · exact h.1
    · exact mayL_cells h.2.2.2 c hc
end Go.Proofs.Ytkigdcihhlkkdaa.Pure
end
section
set_option linter.unusedVariables false
set_option linter.unusedSimpArgs false
namespace Go.Proofs.Ytkigdcihhlkkdaa.Pure
open Go.RowKit Go.Proofs.Ytkigdcihhlkkdaa.P Go.Proofs.YtkigdcihhlkkdaaW.PrintWords Go.Proofs.YtkigdcihhlkkdaaW.PrintLast
theorem isIn_nil_ (r : Int) : rotulusref1_Width.isIn [] r = false := rfl
theorem isIn_cons_ (p : Int × Int) (l : List (Int × Int)) (r : Int) : rotulusref1_Width.isIn (p :: l) r = true ↔ (p.1 ≤ r ∧ r ≤ p.2) ∨ rotulusref1_Width.isIn l r = true := by
  simp [rotulusref1_Width.isIn]
theorem wOf_ref (r : Int) (h0 : -2147483648 ≤ r) (h1 : r ≤ 2147483647) : wOf r = rotulusref1_Width.w r := by
  have z : rotulusref1_Width.isIn rotulusref1_Width.zeros r = true ↔ width_none.c r := by
    simp only [rotulusref1_Width.zeros, isIn_cons_, isIn_nil_, width_none.c, Bool.false_eq_true, or_false]
    omega
  have v : rotulusref1_Width.isIn rotulusref1_Width.wides r = true ↔ width_wide.c r := by
    simp only [rotulusref1_Width.wides, isIn_cons_, isIn_nil_, width_wide.c, Bool.false_eq_true, or_false]
  unfold wOf rotulusref1_Width.w
  by_cases c : width_none.c r
  · rw [if_pos (z.2 c), if_pos (show width_none.b r = true from decide_eq_true c)]
  · rw [if_neg (fun h => c (z.1 h)), if_neg (show ¬ width_none.b r = true from fun h => c (of_decide_eq_true h))]
    by_cases d : width_wide.c r
    · rw [if_pos (v.2 d), if_pos (show width_wide.b r = true from decide_eq_true d)]
    · rw [if_neg (fun h => d (v.1 h)), if_neg (show ¬ width_wide.b r = true from fun h => d (of_decide_eq_true h))]
def in32 (c : S45) : Prop := -2147483648 ≤ c.f0 ∧ c.f0 ≤ 2147483647
theorem w_range_ (r : Int) : 0 ≤ rotulusref1_Width.w r ∧ rotulusref1_Width.w r ≤ 2 := by
  unfold rotulusref1_Width.w
  split
  · omega
  · split <;> omega
theorem cell_ref (c : S45) (h : in32 c) : cellB c = refCellB c := by
  unfold cellB refCellB padB
  rw [wOf_ref c.f0 h.1 h.2]
  have hw := w_range_ c.f0
  generalize rotulusref1_Width.w c.f0 = w at hw
  rw [Bool.eq_iff_iff]
  simp only [Bool.and_eq_true, Bool.or_eq_true, decide_eq_true_eq, beq_iff_eq]
  omega
theorem rd45_eq (l : List S45) (i : Nat) (h : i < l.length) : rd_T45 l (i : Int) = l[i] := rd45_at h
theorem mayL_iff (l : List S45) : ∀ (d i : Nat) (o : Bool) (a : Int), i + d = l.length → (mayL o a (l.drop i) = true ↔
    (∀ j : Nat, i ≤ j → j < l.length → cellB (rd_T45 l j) = true ∧ ((if j = i then o else (rd_T45 l ((j : Int) - 1)).f1 == 2) = ((rd_T45 l j).f1 == 0)) ∧ ((rd_T45 l j).f1 = 0 → (rd_T45 l j).f2 = if j = i then a else (rd_T45 l ((j : Int) - 1)).f2)) ∧
    (if d = 0 then o = false else (rd_T45 l ((l.length : Int) - 1)).f1 ≠ 2))
  | 0, i, o, a, hi => by
    rw [List.drop_of_length_le (by omega)]
    simp only [mayL, Bool.not_eq_true', if_true]
    exact ⟨fun h => ⟨fun j h1 h2 => by omega, h⟩, fun h => h.2⟩
  | d + 1, i, o, a, hi => by
    have hlt : i < l.length := by omega
    have hg := rd45_eq l i hlt
    rw [List.drop_eq_getElem_cons hlt, ← hg]
    unfold mayL
    simp only [Bool.and_eq_true, mayL_iff l d (i + 1) ((rd_T45 l (i : Int)).f1 == 2) (rd_T45 l (i : Int)).f2 (by omega), Bool.or_eq_true, Bool.not_eq_true', beq_iff_eq]
    rw [if_neg (by omega : ¬ d + 1 = 0)]
    constructor
    · rintro ⟨h1, h2, h3, h4, h5⟩
      refine ⟨fun j hj1 hj2 => ?_, ?_⟩
      · by_cases e : j = i
        · subst e
          rw [if_pos rfl, if_pos rfl]
          refine ⟨h1, h2, fun hz => ?_⟩
          rcases h3 with h3 | h3
          · rw [h3, hz] at h2; simp at h2
          · exact h3
        · obtain ⟨k1, k2, k3⟩ := h4 j (by omega) hj2
          rw [if_neg e, if_neg e]
          by_cases e2 : j = i + 1
          · subst e2
            rw [if_pos rfl] at k2 k3
            have e3 : ((i + 1 : Nat) : Int) - 1 = (i : Int) := by omega
            rw [e3]
            exact ⟨k1, k2, k3⟩
          · rw [if_neg e2] at k2 k3
            exact ⟨k1, k2, k3⟩
      · by_cases hd : d = 0
        · rw [if_pos hd] at h5
          have e3 : (l.length : Int) - 1 = (i : Int) := by omega
          rw [e3]
          simpa using h5
        · rw [if_neg hd] at h5
          exact h5
    · rintro ⟨h1, h2⟩
      obtain ⟨k1, k2, k3⟩ := h1 i (Nat.le_refl _) hlt
      rw [if_pos rfl] at k2 k3
      refine ⟨k1, k2, ?_, fun j hj1 hj2 => ?_, ?_⟩
      · cases o with
        | false => exact .inl rfl
        | true => exact .inr (k3 (by simpa using k2.symm))
      · obtain ⟨q1, q2, q3⟩ := h1 j (by omega) hj2
        rw [if_neg (by omega)] at q2 q3
        by_cases e2 : j = i + 1
        · subst e2
          rw [if_pos rfl, if_pos rfl]
          have e3 : ((i + 1 : Nat) : Int) - 1 = (i : Int) := by omega
          rw [e3] at q2 q3
          exact ⟨q1, q2, q3⟩
        · rw [if_neg e2, if_neg e2]
          exact ⟨q1, q2, q3⟩
      · by_cases hd : d = 0
        · rw [if_pos hd]
          have e3 : (l.length : Int) - 1 = (i : Int) := by omega
          rw [e3] at h2
          simpa using h2
        · rw [if_neg hd]
          exact h2
theorem rowOk_iff (l : List S45) (j : Nat) : rowOk l j = true ↔ refCellB (rd_T45 l j) = true ∧ ((rd_T45 l j).f1 = 2 → j + 1 < l.length ∧ (rd_T45 l ((j : Int) + 1)).f0 = 0 ∧ (rd_T45 l ((j : Int) + 1)).f1 = 0 ∧ (rd_T45 l ((j : Int) + 1)).f2 = (rd_T45 l j).f2) ∧
    ((rd_T45 l j).f1 = 0 → 0 < j ∧ (rd_T45 l ((j : Int) - 1)).f1 = 2 ∧ (rd_T45 l ((j : Int) - 1)).f2 = (rd_T45 l j).f2) := by
  unfold rowOk
  simp only [Bool.and_eq_true, Bool.or_eq_true, Bool.not_eq_true', beq_eq_false_iff_ne, beq_iff_eq, decide_eq_true_eq, Decidable.imp_iff_not_or, ne_eq]
theorem may_ref (l : List S45) (h : ∀ c ∈ l, in32 c) : mayB l = refRowB l := by
  have hin : ∀ j : Nat, j < l.length → in32 (rd_T45 l j) := fun j hj => by rw [rd45_eq l j hj]; exact h _ (List.getElem_mem hj)
  have hiff := mayL_iff l l.length 0 false 0 (by omega)
  rw [List.drop_zero] at hiff
  have key : mayL false 0 l = (List.range l.length).all (rowOk l) := by
    rw [Bool.eq_iff_iff, hiff, List.all_eq_true]
    constructor
    · rintro ⟨h1, h2⟩ j hj
      have hj := List.mem_range.1 hj
      obtain ⟨k1, k2, k3⟩ := h1 j (Nat.zero_le _) hj
      refine (rowOk_iff l j).2 ⟨by rw [← cell_ref _ (hin j hj)]; exact k1, fun hz => ?_, fun hz => ?_⟩
      · by_cases hn : j + 1 < l.length
        · obtain ⟨q1, q2, q3⟩ := h1 (j + 1) (Nat.zero_le _) hn
          rw [if_neg (by omega)] at q2 q3
          have e1 : ((j + 1 : Nat) : Int) - 1 = (j : Int) := by omega
          have e2 : ((j + 1 : Nat) : Int) = (j : Int) + 1 := by omega
          rw [e1, e2] at q2 q3
          rw [e2] at q1
          rw [hz] at q2
          have z1 : (rd_T45 l ((j : Int) + 1)).f1 = 0 := by simpa using q2.symm
          refine ⟨hn, ?_, z1, q3 z1⟩
          unfold cellB padB at q1
          simp only [Bool.and_eq_true, Bool.or_eq_true, decide_eq_true_eq, beq_iff_eq, z1] at q1
          omega
        · rw [if_neg (by omega)] at h2
          have e1 : (l.length : Int) - 1 = (j : Int) := by omega
          rw [e1] at h2
          exact absurd hz h2
      · rw [hz] at k2
        by_cases e : j = 0
        · rw [if_pos e] at k2; simp at k2
        · rw [if_neg e] at k2
          have k4 := k3 hz
          rw [if_neg e] at k4
          exact ⟨by omega, by simpa using k2, k4.symm⟩
    · intro hr
      have hr' : ∀ j : Nat, j < l.length → _ := fun j hj => (rowOk_iff l j).1 (hr j (List.mem_range.2 hj))
      refine ⟨fun j _ hj => ?_, ?_⟩
      · obtain ⟨k1, k2, k3⟩ := hr' j hj
        refine ⟨by rw [cell_ref _ (hin j hj)]; exact k1, ?_, fun hz => ?_⟩
        · by_cases e : j = 0
          · rw [if_pos e]
            subst e
            cases hz : ((rd_T45 l ((0 : Nat) : Int)).f1 == 0) with
            | false => rfl
            | true => exact absurd (k3 (by simpa using hz)).1 (by decide)
          · rw [if_neg e]
            obtain ⟨p, rfl⟩ : ∃ p, j = p + 1 := ⟨j - 1, by omega⟩
            have e1 : ((p + 1 : Nat) : Int) - 1 = (p : Int) := by omega
            have e2 : ((p + 1 : Nat) : Int) = (p : Int) + 1 := by omega
            rw [e1] at k3 ⊢
            rw [e2] at k3 ⊢
            obtain ⟨_, g2, _⟩ := hr' p (by omega)
            rw [Bool.eq_iff_iff, beq_iff_eq, beq_iff_eq]
            exact ⟨fun hz => (g2 hz).2.2.1, fun hz => (k3 hz).2.1⟩
        · have := k3 hz
          rw [if_neg (by omega)]
          exact this.2.2.symm
      · by_cases e : l.length = 0
        · rw [if_pos e]
        · rw [if_neg e]
          intro hz
          obtain ⟨_, g2, _⟩ := hr' (l.length - 1) (by omega)
          have e1 : ((l.length - 1 : Nat) : Int) = (l.length : Int) - 1 := by omega
          rw [e1] at g2
          have := (g2 hz).1
          omega
  unfold mayB refRowB
  rw [key, Bool.and_comm]
end Go.Proofs.Ytkigdcihhlkkdaa.Pure
end
