/- own texts of this session, put together -/
import Derived.Test.YtkigdcihhlkkdaaOZ17
import Derived.Deep.DeepCutAuto
import Derived.Test.YtkigdcihhlkkdaaOZ0
import Derived.Deep.Strs
import Derived.ChangeSlices
import Derived.DataElems
import Derived.Test.YtkigdcihhlkkdaaOZ15
import Derived.WideShapes
section
set_option linter.unusedVariables false
set_option linter.unusedSimpArgs false
namespace Go.Proofs.Ytkigdcihhlkkdaa.P
open Go.RowKit Go.Shelf Go.Proofs.YtkigdcihhlkkdaaW.PrintWords Go.Proofs.YtkigdcihhlkkdaaW.PrintLast Go.Proofs.YtkigdcihhlkkdaaW.PrintMore Go.Proofs.Ytkigdcihhlkkdaa.Pure
attribute [local go_sem] Oper.semAt_some
def tab_7_27 : Bool × List (List Nat × List Nat) := (true, [([], []), ([], []), ([1], [1]), ([2], [2]), ([3], [3]), ([3], [3]), ([5, 3], [3, 5]), ([4, 6, 3], [3, 4, 6]), ([3, 7], [3, 7]), ([0, 8], [0, 8]), ([9, 3], [9]), ([10], [10]), ([11, 10, 10], [10, 11]), ([12], [12]), ([12], [12]), ([12], [12]), ([14, 15, 12], [12, 14, 15]), ([16, 12], [12, 16]), ([13, 17, 12, 12], [12, 13, 17]), ([18, 12], [12, 18]), ([12, 19, 10], [10, 12, 19]), ([10, 20], [10, 20]), ([21, 18], [21]), ([22], [22]), ([23, 22], [22, 23]), ([24, 22, 22], [22, 24]), ([25], [25]), ([26, 25], [25, 26]), ([27, 25], [25, 27]), ([28, 25], [25, 28]), ([25, 29, 22], [22, 25, 29]), ([22, 30], [22, 30])])
theorem tab_7_27_ : rtab .any (opsOf Try.f7 27) = tab_7_27 := by kernel_rfl
def rb (z : S31) : List Int := rowB z.f0 z.f1
theorem rd_row (ys : List S31) (n : Nat) (h : n < ys.length) : (ys.map rb)[((n : Nat) : Int).toNat]? = some (rb (rd_T31 ys (n : Int))) := by
  rw [Int.toNat_natCast, List.getElem?_map, List.getElem?_eq_getElem h]
  simp [rd_T31, List.getD, h]
theorem sum_next (ys : List S31) (n : Nat) (h : n < ys.length) : sumLen ((ys.map rb).take (n + 1)) = sumLen ((ys.map rb).take n) + (rb (rd_T31 ys (n : Int))).length := by
  rw [sumLen_take _ n (by rw [List.length_map]; exact h)]
  congr 2
  rw [List.getD_eq_getElem?_getD]
  have := rd_row ys n h
  rw [Int.toNat_natCast] at this
  rw [this]
  rfl
theorem sum_small : ∀ (ys : List S31), (∀ z ∈ ys, mayB z.f0 = true) → sumLen (ys.map rb) ≤ 20000 * ys.length
  | [], _ => by simp [sumLen]
  | z :: t, h => by
    have h1 := rowB_len (b := z.f1) (h z (by simp))
    have h2 := sum_small t (fun y hy => h y (by simp [hy]))
    unfold sumLen at h2 ⊢
    simp only [List.map_cons, List.sum_cons, List.length_cons, rb] at h2 ⊢
    omega
def good (z : S31) : Prop := mayB z.f0 = true ∧ ∀ c ∈ z.f0, in32 c
structure IP (W : World) (gp : Nat) (vw : Value) (xs : List S31) (w : World) : Prop where
  ex : ∃ okP okW : Nat → Prop, PageAt w okP gp (xs.map rb) ∧ Kd.NQ k31 31 w 0 okW vw xs ∧ (∀ k, okP k → ¬ okW k) ∧ (∀ k, okP k → W.heap.size ≤ k ∧ k < w.heap.size) ∧ (∀ k, okW k → W.heap.size ≤ k ∧ k < w.heap.size)
  be : Below W.heap.size W w
  go : ∀ z ∈ xs, good z
  le : xs.length ≤ 16
section
variable {W wr w2 w3 w4 w5 w w' : World} {gp w2s : Nat} {vw v1 : Value} {xs : List S31} {p : S31} {X : List Int} {okP okW : Nat → Prop}
theorem IP.next (h : IP W gp vw xs w) (hb : Below w.heap.size w w') : IP W gp vw xs w' := by
  obtain ⟨⟨okP, okW, hP, hN, hd, hbP, hbW⟩, be, go, le⟩ := h
  exact ⟨⟨okP, okW, hP.below hb, Kd.NQ_below hN hb, hd, fun k hk => ⟨(hbP k hk).1, Nat.lt_of_lt_of_le (hbP k hk).2 hb.size⟩, fun k hk => ⟨(hbW k hk).1, Nat.lt_of_lt_of_le (hbW k hk).2 hb.size⟩⟩, be.trans (hb.mono be.size), go, le⟩
theorem IP.slice (h : IP W gp vw xs w) : ∃ A c, vw = .slice A xs.length c ∧ xs.length ≤ c := by
  obtain ⟨_, okW, _, hN, _⟩ := h.ex
  exact Kd.NQ_slice hN
theorem IP_same (hN : Kd.NQ k31 31 wr 0 okW vw xs) (hb : Below wr.heap.size wr w3) (hP4 : PageAt w4 (fun k => okP k ∨ w3.heap.size ≤ k) gp (xs.map rb)) (hf4 : Fr okP w3 w4) (hd : ∀ k, okP k → ¬ okW k) (hbP : ∀ k, okP k → W.heap.size ≤ k ∧ k < wr.heap.size)
    (hbW : ∀ k, okW k → W.heap.size ≤ k ∧ k < wr.heap.size) (hB : Below W.heap.size W wr) (hgo : ∀ z ∈ xs, good z) (hle : xs.length ≤ 16) : IP W gp vw xs w4 := by
  have h1 := hb.size
  have h2 := hf4.size
  have h3 := hB.size
  refine ⟨⟨_, okW, hP4.bound, Kd.NQ_step (Kd.NQ_below hN hb) (fun k hk hlt => hf4.block k hlt (fun h => hd k h hk)), fun k hk hW => ?_, fun k hk => ?_, fun k hk => ?_⟩, (hB.trans (hb.mono hB.size)).trans (hf4.below (B := W.heap.size) (by omega) (fun k hk => (hbP k hk).1)), hgo, hle⟩
  · rcases hk.1 with h | h
    · exact hd k h hW
    · have := (hbW k hW).2; omega
  · rcases hk.1 with h | h
    · exact ⟨(hbP k h).1, hk.2⟩
    · exact ⟨by omega, hk.2⟩
  · have := hbW k hk; omega
theorem IP_more (hN : Kd.NQ k31 31 wr 0 okW vw xs) (hb : Below wr.heap.size wr w3) (hP4 : PageAt w4 (fun k => okP k ∨ w3.heap.size ≤ k) gp (xs.map rb ++ [X])) (hX : rb p = X) (hf4 : Fr okP w3 w4) (hd : ∀ k, okP k → ¬ okW k) (hbP : ∀ k, okP k → W.heap.size ≤ k ∧ k < wr.heap.size)
    (hbW : ∀ k, okW k → W.heap.size ≤ k ∧ k < wr.heap.size) (hB : Below W.heap.size W wr) (hgo : ∀ z ∈ xs, good z) (hgp : good p) (hle : xs.length < 16) (h2s : w2s ≤ w3.heap.size) (hg : w4.grownBy w5 vw.ownBlock)
    (hN5 : Kd.NQ k31 31 w5 0 (fun k => okW k ∨ w4.heap.size ≤ k ∨ (wr.heap.size ≤ k ∧ k < w2s)) v1 (xs ++ [p])) : IP W gp v1 (xs ++ [p]) w5 := by
  have h1 := hb.size
  have h2 := hf4.size
  have h3 := hB.size
  have hf5 : Fr okW w4 w5 := Fr.of_grown hg (fun k hk => hN.1 k hk)
  have h4 := hf5.size
  have hP5 := hP4.bound.fr hf5 (fun k hk hW => by
    rcases hk.1 with h | h
    · exact hd k h hW
    · have := (hbW k hW).2; omega)
  rw [show xs.map rb ++ [X] = (xs ++ [p]).map rb by simp [hX]] at hP5
  refine ⟨⟨_, _, hP5, (Kd.NQ_bound hN5), fun k hk hW => ?_, fun k hk => ?_, fun k hk => ?_⟩, ((hB.trans (hb.mono hB.size)).trans (hf4.below (B := W.heap.size) (by omega) (fun k hk => (hbP k hk).1))).trans (hf5.below (B := W.heap.size) (by omega) (fun k hk => (hbW k hk).1)), fun z hz => ?_, by rw [List.length_append]; simp; omega⟩
  · rcases hk.1 with h | h
    · rcases hW.1 with h' | h' | h'
      · exact hd k h h'
      · have := (hbP k h).2; omega
      · have := (hbP k h).2; omega
    · rcases hW.1 with h' | h' | h'
      · have := (hbW k h').2; omega
      · have := hk.2; omega
      · omega
  · rcases hk.1 with h | h
    · have := (hbP k h).1; have := hk.2; omega
    · have := hk.2; omega
  · rcases hk.1 with h | h | h
    · have := (hbW k h).1; have := hk.2; omega
    · have := hk.2; omega
    · have := hk.2; omega
  · rcases List.mem_append.1 hz with h | h
    · exact hgo z h
    · rw [List.mem_singleton.1 h]; exact hgp
theorem IP_cut {Av : Option Addr} {cv : Nat} (h : IP W gp (.slice Av xs.length cv) xs w) (m : Int) : Calls Try.prog 35 #[.pointer (some ⟨gp, 0, none⟩), .int .i64 m] w fun e W' => e = .returned (.bool (decide (0 ≤ m) && decide (m ≤ xs.length))) ∧
    ((0 ≤ m ∧ m ≤ xs.length) → IP W gp (.slice (if cv = m.toNat then Av else Av.map (·.add (m.toNat * 2))) (xs.length - m.toNat) (cv - m.toNat)) (xs.drop m.toNat) W') ∧ (¬ (0 ≤ m ∧ m ≤ xs.length) → IP W gp (.slice Av xs.length cv) xs W') := by
  obtain ⟨⟨okP, okW, hP, hN, hd, hbP, hbW⟩, be, go, le⟩ := h
  refine (page_cut w okP gp _ m hP).mono ?_
  rintro e W' ⟨rfl, hP', hf⟩
  rw [List.length_map] at hP' ⊢
  have hN' := Kd.NQ_step hN (fun k hk hlt => hf.block k hlt (fun h => hd k h hk))
  have hs := hf.size
  have hs2 := be.size
  have be' := be.trans (hf.below (B := W.heap.size) hs2 (fun k hk => (hbP k hk).1))
  refine ⟨rfl, fun hm => ?_, fun hm => ?_⟩
  · rw [if_pos hm, ← List.map_drop] at hP'
    exact ⟨⟨okP, okW, hP', Kd.NQ_drop hN' (k := m.toNat) (by omega), hd, fun k hk => ⟨(hbP k hk).1, Nat.lt_of_lt_of_le (hbP k hk).2 hs⟩, fun k hk => ⟨(hbW k hk).1, Nat.lt_of_lt_of_le (hbW k hk).2 hs⟩⟩, be', fun z hz => go z (List.mem_of_mem_drop hz), by rw [List.length_drop]; omega⟩
  · rw [if_neg hm] at hP'
    exact ⟨⟨okP, okW, hP', hN', hd, fun k hk => ⟨(hbP k hk).1, Nat.lt_of_lt_of_le (hbP k hk).2 hs⟩, fun k hk => ⟨(hbW k hk).1, Nat.lt_of_lt_of_le (hbW k hk).2 hs⟩⟩, be', go, le⟩
theorem IP_in {Av : Option Addr} {cv : Nat} (h : IP W gp (.slice Av xs.length cv) xs w) (m : Int) (h0 : 0 ≤ m) (h1 : m ≤ xs.length) : Calls Try.prog 35 #[.pointer (some ⟨gp, 0, none⟩), .int .i64 m] w fun e W' => e = .returned (.bool true) ∧
    IP W gp (.slice (if cv = m.toNat then Av else Av.map (·.add (m.toNat * 2))) (xs.length - m.toNat) (cv - m.toNat)) (xs.drop m.toNat) W' :=
  (IP_cut h m).mono (fun e W' ⟨he, h2, _⟩ => ⟨by rw [he]; simp [h0, h1], h2 ⟨h0, h1⟩⟩)
theorem IP_out {Av : Option Addr} {cv : Nat} (h : IP W gp (.slice Av xs.length cv) xs w) (m : Int) (h0 : ¬ (0 ≤ m ∧ m ≤ xs.length)) : Calls Try.prog 35 #[.pointer (some ⟨gp, 0, none⟩), .int .i64 m] w fun e W' => e = .returned (.bool false) ∧
    IP W gp (.slice Av xs.length cv) xs W' :=
  (IP_cut h m).mono (fun e W' ⟨he, _, h2⟩ => ⟨by rw [he]; simp only [Value.bool.injEq, Ending.returned.injEq, Bool.and_eq_false_iff, decide_eq_false_iff_not]; omega, h2 h0⟩)
end
set_option maxHeartbeats 16000000 in
set_option maxRecDepth 100000 in
theorem pageAll_ (A0 : Option Addr) (c0 : Nat) (l : List S31) (A1 : Option Addr) (c1 : Nat) (ls : List Int) (w : World) (hC : Kd.C k31 w A0 l.length l) (hc : l.length ≤ c0) (hz : ∀ z ∈ l, z.f0.length ≤ maxLen ∧ ∀ x ∈ z.f0, in32 x) (hCi : Kd.C (Kd.int .i64) w A1 ls.length ls) (hci : ls.length ≤ c1) (hwi : ∀ x ∈ ls, (Lit.int .i64 x).wf = true) :
    Calls Try.prog 7 #[.slice A0 l.length c0, .slice A1 ls.length c1] w fun e w' => e = .returned (.bool true) ∧ Below w.heap.size w w' := by
  go_enter Try.func7, Try.ntmps7
  go_upto_region 7 with (first
    | (go_at_call 18; refine (begun4_ _).mono ?_; rintro e w1 ⟨rfl, hb1⟩)
    | (go_at_call 33; refine (page_new _).mono ?_; rintro e w2 ⟨gp, rfl, hgp, hP, hb2⟩)
    | fail)
  have hs1 := hb1.size
  have hI0 : IP w gp (.slice none 0 0) [] w2 := ⟨⟨_, fun _ => False, hP.bound, Kd.NQ_nil _ _ _ _ _, fun _ _ h => h, fun k hk => ⟨by omega, hk.2⟩, fun _ h => h.elim⟩, hb1.trans (hb2.mono hb1.size), by simp, by simp⟩
  clear hP hb1 hb2 hgp
  go_loopg [7, 8] 21 (fun kq v7 v8 w' => ∃ (i : Nat) (xs : List S31), v8 = .int .i64 i ∧ Aside0 (i ≤ l.length ∧ i ≤ 20 ∧ kq = 21 - i ∧ IP w gp v7 xs w'))
  case atStart => exact ⟨0, [], rfl, ⟨Nat.zero_le _, Nat.zero_le _, rfl, hI0⟩⟩
  case round =>
    obtain ⟨i, xs, rfl, HA⟩ := hrel
    obtain ⟨Av, cv, rfl, hcv⟩ := HA.out.2.2.2.slice
    by_cases hlt : i < l.length ∧ i < 20
    · obtain ⟨hlt1, hlt2⟩ := hlt
      have hw1 : IntKind.i64.wrap ((i : Int) + 1) = (i : Int) + 1 := by rw [IntKind.wrap_i64]; omega
      obtain ⟨ad, Aq, cq, rfl, s0, s1, hcq, hCq⟩ := at_T31 hC (i : Int) (by omega) (by omega)
      have hmem : rd_T31 l (i : Int) ∈ l := (flatB_drop l i hlt1).2
      rw [Int.toNat_natCast] at s0 s1
      have hB := HA.out.2.2.2.be
      replace s0 := pw_cell_below hB s0
      replace s1 := pw_cell_below hB s1
      replace hCq := Kd.C_below hCq hB
      have hin := (hz _ hmem).2
      clear hmem
      generalize rd_T31 l (i : Int) = z at s0 s1 hCq hcq hin
      obtain ⟨zs, zb⟩ := z
      dsimp only at s0 s1 hCq hcq hin
      have hrow := lawRow_ Aq cq zs zb wr hCq hcq
      have htk : (zs.take 310).length ≤ 310 := by rw [List.length_take]; omega
      have hin' : ∀ x ∈ zs.take 310, in32 x := fun x hx => hin x (List.mem_of_mem_take hx)
      generalize zs.take 310 = q at hrow htk hin'
      have hmr := may_ref q hin'
      clear hCq hin
      have hbx : ∀ (w2 : World) (A2 : Option Addr) (c2 : Nat), (w2.alloc (.cells #[.slice A2 q.length c2, .bool zb] 31)).heap[w2.heap.size]? = some (.cells #[.slice A2 q.length c2, .bool zb] 31 (0, 0)) := fun w2 A2 c2 => blk_new _ _
      have hmr' := Aside0.mk hmr
      have hbx' := Aside0.mk hbx
      have hin2 := Aside0.mk hin'
      clear hmr hbx hin'
      go_upto_region 10 with (first
        | (go_at_call 23; refine hrow.mono ?_; rintro e w2 ⟨v2, rfl, hR2, hb2⟩
           obtain ⟨A2, c2, hv2⟩ := Kd.R_slice hR2; subst hv2)
        | fail)
      obtain ⟨wa, hwa⟩ : ∃ wa, wa = w2.alloc (.cells #[.slice A2 q.length c2, .bool zb] 31) := ⟨_, rfl⟩
      rw [← hwa]
      have hX := hbx'.out w2 A2 c2
      rw [← hwa] at hX
      have hb2a : Below w2.heap.size w2 wa := by rw [hwa]; exact below_alloc (Below.refl _ _) _
      clear hwa hrow s0 s1 hbx' hB
      have hc2 := (Kd.R_reads' hR2).2.1
      have hF2 := Kd.F_below (Kd.R_F (Kd.R_mono (ok' := fun k => wr.heap.size ≤ k ∧ k < w2.heap.size) (Kd.R_bound hR2) (fun k hk => ⟨hk.2.1, hk.2.2.1⟩))) hb2a
      have hra := hb2.trans (hb2a.mono hb2.size)
      have hs2 := hb2.size
      clear hR2 hb2 hb2a
      obtain ⟨s0, s1, _, _⟩ := blk2 hX
      have h27 := refRow_ A2 c2 q zb wa (Kd.F_now hF2) hc2 (by omega)
      rw [← hmr'.out] at h27
      go_cut [10] (fun v10 wc => v10 = .bool (mayB q && decide (xs.length < 16)) ∧ Below wa.heap.size wa wc)
      case first =>
        cases hm : mayB q
        case false =>
          rw [hm] at h27
          go_wp2_with (first
            | (go_at_call 27; refine h27.mono ?_; rintro e w3 ⟨rfl, hb3⟩)
            | fail)
          go_meet
          case rel => exact ⟨by simp [hm], hb3⟩
        case true =>
          rw [hm] at h27
          go_wp2_with (first
            | (go_at_call 27; refine h27.mono ?_; rintro e w3 ⟨rfl, hb3⟩)
            | fail)
          go_meet
          case rel => exact ⟨by simp [hm]; omega, hb3⟩
      case rest =>
        obtain ⟨rfl, hb3⟩ := hcut
        clear s0 s1 h27
        rename World => w3
        obtain ⟨ok, hok⟩ : ∃ b, (mayB q && decide (xs.length < 16)) = b := ⟨_, rfl⟩
        rw [hok]
        have hX3 := blk_below hX hb3
        have hF3 := Kd.F_below hF2 hb3
        have hr3 := hra.trans (hb3.mono hra.size)
        clear hX hF2 hb3 hra
        obtain ⟨s0, s1, _, _⟩ := blk2 hX3
        have hIP := HA.out.2.2.2
        obtain ⟨⟨okP, okW, hP, hN, hd, hbP, hbW⟩, hbe, hgo, hle⟩ := hIP
        have hadd := page_add w3 okP gp (xs.map rb) A2 c2 q zb (putB q zb) (mayB q) (hP.below hr3) (Kd.F_now hF3) (fun w h => put_ A2 c2 q zb w h hc2 (by omega))
        rw [List.length_map, Bool.and_comm, hok] at hadd
        have hee : (ok != ok) = false := by simp
        go_upto_if 50 with (first
          | (go_at_call 34; refine hadd.mono ?_; rintro e w4 ⟨rfl, hP4, hf4⟩
             clear hadd)
          | fail)
        have hlt3 := blk_lt hX3
        have hX4 := hf4.old (k := w2.heap.size) (fun h => by have := (hbP _ h).2; omega) hX3
        have hF4 := Kd.F_step hF3 (fun k hk hlt => hf4.block k hlt (fun h => by have := (hbP _ h).2; omega))
        have hs3 := hr3.size
        clear s0 s1 hX3 hF3 hee
        obtain ⟨s0, s1, _, _⟩ := blk2 hX4
        have hN4 := Kd.NQ_step (Kd.NQ_below hN hr3) (fun k hk hlt => hf4.block k hlt (fun h => hd k h hk))
        have hHs := Aside0.mk (And.intro hN (And.intro hr3 (And.intro hd (And.intro hbP (And.intro hbW (And.intro hbe (And.intro hgo hle)))))))
        clear hd hbP hbW hbe hgo
        go_cut [7, 10, 50] (fun v7 v10 v50 wc => ∃ xs', IP w gp v7 xs' wc)
        case first =>
          cases hB : ok
          case false =>
            go_wp2
            go_meet
            case rel =>
              refine ⟨xs, ?_⟩
              have h := hHs.out
              have he : addRows (xs.map rb) (putB q zb) (mayB q) = xs.map rb := by
                unfold addRows
                rw [List.length_map]
                rw [hB] at hok
                cases hm : mayB q <;> rw [hm] at hok <;> simp at hok ⊢
                omega
              rw [he] at hP4
              exact IP_same h.1 h.2.1 hP4 hf4 h.2.2.1 h.2.2.2.1 h.2.2.2.2.1 h.2.2.2.2.2.1 h.2.2.2.2.2.2.1 h.2.2.2.2.2.2.2
          case true =>
            rw [hB] at hok
            have hm : mayB q = true := by cases hm : mayB q <;> rw [hm] at hok <;> simp at hok ⊢
            have hl16 : xs.length < 16 := by rw [hm] at hok; simpa using hok
            clear hok hB
            have hHk := Aside0.mk (And.intro hP4 hf4)
            clear hP4 hf4
            go_wp2_with (first
              | ((with_reducible refine gate_builtin (b := .append) rfl ?_)
                 refine Kd.NQ_append (w0 := w4) (W := w4) k31 0 (by rfl) (.tmp 51) (.tmp 53) 47 31 _ 32 (by rfl) Try.underlying47 info31m rfl (by decide) (by decide) (.slice Av xs.length cv) xs ⟨q, zb⟩ [.slice A2 q.length c2, .bool zb] (fun k => okW k ∨ w4.heap.size ≤ k ∨ (wr.heap.size ≤ k ∧ k < w2.heap.size)) (fun k => wr.heap.size ≤ k ∧ k < w2.heap.size) (by rfl) (by rfl) (fun W' hW => k31_mk W' ⟨q, zb⟩ hc2 (hF4 W' hW)) (fun k hk => ⟨.inr (.inr hk), fun e => by have := hHs.out.2.2.2.2.1 k (hN4.1 k e.symm); omega⟩) (fun k hk => .inr (.inl hk)) (Kd.NQ_mono hN4 (fun k hk => .inl hk)) (Below.refl _ _) (Nat.zero_le _) (by omega) ?_
                 intro v1 w5 hq5 hb5 hg5 hat5)
              | fail)
            go_meet
            case rel =>
              refine ⟨xs ++ [⟨q, zb⟩], ?_⟩
              have h := hHs.out
              obtain ⟨hP4, hf4⟩ := hHk.out
              have he : addRows (xs.map rb) (putB q zb) (mayB q) = xs.map rb ++ [rb ⟨q, zb⟩] := by
                unfold addRows putB rb
                rw [List.length_map, hm, if_pos hl16, if_pos rfl, if_pos rfl]
              rw [he] at hP4
              exact IP_more h.1 h.2.1 hP4 rfl hf4 h.2.2.1 h.2.2.2.1 h.2.2.2.2.1 h.2.2.2.2.2.1 h.2.2.2.2.2.2.1 ⟨hm, hin2.out⟩ hl16 (by omega) hg5 hq5
        case rest =>
          obtain ⟨xs', hIP'⟩ := hcut
          clear hX4 hF4 s0 s1 hN4 hHs hcv hok hP4 hf4 hN hP hle
          clear hr3 hs2 hs3 hlt3 hc2 htk hin2 hmr'
          obtain ⟨A7, c7, rfl, hc7⟩ := hIP'.slice
          have hq8 := Aside0.mk (And.intro HA.out.1 (And.intro HA.out.2.1 HA.out.2.2.1))
          clear HA
          go_upto_if 58 with (fail)
          go_cut [7, 11, 12] (fun v7 v11 v12 wc => ∃ xs', IP w gp v7 xs' wc)
          case first =>
            by_cases hi : i < ls.length
            · obtain ⟨adi, rfl, t0⟩ := Kd.at_int hCi (i : Int) (by omega) (by omega)
              rw [Int.toNat_natCast] at t0
              replace t0 := pw_cell_below hIP'.be t0
              generalize rd ls (i : Int) = x at t0
              obtain ⟨m, hm⟩ : ∃ m, wrap64 (x.tmod 20 - 1) = m := ⟨_, rfl⟩
              by_cases h0 : 0 ≤ m
              · by_cases h1 : m ≤ xs'.length
                · have h35 := IP_in hIP' m h0 h1
                  obtain ⟨i0, hi0, _, hsz, _⟩ := info_parts info31m
                  have hcut := cut_from (P := Try.prog) 47 31 .i64 Try.underlying47 hi0 2 hsz A7 xs'.length c7 m h0 h1
                  obtain ⟨A', hA'⟩ : ∃ A', (if c7 = m.toNat then A7 else A7.map (·.add (m.toNat * 2))) = A' := ⟨_, rfl⟩
                  rw [hA'] at h35 hcut
                  clear hIP' hi0 hsz hA'
                  go_wp2_with (first
                    | (go_at_call 35; refine h35.mono ?_; rintro e w5 ⟨rfl, hI5⟩; clear h35)
                    | fail)
                  go_meet
                  case rel => exact ⟨_, hI5⟩
                · have h35 := IP_out hIP' m (by omega)
                  clear hIP'
                  go_wp2_with (first
                    | (go_at_call 35; refine h35.mono ?_; rintro e w5 ⟨rfl, hI5⟩; clear h35)
                    | fail)
                  go_meet
                  case rel => exact ⟨_, hI5⟩
              · have h35 := IP_out hIP' m (by omega)
                clear hIP'
                go_wp2_with (first
                  | (go_at_call 35; refine h35.mono ?_; rintro e w5 ⟨rfl, hI5⟩; clear h35)
                  | fail)
                go_meet
                case rel => exact ⟨_, hI5⟩
            · go_wp2
              go_meet
              case rel => exact ⟨_, hIP'⟩
          case rest =>
            clear hc7 hIP'
            obtain ⟨ys, hJ⟩ := hcut
            obtain ⟨A7, c7, rfl, hc7⟩ := hJ.slice
            obtain ⟨⟨okP, okW, hP, hN, _, _, _⟩, hbe, hgo, hle⟩ := (show IP w gp (.slice A7 ys.length c7) ys wc from hJ)
            have hCw := (Kd.NQ_reads' hN).2.2
            clear hN
            rename World => wv
            have hJa := Aside0.mk hJ
            clear hJ
            go_upto_region 24 with (fail)
            go_loopg [13, 14] (ys.length + 3) (fun kq v13 v14 w' => ∃ j : Nat, v14 = .int .i64 ((j : Int) - 1) ∧ v13 = .int .i64 (sumLen ((ys.map rb).take (j - 1)) : Nat) ∧ Aside0 (j ≤ ys.length + 2 ∧ kq = ys.length + 3 - j ∧ SB wv w'))
            case atStart => exact ⟨0, rfl, by simp [sumLen], ⟨Nat.zero_le _, rfl, Below.refl _ _⟩⟩
            case round =>
              obtain ⟨j, rfl, rfl, HB⟩ := hrel
              rename World => wr2
              by_cases hlt : j ≤ ys.length + 1
              · by_cases hin : 1 ≤ j ∧ j ≤ ys.length
                · obtain ⟨n, rfl⟩ : ∃ n, j = n + 1 := ⟨j - 1, by omega⟩
                  have hn : n < ys.length := by omega
                  have hHB := HB.out.2.2
                  rw [show ((((n + 1 : Nat) : Int)) - 1) = (n : Int) by omega, Nat.add_sub_cancel]
                  have hsn := sum_next ys n hn
                  have hrw := rd_row ys n hn
                  have hsm := sum_small ys (fun z hz => (hgo z hz).1)
                  have hsl := sumLen_le (ys.map rb) n
                  have hgz := hgo _ (flatB_drop ys n hn).2
                  obtain ⟨ad7, A2, c2, hA7, s0, s1, hc2, hC2⟩ := at_T31 hCw (n : Int) (by omega) (by omega)
                  subst hA7
                  rw [Int.toNat_natCast] at s0 s1
                  generalize rd_T31 ys (n : Int) = z at s0 s1 hc2 hC2 hsn hrw hgz
                  obtain ⟨q, zb⟩ := z
                  obtain ⟨hm, hiq⟩ := hgz
                  dsimp only at s0 s1 hc2 hC2 hm hiq
                  have hql := mayB_len hm
                  have hXl := rowB_len (b := zb) hm
                  have hyes : refRowB q = true := by rw [← may_ref q hiq]; exact hm
                  have hat := page_at_in wr2 okP gp (ys.map rb) (n : Int) (rb ⟨q, zb⟩) q zb _ 0 (hP.below hHB) (by omega) hrw (get_t q zb hm)
                  rw [show decide ((0 : Int) = 0) = true from rfl] at hat
                  have h25 := fun (W : World) (h : SB wv W) => putRow_yes A2 c2 q zb W (Kd.C_below hC2 h) hc2 (by omega) hiq hyes
                  obtain ⟨X, hX⟩ : ∃ X, rowB q zb = X := ⟨_, rfl⟩
                  rw [hX] at hXl h25
                  rw [show rb ⟨q, zb⟩ = X from hX] at hsn
                  obtain ⟨B, hB⟩ : ∃ B, sumLen ((ys.map rb).take n) = B := ⟨_, rfl⟩
                  rw [hB] at hsn hsl ⊢
                  have hwB : IntKind.i64.wrap ((B : Int) + (X.length : Int)) = (B : Int) + (X.length : Int) := by rw [IntKind.wrap_i64]; omega
                  have hwn : IntKind.i64.wrap ((n : Int) + 1) = (n : Int) + 1 := by rw [IntKind.wrap_i64]; omega
                  have hn0 : (0 : Int) ≤ (n : Int) := by omega
                  have hn1 : (n : Int) ≤ ys.length := by omega
                  have hn2 : (n : Int) < ys.length := by omega
                  have hsx := Aside0.mk hsn
                  clear hsn hrw hsm hsl hX hB hiq hyes hP hgo hin hlt
                  go_upto_region 27 with (first
                    | (go_at_call 36; refine hat.mono ?_; rintro e w5 ⟨v5, rfl, hR5, hb5⟩
                       obtain ⟨A5, c5, hv5⟩ := Kd.R_slice hR5; subst hv5
                       clear hat)
                    | fail)
                  obtain ⟨wa, hwa⟩ : ∃ wa, wa = w5.alloc (.cells #[.slice A5 q.length c5, .bool zb] 31) := ⟨_, rfl⟩
                  rw [← hwa]
                  have hXa : wa.heap[w5.heap.size]? = some (.cells #[.slice A5 q.length c5, .bool zb] 31 (0, 0)) := by rw [hwa]; exact blk_new _ _
                  have hba : Below w5.heap.size w5 wa := by rw [hwa]; exact below_alloc (Below.refl _ _) _
                  have hBa : SB wv wa := SB.next (SB.next hHB hb5) hba
                  have hCa : Kd.C k45 wa A5 q.length q := Kd.C_below (Kd.R_reads' hR5).2.2 hba
                  have hc5 := (Kd.R_reads' hR5).2.1
                  have HX : ∀ w', SB wa w' → w'.cell? (ad7.add (n * 2)) = some (.slice A2 q.length c2) ∧ w'.cell? ⟨(ad7.add (n * 2)).block, (ad7.add (n * 2)).off + 1, none⟩ = some (.bool zb) ∧ w'.cell? ⟨w5.heap.size, 0, none⟩ = some (.slice A5 q.length c5) ∧ w'.cell? ⟨w5.heap.size, 1, none⟩ = some (.bool zb) := fun w' h => ⟨pw_cell_below (SB.next hBa h) s0, pw_cell_below (SB.next hBa h) s1, (blk2 (blk_below hXa h)).1, (blk2 (blk_below hXa h)).2.1⟩
                  have HD0 : SB wa wa.drew := below_drew1 (Below.refl _ _)
                  clear hwa hXa hba hR5 hb5 s0 s1
                  refine start_ (n := 32) (S := SB wa) (ds := []) (bl_ [0, 32]) (by kernel_rfl) (by kernel_rfl) rfl HD0 (fun _ => ?_)
                  refine with_tab tab_7_27_ (fun HT_ => ?_)
                  refine takes_ (List.range' 0 18) 14 (bl_ [18, 14]) rfl HT_.out (by kernel_rfl) HD0 (a' := ?_) ?_ ?_
                  rotate_left
                  · repeat (first | exact rfl | (refine tkN rfl rfl (fun _ _ _ h => h) (by rfl) (by simp only [Act.put, List.setIfInBounds_toArray, List.set_cons_zero, List.set_cons_succ, i64_w, i32_w]; rfl) ?_) | (refine tkY rfl rfl (fun _ _ _ h => h) (by rfl) (fun w' hw' => by (obtain ⟨s0, s1, t0, t1⟩ := HX w' hw'; go_simp; with_reducible rfl)) (by simp only [Act.put, List.setIfInBounds_toArray, List.set_cons_zero, List.set_cons_succ, i64_w, i32_w]; rfl) ?_))
                  refine one_ (i := 18) (N := some 112) (bl_ [19, 13]) rfl rfl (one_of HT_.out (by kernel_rfl)) (by decide) (fun K hK => ?_)
                  refine goes_ Try.func29 (by kernel_rfl) rfl #[.agg #[.slice A5 q.length c5, .bool zb], .agg #[.slice A2 q.length c2, .bool zb]] (by rfl) rfl rfl (by (try simp only [List.map_toArray, List.map_cons, List.map_nil]); first | done | rfl) ?_
                  have h29 := eqRow_ A5 c5 q zb A2 c2 q zb wa.drew (Kd.C_below hCa HD0) hc5 (Kd.C_below hC2 (SB.next hBa HD0)) hc2 (by omega)
                  rw [eqB_self] at h29
                  refine h29.mono ?_
                  rintro e w7 ⟨rfl, hb7⟩
                  have HD7 := SB.next HD0 hb7
                  refine ⟨_, rfl, hK.out _ _ HD7 (fun _ => ?_)⟩
                  refine norm_ (a' := ?_) ?_ ?_
                  rotate_left
                  · show Act.put _ (some 112) _ = _
                    simp only [Act.put, List.setIfInBounds_toArray, List.set_cons_zero, List.set_cons_succ]
                    rfl
                  refine takes_ (List.range' 19 13) 0 (bl_ [32]) rfl HT_.out (by kernel_rfl) HD7 (a' := ?_) ?_ ?_
                  rotate_left
                  · repeat (first | exact rfl | (refine tkN rfl rfl (fun _ _ _ h => h) (by rfl) (by simp only [Act.put, List.setIfInBounds_toArray, List.set_cons_zero, List.set_cons_succ, i64_w, i32_w]; rfl) ?_) | (refine tkY rfl rfl (fun _ _ _ h => h) (by rfl) (fun w' hw' => by (obtain ⟨s0, s1, t0, t1⟩ := HX w' hw'; go_simp; with_reducible rfl)) (by simp only [Act.put, List.setIfInBounds_toArray, List.set_cons_zero, List.set_cons_succ, i64_w, i32_w]; rfl) ?_))
                  refine done_ (done_of HT_.out (by kernel_rfl)) ?_
                  obtain ⟨s0, s1, _, _⟩ := HX w7 HD7
                  have h25b := h25 w7 (SB.next hBa HD7)
                  clear h25 HX h29
                  go_wp2_with (first
                    | (go_at_call 25; refine h25b.mono ?_; rintro e w8 ⟨v8, rfl, hR8, hb8⟩
                       obtain ⟨A8, c8, hv8⟩ := Kd.R_slice hR8; subst hv8
                       clear h25b hR8)
                    | fail)
                  go_roundg (ys.length + 3 - (n + 1 + 1))
                  case measure => rw [HB.out.2.1]; omega
                  case rel => exact ⟨n + 1 + 1, by simp, by rw [Nat.add_sub_cancel, hsx.out]; simp, ⟨by omega, rfl, SB.next (SB.next hBa HD7) hb8⟩⟩
                · by_cases hj0 : j = 0
                  · subst hj0
                    have e1 : (((0 : Nat) : Int) - 1) = -1 := rfl
                    rw [e1]
                    have hHB := HB.out.2.2
                    have hat := page_at_out wr2 okP gp _ (-1) (hP.below hHB) (by first | (left; omega) | (right; rw [List.length_map]; omega))
                    go_upto_region 27 with (first
                      | (go_at_call 36; refine hat.mono ?_; rintro e w5 ⟨rfl, hb5⟩; clear hat)
                      | fail)
                    obtain ⟨wa, hwa⟩ : ∃ wa, wa = w5.alloc (.cells #[.slice none 0 0, .bool false] 31) := ⟨_, rfl⟩
                    rw [← hwa]
                    have hXa : wa.heap[w5.heap.size]? = some (.cells #[.slice none 0 0, .bool false] 31 (0, 0)) := by rw [hwa]; exact blk_new _ _
                    have hba : Below w5.heap.size w5 wa := by rw [hwa]; exact below_alloc (Below.refl _ _) _
                    have hBa : SB wv wa := SB.next (SB.next hHB hb5) hba
                    have HX : ∀ w', SB wa w' → w'.cell? ⟨w5.heap.size, 0, none⟩ = some (.slice none 0 0) ∧ w'.cell? ⟨w5.heap.size, 1, none⟩ = some (.bool false) := fun w' h => ⟨(blk2 (blk_below hXa h)).1, (blk2 (blk_below hXa h)).2.1⟩
                    have HD0 : SB wa wa.drew := below_drew1 (Below.refl _ _)
                    clear hwa hXa hba hb5
                    refine start_ (n := 32) (S := SB wa) (ds := []) (bl_ [0, 32]) (by kernel_rfl) (by kernel_rfl) rfl HD0 (fun _ => ?_)
                    refine with_tab tab_7_27_ (fun HT_ => ?_)
                    refine takes_ (List.range' 0 18) 14 (bl_ [18, 14]) rfl HT_.out (by kernel_rfl) HD0 (a' := ?_) ?_ ?_
                    rotate_left
                    · repeat (first | exact rfl | (refine tkN rfl rfl (fun _ _ _ h => h) (by rfl) (by simp only [Act.put, List.setIfInBounds_toArray, List.set_cons_zero, List.set_cons_succ, i64_w, i32_w]; rfl) ?_) | (refine tkY rfl rfl (fun _ _ _ h => h) (by rfl) (fun w' hw' => by (obtain ⟨t0, t1⟩ := HX w' hw'; go_simp; with_reducible rfl)) (by simp only [Act.put, List.setIfInBounds_toArray, List.set_cons_zero, List.set_cons_succ, i64_w, i32_w]; rfl) ?_))
                    refine takes_ (List.range' 18 14) 0 (bl_ [32]) rfl HT_.out (by kernel_rfl) HD0 (a' := ?_) ?_ ?_
                    rotate_left
                    · repeat (first | exact rfl | (refine tkN rfl rfl (fun _ _ _ h => h) (by rfl) (by simp only [Act.put, List.setIfInBounds_toArray, List.set_cons_zero, List.set_cons_succ, i64_w, i32_w]; rfl) ?_) | (refine tkY rfl rfl (fun _ _ _ h => h) (by rfl) (fun w' hw' => by (obtain ⟨t0, t1⟩ := HX w' hw'; go_simp; with_reducible rfl)) (by simp only [Act.put, List.setIfInBounds_toArray, List.set_cons_zero, List.set_cons_succ, i64_w, i32_w]; rfl) ?_))
                    refine done_ (done_of HT_.out (by kernel_rfl)) ?_
                    go_wp2
                    go_roundg (ys.length + 3 - (0 + 1))
                    case measure => rw [HB.out.2.1]; omega
                    case rel => exact ⟨0 + 1, by simp, by simp [sumLen], ⟨by omega, rfl, SB.next hBa HD0⟩⟩
                  · obtain ⟨n, rfl⟩ : ∃ n, j = n + 1 := ⟨j - 1, by omega⟩
                    obtain rfl : n = ys.length := by omega
                    rw [show ((((ys.length + 1 : Nat) : Int)) - 1) = (ys.length : Int) by omega, Nat.add_sub_cancel]
                    have hwn : IntKind.i64.wrap ((ys.length : Int) + 1) = (ys.length : Int) + 1 := by rw [IntKind.wrap_i64]; omega
                    have hn0 : (0 : Int) ≤ (ys.length : Int) := by omega
                    have htk2 : (ys.map rb).take (ys.length + 1) = (ys.map rb).take ys.length := by rw [List.take_of_length_le (by rw [List.length_map]; omega), List.take_of_length_le (by rw [List.length_map]; omega)]
                    have htk3 := Aside0.mk htk2
                    clear htk2
                    have hHB := HB.out.2.2
                    have hat := page_at_out wr2 okP gp _ (ys.length : Int) (hP.below hHB) (by first | (left; omega) | (right; rw [List.length_map]; omega))
                    go_upto_region 27 with (first
                      | (go_at_call 36; refine hat.mono ?_; rintro e w5 ⟨rfl, hb5⟩; clear hat)
                      | fail)
                    obtain ⟨wa, hwa⟩ : ∃ wa, wa = w5.alloc (.cells #[.slice none 0 0, .bool false] 31) := ⟨_, rfl⟩
                    rw [← hwa]
                    have hXa : wa.heap[w5.heap.size]? = some (.cells #[.slice none 0 0, .bool false] 31 (0, 0)) := by rw [hwa]; exact blk_new _ _
                    have hba : Below w5.heap.size w5 wa := by rw [hwa]; exact below_alloc (Below.refl _ _) _
                    have hBa : SB wv wa := SB.next (SB.next hHB hb5) hba
                    have HX : ∀ w', SB wa w' → w'.cell? ⟨w5.heap.size, 0, none⟩ = some (.slice none 0 0) ∧ w'.cell? ⟨w5.heap.size, 1, none⟩ = some (.bool false) := fun w' h => ⟨(blk2 (blk_below hXa h)).1, (blk2 (blk_below hXa h)).2.1⟩
                    have HD0 : SB wa wa.drew := below_drew1 (Below.refl _ _)
                    clear hwa hXa hba hb5
                    refine start_ (n := 32) (S := SB wa) (ds := []) (bl_ [0, 32]) (by kernel_rfl) (by kernel_rfl) rfl HD0 (fun _ => ?_)
                    refine with_tab tab_7_27_ (fun HT_ => ?_)
                    refine takes_ (List.range' 0 18) 14 (bl_ [18, 14]) rfl HT_.out (by kernel_rfl) HD0 (a' := ?_) ?_ ?_
                    rotate_left
                    · repeat (first | exact rfl | (refine tkN rfl rfl (fun _ _ _ h => h) (by rfl) (by simp only [Act.put, List.setIfInBounds_toArray, List.set_cons_zero, List.set_cons_succ, i64_w, i32_w]; rfl) ?_) | (refine tkY rfl rfl (fun _ _ _ h => h) (by rfl) (fun w' hw' => by (obtain ⟨t0, t1⟩ := HX w' hw'; go_simp; with_reducible rfl)) (by simp only [Act.put, List.setIfInBounds_toArray, List.set_cons_zero, List.set_cons_succ, i64_w, i32_w]; rfl) ?_))
                    refine takes_ (List.range' 18 14) 0 (bl_ [32]) rfl HT_.out (by kernel_rfl) HD0 (a' := ?_) ?_ ?_
                    rotate_left
                    · repeat (first | exact rfl | (refine tkN rfl rfl (fun _ _ _ h => h) (by rfl) (by simp only [Act.put, List.setIfInBounds_toArray, List.set_cons_zero, List.set_cons_succ, i64_w, i32_w]; rfl) ?_) | (refine tkY rfl rfl (fun _ _ _ h => h) (by rfl) (fun w' hw' => by (obtain ⟨t0, t1⟩ := HX w' hw'; go_simp; with_reducible rfl)) (by simp only [Act.put, List.setIfInBounds_toArray, List.set_cons_zero, List.set_cons_succ, i64_w, i32_w]; rfl) ?_))
                    refine done_ (done_of HT_.out (by kernel_rfl)) ?_
                    go_wp2
                    go_roundg (ys.length + 3 - (ys.length + 1 + 1))
                    case measure => rw [HB.out.2.1]; omega
                    case rel => exact ⟨ys.length + 1 + 1, by simp, by rw [Nat.add_sub_cancel, htk3.out], ⟨by omega, rfl, SB.next hBa HD0⟩⟩
              · obtain ⟨n, rfl⟩ : ∃ n, j = n + 1 := ⟨j - 1, by omega⟩
                have hnl : n = ys.length + 1 := by have := HB.out.1; omega
                rw [show ((((n + 1 : Nat) : Int)) - 1) = (n : Int) by omega, Nat.add_sub_cancel, List.take_of_length_le (by rw [List.length_map]; omega)]
                have hBB := HB.out.2.2
                have hsm := sum_small ys (fun z hz => (hgo z hz).1)
                have h37 := page_len wr2 okP gp _ (hP.below hBB)
                rw [List.length_map] at h37
                have h38 := fun m => page_bytes (wr2.drewN m) okP gp _ ((hP.below hBB).step (W' := wr2.drewN m) (fun _ _ _ => rfl)) (by omega) (by rw [List.length_map]; omega)
                have hn1 : ¬ (n : Int) ≤ ys.length := by omega
                generalize sumLen (ys.map rb) = B at h38 hsm
                have hJb := Aside0.mk (And.intro hJa.out hBB)
                clear hJa HB hlt hP hgo hCw hbe
                go_wp2_with (first
                  | (go_at_call 37; refine h37.mono ?_; rintro e w5 ⟨rfl, hd5⟩; obtain ⟨m5, rfl⟩ := hd5.out; clear h37 hd5)
                  | (go_at_call 38; refine (h38 _).mono ?_; rintro e w6 ⟨rfl, hb6⟩; clear h38)
                  | fail)
                have hb56 := (pw_below_drewN (Below.refl _ wr2) m5).trans hb6
                go_roundg (21 - (i + 1))
                case measure => rw [hq8.out.2.2]; omega
                case rel => exact ⟨i + 1, ys, by simp, ⟨hlt1, hlt2, rfl, (hJb.out.1.next hJb.out.2).next hb56⟩⟩
    · have hb := HA.out.2.2.2.be
      clear HA
      have hex : (i < l.length ∧ ¬ i < 20) ∨ ¬ i < l.length := by omega
      rcases hex with ⟨hx1, hx2⟩ | hx1
      all_goals (try clear hlt); go_wp2
      all_goals
        go_ret
        exact ⟨rfl, hb⟩
end Go.Proofs.Ytkigdcihhlkkdaa.P
end
section
set_option linter.unusedVariables false
set_option linter.unusedSimpArgs false
namespace Go.Proofs.Ytkigdcihhlkkdaa.Pure
open Go.ChangeShapes Go.WideShapes Go.RowKit Go.Proofs.Ytkigdcihhlkkdaa.P Go.Proofs.YtkigdcihhlkkdaaW.PrintWords Go.Proofs.YtkigdcihhlkkdaaW.PrintLast
theorem list_of {α : Type} {Q : Nat → α → Prop} : ∀ n : Nat, (∀ i, i < n → ∃ z, Q i z) → ∃ l : List α, l.length = n ∧ ∀ i z, l[i]? = some z → Q i z
  | 0, _ => ⟨[], rfl, fun i z h => by simp at h⟩
  | n + 1, h => by
    obtain ⟨l, hl, hq⟩ := list_of n (fun i hi => h i (by omega))
    obtain ⟨z, hz⟩ := h n (by omega)
    refine ⟨l ++ [z], by simp [hl], fun i x hx => ?_⟩
    by_cases c : i < n
    · exact hq i x (by rwa [List.getElem?_append_left (by omega)] at hx)
    · rw [List.getElem?_append_right (by omega)] at hx
      by_cases e : i = n
      · subst e
        rw [hl, Nat.sub_self] at hx
        simp at hx
        subst hx
        exact hz
      · obtain ⟨j, hj⟩ : ∃ j, i - l.length = j + 1 := ⟨i - l.length - 1, by omega⟩
        rw [hj] at hx
        simp at hx
def wf45 (z : S45) : Prop := (Lit.int .i32 z.f0).wf = true ∧ (Lit.int .i64 z.f1).wf = true ∧ (Lit.int .i64 z.f2).wf = true
set_option maxRecDepth 100000
section
variable {H : Type} {enc : TypeId × Value → H} {w : World} {base : Nat} {spare : Nat → Bool} {held : Bool}
theorem open_cells {fuel : Nat} {cs : List Value} {x : DataW H × List MemPlace} (h : DataW.trod enc Try.prog w base spare held fuel 29 cs = some x) :
    ∃ (a : Option Addr) (len cap : Nat) (zs : List S45), cs = [.slice a len cap] ∧ len = zs.length ∧ len ≤ cap ∧ len ≤ maxLen ∧ Kd.C k45 w a zs.length zs ∧ ∀ z ∈ zs, wf45 z := by
  have hc : Try.prog.cellsOf 45 = 3 := by kernel_rfl
  have hc21 : Try.prog.cellsOf 21 = 1 := by kernel_rfl
  have hc3 : Try.prog.cellsOf 3 = 1 := by kernel_rfl
  rcases DataW.trod_slice (e := 45) Try.underlying29 h with ⟨h0, _⟩ | ⟨a, len, cap, elems, rest, n, _, rfl, _, hb, hl, hm, hlen, hel, _, _⟩
  · exact ⟨none, 0, 0, [], h0, rfl, Nat.le_refl _, Nat.zero_le _, Kd.C_nil k45 w, by simp⟩
  have each : ∀ i, i < len → ∃ z : S45, w.cells? base (a.add (i * 3)) 3 = some [.int .i32 z.f0, .int .i64 z.f1, .int .i64 z.f2] ∧ wf45 z := by
    intro i hi
    have he := hel i hi
    rw [List.getElem?_eq_getElem (by omega), hc, Option.bind_eq_some_iff] at he
    obtain ⟨cs', hcs, hy⟩ := he
    obtain ⟨y0, y1, y2, m, _, hn, h0, h1, h2⟩ := Go.Deep.trod_struct3 Try.underlying45 hy
    rw [hc] at hn
    match cs', hn with
    | [c0, c1, c2], _ =>
      simp only [hc21, hc3, List.drop_zero, List.take_succ_cons, List.take_zero, List.drop_succ_cons] at h0 h1 h2
      obtain ⟨n0, e0, _, w0⟩ := DataW.trod_int Try.underlying21 h0
      obtain ⟨n1, e1, _, w1⟩ := DataW.trod_int Try.underlying3 h1
      obtain ⟨n2, e2, _, w2⟩ := DataW.trod_int Try.underlying3 h2
      simp only [List.cons.injEq, and_true] at e0 e1 e2
      subst e0 e1 e2
      exact ⟨⟨n0, n1, n2⟩, hcs, w0, w1, w2⟩
  obtain ⟨zs, hz, hq⟩ := list_of len each
  have hmm : len ≤ maxLen := Nat.le_trans hl hm
  subst hz
  refine ⟨some a, zs.length, cap, zs, rfl, rfl, hl, hmm, ⟨rfl, by unfold maxLen at hmm; omega, fun _ => ⟨a, rfl, fun j p hp => ?_⟩⟩, fun z hz' => ?_⟩
  · obtain ⟨hc, _⟩ := hq j p hp
    refine ⟨_, rfl, k45_mk w p, fun i u hu => ?_⟩
    have hi : i < 3 := by
      have := (List.getElem?_eq_some_iff.1 hu).1
      simpa using this
    have := (World.cells?_some hc).2.2 i hi
    rw [Addr.add_add] at this
    exact this.trans hu
  · obtain ⟨i, hi⟩ := List.getElem?_of_mem hz'
    exact (hq i z hi).2
theorem open_row {fuel : Nat} {cs : List Value} {x : DataW H × List MemPlace} (h : DataW.trod enc Try.prog w base spare held fuel 31 cs = some x) :
    ∃ (a : Option Addr) (cap : Nat) (z : S31), cs = [.slice a z.f0.length cap, .bool z.f1] ∧ z.f0.length ≤ cap ∧ z.f0.length ≤ maxLen ∧ Kd.C k45 w a z.f0.length z.f0 ∧ ∀ c ∈ z.f0, wf45 c := by
  have hc : Try.prog.cellsOf 31 = 2 := by kernel_rfl
  have hc29 : Try.prog.cellsOf 29 = 1 := by kernel_rfl
  have hc4 : Try.prog.cellsOf 4 = 1 := by kernel_rfl
  obtain ⟨y0, y1, m, _, hn, h0, h1⟩ := trod_struct2 Try.underlying31 h
  rw [hc] at hn
  match cs, hn with
  | [c0, c1], _ =>
    simp only [hc29, hc4, List.drop_zero, List.take_succ_cons, List.take_zero, List.drop_succ_cons] at h0 h1
    obtain ⟨a, len, cap, zs, e0, rfl, hl, hm, hC, hw⟩ := open_cells h0
    obtain ⟨b, e1, _⟩ := DataW.trod_bool Try.underlying4 h1
    simp only [List.cons.injEq, and_true] at e0 e1
    subst e0 e1
    exact ⟨a, cap, ⟨zs, b⟩, rfl, hl, hm, hC, hw⟩
theorem open_rows {fuel : Nat} {cs : List Value} {x : DataW H × List MemPlace} (h : DataW.trod enc Try.prog w base spare held fuel 47 cs = some x) :
    ∃ (a : Option Addr) (len cap : Nat) (zs : List S31), cs = [.slice a len cap] ∧ len = zs.length ∧ len ≤ cap ∧ len ≤ maxLen ∧ Kd.C k31 w a zs.length zs ∧ ∀ z ∈ zs, z.f0.length ≤ maxLen ∧ ∀ c ∈ z.f0, wf45 c := by
  have hc : Try.prog.cellsOf 31 = 2 := by kernel_rfl
  rcases DataW.trod_slice (e := 31) Try.underlying47 h with ⟨h0, _⟩ | ⟨a, len, cap, elems, rest, n, _, rfl, _, hb, hl, hm, hlen, hel, _, _⟩
  · exact ⟨none, 0, 0, [], h0, rfl, Nat.le_refl _, Nat.zero_le _, Kd.C_nil k31 w, by simp⟩
  have each : ∀ i, i < len → ∃ z : S31, (∃ (A : Option Addr) (cap : Nat), w.cells? base (a.add (i * 2)) 2 = some [.slice A z.f0.length cap, .bool z.f1] ∧ z.f0.length ≤ cap ∧ Kd.C k45 w A z.f0.length z.f0) ∧ z.f0.length ≤ maxLen ∧ ∀ c ∈ z.f0, wf45 c := by
    intro i hi
    have he := hel i hi
    rw [List.getElem?_eq_getElem (by omega), hc, Option.bind_eq_some_iff] at he
    obtain ⟨cs', hcs, hy⟩ := he
    obtain ⟨A, cap, z, rfl, h1, h2, h3, h4⟩ := open_row hy
    exact ⟨z, ⟨A, cap, hcs, h1, h3⟩, h2, h4⟩
  obtain ⟨zs, hz, hq⟩ := list_of len each
  have hmm : len ≤ maxLen := Nat.le_trans hl hm
  subst hz
  refine ⟨some a, zs.length, cap, zs, rfl, rfl, hl, hmm, ⟨rfl, by unfold maxLen at hmm; omega, fun _ => ⟨a, rfl, fun j p hp => ?_⟩⟩, fun z hz' => ?_⟩
  · obtain ⟨⟨A, c, hc, hle, hC⟩, _⟩ := hq j p hp
    refine ⟨_, rfl, k31_mk w p hle hC, fun i u hu => ?_⟩
    have hi : i < 2 := by
      have := (List.getElem?_eq_some_iff.1 hu).1
      simpa using this
    have := (World.cells?_some hc).2.2 i hi
    rw [Addr.add_add] at this
    exact this.trans hu
  · obtain ⟨i, hi⟩ := List.getElem?_of_mem hz'
    exact (hq i z hi).2
theorem arg_rows {a : Option Addr} {len cap : Nat} {d : DataW H} {ps : List MemPlace} (h : DataW.Trod enc Try.prog w base spare held 47 (.slice a len cap) d ps) :
    ∃ zs : List S31, len = zs.length ∧ zs.length ≤ cap ∧ zs.length ≤ maxLen ∧ Kd.C k31 w a zs.length zs ∧ ∀ z ∈ zs, z.f0.length ≤ maxLen ∧ ∀ c ∈ z.f0, wf45 c := by
  obtain ⟨fuel, hf⟩ := h
  obtain ⟨a', l', c', zs, hcs, h1, h2, h3, h4, h5⟩ := open_rows hf
  simp [Value.cells] at hcs
  obtain ⟨rfl, rfl, rfl⟩ := hcs
  subst h1
  exact ⟨zs, rfl, h2, h3, h4, h5⟩
end
end Go.Proofs.Ytkigdcihhlkkdaa.Pure
end
section
set_option linter.unusedVariables false
set_option linter.unusedSimpArgs false
namespace Go.Proofs.Ytkigdcihhlkkdaa.Pure
open Go.ChangeShapes Go.WideShapes Go.RowKit Go.Proofs.Ytkigdcihhlkkdaa.P Go.Proofs.YtkigdcihhlkkdaaW.PrintWords Go.Proofs.YtkigdcihhlkkdaaW.PrintLast
set_option maxRecDepth 100000
theorem in32_of {z : S45} (h : wf45 z) : in32 z := by
  have := h.1
  simp [Lit.wf] at this
  exact this
section
variable {H : Type} {enc : TypeId × Value → H} {w : World} {base : Nat} {spare : Nat → Bool} {held : Bool}
theorem arg_rows' {a : Option Addr} {len cap : Nat} {d : DataW H} {ps : List MemPlace} (h : DataW.Trod enc Try.prog w base spare held 47 (.slice a len cap) d ps) :
    ∃ zs : List S31, len = zs.length ∧ zs.length ≤ cap ∧ zs.length ≤ maxLen ∧ Kd.C k31 w a zs.length zs ∧ ∀ z ∈ zs, z.f0.length ≤ maxLen ∧ ∀ c ∈ z.f0, in32 c := by
  obtain ⟨zs, h1, h2, h3, h4, h5⟩ := arg_rows h
  exact ⟨zs, h1, h2, h3, h4, fun z hz => ⟨(h5 z hz).1, fun c hc => in32_of ((h5 z hz).2 c hc)⟩⟩
theorem arg_ints {T E : TypeId} {k : IntKind} (hT : Try.prog.underlying T = some (.slice E)) (hE : Try.prog.underlying E = some (.int k)) (hcE : Try.prog.cellsOf E = 1) {a : Option Addr} {len cap : Nat} {d : DataW H} {ps : List MemPlace} (h : DataW.Trod enc Try.prog w 0 (fun _ => true) true T (.slice a len cap) d ps) :
    ∃ zs : List Int, len = zs.length ∧ zs.length ≤ cap ∧ zs.length ≤ maxLen ∧ Kd.C (Kd.int k) w a zs.length zs ∧ ∀ x ∈ zs, (Lit.int k x).wf = true := by
  obtain ⟨fuel, hf⟩ := h
  rcases open_ints hT hE hcE hf with ⟨hcs, _⟩ | ⟨x, l, c, zs, hcs, _, hl, hm, hz, _, hcell, hwz⟩
  · simp [Value.cells] at hcs
    obtain ⟨rfl, rfl, rfl⟩ := hcs
    exact ⟨[], rfl, Nat.le_refl _, Nat.zero_le _, Kd.C_nil _ _, by simp⟩
  · simp [Value.cells] at hcs
    obtain ⟨rfl, rfl, rfl⟩ := hcs
    obtain ⟨l1, hl1, hr1, hm1, hw1, hc1⟩ := Go.Proofs.YtkigdcihhlkkdaaW.PrintWords.ReadsInt.ofRowC (.inr ⟨_, rfl, hl, hm, by simpa using hz, hcell, hwz⟩)
    subst hl1
    exact ⟨l1, rfl, hc1, hm1, Go.Proofs.YtkigdcihhlkkdaaW.PrintWords.Kd.C_of_reads (d := (0 : Int)) (h1 := fun _ => rfl) hr1, hw1⟩
end
end Go.Proofs.Ytkigdcihhlkkdaa.Pure
end
