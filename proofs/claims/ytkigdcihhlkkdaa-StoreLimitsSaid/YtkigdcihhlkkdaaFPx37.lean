-- written by a print that this session turned (wip/tools/turnprint.py)
import Derived.Test.YtkigdcihhlkkdaaFPx0
import Derived.Test.YtkigdcihhlkkdaaFPx36
namespace Go.Proofs.Ytkigdcihhlkkdaa.P
open Go.RowKit Go.Proofs.YtkigdcihhlkkdaaW.PrintWords Go.Proofs.YtkigdcihhlkkdaaW.PrintLast Go.Proofs.YtkigdcihhlkkdaaW.PrintMore
attribute [local go_sem] max2_int min2_int max_two min_two max_three min_three max_four min_four   -- for this text's walks alone
set_option linter.unusedVariables false
set_option linter.unusedSimpArgs false
def cell_Line.g (k : Nat) : List S45 → Option Bool
  | [] => some false
  | x :: xs => (cell_Line_1.f k x.f0 x.f1 x.f2).bind fun t => if t = true then some true else cell_Line.g k xs
def cell_Line.f (k : Nat) (l0 : List S45) : Option Bool := (cell_Line.g k l0).bind fun b => some (!b)
theorem cell_Line.mono_g : ∀ (l : List S45) k, LeO (cell_Line.g k l) (cell_Line.g (k + 1) l)
  | [], _ => LeO.refl _
  | x :: xs, k => by
    unfold cell_Line.g
    refine LeO.bind (cell_Line_1.mono _ _ _ _) (fun t => ?_)
    exact LeO.ite (LeO.refl _) (cell_Line.mono_g xs k)
theorem cell_Line.mono : ∀ a0 k, LeO (cell_Line.f k a0) (cell_Line.f (k + 1) a0) := by
  intro a0 k
  unfold cell_Line.f
  exact LeO.bind (cell_Line.mono_g _ _) (fun _ => LeO.refl _)
theorem cell_Line.g_drop (k : Nat) (l : List S45) (i : Nat) (b : Bool) (hi : i < l.length) (h : cell_Line.g k (l.drop i) = some b) :
    ∃ t, cell_Line_1.f k (rd_T45 l (i : Int)).f0 (rd_T45 l (i : Int)).f1 (rd_T45 l (i : Int)).f2 = some t ∧ (t = true → b = true) ∧ (t = false → cell_Line.g k (l.drop (i + 1)) = some b) := by
  have e : rd_T45 l (i : Int) = l[i] := by simp [rd_T45, hi]
  rw [List.drop_eq_getElem_cons hi] at h
  unfold cell_Line.g at h
  obtain ⟨t, ht, h⟩ := Option.bind_eq_some_iff.mp h
  refine ⟨t, by rw [e]; exact ht, fun ht' => ?_, fun ht' => ?_⟩
  · subst ht'
    simpa using h.symm
  · subst ht'
    simpa using h
set_option maxHeartbeats 2000000 in
set_option maxRecDepth 100000 in
theorem cell_Line.index (k : Nat) (A0 : Option Addr) (c0 : Nat) (l0 : List S45) (b : Bool) (w : World) (hr0 : Kd.C k45 w A0 l0.length l0) (h : cell_Line.g k l0 = some b) :
    Calls Try.prog 92 #[.slice A0 l0.length c0, .func (.func 90) #[] #[]] w fun e w' => (∃ i : Int, e = .returned (.int .i64 i) ∧ decide (i ≥ 0) = b) ∧ Below w.heap.size w w' := by
  have hlen : l0.length ≤ 9223372036854775807 := hr0.2.1
  have HR0 := Aside0.mk hr0
  clear hr0
  have H := Aside0.mk h
  clear h
  have HB := Aside0.mk (Below.refl w.heap.size w)
  go_enter Try.func92, Try.ntmps92
  go_wp2
  go_loopg [5, 8] l0.length (fun gg _ s8 wr => ∃ kk : Nat, kk ≤ l0.length ∧ l0.length - kk ≤ gg ∧ s8 = .int .i64 kk ∧ Aside0 (Below w.heap.size w wr) ∧ Aside0 (cell_Line.g k (l0.drop kk) = some b))
  case atStart => exact ⟨0, Nat.zero_le _, by omega, rfl, HB, ⟨by rw [List.drop_zero]; exact H.out⟩⟩
  case round =>
    obtain ⟨kk, hkk, hg, rfl, BW, HG⟩ := hrel
    clear H HB
    by_cases hlt : kk < l0.length
    · have hltz : (kk : Int) < (l0.length : Int) := by omega
      obtain ⟨ad, ea, hx0, hx1, hx2⟩ := at_T45 HR0.out kk (by omega) hltz
      cases ea
      replace hx0 := (BW.out.cell (World.block_lt_of_cell? w _ hx0)).trans hx0
      replace hx1 := (BW.out.cell (World.block_lt_of_cell? w _ hx1)).trans hx1
      replace hx2 := (BW.out.cell (World.block_lt_of_cell? w _ hx2)).trans hx2
      obtain ⟨t, ht, hyes, hno⟩ := cell_Line.g_drop k l0 kk b hlt HG.out
      have hcall := cell_Line_1.calls k _ _ _ t wr ht
      clear ht HG
      generalize rd_T45 l0 (kk : Int) = y at hx0 hx1 hx2 hcall
      have Hno := Lib.hid hno
      have Hyes := Lib.hid hyes
      clear hno hyes
      simp only [Int.toNat_natCast] at hx0 hx1 hx2
      cases t with
      | true =>
        have eb := Lib.hid (Hyes.out rfl)
        clear Hyes Hno
        go_wp2_with (go_at_call 90; refine hcall.mono ?_; rintro e w' ⟨rfl, hb'⟩)
        go_ret
        exact ⟨⟨_, rfl, by rw [eb.out]; simp⟩, below_then BW.out BW.out.size hb'⟩
      | false =>
        have HG2 := Aside0.mk (Hno.out rfl)
        clear Hyes Hno
        go_wp2_with (go_at_call 90; refine hcall.mono ?_; rintro e w' ⟨rfl, hb'⟩)
        go_roundg (l0.length - (kk + 1))
        case measure => omega
        case rel => exact ⟨kk + 1, by omega, by omega, by go_num, ⟨below_then BW.out BW.out.size hb'⟩, HG2⟩
    · have hltz : ¬ (kk : Int) < (l0.length : Int) := by omega
      obtain rfl : kk = l0.length := by omega
      have eb : b = false := by
        have h := HG.out
        rw [List.drop_length] at h
        exact (Option.some.inj h).symm
      subst eb
      clear HG
      go_wp2
      go_ret
      exact ⟨⟨_, rfl, by simp⟩, BW.out⟩
set_option maxHeartbeats 2000000 in
set_option maxRecDepth 100000 in
theorem cell_Line.contains (k : Nat) (A0 : Option Addr) (c0 : Nat) (l0 : List S45) (b : Bool) (w : World) (hr0 : Kd.C k45 w A0 l0.length l0) (h : cell_Line.g k l0 = some b) :
    Calls Try.prog 89 #[.slice A0 l0.length c0, .func (.func 90) #[] #[]] w fun e w' => e = .returned (.bool b) ∧ Below w.heap.size w w' := by
  have hcall := cell_Line.index k A0 c0 l0 b w hr0 h
  clear hr0 h
  go_enter Try.func89, Try.ntmps89
  go_wp2_with (go_at_call 92; refine hcall.mono ?_; rintro e w' ⟨⟨i, rfl, hi⟩, hb'⟩; have Hi := Lib.hid hi; clear hi)
  go_ret
  exact ⟨by rw [← Hi.out]; rfl, hb'⟩
set_option maxHeartbeats 2000000 in
set_option maxRecDepth 100000 in
theorem cell_Line.calls (k : Nat) (A0 : Option Addr) (c0 : Nat) (l0 : List S45) (r : Bool) (w : World) (hr0 : Kd.C k45 w A0 l0.length l0) (hc0 : l0.length ≤ c0) (h : cell_Line.f k l0 = some r) :
    Calls Try.prog 80 #[.slice A0 l0.length c0] w fun e w' => e = .returned (.bool r) ∧ Below w.heap.size w w' := by
  obtain ⟨b, hb, hr⟩ := Option.bind_eq_some_iff.mp h
  have er := Option.some.inj hr
  have hcall := cell_Line.contains k A0 c0 l0 b w hr0 hb
  subst er
  clear h hb hr hr0
  go_enter Try.func80, Try.ntmps80
  go_wp2_with (go_at_call 89; refine hcall.mono ?_; rintro e w' ⟨rfl, hb'⟩)
  go_ret
  exact ⟨rfl, hb'⟩
end Go.Proofs.Ytkigdcihhlkkdaa.P
