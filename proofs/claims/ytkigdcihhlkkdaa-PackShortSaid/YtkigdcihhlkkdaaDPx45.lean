-- written by a print that this session turned (wip/tools/turnprint.py)
import Derived.Test.YtkigdcihhlkkdaaDPx0
namespace Go.Proofs.Ytkigdcihhlkkdaa.P
open Go.RowKit Go.Proofs.YtkigdcihhlkkdaaW.PrintWords Go.Proofs.YtkigdcihhlkkdaaW.PrintLast Go.Proofs.YtkigdcihhlkkdaaW.PrintMore
attribute [local go_sem] max2_int min2_int max_two min_two max_three min_three max_four min_four   -- for this text's walks alone
set_option linter.unusedVariables false
set_option linter.unusedSimpArgs false
def rotulusref1_Width.zeros : List (Int × Int) := [(-2147483648, 31), (127, 159), (768, 879), (8203, 8207), (65024, 65039), (1114112, 2147483647), (55296, 57343)]
def rotulusref1_Width.wides : List (Int × Int) := [(4352, 4447), (11904, 12350), (12353, 13311), (13312, 19903), (19968, 40959), (40960, 42191), (44032, 55203), (63744, 64255), (65072, 65135), (65280, 65376), (65504, 65510), (127744, 128591), (129280, 129535), (131072, 262141)]
def rotulusref1_Width.isIn (l : List (Int × Int)) (r : Int) : Bool := l.any fun p => decide (p.1 ≤ r) && decide (r ≤ p.2)
def rotulusref1_Width.w (r : Int) : Int := if rotulusref1_Width.isIn rotulusref1_Width.zeros r = true then 0 else if rotulusref1_Width.isIn rotulusref1_Width.wides r = true then 2 else 1
def rotulusref1_Width.f (a0 : Int) : Option Int := some (rotulusref1_Width.w a0)
def rotulusref1_Width.cells (l : List (Int × Int)) : List Value := l.flatMap fun p => [.int .i32 p.1, .int .i32 p.2]
theorem rotulusref1_Width.yes (l : List (Int × Int)) (r : Int) (i : Nat) (hi : i < l.length) (h1 : l[i].1 ≤ r) (h2 : r ≤ l[i].2) : rotulusref1_Width.isIn l r = true := by
  unfold rotulusref1_Width.isIn
  rw [List.any_eq_true]
  exact ⟨l[i], List.getElem_mem hi, by simp [h1, h2]⟩
theorem rotulusref1_Width.no (l : List (Int × Int)) (r : Int) (h : ∀ i, ∀ hi : i < l.length, ¬ (l[i].1 ≤ r ∧ r ≤ l[i].2)) : rotulusref1_Width.isIn l r = false := by
  unfold rotulusref1_Width.isIn
  rw [List.any_eq_false]
  intro p hp
  obtain ⟨i, hi, rfl⟩ := List.mem_iff_getElem.1 hp
  have := h i hi
  simp
  intro h1
  by_cases h2 : r ≤ l[i].2
  · exact absurd ⟨h1, h2⟩ this
  · omega
theorem rotulusref1_Width.row (W : World) (B : Nat) (l : List (Int × Int)) (hW : W.heap[B]? = some (.cells (rotulusref1_Width.cells l).toArray 96 (0, 0))) (i : Nat) (hi : i < l.length) :
    W.cell? ⟨B, i * 2, none⟩ = some (.int .i32 l[i].1) ∧ W.cell? ⟨B, i * 2 + 1, none⟩ = some (.int .i32 l[i].2) := by
  have key : ∀ (l : List (Int × Int)) (i : Nat) (hi : i < l.length), (rotulusref1_Width.cells l)[i * 2]? = some (.int .i32 l[i].1) ∧ (rotulusref1_Width.cells l)[i * 2 + 1]? = some (.int .i32 l[i].2) := by
    intro l
    induction l with
    | nil => intro i hi; simp at hi
    | cons p l ih =>
      intro i hi
      cases i with
      | zero => simp [rotulusref1_Width.cells]
      | succ i =>
        have := ih i (by simpa using hi)
        have e1 : (i + 1) * 2 = i * 2 + 2 := by omega
        simp only [rotulusref1_Width.cells, List.flatMap_cons, e1] at this ⊢
        simpa using this
  have k := key l i hi
  constructor
  · simp only [World.cell?, hW]
    simpa using k.1
  · simp only [World.cell?, hW]
    simpa using k.2
set_option maxHeartbeats 4000000 in
set_option maxRecDepth 100000 in
theorem rotulusref1_Width.calls (a0 : Int) (r : Int) (w : World) (h : rotulusref1_Width.f a0 = some r) :
    Calls Try.prog 59 #[.int .i32 a0] w fun e w' => e = .returned (.int .i64 r) ∧ Below w.heap.size w w' := by
  obtain rfl := Option.some.inj h
  clear h
  go_enter Try.func59, Try.ntmps59
  go_wp2
  have HB : Aside0 (Below w.heap.size w ((w.alloc (.cells #[.int .i32 (-2147483648), .int .i32 31, .int .i32 127, .int .i32 159, .int .i32 768, .int .i32 879, .int .i32 8203, .int .i32 8207, .int .i32 65024, .int .i32 65039, .int .i32 1114112, .int .i32 2147483647, .int .i32 55296, .int .i32 57343] 96)).alloc (.cells #[.int .i32 4352, .int .i32 4447, .int .i32 11904, .int .i32 12350, .int .i32 12353, .int .i32 13311, .int .i32 13312, .int .i32 19903, .int .i32 19968, .int .i32 40959, .int .i32 40960, .int .i32 42191, .int .i32 44032, .int .i32 55203, .int .i32 63744, .int .i32 64255, .int .i32 65072, .int .i32 65135, .int .i32 65280, .int .i32 65376, .int .i32 65504, .int .i32 65510, .int .i32 127744, .int .i32 128591, .int .i32 129280, .int .i32 129535, .int .i32 131072, .int .i32 262141] 96))) := ⟨below_alloc (below_alloc (Below.refl _ _) _) _⟩
  have hz : Aside0 (((w.alloc (.cells #[.int .i32 (-2147483648), .int .i32 31, .int .i32 127, .int .i32 159, .int .i32 768, .int .i32 879, .int .i32 8203, .int .i32 8207, .int .i32 65024, .int .i32 65039, .int .i32 1114112, .int .i32 2147483647, .int .i32 55296, .int .i32 57343] 96)).alloc (.cells #[.int .i32 4352, .int .i32 4447, .int .i32 11904, .int .i32 12350, .int .i32 12353, .int .i32 13311, .int .i32 13312, .int .i32 19903, .int .i32 19968, .int .i32 40959, .int .i32 40960, .int .i32 42191, .int .i32 44032, .int .i32 55203, .int .i32 63744, .int .i32 64255, .int .i32 65072, .int .i32 65135, .int .i32 65280, .int .i32 65376, .int .i32 65504, .int .i32 65510, .int .i32 127744, .int .i32 128591, .int .i32 129280, .int .i32 129535, .int .i32 131072, .int .i32 262141] 96)).heap[w.heap.size]? = some (.cells (rotulusref1_Width.cells rotulusref1_Width.zeros).toArray 96 (0, 0))) := ⟨blk_alloc (blk_new w _) _⟩
  have hwd : Aside0 (((w.alloc (.cells #[.int .i32 (-2147483648), .int .i32 31, .int .i32 127, .int .i32 159, .int .i32 768, .int .i32 879, .int .i32 8203, .int .i32 8207, .int .i32 65024, .int .i32 65039, .int .i32 1114112, .int .i32 2147483647, .int .i32 55296, .int .i32 57343] 96)).alloc (.cells #[.int .i32 4352, .int .i32 4447, .int .i32 11904, .int .i32 12350, .int .i32 12353, .int .i32 13311, .int .i32 13312, .int .i32 19903, .int .i32 19968, .int .i32 40959, .int .i32 40960, .int .i32 42191, .int .i32 44032, .int .i32 55203, .int .i32 63744, .int .i32 64255, .int .i32 65072, .int .i32 65135, .int .i32 65280, .int .i32 65376, .int .i32 65504, .int .i32 65510, .int .i32 127744, .int .i32 128591, .int .i32 129280, .int .i32 129535, .int .i32 131072, .int .i32 262141] 96)).heap[w.heap.size + 1]? = some (.cells (rotulusref1_Width.cells rotulusref1_Width.wides).toArray 96 (0, 0))) := ⟨by have h_ := blk_new (w.alloc (.cells #[.int .i32 (-2147483648), .int .i32 31, .int .i32 127, .int .i32 159, .int .i32 768, .int .i32 879, .int .i32 8203, .int .i32 8207, .int .i32 65024, .int .i32 65039, .int .i32 1114112, .int .i32 2147483647, .int .i32 55296, .int .i32 57343] 96)) (.cells #[.int .i32 4352, .int .i32 4447, .int .i32 11904, .int .i32 12350, .int .i32 12353, .int .i32 13311, .int .i32 13312, .int .i32 19903, .int .i32 19968, .int .i32 40959, .int .i32 40960, .int .i32 42191, .int .i32 44032, .int .i32 55203, .int .i32 63744, .int .i32 64255, .int .i32 65072, .int .i32 65135, .int .i32 65280, .int .i32 65376, .int .i32 65504, .int .i32 65510, .int .i32 127744, .int .i32 128591, .int .i32 129280, .int .i32 129535, .int .i32 131072, .int .i32 262141] 96); rw [World.size_alloc] at h_; exact h_⟩
  generalize (w.alloc (.cells #[.int .i32 (-2147483648), .int .i32 31, .int .i32 127, .int .i32 159, .int .i32 768, .int .i32 879, .int .i32 8203, .int .i32 8207, .int .i32 65024, .int .i32 65039, .int .i32 1114112, .int .i32 2147483647, .int .i32 55296, .int .i32 57343] 96)).alloc (.cells #[.int .i32 4352, .int .i32 4447, .int .i32 11904, .int .i32 12350, .int .i32 12353, .int .i32 13311, .int .i32 13312, .int .i32 19903, .int .i32 19968, .int .i32 40959, .int .i32 40960, .int .i32 42191, .int .i32 44032, .int .i32 55203, .int .i32 63744, .int .i32 64255, .int .i32 65072, .int .i32 65135, .int .i32 65280, .int .i32 65376, .int .i32 65504, .int .i32 65510, .int .i32 127744, .int .i32 128591, .int .i32 129280, .int .i32 129535, .int .i32 131072, .int .i32 262141] 96) = W at HB hz hwd ⊢
  go_loopg [5] 7 (fun gg s wr => ∃ kk : Nat, kk ≤ 7 ∧ 7 - kk ≤ gg ∧ s = .int .i64 kk ∧ Aside0 (wr = W) ∧ Aside0 (∀ i, i < kk → ∀ hi : i < rotulusref1_Width.zeros.length, ¬ (rotulusref1_Width.zeros[i].1 ≤ a0 ∧ a0 ≤ rotulusref1_Width.zeros[i].2)))
  case atStart => exact ⟨0, Nat.zero_le _, by omega, rfl, ⟨rfl⟩, ⟨fun i hi => absurd hi (Nat.not_lt_zero _)⟩⟩
  case round =>
    obtain ⟨kk, hkk, hg, rfl, hwr, HA⟩ := hrel
    obtain rfl := hwr.out
    clear hwr
    by_cases hlt : kk < 7
    · have hltz : (kk : Int) < 7 := by omega
      have hi : kk < rotulusref1_Width.zeros.length := hlt
      obtain ⟨hx0, hx1⟩ := rotulusref1_Width.row wr w.heap.size rotulusref1_Width.zeros hz.out kk hi
      have hyes := Lib.hid (rotulusref1_Width.yes rotulusref1_Width.zeros a0 kk hi)
      obtain ⟨lo, hlo⟩ : ∃ lo, lo = rotulusref1_Width.zeros[kk].1 := ⟨_, rfl⟩
      obtain ⟨hi_, hhi⟩ : ∃ hi_, hi_ = rotulusref1_Width.zeros[kk].2 := ⟨_, rfl⟩
      rw [← hlo] at hx0
      rw [← hhi] at hx1
      have Hlo := Lib.hid hlo
      have Hhi := Lib.hid hhi
      clear hlo hhi
      by_cases h1 : lo ≤ a0
      · by_cases h2 : a0 ≤ hi_
        · have hin := Lib.hid (hyes.out (by rw [← Hlo.out]; exact h1) (by rw [← Hhi.out]; exact h2))
          clear hyes HA
          have d1 : decide (a0 ≥ lo) = true := by simpa using h1
          have d2 : decide (a0 ≤ hi_) = true := by simpa using h2
          go_wp2
          go_ret
          exact ⟨by rw [rotulusref1_Width.w, if_pos hin.out] <;> rfl, HB.out⟩
        · have HA2 : Aside0 (∀ i, i < kk + 1 → ∀ hi : i < rotulusref1_Width.zeros.length, ¬ (rotulusref1_Width.zeros[i].1 ≤ a0 ∧ a0 ≤ rotulusref1_Width.zeros[i].2)) := ⟨fun i hi hl hh => by
            by_cases e : i = kk
            · subst e
              exact h2 (by rw [Hhi.out]; exact hh.2)
            · exact HA.out i (by omega) hl hh⟩
          clear HA hyes
          have d1 : decide (a0 ≥ lo) = true := by simpa using h1
          have d2 : decide (a0 ≤ hi_) = false := by simpa using h2
          go_wp2
          go_roundg (7 - (kk + 1))
          case measure => omega
          case rel => exact ⟨kk + 1, by omega, by omega, by go_num, ⟨rfl⟩, HA2⟩
      · have HA2 : Aside0 (∀ i, i < kk + 1 → ∀ hi : i < rotulusref1_Width.zeros.length, ¬ (rotulusref1_Width.zeros[i].1 ≤ a0 ∧ a0 ≤ rotulusref1_Width.zeros[i].2)) := ⟨fun i hi hl hh => by
          by_cases e : i = kk
          · subst e
            exact h1 (by rw [Hlo.out]; exact hh.1)
          · exact HA.out i (by omega) hl hh⟩
        clear HA hyes
        have d1 : decide (a0 ≥ lo) = false := by simpa using h1
        go_wp2
        go_roundg (7 - (kk + 1))
        case measure => omega
        case rel => exact ⟨kk + 1, by omega, by omega, by go_num, ⟨rfl⟩, HA2⟩
    · have hltz : ¬ (kk : Int) < 7 := by omega
      obtain rfl : kk = 7 := by omega
      have hout := Lib.hid (rotulusref1_Width.no rotulusref1_Width.zeros a0 fun i hi => HA.out i hi hi)
      clear HA
      go_wp2
      have hout0 := hout
      clear hout
      obtain ⟨W2, hW2⟩ : ∃ W2, W2 = wr := ⟨_, rfl⟩
      subst hW2
      go_loopg [6] 14 (fun gg s wr => ∃ kk : Nat, kk ≤ 14 ∧ 14 - kk ≤ gg ∧ s = .int .i64 kk ∧ Aside0 (wr = W2) ∧ Aside0 (∀ i, i < kk → ∀ hi : i < rotulusref1_Width.wides.length, ¬ (rotulusref1_Width.wides[i].1 ≤ a0 ∧ a0 ≤ rotulusref1_Width.wides[i].2)))
      case atStart => exact ⟨0, Nat.zero_le _, by omega, rfl, ⟨rfl⟩, ⟨fun i hi => absurd hi (Nat.not_lt_zero _)⟩⟩
      case round =>
        obtain ⟨kk, hkk, hg, rfl, hwr, HA⟩ := hrel
        obtain rfl := hwr.out
        clear hwr
        by_cases hlt : kk < 14
        · have hltz : (kk : Int) < 14 := by omega
          have hi : kk < rotulusref1_Width.wides.length := hlt
          obtain ⟨hx0, hx1⟩ := rotulusref1_Width.row wr (w.heap.size + 1) rotulusref1_Width.wides hwd.out kk hi
          have hyes := Lib.hid (rotulusref1_Width.yes rotulusref1_Width.wides a0 kk hi)
          obtain ⟨lo, hlo⟩ : ∃ lo, lo = rotulusref1_Width.wides[kk].1 := ⟨_, rfl⟩
          obtain ⟨hi_, hhi⟩ : ∃ hi_, hi_ = rotulusref1_Width.wides[kk].2 := ⟨_, rfl⟩
          rw [← hlo] at hx0
          rw [← hhi] at hx1
          have Hlo := Lib.hid hlo
          have Hhi := Lib.hid hhi
          clear hlo hhi
          by_cases h1 : lo ≤ a0
          · by_cases h2 : a0 ≤ hi_
            · have hin := Lib.hid (hyes.out (by rw [← Hlo.out]; exact h1) (by rw [← Hhi.out]; exact h2))
              clear hyes HA
              have d1 : decide (a0 ≥ lo) = true := by simpa using h1
              have d2 : decide (a0 ≤ hi_) = true := by simpa using h2
              go_wp2
              go_ret
              exact ⟨by rw [rotulusref1_Width.w, if_neg (by rw [hout0.out]; decide), if_pos hin.out] <;> rfl, HB.out⟩
            · have HA2 : Aside0 (∀ i, i < kk + 1 → ∀ hi : i < rotulusref1_Width.wides.length, ¬ (rotulusref1_Width.wides[i].1 ≤ a0 ∧ a0 ≤ rotulusref1_Width.wides[i].2)) := ⟨fun i hi hl hh => by
                by_cases e : i = kk
                · subst e
                  exact h2 (by rw [Hhi.out]; exact hh.2)
                · exact HA.out i (by omega) hl hh⟩
              clear HA hyes
              have d1 : decide (a0 ≥ lo) = true := by simpa using h1
              have d2 : decide (a0 ≤ hi_) = false := by simpa using h2
              go_wp2
              go_roundg (14 - (kk + 1))
              case measure => omega
              case rel => exact ⟨kk + 1, by omega, by omega, by go_num, ⟨rfl⟩, HA2⟩
          · have HA2 : Aside0 (∀ i, i < kk + 1 → ∀ hi : i < rotulusref1_Width.wides.length, ¬ (rotulusref1_Width.wides[i].1 ≤ a0 ∧ a0 ≤ rotulusref1_Width.wides[i].2)) := ⟨fun i hi hl hh => by
              by_cases e : i = kk
              · subst e
                exact h1 (by rw [Hlo.out]; exact hh.1)
              · exact HA.out i (by omega) hl hh⟩
            clear HA hyes
            have d1 : decide (a0 ≥ lo) = false := by simpa using h1
            go_wp2
            go_roundg (14 - (kk + 1))
            case measure => omega
            case rel => exact ⟨kk + 1, by omega, by omega, by go_num, ⟨rfl⟩, HA2⟩
        · have hltz : ¬ (kk : Int) < 14 := by omega
          obtain rfl : kk = 14 := by omega
          have hout := Lib.hid (rotulusref1_Width.no rotulusref1_Width.wides a0 fun i hi => HA.out i hi hi)
          clear HA
          go_wp2
          go_ret
          exact ⟨by rw [rotulusref1_Width.w, if_neg (by rw [hout0.out]; decide), if_neg (by rw [hout.out]; decide)] <;> rfl, HB.out⟩
end Go.Proofs.Ytkigdcihhlkkdaa.P
