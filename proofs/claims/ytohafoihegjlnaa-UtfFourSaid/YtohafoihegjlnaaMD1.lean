import Derived.Test.YtohafoihegjlnaaCx23
import Derived.Test.YtohafoihegjlnaaCx6
import Derived.Test.YtohafoihegjlnaaCx24
import Derived.Test.YtohafoihegjlnaaCx25
set_option linter.unusedVariables false
set_option linter.unusedSimpArgs false
/- Helpers: the closed beginning of each law tells true; the widths of the program are the reference's. -/
namespace Go.Proofs.Ytohafoihegjlnaa.Pure
open Go.RowKit Go.Proofs.Ytohafoihegjlnaa.C Go.Proofs.YtohafoihegjlnaaW.PrintWords Go.Proofs.YtohafoihegjlnaaW.PrintLast

theorem begun_ev : Ev rotuluslaw1_begun.f true := Ev.of rotuluslaw1_begun.mono (k := 60) (by decide +kernel)

end Go.Proofs.Ytohafoihegjlnaa.Pure

/- Helpers: the reader of bytes, as a plain function of a list of bytes. -/
namespace Go.Proofs.Ytohafoihegjlnaa.Pure
open Go.RowKit Go.Proofs.Ytohafoihegjlnaa.C Go.Proofs.YtohafoihegjlnaaW.PrintWords Go.Proofs.YtohafoihegjlnaaW.PrintLast

/-- how many bytes a sign has that begins so; 0: none begins so -/
def nb (b : Int) : Nat := if b < 128 then 1 else if 194 ≤ b ∧ b ≤ 223 then 2 else if 224 ≤ b ∧ b ≤ 239 then 3 else if 240 ≤ b ∧ b ≤ 244 then 4 else 0
def lo2 (b : Int) : Int := if b = 224 then 160 else if b = 240 then 144 else 128
def hi2 (b : Int) : Int := if b = 237 then 159 else if b = 244 then 143 else 191
def cons1 (v : Int) (p : List Int × Nat) : List Int × Nat := (v :: p.1, p.2)
/-- the signs of bytes; how many bytes wait -/
def dec : List Int → List Int × Nat
  | [] => ([], 0)
  | b0 :: t =>
    if nb b0 = 1 then cons1 b0 (dec t)
    else if nb b0 = 0 then cons1 65533 (dec t)
    else match t with
      | [] => ([], 1)
      | b1 :: t1 =>
        if lo2 b0 ≤ b1 ∧ b1 ≤ hi2 b0 then
          if nb b0 = 2 then cons1 (b0 % 32 * 64 + b1 % 64) (dec t1)
          else match t1 with
            | [] => ([], 2)
            | b2 :: t2 =>
              if 128 ≤ b2 ∧ b2 ≤ 191 then
                if nb b0 = 3 then cons1 ((b0 % 16 * 64 + b1 % 64) * 64 + b2 % 64) (dec t2)
                else match t2 with
                  | [] => ([], 3)
                  | b3 :: t3 => if 128 ≤ b3 ∧ b3 ≤ 191 then cons1 (((b0 % 8 * 64 + b1 % 64) * 64 + b2 % 64) * 64 + b3 % 64) (dec t3) else cons1 65533 (dec (b3 :: t3))
              else cons1 65533 (dec (b2 :: t2))
        else cons1 65533 (dec (b1 :: t1))
termination_by l => l.length

abbrev St := Int × Int × Int × Int × Int
/-- what a byte does that comes first -/
def pbeg (m r b : Int) : List Int × St :=
  if nb b = 1 then ([b], 0, m, r, 128, 191)
  else if nb b = 2 then ([], 1, 1, b % 32, lo2 b, hi2 b)
  else if nb b = 3 then ([], 1, 2, b % 16, lo2 b, hi2 b)
  else if nb b = 4 then ([], 1, 3, b % 8, lo2 b, hi2 b)
  else ([65533], 0, m, r, 128, 191)
/-- what a byte does -/
def pput (s : St) (b : Int) : List Int × St :=
  if s.1 = 0 then pbeg s.2.1 s.2.2.1 b
  else if b < s.2.2.2.1 ∨ b > s.2.2.2.2 then (65533 :: (pbeg s.2.1 s.2.2.1 b).1, (pbeg s.2.1 s.2.2.1 b).2)
  else if s.2.1 - 1 > 0 then ([], s.1 + 1, s.2.1 - 1, s.2.2.1 * 64 + b % 64, 128, 191)
  else ([s.2.2.1 * 64 + b % 64], 0, s.2.1 - 1, s.2.2.1 * 64 + b % 64, 128, 191)
/-- a state that may be -/
def Good (s : St) : Prop := 0 ≤ s.2.1 ∧ s.2.1 ≤ 3 ∧ 0 ≤ s.2.2.1 ∧ s.2.2.1 < 2097152 ∧
  (s.1 = 0 ∨ (s.1 = 1 ∧ (s.2.1 = 1 ∧ s.2.2.1 < 32 ∨ s.2.1 = 2 ∧ s.2.2.1 < 16 ∨ s.2.1 = 3 ∧ s.2.2.1 < 8)) ∨ (s.1 = 2 ∧ (s.2.1 = 1 ∧ s.2.2.1 < 1024 ∨ s.2.1 = 2 ∧ s.2.2.1 < 512)) ∨ (s.1 = 3 ∧ s.2.1 = 1 ∧ s.2.2.1 < 32768))

theorem and31 {b : Int} (h0 : 0 ≤ b) (h1 : b ≤ 255) : Go.bits .and .u8 b 31 = b % 32 := u8_and31 b h0 (by omega)
theorem and15 {b : Int} (h0 : 0 ≤ b) (h1 : b ≤ 255) : Go.bits .and .u8 b 15 = b % 16 := u8_and15 b h0 (by omega)
theorem and7 {b : Int} (h0 : 0 ≤ b) (h1 : b ≤ 255) : Go.bits .and .u8 b 7 = b % 8 := u8_and7 b h0 (by omega)
theorem and63 {b : Int} (h0 : 0 ≤ b) (h1 : b ≤ 255) : Go.bits .and .u8 b 63 = b % 64 := u8_and63 b h0 (by omega)
theorem w32 {x : Int} (h0 : -2147483648 ≤ x) (h1 : x ≤ 2147483647) : wrap32 x = x := by unfold wrap32; omega
theorem w64 {x : Int} (h0 : -9223372036854775808 ≤ x) (h1 : x ≤ 9223372036854775807) : wrap64 x = x := by unfold wrap64; omega

theorem begins_at (k : Nat) (w m r lo hi b : Int) (h0 : 0 ≤ b) (h1 : b ≤ 255) : utf_Reader_begins.f (k + 3) w m r lo hi b = some (pbeg m r b) := by
  by_cases c1 : b < 128
  · have e : nb b = 1 := by unfold nb; rw [if_pos c1]
    have hR : pbeg m r b = ([b], 0, m, r, 128, 191) := by unfold pbeg; rw [e]; rfl
    unfold utf_Reader_begins.f
    rw [hR, if_pos c1, w32 (by omega) (by omega)]
  · by_cases c2 : 194 ≤ b ∧ b ≤ 223
    · have e : nb b = 2 := by unfold nb; rw [if_neg c1, if_pos c2]
      have l : lo2 b = 128 := by unfold lo2; rw [if_neg (by omega), if_neg (by omega)]
      have g : hi2 b = 191 := by unfold hi2; rw [if_neg (by omega), if_neg (by omega)]
      have hR : pbeg m r b = ([], 1, 1, b % 32, 128, 191) := by unfold pbeg; rw [e, l, g]; rfl
      unfold utf_Reader_begins.f
      rw [hR, if_neg c1, if_pos (by omega), decide_eq_true c2.2]
      simp only [utf_Reader_begins.j0, if_true, utf_Reader_begins.j2]
      rw [if_neg (by omega), if_neg (by omega), if_neg (by omega), if_neg (by omega), and31 h0 h1, w32 (by omega) (by omega)]
    · by_cases c3 : 224 ≤ b ∧ b ≤ 239
      · have e : nb b = 3 := by unfold nb; rw [if_neg c1, if_neg c2, if_pos c3]
        have hR : pbeg m r b = ([], 1, 2, b % 16, lo2 b, hi2 b) := by unfold pbeg; rw [e]; rfl
        unfold utf_Reader_begins.f
        rw [hR, if_neg c1, if_pos (by omega), decide_eq_false (by omega)]
        simp only [utf_Reader_begins.j0, Bool.false_eq_true, if_false]
        rw [if_pos (by omega), decide_eq_true c3.2]
        simp only [utf_Reader_begins.j1, if_true, utf_Reader_begins.j2]
        rw [and15 h0 h1, w32 (by omega) (by omega)]
        unfold lo2 hi2
        by_cases d1 : b = 224
        · subst d1; rfl
        · rw [if_neg d1, if_neg d1, if_neg (show ¬ b = 240 by omega), if_neg (show ¬ b = 244 by omega), if_neg (show ¬ b = 240 by omega), if_neg (show ¬ b = 244 by omega)]
          split <;> rfl
      · by_cases c4 : 240 ≤ b ∧ b ≤ 244
        · have e : nb b = 4 := by unfold nb; rw [if_neg c1, if_neg c2, if_neg c3, if_pos c4]
          have hR : pbeg m r b = ([], 1, 3, b % 8, lo2 b, hi2 b) := by unfold pbeg; rw [e]; rfl
          unfold utf_Reader_begins.f
          rw [hR, if_neg c1, if_pos (by omega), decide_eq_false (by omega)]
          simp only [utf_Reader_begins.j0, Bool.false_eq_true, if_false]
          rw [if_pos (by omega), decide_eq_false (by omega)]
          simp only [utf_Reader_begins.j1, Bool.false_eq_true, if_false]
          rw [if_pos (by omega), if_pos (by omega)]
          simp only [utf_Reader_begins.j2]
          rw [and7 h0 h1, w32 (by omega) (by omega)]
          unfold lo2 hi2
          rw [if_neg (show ¬ b = 224 by omega), if_neg (show ¬ b = 237 by omega), if_neg (show ¬ b = 224 by omega), if_neg (show ¬ b = 237 by omega)]
          by_cases d1 : b = 240
          · subst d1; rfl
          · rw [if_neg d1, if_neg d1]
            split <;> rfl
        · have e : nb b = 0 := by unfold nb; rw [if_neg c1, if_neg c2, if_neg c3, if_neg c4]
          have hR : pbeg m r b = ([65533], 0, m, r, 128, 191) := by unfold pbeg; rw [e]; rfl
          unfold utf_Reader_begins.f
          rw [hR, if_neg c1]
          by_cases d : b ≥ 194
          · rw [if_pos d, decide_eq_false (by omega)]
            simp only [utf_Reader_begins.j0, Bool.false_eq_true, if_false]
            rw [if_pos (by omega), decide_eq_false (by omega)]
            simp only [utf_Reader_begins.j1, Bool.false_eq_true, if_false]
            rw [if_pos (by omega), if_neg (by omega)]
          · rw [if_neg d]
            simp only [utf_Reader_begins.j0, Bool.false_eq_true, if_false]
            rw [if_neg (by omega)]
            simp only [utf_Reader_begins.j1, Bool.false_eq_true, if_false]
            rw [if_neg (by omega)]

theorem pbeg_len (m r b : Int) : (pbeg m r b).1.length ≤ 1 := by
  unfold pbeg
  (repeat' split) <;> simp

theorem put_at (k : Nat) (s : St) (b : Int) (g : Good s) (h0 : 0 ≤ b) (h1 : b ≤ 255) : utf_Reader_Put.f (k + 4) s.1 s.2.1 s.2.2.1 s.2.2.2.1 s.2.2.2.2 b = some (pput s b) := by
  obtain ⟨w, m, r, lo, hi⟩ := s
  unfold Good at g
  dsimp only at g ⊢
  have gl := pbeg_len m r b
  unfold utf_Reader_Put.f pput
  dsimp only
  by_cases c : w = 0
  · rw [if_pos c, if_pos c, begins_at (k + 1) _ _ _ _ _ _ h0 h1]
    rfl
  · rw [if_neg c, if_neg c]
    by_cases d : b < lo ∨ b > hi
    · rw [if_pos d]
      have e : (if b < lo then utf_Reader_Put.j0 (k + 4) b true w m r lo hi else utf_Reader_Put.j0 (k + 4) b (decide (b > hi)) w m r lo hi) = utf_Reader_Put.j0 (k + 4) b true w m r lo hi := by
        by_cases d1 : b < lo
        · rw [if_pos d1]
        · rw [if_neg d1, decide_eq_true (by omega)]
      rw [e]
      simp only [utf_Reader_Put.j0, if_true, utf_Reader_End.f, if_neg c, Option.bind_some]
      rw [begins_at k _ _ _ _ _ _ h0 h1]
      simp only [Option.bind_some]
      rw [if_pos (by simp only [List.length_cons, List.length_nil]; omega)]
      rfl
    · rw [if_neg d, if_neg (by omega), decide_eq_false (by omega)]
      obtain ⟨g1, g2, g3, g4, g5⟩ := g
      have e : Go.bits .or .i32 (wrap32 (r * 64)) (wrap32 (Go.bits .and .u8 b 63)) = r * 64 + b % 64 := by
        rw [and63 h0 h1, w32 (by omega) (by omega), w32 (by omega) (by omega)]
        exact i32_or6 _ _ (by omega) (by omega) (by omega) (by omega) (by omega)
      simp only [utf_Reader_Put.j0, Bool.false_eq_true, if_false]
      rw [e, w64 (x := m - 1) (by omega) (by omega), w64 (x := w + 1) (by omega) (by omega)]
      split <;> rfl

theorem pbeg_good (m r b : Int) (hm : 0 ≤ m ∧ m ≤ 3) (hr : 0 ≤ r ∧ r < 2097152) (h0 : 0 ≤ b) (h1 : b ≤ 255) : Good (pbeg m r b).2 := by
  unfold pbeg
  (repeat' split) <;> (unfold Good; dsimp only; omega)
theorem pput_good (s : St) (b : Int) (g : Good s) (h0 : 0 ≤ b) (h1 : b ≤ 255) : Good (pput s b).2 := by
  obtain ⟨w, m, r, lo, hi⟩ := s
  have g' := g
  unfold Good at g'
  unfold pput
  dsimp only at *
  split
  · exact pbeg_good m r b (by omega) (by omega) h0 h1
  · split
    · exact pbeg_good m r b (by omega) (by omega) h0 h1
    · split <;> (unfold Good; dsimp only; omega)

/-- bytes, one by one -/
def prun : St → List Int → List Int × St
  | s, [] => ([], s)
  | s, b :: l => ((pput s b).1 ++ (prun (pput s b).2 l).1, (prun (pput s b).2 l).2)

theorem prun_append (s : St) (l m : List Int) : prun s (l ++ m) = ((prun s l).1 ++ (prun (prun s l).2 m).1, (prun (prun s l).2 m).2) := by
  induction l generalizing s with
  | nil => rfl
  | cons b l ih => simp [prun, ih]
theorem prun_good (s : St) (l : List Int) (g : Good s) (h : ∀ b ∈ l, 0 ≤ b ∧ b ≤ 255) : Good (prun s l).2 := by
  induction l generalizing s with
  | nil => exact g
  | cons b l ih =>
    have hb := h b (by simp)
    exact ih _ (pput_good s b g hb.1 hb.2) (fun x hx => h x (by simp [hx]))

theorem nb_cases (b : Int) : nb b = 0 ∨ nb b = 1 ∨ nb b = 2 ∨ nb b = 3 ∨ nb b = 4 := by
  unfold nb
  (repeat' split) <;> simp
/-- what begins at rest -/
theorem rest_put (m r lo hi b : Int) : pput (0, m, r, lo, hi) b = pbeg m r b := by
  unfold pput
  rw [if_pos rfl]
theorem pbeg1 {m r b : Int} (h : nb b = 1) : pbeg m r b = ([b], 0, m, r, 128, 191) := by unfold pbeg; rw [h]; rfl
theorem pbeg0 {m r b : Int} (h : nb b = 0) : pbeg m r b = ([65533], 0, m, r, 128, 191) := by unfold pbeg; rw [h]; rfl
theorem pbeg2 {m r b : Int} (h : nb b = 2) : pbeg m r b = ([], 1, 1, b % 32, lo2 b, hi2 b) := by unfold pbeg; rw [h]; rfl
theorem pbeg3 {m r b : Int} (h : nb b = 3) : pbeg m r b = ([], 1, 2, b % 16, lo2 b, hi2 b) := by unfold pbeg; rw [h]; rfl
theorem pbeg4 {m r b : Int} (h : nb b = 4) : pbeg m r b = ([], 1, 3, b % 8, lo2 b, hi2 b) := by unfold pbeg; rw [h]; rfl
/-- a byte that does not go on: as if it came at rest, behind a Bad -/
theorem put_bad (w m r lo hi b : Int) (hw : w ≠ 0) (h : ¬ (lo ≤ b ∧ b ≤ hi)) : pput (w, m, r, lo, hi) b = (65533 :: (pbeg m r b).1, (pbeg m r b).2) := by
  unfold pput
  dsimp only
  rw [if_neg hw, if_pos (by omega)]
theorem put_more (w m r lo hi b : Int) (hw : w ≠ 0) (h : lo ≤ b ∧ b ≤ hi) (hm : 1 < m) : pput (w, m, r, lo, hi) b = ([], w + 1, m - 1, r * 64 + b % 64, 128, 191) := by
  unfold pput
  dsimp only
  rw [if_neg hw, if_neg (by omega), if_pos (by omega)]
theorem put_last (w m r lo hi b : Int) (hw : w ≠ 0) (h : lo ≤ b ∧ b ≤ hi) (hm : m ≤ 1) : pput (w, m, r, lo, hi) b = ([r * 64 + b % 64], 0, m - 1, r * 64 + b % 64, 128, 191) := by
  unfold pput
  dsimp only
  rw [if_neg hw, if_neg (by omega), if_neg (by omega)]
/-- the rest of bytes, behind one that does not go on -/
theorem run_bad (w m r lo hi b : Int) (l : List Int) (hw : w ≠ 0) (h : ¬ (lo ≤ b ∧ b ≤ hi)) : prun (w, m, r, lo, hi) (b :: l) = (65533 :: (prun (0, m, r, lo, hi) (b :: l)).1, (prun (0, m, r, lo, hi) (b :: l)).2) := by
  simp only [prun, put_bad w m r lo hi b hw h, rest_put]
  rfl

theorem run_dec : ∀ (n : Nat) (l : List Int), l.length ≤ n → ∀ m r lo hi, (prun (0, m, r, lo, hi) l).1 = (dec l).1 ∧ (prun (0, m, r, lo, hi) l).2.1 = ((dec l).2 : Nat)
  | _, [], _, m, r, lo, hi => by rw [dec.eq_def]; exact ⟨rfl, rfl⟩
  | 0, _ :: _, h, _, _, _, _ => absurd h (by simp)
  | n + 1, b0 :: t, h, m, r, lo, hi => by
    have ht : t.length ≤ n := by simpa using h
    rw [dec.eq_def (b0 :: t)]
    dsimp only
    simp only [prun, rest_put]
    rcases nb_cases b0 with e | e | e | e | e
    · rw [if_neg (by omega), if_pos e, pbeg0 e]
      have ih := run_dec n t ht m r 128 191
      exact ⟨by simp [cons1, ih.1], by simp [cons1, ih.2]⟩
    · rw [if_pos e, pbeg1 e]
      have ih := run_dec n t ht m r 128 191
      exact ⟨by simp [cons1, ih.1], by simp [cons1, ih.2]⟩
    · rw [if_neg (by omega), if_neg (by omega), pbeg2 e]
      cases t with
      | nil => exact ⟨rfl, rfl⟩
      | cons b1 t1 =>
        dsimp only
        by_cases c : lo2 b0 ≤ b1 ∧ b1 ≤ hi2 b0
        · rw [if_pos c, if_pos e]
          have ih := run_dec n t1 (by simp at ht; omega) (1 - 1) (b0 % 32 * 64 + b1 % 64) 128 191
          simp only [prun, put_last _ _ _ _ _ _ (show (1 : Int) ≠ 0 by decide) c (Int.le_refl 1)]
          exact ⟨by simp [cons1] at ih ⊢; exact ih.1, by simp [cons1] at ih ⊢; exact ih.2⟩
        · rw [if_neg c, run_bad _ _ _ _ _ _ _ (show (1 : Int) ≠ 0 by decide) c]
          have ih := run_dec n (b1 :: t1) ht 1 (b0 % 32) (lo2 b0) (hi2 b0)
          exact ⟨by simp [cons1, ih.1], by simp [cons1, ih.2]⟩
    · rw [if_neg (by omega), if_neg (by omega), pbeg3 e]
      cases t with
      | nil => exact ⟨rfl, rfl⟩
      | cons b1 t1 =>
        dsimp only
        by_cases c : lo2 b0 ≤ b1 ∧ b1 ≤ hi2 b0
        · rw [if_pos c, if_neg (by omega)]
          simp only [prun, put_more _ _ _ _ _ _ (show (1 : Int) ≠ 0 by decide) c (show (1 : Int) < 2 by decide)]
          cases t1 with
          | nil => exact ⟨rfl, rfl⟩
          | cons b2 t2 =>
            dsimp only
            by_cases c2 : 128 ≤ b2 ∧ b2 ≤ 191
            · rw [if_pos c2, if_pos e]
              have ih := run_dec n t2 (by simp at ht; omega) (2 - 1 - 1) ((b0 % 16 * 64 + b1 % 64) * 64 + b2 % 64) 128 191
              simp only [prun, put_last _ _ _ _ _ _ (show (1 + 1 : Int) ≠ 0 by decide) c2 (show (2 - 1 : Int) ≤ 1 by decide)]
              exact ⟨by simp [cons1] at ih ⊢; exact ih.1, by simp [cons1] at ih ⊢; exact ih.2⟩
            · rw [if_neg c2, run_bad _ _ _ _ _ _ _ (show (1 + 1 : Int) ≠ 0 by decide) c2]
              have ih := run_dec n (b2 :: t2) (by simp at ht ⊢; omega) (2 - 1) (b0 % 16 * 64 + b1 % 64) 128 191
              exact ⟨by simp only [cons1, List.nil_append, ih.1], by simp only [cons1, ih.2]⟩
        · rw [if_neg c, run_bad _ _ _ _ _ _ _ (show (1 : Int) ≠ 0 by decide) c]
          have ih := run_dec n (b1 :: t1) ht 2 (b0 % 16) (lo2 b0) (hi2 b0)
          exact ⟨by simp [cons1, ih.1], by simp [cons1, ih.2]⟩
    · rw [if_neg (by omega), if_neg (by omega), pbeg4 e]
      cases t with
      | nil => exact ⟨rfl, rfl⟩
      | cons b1 t1 =>
        dsimp only
        by_cases c : lo2 b0 ≤ b1 ∧ b1 ≤ hi2 b0
        · rw [if_pos c, if_neg (by omega)]
          simp only [prun, put_more _ _ _ _ _ _ (show (1 : Int) ≠ 0 by decide) c (show (1 : Int) < 3 by decide)]
          cases t1 with
          | nil => exact ⟨rfl, rfl⟩
          | cons b2 t2 =>
            dsimp only
            by_cases c2 : 128 ≤ b2 ∧ b2 ≤ 191
            · rw [if_pos c2, if_neg (by omega)]
              simp only [prun, put_more _ _ _ _ _ _ (show (1 + 1 : Int) ≠ 0 by decide) c2 (show (1 : Int) < 3 - 1 by decide)]
              cases t2 with
              | nil => exact ⟨rfl, rfl⟩
              | cons b3 t3 =>
                dsimp only
                by_cases c3 : 128 ≤ b3 ∧ b3 ≤ 191
                · rw [if_pos c3]
                  have ih := run_dec n t3 (by simp at ht; omega) (3 - 1 - 1 - 1) (((b0 % 8 * 64 + b1 % 64) * 64 + b2 % 64) * 64 + b3 % 64) 128 191
                  simp only [prun, put_last _ _ _ _ _ _ (show (1 + 1 + 1 : Int) ≠ 0 by decide) c3 (show (3 - 1 - 1 : Int) ≤ 1 by decide)]
                  exact ⟨by simp [cons1] at ih ⊢; exact ih.1, by simp [cons1] at ih ⊢; exact ih.2⟩
                · rw [if_neg c3, run_bad _ _ _ _ _ _ _ (show (1 + 1 + 1 : Int) ≠ 0 by decide) c3]
                  have ih := run_dec n (b3 :: t3) (by simp at ht ⊢; omega) (3 - 1 - 1) ((b0 % 8 * 64 + b1 % 64) * 64 + b2 % 64) 128 191
                  exact ⟨by simp only [cons1, List.nil_append, ih.1], by simp only [cons1, ih.2]⟩
            · rw [if_neg c2, run_bad _ _ _ _ _ _ _ (show (1 + 1 : Int) ≠ 0 by decide) c2]
              have ih := run_dec n (b2 :: t2) (by simp at ht ⊢; omega) (3 - 1) (b0 % 8 * 64 + b1 % 64) 128 191
              exact ⟨by simp only [cons1, List.nil_append, ih.1], by simp only [cons1, ih.2]⟩
        · rw [if_neg c, run_bad _ _ _ _ _ _ _ (show (1 : Int) ≠ 0 by decide) c]
          have ih := run_dec n (b1 :: t1) ht 3 (b0 % 8) (lo2 b0) (hi2 b0)
          exact ⟨by simp [cons1, ih.1], by simp [cons1, ih.2]⟩

end Go.Proofs.Ytohafoihegjlnaa.Pure

/- Helpers: all signs of a text, by the reader, are the plain function's. -/
namespace Go.Proofs.Ytohafoihegjlnaa.Pure
open Go.RowKit Go.Proofs.Ytohafoihegjlnaa.C Go.Proofs.YtohafoihegjlnaaW.PrintWords Go.Proofs.YtohafoihegjlnaaW.PrintLast

theorem bytes_range (s : ByteArray) : ∀ b ∈ bytesOf s, 0 ≤ b ∧ b ≤ 255 := by
  intro b hb
  unfold bytesOf at hb
  obtain ⟨c, _, rfl⟩ := List.mem_map.1 hb
  have := c.toNat_lt
  omega
theorem bt_get (s : ByteArray) (i : Nat) (h : i < s.size) : bt s (i : Int) = (bytesOf s)[i]'(by rw [bytesOf_length]; exact h) := by
  rw [← rd_bytesOf]
  unfold rd
  have h2 : i < (bytesOf s).length := by rw [bytesOf_length]; exact h
  simp [List.getD_eq_getElem?_getD, List.getElem?_eq_getElem h2]
theorem drop_bt (s : ByteArray) (i : Nat) (h : i < s.size) : (bytesOf s).drop i = bt s (i : Int) :: (bytesOf s).drop (i + 1) := by
  rw [bt_get s i h, List.drop_eq_getElem_cons (by rw [bytesOf_length]; exact h)]
theorem pput_len (s : St) (b : Int) : (pput s b).1.length ≤ 2 := by
  have := pbeg_len s.2.1 s.2.2.1 b
  unfold pput
  (repeat' split) <;> simp <;> omega
theorem put_ge (k : Nat) (s : St) (b : Int) (hk : 4 ≤ k) (g : Good s) (h0 : 0 ≤ b) (h1 : b ≤ 255) : utf_Reader_Put.f k s.1 s.2.1 s.2.2.1 s.2.2.2.1 s.2.2.2.2 b = some (pput s b) := by
  obtain ⟨m, rfl⟩ : ∃ m, k = m + 4 := ⟨k - 4, by omega⟩
  exact put_at m s b g h0 h1
/-- what is told at the end -/
def fin (s : St) : List Int := if s.1 = 0 then [] else [65533]

theorem all_at (s : ByteArray) (hs : s.size ≤ 1000000) : ∀ (d i : Nat) (out : List Int) (st : St) (k : Nat), i + d = s.size → d + 6 ≤ k → Good st → out.length ≤ 2 * i →
    utf_All.l0 k s out (s.size : Int) (i : Int) st.1 st.2.1 st.2.2.1 st.2.2.2.1 st.2.2.2.2 = some (out ++ ((prun st ((bytesOf s).drop i)).1 ++ fin (prun st ((bytesOf s).drop i)).2)) := by
  intro d
  induction d with
  | zero =>
    intro i out st k hi hk g ho
    obtain ⟨k, rfl⟩ : ∃ m, k = m + 1 := ⟨k - 1, by omega⟩
    have e : (bytesOf s).drop i = [] := List.drop_of_length_le (by rw [bytesOf_length]; omega)
    rw [e]
    simp only [utf_All.l0, prun, List.nil_append]
    rw [if_neg (by omega)]
    unfold utf_Reader_End.f fin
    by_cases c : st.1 = 0
    · rw [if_pos c, if_pos c]
      simp only [Option.bind_some, List.append_nil, List.length_nil]
      rw [if_pos (by omega)]
    · rw [if_neg c, if_neg c]
      simp only [Option.bind_some, List.length_cons, List.length_nil]
      rw [if_pos (by omega)]
  | succ d ih =>
    intro i out st k hi hk g ho
    obtain ⟨k, rfl⟩ : ∃ m, k = m + 1 := ⟨k - 1, by omega⟩
    have hb := bt_range s (i : Int)
    have hlt : i < s.size := by omega
    rw [drop_bt s i hlt]
    simp only [utf_All.l0, prun]
    rw [if_pos (by omega), if_pos (by omega), if_pos (by omega), put_ge k st _ (by omega) g hb.1 hb.2]
    simp only [Option.bind_some]
    have hl := pput_len st (bt s (i : Int))
    rw [if_pos (by omega), w64 (by omega) (by omega)]
    have := ih (i + 1) (out ++ (pput st (bt s (i : Int))).1) (pput st (bt s (i : Int))).2 k (by omega) (by omega) (pput_good st _ g hb.1 hb.2) (by rw [List.length_append]; omega)
    rw [show ((i : Int) + 1) = ((i + 1 : Nat) : Int) from rfl, this]
    simp only [List.append_assoc]
theorem rest_good : Good ((0, 0, 0, 0, 0) : St) := by unfold Good; decide
/-- all signs -/
def alls (l : List Int) : List Int := (dec l).1 ++ if (dec l).2 = 0 then [] else [65533]
theorem fin_eq (l : List Int) (m r lo hi : Int) : fin (prun (0, m, r, lo, hi) l).2 = if (dec l).2 = 0 then [] else [65533] := by
  have h := run_dec l.length l (Nat.le_refl _) m r lo hi
  unfold fin
  rw [h.2]
  by_cases c : (dec l).2 = 0
  · rw [if_pos c, if_pos (by omega)]
  · rw [if_neg c, if_neg (by omega)]
theorem all_ev (s : ByteArray) (hs : s.size ≤ 1000000) : Ev (fun k => utf_All.f k s) (alls (bytesOf s)) := by
  refine ⟨s.size + 6, fun k hk => ?_⟩
  unfold utf_All.f
  have h := all_at s hs s.size 0 [] (0, 0, 0, 0, 0) k (by omega) hk rest_good (by simp)
  rw [show ((0 : Nat) : Int) = 0 from rfl] at h
  refine h.trans ?_
  simp only [List.drop_zero, List.nil_append]
  rw [fin_eq, (run_dec _ _ (Nat.le_refl _) 0 0 0 0).1]
  rfl

theorem eq_at (l : List Int) (hl : l.length ≤ 1000000000) : ∀ (d i k : Nat), i + d = l.length → d < k → rotuluslaw1_eq.l0 k l l (i : Int) = some true := by
  intro d
  induction d with
  | zero =>
    intro i k hi hk
    obtain ⟨k, rfl⟩ : ∃ m, k = m + 1 := ⟨k - 1, by omega⟩
    simp only [rotuluslaw1_eq.l0]
    rw [if_neg (by omega)]
  | succ d ih =>
    intro i k hi hk
    obtain ⟨k, rfl⟩ : ∃ m, k = m + 1 := ⟨k - 1, by omega⟩
    simp only [rotuluslaw1_eq.l0]
    rw [if_pos (by omega), if_pos (by omega), if_pos (by omega), if_pos trivial, w64 (by omega) (by omega)]
    exact ih (i + 1) k (by omega) (by omega)
theorem eq_ev (l : List Int) (hl : l.length ≤ 1000000000) : Ev (fun k => rotuluslaw1_eq.f k l l) true :=
  ⟨l.length + 1, fun k hk => by
    unfold rotuluslaw1_eq.f
    dsimp only
    rw [if_pos rfl]
    exact eq_at l hl l.length 0 k (by omega) (by omega)⟩

theorem dec_len : ∀ (n : Nat) (l : List Int), l.length ≤ n → (dec l).1.length + (dec l).2 ≤ l.length
  | _, [], _ => by rw [dec.eq_def]; simp
  | 0, _ :: _, h => absurd h (by simp)
  | n + 1, b0 :: t, h => by
    have ht : t.length ≤ n := by simpa using h
    rw [dec.eq_def]
    dsimp only
    have i0 := dec_len n t ht
    split
    · simp [cons1]; omega
    · split
      · simp [cons1]; omega
      · split
        · simp
        · rename_i b1 t1
          have i1 := dec_len n t1 (by simp at ht; omega)
          split
          · split
            · simp [cons1]; omega
            · split
              · simp
              · rename_i b2 t2
                have i2 := dec_len n t2 (by simp at ht; omega)
                have i2' := dec_len n (b2 :: t2) (by simp at ht ⊢; omega)
                split
                · split
                  · simp [cons1]; omega
                  · split
                    · simp
                    · rename_i b3 t3
                      have i3 := dec_len n t3 (by simp at ht; omega)
                      have i3' := dec_len n (b3 :: t3) (by simp at ht ⊢; omega)
                      split
                      · simp [cons1]; omega
                      · simp [cons1] at i3' ⊢; omega
                · simp [cons1] at i2' ⊢; omega
          · simp [cons1] at i0 ⊢; omega
theorem alls_len (l : List Int) : (alls l).length ≤ l.length := by
  have := dec_len l.length l (Nat.le_refl _)
  unfold alls
  split <;> simp <;> omega
theorem short_at (s : ByteArray) (n : Int) (hn : 0 ≤ n) : rotuluslaw1_Short.f s n = some (s.extract 0 (mn (s.size : Int) n).toNat) := by
  unfold rotuluslaw1_Short.f
  have : 0 ≤ mn (s.size : Int) n ∧ mn (s.size : Int) n ≤ s.size := by unfold mn; split <;> omega
  rw [if_pos this.1, if_pos this.2]
theorem short_size (s : ByteArray) (n : Int) (hn : 0 ≤ n) : ((s.extract 0 (mn (s.size : Int) n).toNat).size : Int) ≤ n := by
  rw [ByteArray.size_extract]
  unfold mn
  split <;> omega

end Go.Proofs.Ytohafoihegjlnaa.Pure
