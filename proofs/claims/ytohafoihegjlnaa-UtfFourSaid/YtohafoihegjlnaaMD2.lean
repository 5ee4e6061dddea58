import Derived.Test.YtohafoihegjlnaaMD1
import Derived.Test.YtohafoihegjlnaaCx30
import Derived.Test.YtohafoihegjlnaaCx9
import Derived.Test.YtohafoihegjlnaaCx32
set_option linter.unusedVariables false
set_option linter.unusedSimpArgs false
/- Helpers: the reference's signs of a text are the plain function's. -/
namespace Go.Proofs.Ytohafoihegjlnaa.Pure
open Go.RowKit Go.Proofs.Ytohafoihegjlnaa.C Go.Proofs.YtohafoihegjlnaaW.PrintWords Go.Proofs.YtohafoihegjlnaaW.PrintLast

/-- how many bytes are as a form has them -/
def cntm : List Int → List Int → List Int → Nat
  | lo :: los, hi :: his, b :: bs => if lo ≤ b ∧ b ≤ hi then 1 + cntm los his bs else 0
  | _, _, _ => 0
theorem cntm_le : ∀ (los his bs : List Int), cntm los his bs ≤ los.length ∧ cntm los his bs ≤ bs.length
  | [], _, _ => by simp [cntm]
  | _ :: _, [], _ => by simp [cntm]
  | _ :: _, _ :: _, [] => by simp [cntm]
  | lo :: los, hi :: his, b :: bs => by
    have := cntm_le los his bs
    simp only [cntm, List.length_cons]
    split <;> omega
theorem cntm_in : ∀ (los his bs : List Int) (j : Nat), j < cntm los his bs → los.getD j 0 ≤ bs.getD j 0 ∧ bs.getD j 0 ≤ his.getD j 0
  | [], _, _, j, h => by simp [cntm] at h
  | _ :: _, [], _, j, h => by simp [cntm] at h
  | _ :: _, _ :: _, [], j, h => by simp [cntm] at h
  | lo :: los, hi :: his, b :: bs, j, h => by
    simp only [cntm] at h
    split at h
    · rename_i c
      cases j with
      | zero => simpa using c
      | succ j => simpa using cntm_in los his bs j (by omega)
    · omega
theorem cntm_out : ∀ (los his bs : List Int), los.length = his.length → cntm los his bs < los.length → cntm los his bs < bs.length →
    ¬ (los.getD (cntm los his bs) 0 ≤ bs.getD (cntm los his bs) 0 ∧ bs.getD (cntm los his bs) 0 ≤ his.getD (cntm los his bs) 0)
  | [], _, _, _, h, _ => by simp [cntm] at h
  | _ :: _, [], _, e, _, _ => by simp at e
  | _ :: _, _ :: _, [], _, _, h => by simp [cntm] at h
  | lo :: los, hi :: his, b :: bs, e, h1, h2 => by
    simp only [cntm] at h1 h2 ⊢
    split
    · rename_i c
      rw [if_pos c] at h1 h2
      have := cntm_out los his bs (by simpa using e) (by simp at h1; omega) (by simp at h2; omega)
      simpa [Nat.add_comm 1] using this
    · rename_i c
      simpa using c

/-- one after the other -/
def pone (L : List Int) : Nat → List S75 → Nat × Bool
  | best, [] => (best, false)
  | best, F :: fs => if cntm F.f0 F.f1 L = F.f0.length then (cntm F.f0 F.f1 L, true) else pone L (max best (cntm F.f0 F.f1 L)) fs
theorem mx_nat (a b : Nat) : mx (a : Int) (b : Int) = ((max a b : Nat) : Int) := by unfold mx; split <;> omega

theorem l1_ev (s : ByteArray) (hs : s.size ≤ 1000000) (fs : List S75) (best i : Nat) (hi : i < fs.length) (hf : fs.length ≤ 100) (F : S75) (hF : rd_T75 fs (i : Int) = F) (hl : F.f0.length = F.f1.length) (r : Int × Bool)
    (hr : Ev (fun k => if cntm F.f0 F.f1 (bytesOf s) = F.f0.length then some ((cntm F.f0 F.f1 (bytesOf s) : Int), true) else rotulusref1_One.l0 k s fs ((max best (cntm F.f0 F.f1 (bytesOf s)) : Nat) : Int) ((i + 1 : Nat) : Int)) r) :
    ∀ (d j : Nat), j + d = cntm F.f0 F.f1 (bytesOf s) → Ev (fun k => rotulusref1_One.l1 k s fs (best : Int) (i : Int) (j : Int)) r := by
  have hc := cntm_le F.f0 F.f1 (bytesOf s)
  rw [bytesOf_length] at hc
  have hbt : ∀ j : Nat, j < s.size → bt s (j : Int) = (bytesOf s).getD j 0 := fun j hj => by rw [← rd_bytesOf]; rfl
  have hrd : ∀ (l : List Int) (j : Nat), rd l (j : Int) = l.getD j 0 := fun l j => rfl
  intro d
  induction d with
  | zero =>
    intro j hj
    refine Ev.step (f := fun k => if cntm F.f0 F.f1 (bytesOf s) = F.f0.length then some ((cntm F.f0 F.f1 (bytesOf s) : Int), true) else rotulusref1_One.l0 k s fs ((max best (cntm F.f0 F.f1 (bytesOf s)) : Nat) : Int) ((i + 1 : Nat) : Int)) (fun k => ?_) hr
    have hj' : j = cntm F.f0 F.f1 (bytesOf s) := by omega
    simp only [rotulusref1_One.l1, hF]
    rw [if_pos (by omega), if_pos (by omega), w64 (x := (i : Int) + 1) (by omega) (by omega), mx_nat, ← hj']
    have tail : (if (j : Int) = (F.f0.length : Int) then some ((j : Int), true) else rotulusref1_One.l0 k s fs ((max best j : Nat) : Int) ((i : Int) + 1)) = if j = F.f0.length then some ((j : Int), true) else rotulusref1_One.l0 k s fs ((max best j : Nat) : Int) ((i + 1 : Nat) : Int) := by
      by_cases e : j = F.f0.length
      · rw [if_pos e, if_pos (by omega)]
      · rw [if_neg e, if_neg (by omega)]; rfl
    by_cases c1 : j < F.f0.length
    · rw [if_pos (by omega)]
      by_cases c2 : j < s.size
      · have ho := cntm_out F.f0 F.f1 (bytesOf s) hl (by omega) (by rw [bytesOf_length]; omega)
        rw [← hj'] at ho
        rw [if_pos (by omega), if_pos (by omega), hbt j c2, hrd, hrd]
        by_cases c3 : (bytesOf s).getD j 0 ≥ F.f0.getD j 0
        · rw [if_pos c3, if_pos (by omega), if_neg (fun h => ho ⟨c3, h⟩), tail]
        · rw [if_neg c3, tail]
      · rw [if_neg (by omega), tail]
    · rw [if_neg (by omega), tail]
  | succ d ih =>
    intro j hj
    refine Ev.step (f := fun k => rotulusref1_One.l1 k s fs (best : Int) (i : Int) ((j + 1 : Nat) : Int)) (fun k => ?_) (ih (j + 1) (by omega))
    have hin := cntm_in F.f0 F.f1 (bytesOf s) j (by omega)
    simp only [rotulusref1_One.l1, hF]
    rw [if_pos (by omega), if_pos (by omega), if_pos (by omega), if_pos (by omega), if_pos (by omega), hbt j (by omega), hrd, hrd, if_pos hin.1, if_pos (by omega), if_pos hin.2, w64 (x := (j : Int) + 1) (by omega) (by omega)]
    rfl
theorem l0_ev (s : ByteArray) (hs : s.size ≤ 1000000) (fs : List S75) (hf : fs.length ≤ 100) (hl : ∀ F ∈ fs, F.f0.length = F.f1.length) :
    ∀ (d i best : Nat), i + d = fs.length → Ev (fun k => rotulusref1_One.l0 k s fs (best : Int) (i : Int)) (((pone (bytesOf s) best (fs.drop i)).1 : Int), (pone (bytesOf s) best (fs.drop i)).2) := by
  intro d
  induction d with
  | zero =>
    intro i best hi
    refine Ev.step (f := fun k => some ((best : Int), false)) (fun k => ?_) ?_
    · simp only [rotulusref1_One.l0]
      rw [if_neg (by omega)]
    · rw [List.drop_of_length_le (by omega)]
      exact Ev.now _
  | succ d ih =>
    intro i best hi
    have hlt : i < fs.length := by omega
    refine Ev.step (f := fun k => rotulusref1_One.l1 k s fs (best : Int) (i : Int) ((0 : Nat) : Int)) (fun k => ?_) ?_
    · simp only [rotulusref1_One.l0]
      rw [if_pos (by omega)]
      rfl
    · rw [List.drop_eq_getElem_cons hlt]
      have hF : rd_T75 fs (i : Int) = fs[i] := by simp [rd_T75, hlt]
      refine l1_ev s hs fs best i hlt hf fs[i] hF (hl _ (List.getElem_mem hlt)) _ ?_ (cntm fs[i].f0 fs[i].f1 (bytesOf s)) 0 (by omega)
      simp only [pone]
      by_cases c : cntm fs[i].f0 fs[i].f1 (bytesOf s) = fs[i].f0.length
      · rw [if_pos c]
        refine ⟨0, fun k _ => ?_⟩
        dsimp only
        rw [if_pos c]
      · rw [if_neg c]
        obtain ⟨K, hK⟩ := ih (i + 1) (max best (cntm fs[i].f0 fs[i].f1 (bytesOf s))) (by omega)
        refine ⟨K, fun k hk => ?_⟩
        dsimp only
        rw [if_neg c]
        exact hK k hk

/-- how many bytes begin a form; is it whole -/
def mc : List Int → Nat × Bool
  | [] => (0, false)
  | b0 :: t =>
    if nb b0 = 1 then (1, true) else if nb b0 = 0 then (0, false)
    else match t with
      | [] => (1, false)
      | b1 :: t1 =>
        if lo2 b0 ≤ b1 ∧ b1 ≤ hi2 b0 then
          if nb b0 = 2 then (2, true)
          else match t1 with
            | [] => (2, false)
            | b2 :: t2 =>
              if 128 ≤ b2 ∧ b2 ≤ 191 then
                if nb b0 = 3 then (3, true)
                else match t2 with
                  | [] => (3, false)
                  | b3 :: _ => if 128 ≤ b3 ∧ b3 ≤ 191 then (4, true) else (3, false)
              else (2, false)
        else (1, false)
def formsL : List S75 := [⟨[0], [127]⟩, ⟨[194, 128], [223, 191]⟩, ⟨[224, 160, 128], [224, 191, 191]⟩, ⟨[225, 128, 128], [236, 191, 191]⟩, ⟨[237, 128, 128], [237, 159, 191]⟩, ⟨[238, 128, 128], [239, 191, 191]⟩, ⟨[240, 144, 128, 128], [240, 191, 191, 191]⟩, ⟨[241, 128, 128, 128], [243, 191, 191, 191]⟩, ⟨[244, 128, 128, 128], [244, 143, 191, 191]⟩]

theorem c1_nil (lo hi : Int) (los his : List Int) : cntm (lo :: los) (hi :: his) [] = 0 := rfl
theorem c0_nil (bs : List Int) : cntm [] [] bs = 0 := by cases bs <;> rfl
theorem one_mc (b0 : Int) (t : List Int) (h0 : 0 ≤ b0) (h1 : b0 ≤ 255) : pone (b0 :: t) 0 formsL = mc (b0 :: t) := by
  unfold formsL mc
  dsimp only
  by_cases k0 : 0 ≤ b0 ∧ b0 ≤ 127
  · have e : nb b0 = 1 := by unfold nb; rw [if_pos (by omega)]
    rw [e]
    have q0 : 0 ≤ b0 ∧ b0 ≤ 127 := by omega
    have q1 : ¬ (194 ≤ b0 ∧ b0 ≤ 223) := by omega
    have q2 : ¬ (224 ≤ b0 ∧ b0 ≤ 224) := by omega
    have q3 : ¬ (225 ≤ b0 ∧ b0 ≤ 236) := by omega
    have q4 : ¬ (237 ≤ b0 ∧ b0 ≤ 237) := by omega
    have q5 : ¬ (238 ≤ b0 ∧ b0 ≤ 239) := by omega
    have q6 : ¬ (240 ≤ b0 ∧ b0 ≤ 240) := by omega
    have q7 : ¬ (241 ≤ b0 ∧ b0 ≤ 243) := by omega
    have q8 : ¬ (244 ≤ b0 ∧ b0 ≤ 244) := by omega
    simp only [pone, cntm, if_pos q0, if_neg q1, if_neg q2, if_neg q3, if_neg q4, if_neg q5, if_neg q6, if_neg q7, if_neg q8]
    simp [c0_nil]
  by_cases k1 : 194 ≤ b0 ∧ b0 ≤ 223
  · have e : nb b0 = 2 := by unfold nb; rw [if_neg (by omega), if_pos (by omega)]
    have l : lo2 b0 = 128 := by unfold lo2; rw [if_neg (by omega), if_neg (by omega)]
    have g : hi2 b0 = 191 := by unfold hi2; rw [if_neg (by omega), if_neg (by omega)]
    rw [e, l, g]
    have q0 : ¬ (0 ≤ b0 ∧ b0 ≤ 127) := by omega
    have q1 : 194 ≤ b0 ∧ b0 ≤ 223 := by omega
    have q2 : ¬ (224 ≤ b0 ∧ b0 ≤ 224) := by omega
    have q3 : ¬ (225 ≤ b0 ∧ b0 ≤ 236) := by omega
    have q4 : ¬ (237 ≤ b0 ∧ b0 ≤ 237) := by omega
    have q5 : ¬ (238 ≤ b0 ∧ b0 ≤ 239) := by omega
    have q6 : ¬ (240 ≤ b0 ∧ b0 ≤ 240) := by omega
    have q7 : ¬ (241 ≤ b0 ∧ b0 ≤ 243) := by omega
    have q8 : ¬ (244 ≤ b0 ∧ b0 ≤ 244) := by omega
    simp only [pone, cntm, if_neg q0, if_pos q1, if_neg q2, if_neg q3, if_neg q4, if_neg q5, if_neg q6, if_neg q7, if_neg q8]
    cases t with
    | nil => rfl
    | cons b1 t1 =>
      simp only [cntm, c0_nil]
      by_cases c : 128 ≤ b1 ∧ b1 ≤ 191
      · simp [c]
      · simp [c]
  by_cases k2 : 224 ≤ b0 ∧ b0 ≤ 224
  · have e : nb b0 = 3 := by unfold nb; rw [if_neg (by omega), if_neg (by omega), if_pos (by omega)]
    have l : lo2 b0 = 160 := by unfold lo2; rw [if_pos (by omega)]
    have g : hi2 b0 = 191 := by unfold hi2; rw [if_neg (by omega), if_neg (by omega)]
    rw [e, l, g]
    have q0 : ¬ (0 ≤ b0 ∧ b0 ≤ 127) := by omega
    have q1 : ¬ (194 ≤ b0 ∧ b0 ≤ 223) := by omega
    have q2 : 224 ≤ b0 ∧ b0 ≤ 224 := by omega
    have q3 : ¬ (225 ≤ b0 ∧ b0 ≤ 236) := by omega
    have q4 : ¬ (237 ≤ b0 ∧ b0 ≤ 237) := by omega
    have q5 : ¬ (238 ≤ b0 ∧ b0 ≤ 239) := by omega
    have q6 : ¬ (240 ≤ b0 ∧ b0 ≤ 240) := by omega
    have q7 : ¬ (241 ≤ b0 ∧ b0 ≤ 243) := by omega
    have q8 : ¬ (244 ≤ b0 ∧ b0 ≤ 244) := by omega
    simp only [pone, cntm, if_neg q0, if_neg q1, if_pos q2, if_neg q3, if_neg q4, if_neg q5, if_neg q6, if_neg q7, if_neg q8]
    cases t with
    | nil => rfl
    | cons b1 t1 =>
      simp only [cntm, c0_nil]
      by_cases c : 160 ≤ b1 ∧ b1 ≤ 191
      · simp only [if_pos c]
        cases t1 with
        | nil => rfl
        | cons b2 t2 =>
          simp only [cntm, c0_nil]
          by_cases c2 : 128 ≤ b2 ∧ b2 ≤ 191
          · simp [c2]
          · simp [c2]
      · simp [c]
  by_cases k3 : 225 ≤ b0 ∧ b0 ≤ 236
  · have e : nb b0 = 3 := by unfold nb; rw [if_neg (by omega), if_neg (by omega), if_pos (by omega)]
    have l : lo2 b0 = 128 := by unfold lo2; rw [if_neg (by omega), if_neg (by omega)]
    have g : hi2 b0 = 191 := by unfold hi2; rw [if_neg (by omega), if_neg (by omega)]
    rw [e, l, g]
    have q0 : ¬ (0 ≤ b0 ∧ b0 ≤ 127) := by omega
    have q1 : ¬ (194 ≤ b0 ∧ b0 ≤ 223) := by omega
    have q2 : ¬ (224 ≤ b0 ∧ b0 ≤ 224) := by omega
    have q3 : 225 ≤ b0 ∧ b0 ≤ 236 := by omega
    have q4 : ¬ (237 ≤ b0 ∧ b0 ≤ 237) := by omega
    have q5 : ¬ (238 ≤ b0 ∧ b0 ≤ 239) := by omega
    have q6 : ¬ (240 ≤ b0 ∧ b0 ≤ 240) := by omega
    have q7 : ¬ (241 ≤ b0 ∧ b0 ≤ 243) := by omega
    have q8 : ¬ (244 ≤ b0 ∧ b0 ≤ 244) := by omega
    simp only [pone, cntm, if_neg q0, if_neg q1, if_neg q2, if_pos q3, if_neg q4, if_neg q5, if_neg q6, if_neg q7, if_neg q8]
    cases t with
    | nil => rfl
    | cons b1 t1 =>
      simp only [cntm, c0_nil]
      by_cases c : 128 ≤ b1 ∧ b1 ≤ 191
      · simp only [if_pos c]
        cases t1 with
        | nil => rfl
        | cons b2 t2 =>
          simp only [cntm, c0_nil]
          by_cases c2 : 128 ≤ b2 ∧ b2 ≤ 191
          · simp [c2]
          · simp [c2]
      · simp [c]
  by_cases k4 : 237 ≤ b0 ∧ b0 ≤ 237
  · have e : nb b0 = 3 := by unfold nb; rw [if_neg (by omega), if_neg (by omega), if_pos (by omega)]
    have l : lo2 b0 = 128 := by unfold lo2; rw [if_neg (by omega), if_neg (by omega)]
    have g : hi2 b0 = 159 := by unfold hi2; rw [if_pos (by omega)]
    rw [e, l, g]
    have q0 : ¬ (0 ≤ b0 ∧ b0 ≤ 127) := by omega
    have q1 : ¬ (194 ≤ b0 ∧ b0 ≤ 223) := by omega
    have q2 : ¬ (224 ≤ b0 ∧ b0 ≤ 224) := by omega
    have q3 : ¬ (225 ≤ b0 ∧ b0 ≤ 236) := by omega
    have q4 : 237 ≤ b0 ∧ b0 ≤ 237 := by omega
    have q5 : ¬ (238 ≤ b0 ∧ b0 ≤ 239) := by omega
    have q6 : ¬ (240 ≤ b0 ∧ b0 ≤ 240) := by omega
    have q7 : ¬ (241 ≤ b0 ∧ b0 ≤ 243) := by omega
    have q8 : ¬ (244 ≤ b0 ∧ b0 ≤ 244) := by omega
    simp only [pone, cntm, if_neg q0, if_neg q1, if_neg q2, if_neg q3, if_pos q4, if_neg q5, if_neg q6, if_neg q7, if_neg q8]
    cases t with
    | nil => rfl
    | cons b1 t1 =>
      simp only [cntm, c0_nil]
      by_cases c : 128 ≤ b1 ∧ b1 ≤ 159
      · simp only [if_pos c]
        cases t1 with
        | nil => rfl
        | cons b2 t2 =>
          simp only [cntm, c0_nil]
          by_cases c2 : 128 ≤ b2 ∧ b2 ≤ 191
          · simp [c2]
          · simp [c2]
      · simp [c]
  by_cases k5 : 238 ≤ b0 ∧ b0 ≤ 239
  · have e : nb b0 = 3 := by unfold nb; rw [if_neg (by omega), if_neg (by omega), if_pos (by omega)]
    have l : lo2 b0 = 128 := by unfold lo2; rw [if_neg (by omega), if_neg (by omega)]
    have g : hi2 b0 = 191 := by unfold hi2; rw [if_neg (by omega), if_neg (by omega)]
    rw [e, l, g]
    have q0 : ¬ (0 ≤ b0 ∧ b0 ≤ 127) := by omega
    have q1 : ¬ (194 ≤ b0 ∧ b0 ≤ 223) := by omega
    have q2 : ¬ (224 ≤ b0 ∧ b0 ≤ 224) := by omega
    have q3 : ¬ (225 ≤ b0 ∧ b0 ≤ 236) := by omega
    have q4 : ¬ (237 ≤ b0 ∧ b0 ≤ 237) := by omega
    have q5 : 238 ≤ b0 ∧ b0 ≤ 239 := by omega
    have q6 : ¬ (240 ≤ b0 ∧ b0 ≤ 240) := by omega
    have q7 : ¬ (241 ≤ b0 ∧ b0 ≤ 243) := by omega
    have q8 : ¬ (244 ≤ b0 ∧ b0 ≤ 244) := by omega
    simp only [pone, cntm, if_neg q0, if_neg q1, if_neg q2, if_neg q3, if_neg q4, if_pos q5, if_neg q6, if_neg q7, if_neg q8]
    cases t with
    | nil => rfl
    | cons b1 t1 =>
      simp only [cntm, c0_nil]
      by_cases c : 128 ≤ b1 ∧ b1 ≤ 191
      · simp only [if_pos c]
        cases t1 with
        | nil => rfl
        | cons b2 t2 =>
          simp only [cntm, c0_nil]
          by_cases c2 : 128 ≤ b2 ∧ b2 ≤ 191
          · simp [c2]
          · simp [c2]
      · simp [c]
  by_cases k6 : 240 ≤ b0 ∧ b0 ≤ 240
  · have e : nb b0 = 4 := by unfold nb; rw [if_neg (by omega), if_neg (by omega), if_neg (by omega), if_pos (by omega)]
    have l : lo2 b0 = 144 := by unfold lo2; rw [if_neg (by omega), if_pos (by omega)]
    have g : hi2 b0 = 191 := by unfold hi2; rw [if_neg (by omega), if_neg (by omega)]
    rw [e, l, g]
    have q0 : ¬ (0 ≤ b0 ∧ b0 ≤ 127) := by omega
    have q1 : ¬ (194 ≤ b0 ∧ b0 ≤ 223) := by omega
    have q2 : ¬ (224 ≤ b0 ∧ b0 ≤ 224) := by omega
    have q3 : ¬ (225 ≤ b0 ∧ b0 ≤ 236) := by omega
    have q4 : ¬ (237 ≤ b0 ∧ b0 ≤ 237) := by omega
    have q5 : ¬ (238 ≤ b0 ∧ b0 ≤ 239) := by omega
    have q6 : 240 ≤ b0 ∧ b0 ≤ 240 := by omega
    have q7 : ¬ (241 ≤ b0 ∧ b0 ≤ 243) := by omega
    have q8 : ¬ (244 ≤ b0 ∧ b0 ≤ 244) := by omega
    simp only [pone, cntm, if_neg q0, if_neg q1, if_neg q2, if_neg q3, if_neg q4, if_neg q5, if_pos q6, if_neg q7, if_neg q8]
    cases t with
    | nil => rfl
    | cons b1 t1 =>
      simp only [cntm, c0_nil]
      by_cases c : 144 ≤ b1 ∧ b1 ≤ 191
      · simp only [if_pos c]
        cases t1 with
        | nil => rfl
        | cons b2 t2 =>
          simp only [cntm, c0_nil]
          by_cases c2 : 128 ≤ b2 ∧ b2 ≤ 191
          · simp only [if_pos c2]
            cases t2 with
            | nil => rfl
            | cons b3 t3 =>
              simp only [cntm, c0_nil]
              by_cases c3 : 128 ≤ b3 ∧ b3 ≤ 191
              · simp [c3]
              · simp [c3]
          · simp [c2]
      · simp [c]
  by_cases k7 : 241 ≤ b0 ∧ b0 ≤ 243
  · have e : nb b0 = 4 := by unfold nb; rw [if_neg (by omega), if_neg (by omega), if_neg (by omega), if_pos (by omega)]
    have l : lo2 b0 = 128 := by unfold lo2; rw [if_neg (by omega), if_neg (by omega)]
    have g : hi2 b0 = 191 := by unfold hi2; rw [if_neg (by omega), if_neg (by omega)]
    rw [e, l, g]
    have q0 : ¬ (0 ≤ b0 ∧ b0 ≤ 127) := by omega
    have q1 : ¬ (194 ≤ b0 ∧ b0 ≤ 223) := by omega
    have q2 : ¬ (224 ≤ b0 ∧ b0 ≤ 224) := by omega
    have q3 : ¬ (225 ≤ b0 ∧ b0 ≤ 236) := by omega
    have q4 : ¬ (237 ≤ b0 ∧ b0 ≤ 237) := by omega
    have q5 : ¬ (238 ≤ b0 ∧ b0 ≤ 239) := by omega
    have q6 : ¬ (240 ≤ b0 ∧ b0 ≤ 240) := by omega
    have q7 : 241 ≤ b0 ∧ b0 ≤ 243 := by omega
    have q8 : ¬ (244 ≤ b0 ∧ b0 ≤ 244) := by omega
    simp only [pone, cntm, if_neg q0, if_neg q1, if_neg q2, if_neg q3, if_neg q4, if_neg q5, if_neg q6, if_pos q7, if_neg q8]
    cases t with
    | nil => rfl
    | cons b1 t1 =>
      simp only [cntm, c0_nil]
      by_cases c : 128 ≤ b1 ∧ b1 ≤ 191
      · simp only [if_pos c]
        cases t1 with
        | nil => rfl
        | cons b2 t2 =>
          simp only [cntm, c0_nil]
          by_cases c2 : 128 ≤ b2 ∧ b2 ≤ 191
          · simp only [if_pos c2]
            cases t2 with
            | nil => rfl
            | cons b3 t3 =>
              simp only [cntm, c0_nil]
              by_cases c3 : 128 ≤ b3 ∧ b3 ≤ 191
              · simp [c3]
              · simp [c3]
          · simp [c2]
      · simp [c]
  by_cases k8 : 244 ≤ b0 ∧ b0 ≤ 244
  · have e : nb b0 = 4 := by unfold nb; rw [if_neg (by omega), if_neg (by omega), if_neg (by omega), if_pos (by omega)]
    have l : lo2 b0 = 128 := by unfold lo2; rw [if_neg (by omega), if_neg (by omega)]
    have g : hi2 b0 = 143 := by unfold hi2; rw [if_neg (by omega), if_pos (by omega)]
    rw [e, l, g]
    have q0 : ¬ (0 ≤ b0 ∧ b0 ≤ 127) := by omega
    have q1 : ¬ (194 ≤ b0 ∧ b0 ≤ 223) := by omega
    have q2 : ¬ (224 ≤ b0 ∧ b0 ≤ 224) := by omega
    have q3 : ¬ (225 ≤ b0 ∧ b0 ≤ 236) := by omega
    have q4 : ¬ (237 ≤ b0 ∧ b0 ≤ 237) := by omega
    have q5 : ¬ (238 ≤ b0 ∧ b0 ≤ 239) := by omega
    have q6 : ¬ (240 ≤ b0 ∧ b0 ≤ 240) := by omega
    have q7 : ¬ (241 ≤ b0 ∧ b0 ≤ 243) := by omega
    have q8 : 244 ≤ b0 ∧ b0 ≤ 244 := by omega
    simp only [pone, cntm, if_neg q0, if_neg q1, if_neg q2, if_neg q3, if_neg q4, if_neg q5, if_neg q6, if_neg q7, if_pos q8]
    cases t with
    | nil => rfl
    | cons b1 t1 =>
      simp only [cntm, c0_nil]
      by_cases c : 128 ≤ b1 ∧ b1 ≤ 143
      · simp only [if_pos c]
        cases t1 with
        | nil => rfl
        | cons b2 t2 =>
          simp only [cntm, c0_nil]
          by_cases c2 : 128 ≤ b2 ∧ b2 ≤ 191
          · simp only [if_pos c2]
            cases t2 with
            | nil => rfl
            | cons b3 t3 =>
              simp only [cntm, c0_nil]
              by_cases c3 : 128 ≤ b3 ∧ b3 ≤ 191
              · simp [c3]
              · simp [c3]
          · simp [c2]
      · simp [c]
  have e : nb b0 = 0 := by unfold nb; rw [if_neg (by omega), if_neg (by omega), if_neg (by omega), if_neg (by omega)]
  rw [e]
  simp only [pone, cntm, if_neg k0, if_neg k1, if_neg k2, if_neg k3, if_neg k4, if_neg k5, if_neg k6, if_neg k7, if_neg k8]
  rfl

theorem one_ev (s : ByteArray) (hs : s.size ≤ 1000000) (h : s.size ≠ 0) : Ev (fun k => rotulusref1_One.f k s) (((mc (bytesOf s)).1 : Int), (mc (bytesOf s)).2) := by
  have hl := bytesOf_length s
  obtain ⟨b0, t, e⟩ : ∃ b0 t, bytesOf s = b0 :: t := by
    cases hb : bytesOf s with
    | nil => rw [hb] at hl; exact absurd hl.symm h
    | cons b0 t => exact ⟨b0, t, rfl⟩
  have hr := bytes_range s b0 (by rw [e]; simp)
  have h1 := l0_ev s hs formsL (by decide) (by decide) 9 0 0 rfl
  rw [List.drop_zero, e, one_mc b0 t hr.1 hr.2, ← e] at h1
  exact h1

theorem shl_2 : shl .i32 1 (IntKind.u64.wrap (wrap64 (7 - 2))) = 32 := by decide +kernel
theorem shl_3 : shl .i32 1 (IntKind.u64.wrap (wrap64 (7 - 3))) = 16 := by decide +kernel
theorem shl_4 : shl .i32 1 (IntKind.u64.wrap (wrap64 (7 - 4))) = 8 := by decide +kernel
theorem u64_2 : 0 ≤ IntKind.u64.wrap (wrap64 (7 - 2)) := by decide +kernel
theorem u64_3 : 0 ≤ IntKind.u64.wrap (wrap64 (7 - 3)) := by decide +kernel
theorem u64_4 : 0 ≤ IntKind.u64.wrap (wrap64 (7 - 4)) := by decide +kernel
/-- the value of a whole one -/
def val : List Int → Int
  | [b0] => b0
  | [b0, b1] => b0 % 32 * 64 + b1 % 64
  | [b0, b1, b2] => (b0 % 16 * 64 + b1 % 64) * 64 + b2 % 64
  | [b0, b1, b2, b3] => ((b0 % 8 * 64 + b1 % 64) * 64 + b2 % 64) * 64 + b3 % 64
  | _ => 0
theorem vstep (k : Nat) (x : ByteArray) (v : Int) (j : Nat) (hv : 0 ≤ v) (hv2 : v < 33554432) (hj : j < x.size) (hx : x.size ≤ 10) :
    rotulusref1_value.l0 (k + 1) x v (j : Int) = rotulusref1_value.l0 k x (v * 64 + bt x (j : Int) % 64) ((j + 1 : Nat) : Int) := by
  have hb := bt_range x (j : Int)
  simp only [rotulusref1_value.l0]
  rw [if_pos (by omega), if_pos (by omega), w32 (x := v * 64) (by omega) (by omega), w32 (x := bt x (j : Int)) (by omega) (by omega), Int.tmod_eq_emod_of_nonneg hb.1, w32 (by omega) (by omega), w64 (by omega) (by omega)]
  rfl
theorem vend (k : Nat) (x : ByteArray) (v : Int) (j : Nat) (hj : x.size ≤ j) : rotulusref1_value.l0 (k + 1) x v (j : Int) = some v := by
  simp only [rotulusref1_value.l0]
  rw [if_neg (by omega)]
theorem bt_at0 (x : ByteArray) (l : List Int) (h : bytesOf x = l) (j : Nat) : bt x (j : Int) = l.getD j 0 := by rw [← rd_bytesOf, h]; rfl
theorem value_at (k : Nat) (x : ByteArray) (h : 1 ≤ x.size) (h4 : x.size ≤ 4) : rotulusref1_value.f (k + 4) x = some (val (bytesOf x)) := by
  have hl := bytesOf_length x
  have hb : ∀ j, 0 ≤ bt x j ∧ bt x j ≤ 255 := bt_range x
  unfold rotulusref1_value.f
  rcases hx : bytesOf x with _ | ⟨b0, _ | ⟨b1, _ | ⟨b2, _ | ⟨b3, _ | ⟨b4, t⟩⟩⟩⟩⟩
  · rw [hx] at hl; simp at hl; omega
  · rw [hx] at hl
    simp at hl
    have e0 : bt x 0 = b0 := bt_at0 x _ hx 0
    have r0 := hb 0
    rw [if_pos (by omega), if_pos (by omega), w32 (by omega) (by omega), e0]
    rfl
  · rw [hx] at hl
    simp at hl
    have hs : (x.size : Int) = 2 := by omega
    have e0 : bt x 0 = b0 := bt_at0 x _ hx 0
    have e1 : bt x ((1 : Nat) : Int) = b1 := bt_at0 x _ hx 1
    have r0 := hb 0
    have r1 := hb 1
    rw [hs, if_neg (by decide), if_pos (by decide), if_pos u64_2, shl_2, if_neg (by decide), w32 (by omega) (by omega), Int.tmod_eq_emod_of_nonneg r0.1, e0]
    rw [show (1 : Int) = ((1 : Nat) : Int) from rfl, vstep _ x _ 1 (by omega) (by omega) (by omega) (by omega), vend _ x _ 2 (by omega), e1]
    rfl
  · rw [hx] at hl
    simp at hl
    have hs : (x.size : Int) = 3 := by omega
    have e0 : bt x 0 = b0 := bt_at0 x _ hx 0
    have e1 : bt x ((1 : Nat) : Int) = b1 := bt_at0 x _ hx 1
    have e2 : bt x ((2 : Nat) : Int) = b2 := bt_at0 x _ hx 2
    have r0 := hb 0
    have r1 := hb ((1 : Nat) : Int)
    have r2 := hb ((2 : Nat) : Int)
    rw [hs, if_neg (by decide), if_pos (by decide), if_pos u64_3, shl_3, if_neg (by decide), w32 (by omega) (by omega), Int.tmod_eq_emod_of_nonneg r0.1, e0]
    rw [show (1 : Int) = ((1 : Nat) : Int) from rfl, vstep _ x _ 1 (by omega) (by omega) (by omega) (by omega), vstep _ x _ 2 (by omega) (by omega) (by omega) (by omega), vend _ x _ 3 (by omega), e1, e2]
    rfl
  · rw [hx] at hl
    simp at hl
    have hs : (x.size : Int) = 4 := by omega
    have e0 : bt x 0 = b0 := bt_at0 x _ hx 0
    have e1 : bt x ((1 : Nat) : Int) = b1 := bt_at0 x _ hx 1
    have e2 : bt x ((2 : Nat) : Int) = b2 := bt_at0 x _ hx 2
    have e3 : bt x ((3 : Nat) : Int) = b3 := bt_at0 x _ hx 3
    have r0 := hb 0
    have r1 := hb ((1 : Nat) : Int)
    have r2 := hb ((2 : Nat) : Int)
    have r3 := hb ((3 : Nat) : Int)
    rw [hs, if_neg (by decide), if_pos (by decide), if_pos u64_4, shl_4, if_neg (by decide), w32 (by omega) (by omega), Int.tmod_eq_emod_of_nonneg r0.1, e0]
    rw [show (1 : Int) = ((1 : Nat) : Int) from rfl, vstep _ x _ 1 (by omega) (by omega) (by omega) (by omega), vstep _ x _ 2 (by omega) (by omega) (by omega) (by omega), vstep _ x _ 3 (by omega) (by omega) (by omega) (by omega), vend _ x _ 4 (by omega), e1, e2, e3]
    rfl
  · rw [hx] at hl
    simp at hl
    omega

/-- what is told of the bytes at the front goes on with the rest -/
theorem dec_mc (b0 : Int) (t : List Int) :
    ((mc (b0 :: t)).2 = true → 1 ≤ (mc (b0 :: t)).1 ∧ (mc (b0 :: t)).1 ≤ 4 ∧ (mc (b0 :: t)).1 ≤ (b0 :: t).length ∧ dec (b0 :: t) = cons1 (val ((b0 :: t).take (mc (b0 :: t)).1)) (dec ((b0 :: t).drop (mc (b0 :: t)).1))) ∧
    ((mc (b0 :: t)).2 = false → (mc (b0 :: t)).1 = (b0 :: t).length ∧ dec (b0 :: t) = ([], (b0 :: t).length) ∨ (mc (b0 :: t)).1 < (b0 :: t).length ∧ dec (b0 :: t) = cons1 65533 (dec ((b0 :: t).drop (max 1 (mc (b0 :: t)).1)))) := by
  rw [dec.eq_def (b0 :: t)]
  simp only [mc]
  rcases nb_cases b0 with e | e | e | e | e
  · simp [e]
  · simp [e, val]
  · simp only [e]
    cases t with
    | nil => simp
    | cons b1 t1 =>
      by_cases c : lo2 b0 ≤ b1 ∧ b1 ≤ hi2 b0 <;> simp [c, val]
  · simp only [e]
    cases t with
    | nil => simp
    | cons b1 t1 =>
      by_cases c : lo2 b0 ≤ b1 ∧ b1 ≤ hi2 b0
      · cases t1 with
        | nil => simp [c]
        | cons b2 t2 =>
          by_cases c2 : 128 ≤ b2 ∧ b2 ≤ 191 <;> simp [c, c2, val]
      · simp [c]
  · simp only [e]
    cases t with
    | nil => simp
    | cons b1 t1 =>
      by_cases c : lo2 b0 ≤ b1 ∧ b1 ≤ hi2 b0
      · cases t1 with
        | nil => simp [c]
        | cons b2 t2 =>
          by_cases c2 : 128 ≤ b2 ∧ b2 ≤ 191
          · cases t2 with
            | nil => simp [c, c2]
            | cons b3 t3 => by_cases c3 : 128 ≤ b3 ∧ b3 ≤ 191 <;> simp [c, c2, c3, val]
          · simp [c, c2]
      · simp [c]

theorem bytesOf_extract (s : ByteArray) (i j : Nat) : bytesOf (s.extract i j) = ((bytesOf s).take j).drop i := by
  unfold bytesOf
  rw [ByteArray.data_extract, Array.toList_extract, List.extract_eq_take_drop, List.drop_take, List.map_take, List.map_drop]

theorem refall_ev : ∀ (n : Nat) (s : ByteArray), s.size ≤ n → s.size ≤ 1000000 → ∀ acc : List Int, acc.length + s.size ≤ 2000000 → Ev (fun k => rotulusref1_All.l0 k s acc) (acc ++ (dec (bytesOf s)).1, ((dec (bytesOf s)).2 : Int)) := by
  intro n
  induction n with
  | zero =>
    intro s hn hs acc ha
    have e : bytesOf s = [] := by
      have := bytesOf_length s
      exact List.length_eq_zero_iff.1 (by omega)
    rw [e, dec.eq_def]
    refine ⟨1, fun k hk => ?_⟩
    obtain ⟨k, rfl⟩ : ∃ m, k = m + 1 := ⟨k - 1, by omega⟩
    simp only [rotulusref1_All.l0]
    rw [if_neg (by omega)]
    simp
  | succ n ih =>
    intro s hn hs acc ha
    by_cases hz : s.size = 0
    · exact ih s (by omega) hs acc ha
    · have hl := bytesOf_length s
      obtain ⟨b0, t, e⟩ : ∃ b0 t, bytesOf s = b0 :: t := by
        cases hb : bytesOf s with
        | nil => rw [hb] at hl; exact absurd hl.symm hz
        | cons b0 t => exact ⟨b0, t, rfl⟩
      have hm := dec_mc b0 t
      rw [← e] at hm
      rw [hl] at hm
      refine Ev.step (f := fun k => (rotulusref1_One.f k s).bind fun bt395 => (if bt395.2 = true then (if 0 ≤ bt395.1 then (if bt395.1 ≤ (s.size : Int) then ((rotulusref1_value.f k (s.extract 0 (bt395.1 : Int).toNat)).bind fun t397 => (if acc.length < 35184372088832 then (rotulusref1_All.l0 k (s.extract (bt395.1 : Int).toNat s.size) (acc ++ [t397])) else (none))) else (none)) else (none)) else (if bt395.1 = (s.size : Int) then (some (acc, bt395.1)) else (if acc.length < 35184372088832 then (if 0 ≤ (mx 1 bt395.1) then (if (mx 1 bt395.1) ≤ (s.size : Int) then (rotulusref1_All.l0 k (s.extract ((mx 1 bt395.1) : Int).toNat s.size) (acc ++ [65533])) else (none)) else (none)) else (none)))))
        (fun k => by simp only [rotulusref1_All.l0]; rw [if_pos (by omega)]) ?_
      refine Ev.bind (one_ev s hs hz) ?_
      dsimp only
      cases ok : (mc (bytesOf s)).2 with
      | true =>
        obtain ⟨m1, m4, ml, md⟩ := hm.1 ok
        obtain ⟨m, hmm⟩ : ∃ m, m = (mc (bytesOf s)).1 := ⟨_, rfl⟩
        rw [← hmm] at m1 m4 ml md ⊢
        have es : bytesOf (s.extract 0 m) = (bytesOf s).take m := by rw [bytesOf_extract, List.drop_zero]
        have ed : bytesOf (s.extract m s.size) = (bytesOf s).drop m := by rw [bytesOf_extract, List.take_of_length_le (by omega)]
        have z1 : (s.extract 0 m).size = m := by rw [ByteArray.size_extract]; omega
        have z2 : (s.extract m s.size).size = s.size - m := by rw [ByteArray.size_extract]; omega
        obtain ⟨K, hK⟩ := ih (s.extract m s.size) (by omega) (by omega) (acc ++ [val ((bytesOf s).take m)]) (by simp; omega)
        refine ⟨K + 4, fun k hk => ?_⟩
        dsimp only
        rw [if_pos rfl, if_pos (by omega), if_pos (by omega), Int.toNat_natCast]
        obtain ⟨k', rfl⟩ : ∃ q, k = q + 4 := ⟨k - 4, by omega⟩
        rw [value_at k' _ (by omega) (by omega), es]
        simp only [Option.bind_some]
        rw [if_pos (by omega)]
        have := hK (k' + 4) (by omega)
        dsimp only at this
        rw [this, ed, md]
        simp [cons1]
      | false =>
        have h2 := hm.2 ok
        obtain ⟨m, hmm⟩ : ∃ m, m = (mc (bytesOf s)).1 := ⟨_, rfl⟩
        rw [← hmm] at h2 ⊢
        rcases h2 with ⟨h2, h3⟩ | ⟨h2, h3⟩
        · refine ⟨0, fun k _ => ?_⟩
          dsimp only
          rw [if_neg (by decide), if_pos (by omega), h3, h2]
          simp
        · have hmx : mx 1 (m : Int) = ((max 1 m : Nat) : Int) := mx_nat 1 m
          have ed : bytesOf (s.extract (max 1 m) s.size) = (bytesOf s).drop (max 1 m) := by rw [bytesOf_extract, List.take_of_length_le (by omega)]
          have z2 : (s.extract (max 1 m) s.size).size = s.size - max 1 m := by rw [ByteArray.size_extract]; omega
          obtain ⟨K, hK⟩ := ih (s.extract (max 1 m) s.size) (by omega) (by omega) (acc ++ [65533]) (by simp; omega)
          refine ⟨K, fun k hk => ?_⟩
          dsimp only
          rw [if_neg (by decide), if_neg (by omega), if_pos (by omega), hmx, if_pos (by omega), if_pos (by omega), Int.toNat_natCast]
          have := hK k hk
          dsimp only at this
          rw [this, ed, h3]
          simp [cons1]
theorem ref_ev (s : ByteArray) (hs : s.size ≤ 1000000) : Ev (fun k => rotulusref1_All.f k s) ((dec (bytesOf s)).1, ((dec (bytesOf s)).2 : Int)) := by
  have h := refall_ev s.size s (Nat.le_refl _) hs [] (by simp; omega)
  rw [List.nil_append] at h
  exact h

end Go.Proofs.Ytohafoihegjlnaa.Pure

/- Helpers: a text put together; the bytes of a text from numbers; loops over a list. -/
namespace Go.Proofs.Ytohafoihegjlnaa.Pure
open Go.RowKit Go.Proofs.Ytohafoihegjlnaa.C Go.Proofs.YtohafoihegjlnaaW.PrintWords Go.Proofs.YtohafoihegjlnaaW.PrintLast

theorem ev_pos {α : Type} {c : Prop} [Decidable c] (h : c) {f g : Nat → Option α} {r : α} (x : Ev f r) : Ev (fun k => if c then f k else g k) r := by
  simpa only [if_pos h] using x
theorem ev_neg {α : Type} {c : Prop} [Decidable c] (h : ¬ c) {f g : Nat → Option α} {r : α} (x : Ev g r) : Ev (fun k => if c then f k else g k) r := by
  simpa only [if_neg h] using x
theorem ev_some {α β : Type} {a : α} {f : Nat → α → Option β} {r : β} (x : Ev (fun k => f k a) r) : Ev (fun k => (some a).bind (f k)) r := Ev.bind (Ev.now a) x
theorem bytesOf_app (s t : ByteArray) : bytesOf (s ++ t) = bytesOf s ++ bytesOf t := by
  unfold bytesOf
  rw [ByteArray.data_append, Array.toList_append, List.map_append]
theorem size_app (s t : ByteArray) : (s ++ t).size = s.size + t.size := ByteArray.size_append
theorem dec_app (s t : List Int) (h : (dec s).2 = 0) : (dec (s ++ t)).1 = (dec s).1 ++ (dec t).1 ∧ (dec (s ++ t)).2 = (dec t).2 := by
  have hs := run_dec _ s (Nat.le_refl _) 0 0 0 0
  have hst := run_dec _ (s ++ t) (Nat.le_refl _) 0 0 0 0
  rw [prun_append] at hst
  rw [h] at hs
  obtain ⟨m, r, lo, hi, e⟩ : ∃ m r lo hi, (prun (0, 0, 0, 0, 0) s).2 = ((0 : Int), m, r, lo, hi) := by
    have h2 := hs.2
    generalize (prun (0, 0, 0, 0, 0) s).2 = q at h2
    obtain ⟨a, m, r, lo, hi⟩ := q
    exact ⟨m, r, lo, hi, by rw [show a = 0 from h2]⟩
  rw [e] at hst
  have ht := run_dec _ t (Nat.le_refl _) m r lo hi
  refine ⟨?_, ?_⟩
  · rw [← hst.1]
    show _ ++ _ = _
    rw [hs.1, ht.1]
  · have := hst.2
    dsimp only at this
    rw [ht.2] at this
    omega
theorem alls_app (s t : List Int) (h : (dec s).2 = 0) : alls (s ++ t) = alls s ++ alls t := by
  obtain ⟨h1, h2⟩ := dec_app s t h
  unfold alls
  rw [h1, h2, if_pos h]
  simp
end Go.Proofs.Ytohafoihegjlnaa.Pure

/- Helpers: how a sign is written; what is read of it. -/
namespace Go.Proofs.Ytohafoihegjlnaa.Pure
open Go.RowKit Go.Proofs.Ytohafoihegjlnaa.C Go.Proofs.YtohafoihegjlnaaW.PrintWords Go.Proofs.YtohafoihegjlnaaW.PrintLast

def sgn (r : Int) : Prop := 0 ≤ r ∧ r ≤ 1114111 ∧ (r < 55296 ∨ 57343 < r)
instance (r : Int) : Decidable (sgn r) := by unfold sgn; infer_instance
def fix (r : Int) : Int := if sgn r then r else 65533
theorem fix_sgn (r : Int) : sgn (fix r) := by unfold fix; split; assumption; unfold sgn; omega
def enc0 (r : Int) : List Int := if r < 128 then [r] else if r < 2048 then [192 + r / 64, 128 + r % 64] else if r < 65536 then [224 + r / 4096, 128 + r / 64 % 64, 128 + r % 64] else [240 + r / 262144, 128 + r / 4096 % 64, 128 + r / 64 % 64, 128 + r % 64]
/-- how a sign is written -/
def enc (r : Int) : List Int := enc0 (fix r)
theorem enc0_range (r : Int) (h : sgn r) : ∀ b ∈ enc0 r, 0 ≤ b ∧ b ≤ 255 := by
  unfold sgn at h
  intro b hb
  unfold enc0 at hb
  split at hb
  · simp at hb; omega
  split at hb
  · simp at hb; omega
  split at hb
  · simp at hb; omega
  · simp at hb; omega
theorem enc_range (r : Int) : ∀ b ∈ enc r, 0 ≤ b ∧ b ≤ 255 := enc0_range _ (fix_sgn r)
theorem enc0_len (r : Int) : (enc0 r).length ≤ 4 := by
  unfold enc0
  (repeat' split) <;> simp
theorem enc_len (r : Int) : (enc r).length ≤ 4 := enc0_len _
theorem dec_enc0 (r : Int) (h : sgn r) (t : List Int) : dec (enc0 r ++ t) = cons1 r (dec t) := by
  unfold sgn at h
  unfold enc0
  by_cases c1 : r < 128
  · rw [if_pos c1, List.singleton_append, dec.eq_def]
    have : nb r = 1 := by unfold nb; rw [if_pos c1]
    simp only [this, if_true]
  rw [if_neg c1]
  by_cases c2 : r < 2048
  · rw [if_pos c2, List.cons_append, List.singleton_append, dec.eq_def]
    have e : nb (192 + r / 64) = 2 := by unfold nb; rw [if_neg (by omega), if_pos (by omega)]
    have l : lo2 (192 + r / 64) = 128 := by unfold lo2; rw [if_neg (by omega), if_neg (by omega)]
    have hh : hi2 (192 + r / 64) = 191 := by unfold hi2; rw [if_neg (by omega), if_neg (by omega)]
    simp only [e, l, hh]
    rw [if_neg (by decide), if_neg (by decide), if_pos (by omega), if_pos trivial]
    congr 1
    omega
  rw [if_neg c2]
  by_cases c3 : r < 65536
  · rw [if_pos c3, List.cons_append, List.cons_append, List.singleton_append, dec.eq_def]
    have e : nb (224 + r / 4096) = 3 := by unfold nb; rw [if_neg (by omega), if_neg (by omega), if_pos (by omega)]
    have l : lo2 (224 + r / 4096) ≤ 128 + r / 64 % 64 := by unfold lo2; split; omega; split <;> omega
    have hh : 128 + r / 64 % 64 ≤ hi2 (224 + r / 4096) := by unfold hi2; split; omega; split <;> omega
    simp only [e]
    rw [if_neg (by decide), if_neg (by decide), if_pos ⟨l, hh⟩, if_neg (by decide), if_pos (by omega), if_pos trivial]
    congr 1
    omega
  · rw [if_neg c3, List.cons_append, List.cons_append, List.cons_append, List.singleton_append, dec.eq_def]
    have e : nb (240 + r / 262144) = 4 := by unfold nb; rw [if_neg (by omega), if_neg (by omega), if_neg (by omega), if_pos (by omega)]
    have l : lo2 (240 + r / 262144) ≤ 128 + r / 4096 % 64 := by unfold lo2; split; omega; split <;> omega
    have hh : 128 + r / 4096 % 64 ≤ hi2 (240 + r / 262144) := by unfold hi2; split; omega; split <;> omega
    simp only [e]
    rw [if_neg (by decide), if_neg (by decide), if_pos ⟨l, hh⟩, if_neg (by decide), if_pos (by omega), if_neg (by decide), if_pos (by omega)]
    congr 1
    omega
theorem dec_enc (r : Int) (t : List Int) : dec (enc r ++ t) = cons1 (fix r) (dec t) := dec_enc0 _ (fix_sgn r) t

theorem or192 (x : Int) (h0 : 0 ≤ x) (h1 : x < 32) : Go.bits .or .u8 192 x = 192 + x := by
  have : ∀ n : Fin 32, Go.bits .or .u8 192 (n.val : Int) = 192 + n.val := by decide +kernel
  have := this ⟨x.toNat, by omega⟩
  simpa [Int.toNat_of_nonneg h0] using this
theorem or224 (x : Int) (h0 : 0 ≤ x) (h1 : x < 16) : Go.bits .or .u8 224 x = 224 + x := by
  have : ∀ n : Fin 16, Go.bits .or .u8 224 (n.val : Int) = 224 + n.val := by decide +kernel
  have := this ⟨x.toNat, by omega⟩
  simpa [Int.toNat_of_nonneg h0] using this
theorem or240 (x : Int) (h0 : 0 ≤ x) (h1 : x < 8) : Go.bits .or .u8 240 x = 240 + x := by
  have : ∀ n : Fin 8, Go.bits .or .u8 240 (n.val : Int) = 240 + n.val := by decide +kernel
  have := this ⟨x.toNat, by omega⟩
  simpa [Int.toNat_of_nonneg h0] using this

theorem app_at (k : Nat) (l : List Int) (r : Int) (h0 : -2147483648 ≤ r) (h1 : r ≤ 2147483647) (hl : l.length ≤ 1000000000) : utf8_AppendRune.f (k + 1) l r = some (l ++ enc r) := by
  unfold utf8_AppendRune.f
  by_cases c1 : 0 ≤ r ∧ r < 128
  · have e : enc r = [r] := by unfold enc fix; rw [if_pos (by unfold sgn; omega)]; unfold enc0; rw [if_pos c1.2]
    rw [if_pos (by omega), if_pos (by omega), e, show r % 256 = r by omega]
  rw [if_neg (by omega)]
  unfold utf8_appendRuneNonASCII.f
  by_cases c2 : 0 ≤ r ∧ r < 2048
  · have e : enc r = [192 + r / 64, 128 + r % 64] := by unfold enc fix; rw [if_pos (by unfold sgn; omega)]; unfold enc0; rw [if_neg (by omega), if_pos c2.2]
    rw [if_pos (by omega)]
    simp only [Option.bind_some]
    rw [if_pos (by simp; omega), e, or192 _ (by omega) (by omega), show r / 64 % 256 = r / 64 by omega]
    rfl
  rw [if_neg (by omega)]
  by_cases c3 : 0 ≤ r ∧ r < 65536 ∧ (r < 55296 ∨ 57343 < r)
  · have e : enc r = [224 + r / 4096, 128 + r / 64 % 64, 128 + r % 64] := by unfold enc fix; rw [if_pos (by unfold sgn; omega)]; unfold enc0; rw [if_neg (by omega), if_neg (by omega), if_pos (by omega)]
    have j : ∀ x5, utf8_appendRuneNonASCII.j0 (k + 1) l r x5 true = some (l ++ enc r) := by
      intro x5
      simp only [utf8_appendRuneNonASCII.j0]
      rw [if_pos trivial]
      simp only [Option.bind_some]
      rw [if_pos (by simp; omega), e, or224 _ (by omega) (by omega), show r / 4096 % 256 = r / 4096 by omega]
    by_cases c4 : r < 55296
    · rw [if_pos (by omega), decide_eq_true (by omega), j]; rfl
    · rw [if_neg (by omega), if_pos (by omega), decide_eq_true (by omega), j]; rfl
  have bad : ¬ sgn r → enc r = [239, 191, 189] := by
    intro h
    unfold enc fix
    rw [if_neg h]
    rfl
  by_cases c5 : 55296 ≤ r ∧ r ≤ 57343
  · rw [if_neg (by omega), if_neg (by omega), bad (by unfold sgn; omega)]
    simp only [utf8_appendRuneNonASCII.j0]
    rw [if_neg (by decide), if_neg (by omega)]
    simp only [Option.bind_some]
    rw [if_pos (by simp; omega)]
    rfl
  rw [if_neg (by omega), if_pos (by omega), decide_eq_false (by omega)]
  simp only [utf8_appendRuneNonASCII.j0]
  rw [if_neg (by decide), if_pos (by omega)]
  by_cases c6 : 0 ≤ r ∧ r ≤ 1114111
  · have e : enc r = [240 + r / 262144, 128 + r / 4096 % 64, 128 + r / 64 % 64, 128 + r % 64] := by unfold enc fix; rw [if_pos (by unfold sgn; omega)]; unfold enc0; rw [if_neg (by omega), if_neg (by omega), if_neg (by omega)]
    rw [if_pos (by omega)]
    simp only [Option.bind_some]
    rw [if_pos (by simp; omega), e, or240 _ (by omega) (by omega), show r / 262144 % 256 = r / 262144 by omega]
    rfl
  · rw [if_neg (by omega), bad (by unfold sgn; omega)]
    simp only [Option.bind_some]
    rw [if_pos (by simp; omega)]
    rfl

/-- a list of signs, written -/
def encs1 : List Int → List Int
  | [] => []
  | r :: l => enc r ++ encs1 l
theorem dec_encs1 : ∀ l : List Int, dec (encs1 l) = (l.map fix, 0)
  | [] => by rw [encs1, dec.eq_def]; rfl
  | r :: l => by rw [encs1, dec_enc, dec_encs1 l]; rfl
theorem encs1_len : ∀ l : List Int, (encs1 l).length ≤ 4 * l.length
  | [] => by simp [encs1]
  | r :: l => by
    have := enc_len r
    have := encs1_len l
    simp only [encs1, List.length_append, List.length_cons]
    omega
theorem encs1_range : ∀ l : List Int, ∀ b ∈ encs1 l, 0 ≤ b ∧ b ≤ 255
  | [], b, h => by simp [encs1] at h
  | r :: l, b, h => by
    rw [encs1] at h
    exact (List.mem_append.1 h).elim (enc_range r b) (encs1_range l b)
theorem bytes_nums (xs : List Int) (h : ∀ b ∈ xs, 0 ≤ b ∧ b ≤ 255) : bytesOf (strOfNums xs) = xs := by
  unfold bytesOf strOfNums
  simp only [List.map_map]
  refine (List.map_congr_left (g := id) fun b hb => ?_).trans (List.map_id _)
  have := h b hb
  simp only [Function.comp, id]
  rw [UInt8.toNat_ofNat']
  omega
theorem nums_size (xs : List Int) : (strOfNums xs).size = xs.length := by simp [strOfNums, ByteArray.size]
theorem nums_app (xs ys : List Int) : strOfNums (xs ++ ys) = strOfNums xs ++ strOfNums ys := by
  apply ByteArray.ext
  rw [ByteArray.data_append]
  simp [strOfNums]
theorem rd_at (l : List Int) (i : Nat) (h : i < l.length) : rd l (i : Int) = l[i] := by
  unfold rd
  rw [Int.toNat_natCast]
  simp [List.getD_eq_getElem?_getD, List.getElem?_eq_getElem h]

theorem write_at (l : List Int) (hw : ∀ x ∈ l, -2147483648 ≤ x ∧ x ≤ 2147483647) (hl : l.length ≤ 1000000) : ∀ (d i : Nat) (out : List Int) (k : Nat), i + d = l.length → d + 1 < k → out.length ≤ 4 * i →
    utf_Write.l0 k out l (l.length : Int) (i : Int) = some (strOfNums (out ++ encs1 (l.drop i))) := by
  intro d
  induction d with
  | zero =>
    intro i out k hi hk h0
    obtain ⟨k, rfl⟩ : ∃ m, k = m + 1 := ⟨k - 1, by omega⟩
    simp only [utf_Write.l0]
    rw [if_neg (by omega), List.drop_of_length_le (by omega), encs1, List.append_nil]
  | succ d ih =>
    intro i out k hi hk h0
    obtain ⟨k, rfl⟩ : ∃ m, k = m + 1 := ⟨k - 1, by omega⟩
    have hlt : i < l.length := by omega
    have hm := hw _ (List.getElem_mem hlt)
    have he := enc_len l[i]
    have hap := app_at (k - 1) out l[i] hm.1 hm.2 (by omega)
    rw [show k - 1 + 1 = k by omega] at hap
    simp only [utf_Write.l0]
    rw [if_pos (by omega), if_pos (by omega), if_pos (by omega), rd_at l i hlt, hap]
    simp only [Option.bind_some]
    rw [w64 (by omega) (by omega), show ((i : Int) + 1) = ((i + 1 : Nat) : Int) from rfl, ih (i + 1) _ k (by omega) (by omega) (by rw [List.length_append]; omega), List.drop_eq_getElem_cons hlt, encs1, List.append_assoc]
theorem write_ev (l : List Int) (hw : ∀ x ∈ l, -2147483648 ≤ x ∧ x ≤ 2147483647) (hl : l.length ≤ 1000000) : Ev (fun k => utf_Write.f k l) (strOfNums (encs1 l)) :=
  ⟨l.length + 2, fun k hk => by
    unfold utf_Write.f
    have := write_at l hw hl l.length 0 [] k (by omega) hk (by simp)
    rw [show ((0 : Nat) : Int) = 0 from rfl] at this
    refine this.trans ?_
    simp⟩
end Go.Proofs.Ytohafoihegjlnaa.Pure

/- Helpers: how the reference writes a sign. -/
namespace Go.Proofs.Ytohafoihegjlnaa.Pure
open Go.RowKit Go.Proofs.Ytohafoihegjlnaa.C Go.Proofs.YtohafoihegjlnaaW.PrintWords Go.Proofs.YtohafoihegjlnaaW.PrintLast

theorem evq_pos {α : Type} {c : Prop} [Decidable c] (h : c) {f g : Nat → Option α} {r : α} (x : Ev f r) : Ev (fun k => if c then f k else g k) r := by
  simpa only [if_pos h] using x
theorem evq_neg {α : Type} {c : Prop} [Decidable c] (h : ¬ c) {f g : Nat → Option α} {r : α} (x : Ev g r) : Ev (fun k => if c then f k else g k) r := by
  simpa only [if_neg h] using x
theorem evq_some {α β : Type} {a : α} {f : Nat → α → Option β} {r : β} (x : Ev (fun k => f k a) r) : Ev (fun k => (some a).bind (f k)) r := Ev.bind (Ev.now a) x
theorem sign_at (r : Int) : rotulusref1_Sign.f r = some (decide (sgn r)) := by
  unfold rotulusref1_Sign.f
  by_cases c : sgn r
  · rw [decide_eq_true c]
    unfold sgn at c
    rw [if_pos (by omega), if_pos (by omega)]
    split
    · rfl
    · rw [decide_eq_true (by omega)]
  · rw [decide_eq_false c]
    unfold sgn at c
    by_cases c1 : r ≥ 0
    · rw [if_pos c1]
      by_cases c2 : r ≤ 1114111
      · rw [if_pos c2, if_neg (by omega), decide_eq_false (by omega)]
      · rw [if_neg c2]
    · rw [if_neg c1]
theorem put0 (k : Nat) (r : Int) (h : sgn r) : rotulusref1_Put.f (k + 1) r = some (strOfNums (enc0 r)) := by
  have h' := h
  unfold sgn at h'
  simp only [rotulusref1_Put.f]
  rw [sign_at, decide_eq_true h]
  simp only [Option.bind_some, if_true]
  simp only [Int.tdiv_eq_ediv_of_nonneg h'.1, Int.tmod_eq_emod_of_nonneg h'.1]
  unfold enc0
  by_cases c1 : r < 128
  · rw [if_pos c1, if_pos c1, show r % 256 = r by omega]
  rw [if_neg c1, if_neg c1]
  by_cases c2 : r < 2048
  · rw [if_pos c2, if_pos c2, w32 (x := r / 64) (by omega) (by omega), w32 (by omega) (by omega), w32 (by omega) (by omega), show (192 + r / 64) % 256 = 192 + r / 64 by omega, show (128 + r % 64) % 256 = 128 + r % 64 by omega]
  rw [if_neg c2, if_neg c2]
  by_cases c3 : r < 65536
  · rw [if_pos c3, if_pos c3, w32 (x := r / 64) (by omega) (by omega), w32 (x := r / 4096) (by omega) (by omega), Int.tmod_eq_emod_of_nonneg (by omega), w32 (by omega) (by omega), w32 (by omega) (by omega), w32 (by omega) (by omega), show (224 + r / 4096) % 256 = 224 + r / 4096 by omega, show (128 + r / 64 % 64) % 256 = 128 + r / 64 % 64 by omega, show (128 + r % 64) % 256 = 128 + r % 64 by omega]
  · rw [if_neg c3, if_neg c3, w32 (x := r / 64) (by omega) (by omega), w32 (x := r / 4096) (by omega) (by omega), w32 (x := r / 262144) (by omega) (by omega), Int.tmod_eq_emod_of_nonneg (show 0 ≤ r / 4096 by omega), Int.tmod_eq_emod_of_nonneg (show 0 ≤ r / 64 by omega), w32 (by omega) (by omega), w32 (by omega) (by omega), w32 (by omega) (by omega), w32 (by omega) (by omega), show (240 + r / 262144) % 256 = 240 + r / 262144 by omega, show (128 + r / 4096 % 64) % 256 = 128 + r / 4096 % 64 by omega, show (128 + r / 64 % 64) % 256 = 128 + r / 64 % 64 by omega, show (128 + r % 64) % 256 = 128 + r % 64 by omega]
theorem put_sign (k : Nat) (r : Int) : rotulusref1_Put.f (k + 2) r = some (strOfNums (enc r)) := by
  unfold enc fix
  by_cases c : sgn r
  · rw [if_pos c]; exact put0 (k + 1) r c
  · rw [if_neg c]
    have := put0 k 65533 (by unfold sgn; omega)
    rw [rotulusref1_Put.f]
    rw [sign_at, decide_eq_false c]
    simp only [Option.bind_some]
    rw [if_neg (by decide), this]
    rfl
theorem put_sign_ev (r : Int) : Ev (fun k => rotulusref1_Put.f k r) (strOfNums (enc r)) := ⟨2, fun k hk => by
  obtain ⟨m, rfl⟩ : ∃ m, k = m + 2 := ⟨k - 2, by omega⟩
  exact put_sign m r⟩
end Go.Proofs.Ytohafoihegjlnaa.Pure

/- Helpers: any bytes, by the program and by the reference: the same signs. -/
namespace Go.Proofs.Ytohafoihegjlnaa.Pure
open Go.RowKit Go.Proofs.Ytohafoihegjlnaa.C Go.Proofs.YtohafoihegjlnaaW.PrintWords Go.Proofs.YtohafoihegjlnaaW.PrintLast
theorem dec_some : ∀ l : List Int, (dec l).1 = [] → (dec l).2 = 0 → l = []
  | [], _, _ => rfl
  | b0 :: t, h1, h2 => by
    rw [dec.eq_def] at h1 h2
    dsimp only at h1 h2
    split at h1
    · simp [cons1] at h1
    · rename_i c1
      rw [if_neg c1] at h2
      split at h1
      · simp [cons1] at h1
      · rename_i c2
        rw [if_neg c2] at h2
        cases t with
        | nil => simp at h2
        | cons b1 t1 =>
          dsimp only at h1 h2
          split at h1
          · rename_i c3
            rw [if_pos c3] at h2
            split at h1
            · simp [cons1] at h1
            · rename_i c4
              rw [if_neg c4] at h2
              cases t1 with
              | nil => simp at h2
              | cons b2 t2 =>
                dsimp only at h1 h2
                split at h1
                · rename_i c5
                  rw [if_pos c5] at h2
                  split at h1
                  · simp [cons1] at h1
                  · rename_i c6
                    rw [if_neg c6] at h2
                    cases t2 with
                    | nil => simp at h2
                    | cons b3 t3 =>
                      dsimp only at h1 h2
                      split at h1 <;> simp [cons1] at h1
                · simp [cons1] at h1
          · simp [cons1] at h1
theorem alls_pos (l : List Int) (h : l ≠ []) : 1 ≤ (alls l).length := by
  unfold alls
  rw [List.length_append]
  by_cases c : (dec l).2 = 0
  · rcases hd : (dec l).1 with _ | ⟨a, t⟩
    · exact absurd (dec_some l hd c) h
    · simp; omega
  · rw [if_neg c]; simp
/-- the reference's whole answer -/
theorem whole_yes (l : List Int) (c : (dec l).2 = 0) : (dec l).1 = alls l := by unfold alls; rw [if_pos c, List.append_nil]
theorem whole_no (l : List Int) (c : ¬ (dec l).2 = 0) : (dec l).1 ++ [65533] = alls l := by unfold alls; rw [if_neg c]
theorem enc_pos (r : Int) : 1 ≤ (enc r).length := by
  unfold enc enc0
  (repeat' split) <;> simp
end Go.Proofs.Ytohafoihegjlnaa.Pure
