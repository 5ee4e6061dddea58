/- Numbers as bytes: what pack.Uint tells, as a plain list. -/
import Derived.Test.YtkigdcihhlkkdaaCPx2
set_option linter.unusedVariables false
set_option linter.unusedSimpArgs false
namespace Go.Proofs.Ytkigdcihhlkkdaa.Pure
open Go.RowKit Go.Proofs.Ytkigdcihhlkkdaa.P Go.Proofs.YtkigdcihhlkkdaaW.PrintWords Go.Proofs.YtkigdcihhlkkdaaW.PrintLast
theorem ev_pos {α : Type} {c : Prop} [Decidable c] (h : c) {f g : Nat → Option α} {r : α} (x : Ev f r) : Ev (fun k => if c then f k else g k) r := by
  simpa only [if_pos h] using x
theorem ev_neg {α : Type} {c : Prop} [Decidable c] (h : ¬ c) {f g : Nat → Option α} {r : α} (x : Ev g r) : Ev (fun k => if c then f k else g k) r := by
  simpa only [if_neg h] using x
theorem u64_of_wf {x : Int} (h : (Lit.int .u64 x).wf = true) : 0 ≤ x ∧ x < 18446744073709551616 := by
  have h2 : IntKind.u64.min ≤ x ∧ x ≤ IntKind.u64.max := by simpa [Lit.wf] using h
  have e1 : IntKind.u64.min = 0 := by decide
  have e2 : IntKind.u64.max = 18446744073709551615 := by decide
  omega
def uintL : Nat → Nat → List Int
  | 0, _ => []
  | f + 1, n => if 128 ≤ n then ((n % 128 + 128 : Nat) : Int) :: uintL f (n / 128) else [(n : Int)]
theorem or128 (n : Nat) : Go.bits .or .u8 ((n : Int) % 256) 128 = ((n % 128 + 128 : Nat) : Int) := by
  have h1 : (n : Int) % 256 = ((n % 256 : Nat) : Int) := by omega
  have h2 : ∀ a : Fin 256, (a.val ||| 128) = a.val % 128 + 128 := by decide +kernel
  rw [h1, show (128 : Int) = ((128 : Nat) : Int) from rfl, u8_or_nat _ _ (by omega) (by decide)]
  have := h2 ⟨n % 256, by omega⟩
  simp only at this
  rw [this]
  congr 1
  omega
theorem uint_loop : ∀ (f n : Nat) (acc : List Int), 0 < f → n < 128 ^ f → acc.length + f < 140737488355328 → Ev (fun k => pack_Uint.l0 k (n : Int) acc) (acc ++ uintL f n)
  | 0, n, acc, hf, _, _ => absurd hf (by decide)
  | f + 1, n, acc, hf, h, hl => by
    refine Ev.step (f := _) (fun k => by simp only [pack_Uint.l0]; rfl) ?_
    unfold uintL
    by_cases h128 : 128 ≤ n
    · refine ev_pos (by omega) (ev_pos (by omega) ?_)
      rw [if_pos h128, or128]
      have e : (n : Int) / 128 = ((n / 128 : Nat) : Int) := by omega
      rw [e]
      have h3 : n / 128 < 128 ^ f := by
        rw [Nat.div_lt_iff_lt_mul (by decide), ← Nat.pow_succ]
        exact h
      have hf1 : 0 < f := by
        rcases Nat.eq_zero_or_pos f with h0 | h0
        · subst h0; simp at h; omega
        · exact h0
      have := uint_loop f (n / 128) (acc ++ [((n % 128 + 128 : Nat) : Int)]) hf1 h3 (by simp; omega)
      rw [List.append_assoc] at this
      exact this
    · refine ev_neg (by omega) (ev_pos (by omega) ?_)
      rw [if_neg h128, show (n : Int) % 256 = (n : Int) by omega]
      exact Ev.now _
theorem uint_ev (n : Nat) (h : n < 18446744073709551616) : Ev (fun k => pack_Uint.f k (n : Int)) (uintL 10 n) := by
  have := uint_loop 10 n [] (by decide) (Nat.lt_of_lt_of_le h (by decide)) (by decide)
  simpa [pack_Uint.f] using this
theorem uintL_bound : ∀ (f n : Nat), (uintL f n).length ≤ f
  | 0, _ => Nat.le_refl _
  | f + 1, n => by
    unfold uintL
    split
    · have := uintL_bound f (n / 128)
      simp only [List.length_cons]; omega
    · simp
theorem uintL_pos : ∀ (f n : Nat), 0 < f → 1 ≤ (uintL f n).length
  | f + 1, n, _ => by
    unfold uintL
    split <;> simp
theorem uintL_one (f n : Nat) (hf : 1 < f) : (uintL f n).length = 1 ↔ n < 128 := by
  obtain ⟨f, rfl⟩ : ∃ g, f = g + 1 := ⟨f - 1, by omega⟩
  unfold uintL
  split
  · have := uintL_pos f (n / 128) (by omega)
    simp only [List.length_cons]
    omega
  · simp; omega
theorem uintL_mono : ∀ (f a b : Nat), a ≤ b → (uintL f a).length ≤ (uintL f b).length
  | 0, _, _, _ => Nat.le_refl _
  | f + 1, a, b, h => by
    have ih := uintL_mono f (a / 128) (b / 128) (Nat.div_le_div_right h)
    unfold uintL
    split
    · rw [if_pos (by omega)]
      simp only [List.length_cons]; omega
    · split
      · simp
      · simp
theorem uintL_inj : ∀ (f a b : Nat), a < 128 ^ f → b < 128 ^ f → uintL f a = uintL f b → a = b
  | 0, a, b, ha, hb, _ => by simp at ha hb; omega
  | f + 1, a, b, ha, hb, h => by
    have hd : ∀ n, n < 128 ^ (f + 1) → n / 128 < 128 ^ f := fun n hn => by rw [Nat.div_lt_iff_lt_mul (by decide), ← Nat.pow_succ]; exact hn
    unfold uintL at h
    split at h <;> split at h
    · injection h with h1 h2
      have := uintL_inj f (a / 128) (b / 128) (hd a ha) (hd b hb) h2
      omega
    · injection h with h1 h2
      omega
    · injection h with h1 h2
      omega
    · injection h with h1 h2
      omega
theorem uintL_range : ∀ (f n : Nat), ∀ x ∈ uintL f n, 0 ≤ x ∧ x < 256
  | 0, _, x, h => by simp [uintL] at h
  | f + 1, n, x, h => by
    unfold uintL at h
    split at h
    · rcases List.mem_cons.1 h with rfl | h
      · omega
      · exact uintL_range f _ x h
    · simp only [List.mem_singleton] at h
      omega
theorem str_inj {a b : List Int} (ha : ∀ x ∈ a, 0 ≤ x ∧ x < 256) (hb : ∀ x ∈ b, 0 ≤ x ∧ x < 256) (h : (strOfNums a).toList = (strOfNums b).toList) : a = b := by
  have h2 : a.map (fun n => UInt8.ofNat n.toNat) = b.map (fun n => UInt8.ofNat n.toNat) := by
    have h3 : ∀ l : List Int, (strOfNums l).toList = l.map (fun n => UInt8.ofNat n.toNat) := fun l => by simp [strOfNums]
    rw [h3, h3] at h
    exact h
  clear h
  induction a generalizing b with
  | nil => cases b with
    | nil => rfl
    | cons y t => simp at h2
  | cons x s ih => cases b with
    | nil => simp at h2
    | cons y t =>
      simp only [List.map_cons, List.cons.injEq] at h2
      have h4 := ih (fun z hz => ha z (by simp [hz])) (fun z hz => hb z (by simp [hz])) h2.2
      have hx := ha x (by simp)
      have hy := hb y (by simp)
      have h5 := congrArg UInt8.toNat h2.1
      simp only [UInt8.toNat_ofNat'] at h5
      rw [h4]
      congr 1
      omega
end Go.Proofs.Ytkigdcihhlkkdaa.Pure
