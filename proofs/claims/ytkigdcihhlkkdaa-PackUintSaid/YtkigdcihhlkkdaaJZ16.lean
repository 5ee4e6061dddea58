/- own texts of this session, put together -/
import Derived.Test.YtkigdcihhlkkdaaJZ5
import Derived.Test.YtkigdcihhlkkdaaJZ15
import Derived.Test.YtkigdcihhlkkdaaJZ0
import Derived.Deep.Strs
import Derived.ChangeSlices
import Derived.DataElems
import Derived.Test.YtkigdcihhlkkdaaJPx17
import Derived.WideShapes
section
set_option linter.unusedVariables false
set_option linter.unusedSimpArgs false
namespace Go.Proofs.Ytkigdcihhlkkdaa.Pure
open Go.RowKit Go.Proofs.Ytkigdcihhlkkdaa.P Go.Proofs.YtkigdcihhlkkdaaW.PrintWords Go.Proofs.YtkigdcihhlkkdaaW.PrintLast
theorem w64_in_ (n : Int) (h : -9223372036854775808 ≤ n ∧ n ≤ 9223372036854775807) : wrap64 n = n := by unfold wrap64; omega
theorem rd_at {l : List Int} {i : Nat} (h : i < l.length) : rd l (i : Int) = l[i] := by
  simp [rd, List.getD_eq_getElem?_getD, List.getElem?_eq_getElem h]
theorem eqb_loop (a b : List Int) (hab : a.length = b.length) (hl : a.length ≤ 1000000000) : ∀ (d i : Nat), i + d = a.length → Ev (fun k => slices_Equal_byte_byte.l0 k a b (a.length : Int) (i : Int)) (decide (a.drop i = b.drop i))
  | 0, i, hi => by
    refine Ev.step (f := _) (fun k => by rw [slices_Equal_byte_byte.l0]) ?_
    refine ev_neg (by omega) ?_
    rw [List.drop_of_length_le (by omega), List.drop_of_length_le (by omega)]
    exact Ev.now _
  | d + 1, i, hi => by
    have ha : i < a.length := by omega
    have hb : i < b.length := by omega
    refine Ev.step (f := _) (fun k => by rw [slices_Equal_byte_byte.l0]) ?_
    refine ev_pos (by omega) (ev_pos (by omega) (ev_pos (by omega) (ev_pos (by omega) ?_)))
    rw [rd_at ha, rd_at hb]
    have e : wrap64 ((i : Int) + 1) = ((i + 1 : Nat) : Int) := by rw [w64_in_ _ (by omega)]; omega
    rw [e, List.drop_eq_getElem_cons ha, List.drop_eq_getElem_cons hb]
    by_cases h : a[i] = b[i]
    · refine ev_pos h ?_
      have := eqb_loop a b hab hl d (i + 1) (by omega)
      rw [h]
      simp only [List.cons.injEq, true_and]
      exact this
    · refine ev_neg h ?_
      have : decide (a[i] :: a.drop (i + 1) = b[i] :: b.drop (i + 1)) = false := by
        rw [decide_eq_false_iff_not]
        intro hh
        injection hh with h1 _
        exact h h1
      rw [this]
      exact Ev.now _
theorem eqb_ev (a b : List Int) (hl : a.length ≤ 1000000000) : Ev (fun k => slices_Equal_byte_byte.f k a b) (decide (a = b)) := by
  unfold slices_Equal_byte_byte.f
  by_cases h : a.length = b.length
  · refine ev_pos (by omega) ?_
    exact eqb_loop a b h hl a.length 0 (by omega)
  · refine ev_neg (by omega) ?_
    have : decide (a = b) = false := by
      rw [decide_eq_false_iff_not]
      rintro rfl
      exact h rfl
    rw [this]
    exact Ev.now _
theorem and127 (n : Nat) (h : n < 256) : Go.bits .and .u8 (n : Int) 127 = ((n % 128 : Nat) : Int) := by
  have h2 : ∀ a : Fin 256, (a.val &&& 127) = a.val % 128 := by decide +kernel
  rw [show (127 : Int) = ((127 : Nat) : Int) from rfl, u8_and_nat _ _ h (by decide)]
  have := h2 ⟨n, h⟩
  simp only at this
  rw [this]
def addB (acc i x : Nat) : Nat := (acc + x % 128 * 128 ^ i) % 18446744073709551616
theorem pow128 (i : Nat) : 128 ^ i = 2 ^ (7 * i) := by
  rw [Nat.pow_mul]
theorem addB_ev (acc i x : Nat) (hi : i < 10) (ha : acc < 128 ^ i) (hx : x < 256) : Go.bits .or .u64 (acc : Int) (shl .u64 (IntKind.u64.wrap (Go.bits .and .u8 (x : Int) 127)) (wrap64 (7 * (i : Int)))) = ((addB acc i x : Nat) : Int) := by
  rw [and127 x hx, w64_in_ _ (by omega)]
  have e1 : IntKind.u64.wrap ((x % 128 : Nat) : Int) = ((x % 128 : Nat) : Int) := by rw [IntKind.wrap_u64]; omega
  rw [e1]
  unfold shl
  have e2 : min (7 * (i : Int)).toNat IntKind.u64.bits = 7 * i := by
    have : IntKind.u64.bits = 64 := rfl
    omega
  rw [e2, IntKind.wrap_u64]
  have e3 : (((x % 128 : Nat) : Int) * 2 ^ (7 * i)) % 18446744073709551616 = ((x % 128 * 2 ^ (7 * i) % 18446744073709551616 : Nat) : Int) := by
    have : ((x % 128 : Nat) : Int) * 2 ^ (7 * i) = ((x % 128 * 2 ^ (7 * i) : Nat) : Int) := by rw [Int.natCast_mul, Int.natCast_pow]; rfl
    rw [this]
    omega
  rw [e3]
  have hacc : acc < 18446744073709551616 := Nat.lt_of_lt_of_le ha (by
    rw [pow128]
    exact Nat.le_trans (Nat.pow_le_pow_right (by decide) (show 7 * i ≤ 63 by omega)) (by decide))
  rw [u64_or_nat _ _ (by omega) (by omega)]
  congr 1
  unfold addB
  rw [pow128] at *
  by_cases h9 : i = 9
  · subst h9
    have e4 : x % 128 * 2 ^ (7 * 9) % 18446744073709551616 = (x % 2) * 2 ^ 63 := by omega
    rw [e4, Nat.or_comm, ← Nat.shiftLeft_eq, ← Nat.shiftLeft_add_eq_or_of_lt (by omega), Nat.shiftLeft_eq]
    omega
  · have hp : 2 ^ (7 * i) ≤ 2 ^ 56 := Nat.pow_le_pow_right (by decide) (by omega)
    have h1 : x % 128 * 2 ^ (7 * i) ≤ 127 * 2 ^ 56 := Nat.mul_le_mul (by omega) hp
    have h2 : acc + x % 128 * 2 ^ (7 * i) < 18446744073709551616 := by
      generalize x % 128 * 2 ^ (7 * i) = q at *
      generalize 2 ^ (7 * i) = p at *
      omega
    have h3 : x % 128 * 2 ^ (7 * i) < 18446744073709551616 := by omega
    rw [Nat.mod_eq_of_lt h2, Nat.mod_eq_of_lt h3, Nat.or_comm, ← Nat.shiftLeft_eq, ← Nat.shiftLeft_add_eq_or_of_lt ha, Nat.add_comm]
theorem addB_lt (acc i x : Nat) (hi : i < 9) (ha : acc < 128 ^ i) : addB acc i x < 128 ^ (i + 1) := by
  unfold addB
  refine Nat.lt_of_le_of_lt (Nat.mod_le _ _) ?_
  rw [Nat.pow_succ]
  have : x % 128 * 128 ^ i ≤ 127 * 128 ^ i := Nat.mul_le_mul_right _ (by omega)
  omega
theorem addB_lt64 (acc i x : Nat) : addB acc i x < 18446744073709551616 := Nat.mod_lt _ (by decide)
def getL (x0 : List Int) : Nat → Nat → Nat → List Int → Int × Int
  | 0, _, _, _ => (0, 0)
  | _ + 1, _, _, [] => (0, 0)
  | f + 1, i, acc, x :: t => if x < 128 then (if uintL 10 (addB acc i x.toNat) = x0.take (i + 1) then (((addB acc i x.toNat : Nat) : Int), ((i + 1 : Nat) : Int)) else (0, 0)) else getL x0 f (i + 1) (addB acc i x.toNat) t
theorem getL_ev (x0 : List Int) (hx : ∀ x ∈ x0, 0 ≤ x ∧ x < 256) : ∀ (f i acc : Nat), i + f = 10 → acc < 128 ^ i → Ev (fun k => pack_GetUint.l0 k x0 (acc : Int) (x0.take 10) ((x0.take 10).length : Int) (i : Int)) (getL x0 f i acc (x0.drop i))
  | 0, i, acc, hi, ha => by
    refine Ev.step (f := _) (fun k => by rw [pack_GetUint.l0]) ?_
    refine ev_neg (by rw [List.length_take]; omega) ?_
    exact Ev.now _
  | f + 1, i, acc, hi, ha => by
    refine Ev.step (f := _) (fun k => by rw [pack_GetUint.l0]) ?_
    by_cases hlt : i < x0.length
    · have hlt2 : i < (x0.take 10).length := by rw [List.length_take]; omega
      have hb := hx x0[i] (List.getElem_mem hlt)
      rw [List.drop_eq_getElem_cons hlt, rd_at hlt2, List.getElem_take]
      generalize x0[i] = x at hb
      obtain ⟨n, rfl⟩ : ∃ n : Nat, x = n := ⟨x.toNat, by omega⟩
      rw [addB_ev acc i n (by omega) ha (by omega)]
      have e : wrap64 ((i : Int) + 1) = ((i + 1 : Nat) : Int) := by rw [w64_in_ _ (by omega)]; omega
      rw [e]
      refine ev_pos (by omega) (ev_pos (by omega) (ev_pos (by omega) (ev_pos (by rw [w64_in_ _ (by omega)]; omega) ?_)))
      unfold getL
      rw [Int.toNat_natCast]
      by_cases h128 : (n : Int) < 128
      · refine ev_pos h128 ?_
        rw [if_pos h128]
        refine Ev.bind (uint_ev _ (addB_lt64 _ _ _)) ?_
        refine ev_pos (by omega) (ev_pos (by omega) ?_)
        have hlen := uintL_bound 10 (addB acc i n)
        refine Ev.bind (eqb_ev _ _ (by omega)) ?_
        rw [Int.toNat_natCast]
        by_cases heq : uintL 10 (addB acc i n) = x0.take (i + 1)
        · rw [if_pos heq]
          exact ev_pos (by simpa using heq) (Ev.now _)
        · rw [if_neg heq]
          exact ev_neg (by simpa using heq) (Ev.now _)
      · refine ev_neg h128 ?_
        rw [if_neg h128]
        by_cases h9 : i = 9
        · subst h9
          obtain rfl : f = 0 := by omega
          refine Ev.step (f := _) (fun k => by rw [pack_GetUint.l0]) ?_
          refine ev_neg (by rw [List.length_take]; omega) ?_
          exact Ev.now _
        · exact getL_ev x0 hx f (i + 1) (addB acc i n) (by omega) (addB_lt _ _ _ (by omega) ha)
    · refine ev_neg (by rw [List.length_take]; omega) ?_
      rw [List.drop_of_length_le (by omega)]
      exact Ev.now _
theorem getUint_ev (x0 : List Int) (hx : ∀ x ∈ x0, 0 ≤ x ∧ x < 256) : Ev (fun k => pack_GetUint.f k x0) (getL x0 10 0 0 x0) := by
  unfold pack_GetUint.f
  have hmn : mn (x0.length : Int) 10 = ((min x0.length 10 : Nat) : Int) := by unfold mn; split <;> omega
  rw [hmn]
  refine ev_pos (by omega) (ev_pos (by omega) ?_)
  have e : x0.take ((min x0.length 10 : Nat) : Int).toNat = x0.take 10 := by
    rw [Int.toNat_natCast]
    by_cases h : x0.length ≤ 10
    · rw [Nat.min_eq_left h, List.take_of_length_le (by omega), List.take_of_length_le (by omega)]
    · rw [Nat.min_eq_right (by omega)]
  rw [e]
  simp only [Option.bind_some]
  exact getL_ev x0 hx 10 0 0 (by decide) (by decide)
theorem uintL_succ (f n : Nat) : uintL (f + 1) n = if 128 ≤ n then ((n % 128 + 128 : Nat) : Int) :: uintL f (n / 128) else [(n : Int)] := rfl
theorem getL_uint (x0 rest : List Int) (n : Nat) (hn : n < 18446744073709551616) (hx0 : x0 = uintL 10 n ++ rest) : ∀ (f i : Nat), i + f = 10 → n / 128 ^ i < 128 ^ f → (uintL 10 n).length = i + (uintL f (n / 128 ^ i)).length → 0 < f →
    getL x0 f i (n % 128 ^ i) (uintL f (n / 128 ^ i) ++ rest) = ((n : Int), ((uintL 10 n).length : Int))
  | 0, i, hi, hlt, hlen, hf => absurd hf (by decide)
  | f + 1, i, hi, hlt, hlen, hf => by
    have hdiv : n / 128 ^ (i + 1) = n / 128 ^ i / 128 := by rw [Nat.pow_succ, Nat.div_div_eq_div_mul]
    have hmod : n % 128 ^ (i + 1) = n % 128 ^ i + 128 ^ i * (n / 128 ^ i % 128) := Nat.mod_pow_succ
    have hle : n % 128 ^ (i + 1) ≤ n := Nat.mod_le _ _
    have hsum : n = n % 128 ^ i + 128 ^ i * (n / 128 ^ i) := (Nat.mod_add_div n (128 ^ i)).symm
    rw [uintL_succ f (n / 128 ^ i)] at hlen ⊢
    by_cases h128 : 128 ≤ n / 128 ^ i
    · rw [if_pos h128] at hlen ⊢
      rw [List.cons_append]
      unfold getL
      rw [if_neg (by omega), Int.toNat_natCast]
      have hadd : addB (n % 128 ^ i) i (n / 128 ^ i % 128 + 128) = n % 128 ^ (i + 1) := by
        unfold addB
        rw [show (n / 128 ^ i % 128 + 128) % 128 = n / 128 ^ i % 128 by omega, Nat.mul_comm, ← hmod]
        exact Nat.mod_eq_of_lt (by omega)
      have hf0 : 0 < f := by
        rcases Nat.eq_zero_or_pos f with h0 | h0
        · subst h0; simp at hlt; omega
        · exact h0
      have h3 : n / 128 ^ i / 128 < 128 ^ f := by
        rw [Nat.div_lt_iff_lt_mul (by decide), ← Nat.pow_succ]
        exact hlt
      rw [hadd]
      rw [← hdiv] at h3 hlen ⊢
      exact getL_uint x0 rest n hn hx0 f (i + 1) (by omega) h3 (by simp only [List.length_cons] at hlen; omega) hf0
    · rw [if_neg h128] at hlen ⊢
      rw [List.cons_append, List.nil_append]
      unfold getL
      rw [if_pos (by omega), Int.toNat_natCast]
      have hadd : addB (n % 128 ^ i) i (n / 128 ^ i) = n := by
        unfold addB
        rw [Nat.mod_eq_of_lt (show n / 128 ^ i < 128 by omega), Nat.mul_comm, ← hsum]
        exact Nat.mod_eq_of_lt hn
      simp only [List.length_singleton] at hlen
      rw [hadd, if_pos (by rw [hx0, ← hlen, List.take_left]), hlen]
theorem getL_num (n : Nat) (hn : n < 18446744073709551616) (rest : List Int) : getL (uintL 10 n ++ rest) 10 0 0 (uintL 10 n ++ rest) = ((n : Int), ((uintL 10 n).length : Int)) := by
  have := getL_uint (uintL 10 n ++ rest) rest n hn rfl 10 0 (by decide) (by simp; exact Nat.lt_of_lt_of_le hn (by decide)) (by simp) (by decide)
  rw [Nat.pow_zero, Nat.mod_one, Nat.div_one] at this
  exact this
end Go.Proofs.Ytkigdcihhlkkdaa.Pure
end
section
namespace Go.Proofs.Ytkigdcihhlkkdaa.P
open Go.RowKit Go.Proofs.YtkigdcihhlkkdaaW.PrintWords Go.Proofs.YtkigdcihhlkkdaaW.PrintLast Go.Proofs.YtkigdcihhlkkdaaW.PrintMore
attribute [local go_sem] max2_int min2_int max_two min_two max_three min_three max_four min_four   -- for this text's walks alone
set_option linter.unusedVariables false
set_option linter.unusedSimpArgs false
mutual
def rotulusref1_GetUint.l0 : Nat → List Int → Int → Int → Int → Option (Int × Int)
  | 0, _, _, _, _ => none
  | k + 1, x0, x4, x5, x6 => if x6 < (x0.length : Int) then (rotulusref1_GetUint.j1 k x0 x4 x5 x6 (decide (x6 < 10))) else (rotulusref1_GetUint.j1 k x0 x4 x5 x6 false)
def rotulusref1_GetUint.j1 : Nat → List Int → Int → Int → Int → Bool → Option (Int × Int)
  | 0, _, _, _, _, _ => none
  | k + 1, x0, x4, x5, x6, x15 => if x15 = true then (if 0 ≤ x6 then (if x6 < (x0.length : Int) then (if x6 = 9 then (rotulusref1_GetUint.j2 k x0 x4 x5 x6 (IntKind.u64.wrap (Int.tmod (rd x0 x6) 128)) (decide ((IntKind.u64.wrap (Int.tmod (rd x0 x6) 128)) > 1))) else (rotulusref1_GetUint.j2 k x0 x4 x5 x6 (IntKind.u64.wrap (Int.tmod (rd x0 x6) 128)) false)) else (none)) else (none)) else (some (0, 0))
def rotulusref1_GetUint.j2 : Nat → List Int → Int → Int → Int → Int → Bool → Option (Int × Int)
  | 0, _, _, _, _, _, _ => none
  | k + 1, x0, x4, x5, x6, x7, x29 => if x29 = true then (some (0, 0)) else (if 0 ≤ x6 then (if x6 < (x0.length : Int) then (if (rd x0 x6) < 128 then (if x6 > 0 then (if (rd x0 x6) = 0 then (some (0, 0)) else (some (IntKind.u64.wrap (x4 + (IntKind.u64.wrap (x7 * x5))), wrap64 (x6 + 1)))) else (some (IntKind.u64.wrap (x4 + (IntKind.u64.wrap (x7 * x5))), wrap64 (x6 + 1)))) else (rotulusref1_GetUint.l0 k x0 (IntKind.u64.wrap (x4 + (IntKind.u64.wrap (x7 * x5)))) (IntKind.u64.wrap (x5 * 128)) (wrap64 (x6 + 1)))) else (none)) else (none))
end
def rotulusref1_GetUint.f (k : Nat) (l0 : List Int) : Option (Int × Int) := rotulusref1_GetUint.l0 k l0 0 1 0
theorem rotulusref1_GetUint.mono_l : ∀ k, (∀ y0 y1 y2 y3, LeO (rotulusref1_GetUint.l0 k y0 y1 y2 y3) (rotulusref1_GetUint.l0 (k + 1) y0 y1 y2 y3)) ∧ (∀ y0 y1 y2 y3 y4, LeO (rotulusref1_GetUint.j1 k y0 y1 y2 y3 y4) (rotulusref1_GetUint.j1 (k + 1) y0 y1 y2 y3 y4)) ∧ (∀ y0 y1 y2 y3 y4 y5, LeO (rotulusref1_GetUint.j2 k y0 y1 y2 y3 y4 y5) (rotulusref1_GetUint.j2 (k + 1) y0 y1 y2 y3 y4 y5))
  | 0 => ⟨fun _ _ _ _ r h => by simp [rotulusref1_GetUint.l0] at h, fun _ _ _ _ _ r h => by simp [rotulusref1_GetUint.j1] at h, fun _ _ _ _ _ _ r h => by simp [rotulusref1_GetUint.j2] at h⟩
  | k + 1 => by
    obtain ⟨ih0, ih1, ih2⟩ := rotulusref1_GetUint.mono_l k
    refine ⟨?_, ?_, ?_⟩
    · intro y0 y1 y2 y3
      unfold rotulusref1_GetUint.l0
      repeat' first
      | (with_reducible exact ih0 _ _ _ _)
      | (with_reducible exact ih1 _ _ _ _ _)
      | (with_reducible exact ih2 _ _ _ _ _ _)
      | (with_reducible exact LeO.refl _)
      | (with_reducible exact LeO.none _)
      | (with_reducible refine LeO.ite ?_ ?_)
      | (with_reducible refine LeO.bind ?_ (fun _ => ?_))
      | exact ih0 _ _ _ _
      | exact ih1 _ _ _ _ _
      | exact ih2 _ _ _ _ _ _
      | exact LeO.none _
      | refine LeO.ite ?_ ?_
      | refine LeO.bind ?_ (fun _ => ?_)
    · intro y0 y1 y2 y3 y4
      unfold rotulusref1_GetUint.j1
      repeat' first
      | (with_reducible exact ih0 _ _ _ _)
      | (with_reducible exact ih1 _ _ _ _ _)
      | (with_reducible exact ih2 _ _ _ _ _ _)
      | (with_reducible exact LeO.refl _)
      | (with_reducible exact LeO.none _)
      | (with_reducible refine LeO.ite ?_ ?_)
      | (with_reducible refine LeO.bind ?_ (fun _ => ?_))
      | exact ih0 _ _ _ _
      | exact ih1 _ _ _ _ _
      | exact ih2 _ _ _ _ _ _
      | exact LeO.none _
      | refine LeO.ite ?_ ?_
      | refine LeO.bind ?_ (fun _ => ?_)
    · intro y0 y1 y2 y3 y4 y5
      unfold rotulusref1_GetUint.j2
      repeat' first
      | (with_reducible exact ih0 _ _ _ _)
      | (with_reducible exact ih1 _ _ _ _ _)
      | (with_reducible exact ih2 _ _ _ _ _ _)
      | (with_reducible exact LeO.refl _)
      | (with_reducible exact LeO.none _)
      | (with_reducible refine LeO.ite ?_ ?_)
      | (with_reducible refine LeO.bind ?_ (fun _ => ?_))
      | exact ih0 _ _ _ _
      | exact ih1 _ _ _ _ _
      | exact ih2 _ _ _ _ _ _
      | exact LeO.none _
      | refine LeO.ite ?_ ?_
      | refine LeO.bind ?_ (fun _ => ?_)
theorem rotulusref1_GetUint.mono : ∀ a0 k, LeO (rotulusref1_GetUint.f k a0) (rotulusref1_GetUint.f (k + 1) a0) := by
  intro a0 k
  obtain ⟨ih0, ih1, ih2⟩ := rotulusref1_GetUint.mono_l k
  unfold rotulusref1_GetUint.f
  repeat' first
      | (with_reducible exact ih0 _ _ _ _)
      | (with_reducible exact ih1 _ _ _ _ _)
      | (with_reducible exact ih2 _ _ _ _ _ _)
      | (with_reducible exact LeO.refl _)
      | (with_reducible exact LeO.none _)
      | (with_reducible refine LeO.ite ?_ ?_)
      | (with_reducible refine LeO.bind ?_ (fun _ => ?_))
      | exact ih0 _ _ _ _
      | exact ih1 _ _ _ _ _
      | exact ih2 _ _ _ _ _ _
      | exact LeO.none _
      | refine LeO.ite ?_ ?_
      | refine LeO.bind ?_ (fun _ => ?_)
set_option maxHeartbeats 8000000 in
set_option maxRecDepth 100000 in
theorem rotulusref1_GetUint.calls (k : Nat) (A0 : Option Addr) (c0 : Nat) (l0 : List Int) (r1 : Int) (r2 : Int) (w : World) (hr0 : Kd.C (Kd.int .u8) w A0 l0.length l0) (hc0 : l0.length ≤ c0) (h : rotulusref1_GetUint.f k l0 = some (r1, r2)) :
    Calls Try.prog 21 #[.slice A0 l0.length c0] w fun e w' => e = .returned (.tuple #[.int .u64 r1, .int .i64 r2]) ∧ Drawn0 w w' := by
  have HR0 := Aside0.mk hr0
  have HC0 := Aside0.mk hc0
  clear hr0 hc0
  have H : (rotulusref1_GetUint.l0 k l0 0 1 0) = some (r1, r2) := h
  clear h
  have H' := Aside0.mk H
  clear H
  go_enter Try.func21, Try.ntmps21
  go_wp2
  go_loopg [4, 5, 6] k (fun kq v4 v5 v6 w' => ∃ (x4_1 : Int) (x5_1 : Int) (x6_1 : Int), v4 = .int .u64 x4_1 ∧ v5 = .int .u64 x5_1 ∧ v6 = .int .i64 x6_1 ∧ Aside0 (rotulusref1_GetUint.l0 kq l0 x4_1 x5_1 x6_1 = some (r1, r2)) ∧ Aside0 (kq ≤ k) ∧ Drawn0 w w')
  case atStart => exact ⟨(0), (1), (0), (by first | rfl | (simp; done) | (simp [*]; done)), (by first | rfl | (simp; done) | (simp [*]; done)), (by first | rfl | (simp; done) | (simp [*]; done)), H', ⟨Nat.le_refl _⟩, by repeat (first | exact Drawn0.refl _ | apply Drawn0.step)⟩
  case round =>
    clear H'
    obtain ⟨x4_1, x5_1, x6_1, rfl, rfl, rfl, HA, HK1, ⟨m1, rfl⟩⟩ := hrel
    cases gk with
    | zero => exact absurd HA.out (by simp [rotulusref1_GetUint.l0])
    | succ k1 =>
      have H := HA.out
      clear HA
      simp only [rotulusref1_GetUint.l0] at H
      have HC2 := Aside0.mk H
      clear H
      go_upto_region 3 with (fail)
      go_cut [15] (fun v15 wc => ∃ (kq : Nat) (x15_1 : Bool), v15 = .bool x15_1 ∧ Aside0 (rotulusref1_GetUint.j1 kq l0 x4_1 x5_1 x6_1 x15_1 = some (r1, r2)) ∧ Aside0 (kq ≤ k1) ∧ Drawn0 w wc)
      case first =>
        have H := HC2.out
        clear HC2
        by_cases c3 : x6_1 < (l0.length : Int)
        · rw [if_pos c3] at H
          have c3b0 : decide (x6_1 < (l0.length : Int)) = true := decide_eq_true c3
          clear c3
          (first | rw [c3b0] | (simp only [i64_w, i32_w]; rw [c3b0]) | skip)
          have H' := Aside0.mk H
          clear H
          go_wp2
          go_meet
          case rel => exact ⟨_, (decide (x6_1 < 10)), (by first | rfl | (simp; done) | (simp [*]; done)), H', ⟨by have := HK1.out; first | omega | exact Nat.le_refl _⟩, by repeat (first | exact Drawn0.refl _ | apply Drawn0.step)⟩
        · rw [if_neg c3] at H
          have c3b0 : decide (x6_1 < (l0.length : Int)) = false := decide_eq_false c3
          clear c3
          (first | rw [c3b0] | (simp only [i64_w, i32_w]; rw [c3b0]) | skip)
          have H' := Aside0.mk H
          clear H
          go_wp2
          go_meet
          case rel => exact ⟨_, (false), (by first | rfl | (simp; done) | (simp [*]; done)), H', ⟨by have := HK1.out; first | omega | exact Nat.le_refl _⟩, by repeat (first | exact Drawn0.refl _ | apply Drawn0.step)⟩
      case rest =>
        clear HC2
        try clear c2
        try clear p2
        try clear c3
        try clear c3b0
        obtain ⟨kq, x15_1, rfl, HA, HJ1, ⟨mc1, rfl⟩⟩ := hcut
        cases kq with
        | zero => exact absurd HA.out (by simp [rotulusref1_GetUint.j1])
        | succ kj1 =>
          have H := HA.out
          clear HA
          simp only [rotulusref1_GetUint.j1] at H
          by_cases c4 : x15_1 = true
          · subst c4
            have H1 : (if 0 ≤ x6_1 then (if x6_1 < (l0.length : Int) then (if x6_1 = 9 then (rotulusref1_GetUint.j2 kj1 l0 x4_1 x5_1 x6_1 (IntKind.u64.wrap (Int.tmod (rd l0 x6_1) 128)) (decide ((IntKind.u64.wrap (Int.tmod (rd l0 x6_1) 128)) > 1))) else (rotulusref1_GetUint.j2 kj1 l0 x4_1 x5_1 x6_1 (IntKind.u64.wrap (Int.tmod (rd l0 x6_1) 128)) false)) else (none)) else (none)) = some (r1, r2) := by rw [if_pos rfl] at H; exact H
            clear H
            have H := H1
            clear H1
            have c5 : 0 ≤ x6_1 := Decidable.byContradiction fun hc_ => absurd ((if_neg hc_).symm.trans H) (by simp)
            rw [if_pos c5] at H
            have c5b0 : decide (0 ≤ x6_1) = true := decide_eq_true c5
            clear c5
            have c6 : x6_1 < (l0.length : Int) := Decidable.byContradiction fun hc_ => absurd ((if_neg hc_).symm.trans H) (by simp)
            rw [if_pos c6] at H
            have c6b0 : decide (x6_1 < (l0.length : Int)) = true := decide_eq_true c6
            clear c6
            have HC7 := Aside0.mk H
            clear H
            have p445 : 0 ≤ (x6_1 : Int) := of_decide_eq_true (by first | (with_reducible assumption) | assumption)
            have q445 : x6_1 < (l0.length : Int) := of_decide_eq_true (by first | (with_reducible assumption) | assumption)
            obtain ⟨ad445, e445, hx445_0⟩ := Kd.at_int HR0.out x6_1 p445 q445
            cases e445
            replace p445 := eq_true p445
            replace q445 := eq_true q445
            go_upto_region 6 with (fail)
            go_cut [29] (fun v29 wc => ∃ (kq : Nat) (x29_6 : Bool), v29 = .bool x29_6 ∧ Aside0 (rotulusref1_GetUint.j2 kq l0 x4_1 x5_1 x6_1 (IntKind.u64.wrap (Int.tmod (rd l0 x6_1) 128)) x29_6 = some (r1, r2)) ∧ Aside0 (kq ≤ kj1) ∧ Drawn0 w wc)
            case first =>
              have H := HC7.out
              clear HC7
              by_cases c8 : x6_1 = 9
              · rw [if_pos c8] at H
                have c8b0 : (x6_1 == 9) = true := beq_iff_eq.mpr c8
                have c8b1 : (x6_1 != 9) = false := bne_eq_false_iff_eq.mpr c8
                clear c8
                (first | rw [c8b0] | (simp only [i64_w, i32_w]; rw [c8b0]) | skip)
                have H' := Aside0.mk H
                clear H
                go_wp2
                go_meet
                case rel => exact ⟨_, (decide ((IntKind.u64.wrap (Int.tmod (rd l0 x6_1) 128)) > 1)), (by first | rfl | (simp; done) | (simp [*]; done)), H', ⟨by have := HK1.out; have := HJ1.out; first | omega | exact Nat.le_refl _⟩, by repeat (first | exact Drawn0.refl _ | apply Drawn0.step)⟩
              · rw [if_neg c8] at H
                have c8b0 : (x6_1 == 9) = false := beq_eq_false_iff_ne.mpr c8
                have c8b1 : (x6_1 != 9) = true := bne_iff_ne.mpr c8
                (first | rw [c8b0] | (simp only [i64_w, i32_w]; rw [c8b0]) | skip)
                have H' := Aside0.mk H
                clear H
                go_wp2
                go_meet
                case rel => exact ⟨_, (false), (by first | rfl | (simp; done) | (simp [*]; done)), H', ⟨by have := HK1.out; have := HJ1.out; first | omega | exact Nat.le_refl _⟩, by repeat (first | exact Drawn0.refl _ | apply Drawn0.step)⟩
            case rest =>
              clear HC7
              try clear c1
              try clear c2
              try clear p2
              try clear c3
              try clear c3b0
              try clear c4
              try clear p4
              try clear q4
              try clear hx4
              try clear c5
              try clear c5b0
              try clear c6
              try clear c6b0
              try clear c8
              try clear c8b0
              try clear c8b1
              try clear hx445_0
              try clear p2
              try clear p445
              try clear q445
              obtain ⟨kq, x29_6, rfl, HA, HJ6, ⟨mc6, rfl⟩⟩ := hcut
              cases kq with
              | zero => exact absurd HA.out (by simp [rotulusref1_GetUint.j2])
              | succ kj6 =>
                have H := HA.out
                clear HA
                simp only [rotulusref1_GetUint.j2] at H
                by_cases c9 : x29_6 = true
                · subst c9
                  have H1 : (some (0, 0)) = some (r1, r2) := by rw [if_pos rfl] at H; exact H
                  clear H
                  have H := H1
                  clear H1
                  simp only [Option.some.injEq, Prod.mk.injEq] at H
                  obtain ⟨rfl, rfl⟩ := H
                  go_wp2
                  go_ret2
                  exact ⟨by first | rfl | (simp; done) | (simp [*]; done), by repeat (first | exact Drawn0.refl _ | apply Drawn0.step)⟩
                · replace c9 := Bool.eq_false_iff.mpr c9
                  subst c9
                  have H1 : (if 0 ≤ x6_1 then (if x6_1 < (l0.length : Int) then (if (rd l0 x6_1) < 128 then (if x6_1 > 0 then (if (rd l0 x6_1) = 0 then (some (0, 0)) else (some (IntKind.u64.wrap (x4_1 + (IntKind.u64.wrap ((IntKind.u64.wrap (Int.tmod (rd l0 x6_1) 128)) * x5_1))), wrap64 (x6_1 + 1)))) else (some (IntKind.u64.wrap (x4_1 + (IntKind.u64.wrap ((IntKind.u64.wrap (Int.tmod (rd l0 x6_1) 128)) * x5_1))), wrap64 (x6_1 + 1)))) else (rotulusref1_GetUint.l0 kj6 l0 (IntKind.u64.wrap (x4_1 + (IntKind.u64.wrap ((IntKind.u64.wrap (Int.tmod (rd l0 x6_1) 128)) * x5_1)))) (IntKind.u64.wrap (x5_1 * 128)) (wrap64 (x6_1 + 1)))) else (none)) else (none)) = some (r1, r2) := by rw [if_neg (show ¬ (false = true) by decide)] at H; exact H
                  clear H
                  have H := H1
                  clear H1
                  have c10 : 0 ≤ x6_1 := Decidable.byContradiction fun hc_ => absurd ((if_neg hc_).symm.trans H) (by simp)
                  rw [if_pos c10] at H
                  have c10b0 : decide (0 ≤ x6_1) = true := decide_eq_true c10
                  clear c10
                  have c11 : x6_1 < (l0.length : Int) := Decidable.byContradiction fun hc_ => absurd ((if_neg hc_).symm.trans H) (by simp)
                  rw [if_pos c11] at H
                  have c11b0 : decide (x6_1 < (l0.length : Int)) = true := decide_eq_true c11
                  clear c11
                  by_cases c12 : (rd l0 x6_1) < 128
                  · rw [if_pos c12] at H
                    have c12b0 : decide ((rd l0 x6_1) < 128) = true := decide_eq_true c12
                    clear c12
                    by_cases c13 : x6_1 > 0
                    · rw [if_pos c13] at H
                      have c13b0 : decide (0 < x6_1) = true := decide_eq_true c13
                      clear c13
                      by_cases c14 : (rd l0 x6_1) = 0
                      · rw [if_pos c14] at H
                        have c14b0 : ((rd l0 x6_1) == 0) = true := beq_iff_eq.mpr c14
                        have c14b1 : ((rd l0 x6_1) != 0) = false := bne_eq_false_iff_eq.mpr c14
                        clear c14
                        simp only [Option.some.injEq, Prod.mk.injEq] at H
                        obtain ⟨rfl, rfl⟩ := H
                        have p446 : 0 ≤ (x6_1 : Int) := of_decide_eq_true (by first | (with_reducible assumption) | assumption)
                        have q446 : x6_1 < (l0.length : Int) := of_decide_eq_true (by first | (with_reducible assumption) | assumption)
                        obtain ⟨ad446, e446, hx446_0⟩ := Kd.at_int HR0.out x6_1 p446 q446
                        obtain rfl : ad445 = ad446 := (by injection e446)
                        replace p446 := eq_true p446
                        replace q446 := eq_true q446
                        have p447 : 0 ≤ (x6_1 : Int) := of_decide_eq_true (by first | (with_reducible assumption) | assumption)
                        have q447 : x6_1 < (l0.length : Int) := of_decide_eq_true (by first | (with_reducible assumption) | assumption)
                        obtain ⟨ad447, e447, hx447_0⟩ := Kd.at_int HR0.out x6_1 p447 q447
                        obtain rfl : ad445 = ad447 := (by injection e447)
                        replace p447 := eq_true p447
                        replace q447 := eq_true q447
                        go_wp2
                        go_ret2
                        exact ⟨by first | rfl | (simp; done) | (simp [*]; done), by repeat (first | exact Drawn0.refl _ | apply Drawn0.step)⟩
                      · rw [if_neg c14] at H
                        have c14b0 : ((rd l0 x6_1) == 0) = false := beq_eq_false_iff_ne.mpr c14
                        have c14b1 : ((rd l0 x6_1) != 0) = true := bne_iff_ne.mpr c14
                        simp only [Option.some.injEq, Prod.mk.injEq] at H
                        obtain ⟨rfl, rfl⟩ := H
                        have p446 : 0 ≤ (x6_1 : Int) := of_decide_eq_true (by first | (with_reducible assumption) | assumption)
                        have q446 : x6_1 < (l0.length : Int) := of_decide_eq_true (by first | (with_reducible assumption) | assumption)
                        obtain ⟨ad446, e446, hx446_0⟩ := Kd.at_int HR0.out x6_1 p446 q446
                        obtain rfl : ad445 = ad446 := (by injection e446)
                        replace p446 := eq_true p446
                        replace q446 := eq_true q446
                        have p447 : 0 ≤ (x6_1 : Int) := of_decide_eq_true (by first | (with_reducible assumption) | assumption)
                        have q447 : x6_1 < (l0.length : Int) := of_decide_eq_true (by first | (with_reducible assumption) | assumption)
                        obtain ⟨ad447, e447, hx447_0⟩ := Kd.at_int HR0.out x6_1 p447 q447
                        obtain rfl : ad445 = ad447 := (by injection e447)
                        replace p447 := eq_true p447
                        replace q447 := eq_true q447
                        go_wp2
                        go_ret2
                        exact ⟨by first | rfl | (simp; done) | (simp [*]; done), by repeat (first | exact Drawn0.refl _ | apply Drawn0.step)⟩
                    · rw [if_neg c13] at H
                      have c13b0 : decide (0 < x6_1) = false := decide_eq_false c13
                      clear c13
                      simp only [Option.some.injEq, Prod.mk.injEq] at H
                      obtain ⟨rfl, rfl⟩ := H
                      have p446 : 0 ≤ (x6_1 : Int) := of_decide_eq_true (by first | (with_reducible assumption) | assumption)
                      have q446 : x6_1 < (l0.length : Int) := of_decide_eq_true (by first | (with_reducible assumption) | assumption)
                      obtain ⟨ad446, e446, hx446_0⟩ := Kd.at_int HR0.out x6_1 p446 q446
                      obtain rfl : ad445 = ad446 := (by injection e446)
                      replace p446 := eq_true p446
                      replace q446 := eq_true q446
                      go_wp2
                      go_ret2
                      exact ⟨by first | rfl | (simp; done) | (simp [*]; done), by repeat (first | exact Drawn0.refl _ | apply Drawn0.step)⟩
                  · rw [if_neg c12] at H
                    have c12b0 : decide ((rd l0 x6_1) < 128) = false := decide_eq_false c12
                    clear c12
                    have H' := Aside0.mk H
                    clear H
                    have p446 : 0 ≤ (x6_1 : Int) := of_decide_eq_true (by first | (with_reducible assumption) | assumption)
                    have q446 : x6_1 < (l0.length : Int) := of_decide_eq_true (by first | (with_reducible assumption) | assumption)
                    obtain ⟨ad446, e446, hx446_0⟩ := Kd.at_int HR0.out x6_1 p446 q446
                    obtain rfl : ad445 = ad446 := (by injection e446)
                    replace p446 := eq_true p446
                    replace q446 := eq_true q446
                    go_wp2
                    go_roundg kj6
                    case measure => have := HK1.out; have := HJ1.out; have := HJ6.out; omega
                    case rel => exact ⟨(IntKind.u64.wrap (x4_1 + (IntKind.u64.wrap ((IntKind.u64.wrap (Int.tmod (rd l0 x6_1) 128)) * x5_1)))), (IntKind.u64.wrap (x5_1 * 128)), (wrap64 (x6_1 + 1)), (by first | rfl | (simp; done) | (simp [*]; done)), (by first | rfl | (simp; done) | (simp [*]; done)), (by first | rfl | (simp; done) | (simp [*]; done)), H', ⟨by have := HK1.out; have := HJ1.out; have := HJ6.out; omega⟩, by repeat (first | exact Drawn0.refl _ | apply Drawn0.step)⟩
          · replace c4 := Bool.eq_false_iff.mpr c4
            subst c4
            have H1 : (some (0, 0)) = some (r1, r2) := by rw [if_neg (show ¬ (false = true) by decide)] at H; exact H
            clear H
            have H := H1
            clear H1
            simp only [Option.some.injEq, Prod.mk.injEq] at H
            obtain ⟨rfl, rfl⟩ := H
            go_wp2
            go_ret2
            exact ⟨by first | rfl | (simp; done) | (simp [*]; done), by repeat (first | exact Drawn0.refl _ | apply Drawn0.step)⟩
end Go.Proofs.Ytkigdcihhlkkdaa.P
end
section
set_option linter.unusedVariables false
set_option linter.unusedSimpArgs false
namespace Go.Proofs.Ytkigdcihhlkkdaa.Pure
open Go.RowKit Go.Proofs.Ytkigdcihhlkkdaa.P Go.Proofs.YtkigdcihhlkkdaaW.PrintWords Go.Proofs.YtkigdcihhlkkdaaW.PrintLast
def valL : List Int → Nat
  | [] => 0
  | x :: t => x.toNat % 128 + 128 * valL t
theorem valL_append (t : List Int) (x : Int) : valL (t ++ [x]) = valL t + x.toNat % 128 * 128 ^ t.length := by
  induction t with
  | nil => simp [valL]
  | cons y t ih =>
    simp only [List.cons_append, valL, ih, List.length_cons, Nat.pow_succ]
    rw [Nat.mul_add, Nat.add_assoc]
    congr 2
    rw [← Nat.mul_assoc, Nat.mul_comm 128, Nat.mul_assoc, Nat.mul_comm 128]
theorem valL_lt (t : List Int) : valL t < 128 ^ t.length := by
  induction t with
  | nil => simp [valL]
  | cons y t ih =>
    simp only [valL, List.length_cons, Nat.pow_succ]
    omega
theorem uintL_val : ∀ (pre : List Int) (x : Int) (f : Nat), (∀ y ∈ pre, 128 ≤ y ∧ y < 256) → 0 ≤ x → x < 128 → (pre = [] ∨ x ≠ 0) → pre.length < f → uintL f (valL (pre ++ [x])) = pre ++ [x]
  | [], x, f, _, h0, h1, _, hf => by
    obtain ⟨f, rfl⟩ : ∃ g, f = g + 1 := ⟨f - 1, by simp at hf; omega⟩
    simp only [List.nil_append, valL]
    rw [uintL_succ, if_neg (by omega)]
    congr 1
    omega
  | y :: pre, x, f, hp, h0, h1, hx, hf => by
    simp only [List.length_cons] at hf
    obtain ⟨f, rfl⟩ : ∃ g, f = g + 1 := ⟨f - 1, by omega⟩
    have hx0 : x ≠ 0 := by rcases hx with h | h; cases h; exact h
    have hy := hp y (by simp)
    have ih := uintL_val pre x f (fun z hz => hp z (by simp [hz])) h0 h1 (.inr hx0) (by omega)
    have hpos : 1 ≤ valL (pre ++ [x]) := by
      rw [valL_append]
      have : 1 ≤ x.toNat % 128 := by omega
      have h2 : 1 ≤ 128 ^ pre.length := Nat.one_le_pow _ _ (by decide)
      have := Nat.mul_le_mul this h2
      omega
    simp only [List.cons_append, valL]
    rw [uintL_succ, if_pos (by omega), show (y.toNat % 128 + 128 * valL (pre ++ [x])) / 128 = valL (pre ++ [x]) by omega, ih]
    congr 1
    omega
theorem uintL_no0 : ∀ (f n : Nat), 0 < n → (0 : Int) ∉ uintL f n
  | 0, _, _, h => by simp [uintL] at h
  | f + 1, n, hn, h => by
    rw [uintL_succ] at h
    split at h
    · rcases List.mem_cons.1 h with h | h
      · omega
      · exact uintL_no0 f _ (by omega) h
    · simp at h
      omega
theorem uintL_at : ∀ (f n i : Nat) (y : Int), (uintL f n)[i]? = some y → y < 128 → y = ((n / 128 ^ i : Nat) : Int)
  | 0, _, _, _, h, _ => by simp [uintL] at h
  | f + 1, n, i, y, h, hy => by
    rw [uintL_succ] at h
    split at h
    · rcases i with _ | i
      · simp at h
        omega
      · rw [List.getElem?_cons_succ] at h
        have := uintL_at f (n / 128) i y h hy
        rw [this, Nat.pow_succ, Nat.mul_comm, Nat.div_div_eq_div_mul]
    · rcases i with _ | i
      · simp at h
        simp [h]
      · simp at h
theorem last_ok (pre : List Int) (x : Int) (hp : ∀ y ∈ pre, 128 ≤ y ∧ y < 256) (h0 : 0 ≤ x) (h1 : x < 128) (hl : pre.length ≤ 9) :
    (uintL 10 (addB (valL pre) pre.length x.toNat) = pre ++ [x]) ↔ ¬ (pre.length = 9 ∧ 1 < x) ∧ ¬ (0 < pre.length ∧ x = 0) := by
  have hadd : addB (valL pre) pre.length x.toNat = valL (pre ++ [x]) % 18446744073709551616 := by rw [valL_append]; rfl
  have hv := valL_lt pre
  constructor
  · intro h
    refine ⟨fun hc => ?_, fun hc => ?_⟩
    · have h9 : (uintL 10 (addB (valL pre) pre.length x.toNat))[9]? = some x := by rw [h, ← hc.1]; simp
      have := uintL_at _ _ _ _ h9 h1
      have hm : addB (valL pre) pre.length x.toNat < 18446744073709551616 := addB_lt64 _ _ _
      have hp9 : (128 : Nat) ^ 9 = 9223372036854775808 := by decide
      rw [hp9] at this
      omega
    · obtain ⟨hc1, rfl⟩ := hc
      have hmem : (0 : Int) ∈ uintL 10 (addB (valL pre) pre.length (0 : Int).toNat) := by rw [h]; simp
      rcases Nat.eq_zero_or_pos (addB (valL pre) pre.length (0 : Int).toNat) with hz | hz
      · rw [hz] at h
        have := congrArg List.length h
        simp [uintL] at this
        rw [this] at hc1
        simp at hc1
      · exact uintL_no0 _ _ hz hmem
  · rintro ⟨hc1, hc2⟩
    have hlt : valL (pre ++ [x]) < 18446744073709551616 := by
      rw [valL_append]
      by_cases h9 : pre.length = 9
      · rw [h9] at hv ⊢
        have hp9 : (128 : Nat) ^ 9 = 9223372036854775808 := by decide
        rw [hp9] at hv ⊢
        have : x ≤ 1 := by omega
        omega
      · have h3 := valL_lt (pre ++ [x])
        rw [valL_append] at h3
        refine Nat.lt_of_lt_of_le h3 ?_
        refine Nat.le_trans (Nat.pow_le_pow_right (by decide) (show (pre ++ [x]).length ≤ 9 by simp; omega)) (by decide)
    rw [hadd, Nat.mod_eq_of_lt hlt]
    refine uintL_val pre x 10 hp h0 h1 ?_ (by omega)
    by_cases hpn : pre.length = 0
    · exact .inl (List.length_eq_zero_iff.1 hpn)
    · exact .inr (fun e => hc2 ⟨by omega, e⟩)
theorem wrapU_nat (n : Nat) : IntKind.u64.wrap (n : Int) = ((n % 18446744073709551616 : Nat) : Int) := by rw [IntKind.wrap_u64]; omega
theorem ref_loop (x0 : List Int) (hx : ∀ x ∈ x0, 0 ≤ x ∧ x < 256) (hlen : x0.length ≤ 1000000000) : ∀ (f i acc : Nat) (mul : Int), i + f = 10 → acc = valL (x0.take i) → (i ≤ 9 → mul = ((128 ^ i : Nat) : Int)) → (∀ y ∈ x0.take i, 128 ≤ y ∧ y < 256) → i ≤ x0.length →
    Ev (fun k => rotulusref1_GetUint.l0 k x0 (acc : Int) mul (i : Int)) (getL x0 f i acc (x0.drop i))
  | 0, i, acc, mul, hi, ha, hm, hp, hil => by
    refine Ev.step (f := _) (fun k => by rw [rotulusref1_GetUint.l0]) ?_
    have hd : decide ((i : Int) < 10) = false := decide_eq_false (by omega)
    rw [hd]
    have : Ev (fun k => rotulusref1_GetUint.j1 k x0 (acc : Int) mul (i : Int) false) ((0 : Int), (0 : Int)) := by
      refine Ev.step (f := _) (fun k => by rw [rotulusref1_GetUint.j1]) ?_
      exact ev_neg (by decide) (Ev.now _)
    by_cases h : (i : Int) < (x0.length : Int)
    · exact ev_pos h this
    · exact ev_neg h this
  | f + 1, i, acc, mul, hi, ha, hm, hp, hil => by
    have hm := hm (by omega)
    refine Ev.step (f := _) (fun k => by rw [rotulusref1_GetUint.l0]) ?_
    by_cases hlt : i < x0.length
    · refine ev_pos (by omega) ?_
      have hd : decide ((i : Int) < 10) = true := decide_eq_true (by omega)
      rw [hd]
      refine Ev.step (f := _) (fun k => by rw [rotulusref1_GetUint.j1]) ?_
      refine ev_pos rfl (ev_pos (by omega) (ev_pos (by omega) ?_))
      have hb := hx x0[i] (List.getElem_mem hlt)
      rw [List.drop_eq_getElem_cons hlt, rd_at hlt]
      have htk : x0.take (i + 1) = x0.take i ++ [x0[i]] := (List.take_append_getElem hlt).symm
      generalize hgx : x0[i] = x at hb htk
      have hr : rd x0 (i : Int) = x := by rw [rd_at hlt, hgx]
      have hlp : (x0.take i).length = i := by rw [List.length_take]; omega
      have hdig : IntKind.u64.wrap (Int.tmod x 128) = ((x.toNat % 128 : Nat) : Int) := by rw [Int.tmod_eq_emod_of_nonneg hb.1, IntKind.wrap_u64]; omega
      have hmulv : IntKind.u64.wrap ((acc : Int) + IntKind.u64.wrap (((x.toNat % 128 : Nat) : Int) * mul)) = ((addB acc i x.toNat : Nat) : Int) := by
        rw [hm, ← Int.natCast_mul, wrapU_nat, ← Int.natCast_add, wrapU_nat]
        congr 1
        unfold addB
        rw [Nat.add_mod_mod]
      have hw1 : Aside0 (wrap64 ((i : Int) + 1) = ((i + 1 : Nat) : Int)) := ⟨by rw [w64_in_ _ (by omega)]; omega⟩
      have hlast0 := last_ok (x0.take i) x hp hb.1
      rw [hlp, ← ha, ← htk] at hlast0
      have hlast := Aside0.mk hlast0
      clear hlast0
      -- behind the test of the tenth byte
      have next : ¬ (i = 9 ∧ 1 < x.toNat % 128) → ∀ r, r = getL x0 (f + 1) i acc (x :: x0.drop (i + 1)) → Ev (fun k => rotulusref1_GetUint.j2 k x0 (acc : Int) mul (i : Int) ((x.toNat % 128 : Nat) : Int) false) r := by
        rintro h9 r rfl
        refine Ev.step (f := _) (fun k => by rw [rotulusref1_GetUint.j2]) ?_
        refine ev_neg (by decide) (ev_pos (by omega) (ev_pos (by omega) ?_))
        rw [hr, hmulv, hw1.out]
        unfold getL
        by_cases hs : x < 128
        · have hlast1 := Aside0.mk (hlast.out hs (by omega))
          refine ev_pos hs ?_
          rw [if_pos hs]
          by_cases hi0 : 0 < i
          · refine ev_pos (by omega) ?_
            by_cases hz : x = 0
            · refine ev_pos hz ?_
              rw [if_neg (fun h => (hlast1.out.1 h).2 ⟨hi0, hz⟩)]
              exact Ev.now _
            · refine ev_neg hz ?_
              rw [if_pos (hlast1.out.2 ⟨fun hc => h9 ⟨hc.1, by omega⟩, fun hc => hz hc.2⟩)]
              exact Ev.now _
          · refine ev_neg (by omega) ?_
            rw [if_pos (hlast1.out.2 ⟨fun hc => by omega, fun hc => hi0 hc.1⟩)]
            exact Ev.now _
        · refine ev_neg hs ?_
          rw [if_neg hs]
          refine ref_loop x0 hx hlen f (i + 1) (addB acc i x.toNat) _ (by omega) ?_ ?_ ?_ (by omega)
          · rw [htk, valL_append, hlp, ← ha]
            unfold addB
            refine Nat.mod_eq_of_lt ?_
            have hv := valL_lt (x0.take i)
            rw [hlp, ← ha] at hv
            by_cases h8 : i = 9
            · subst h8
              have hp9 : (128 : Nat) ^ 9 = 9223372036854775808 := by decide
              rw [hp9] at hv ⊢
              have : x.toNat % 128 ≤ 1 := by omega
              omega
            · have h4 : acc + x.toNat % 128 * 128 ^ i < 128 ^ (i + 1) := by
                rw [Nat.pow_succ]
                have : x.toNat % 128 * 128 ^ i ≤ 127 * 128 ^ i := Nat.mul_le_mul_right _ (by omega)
                omega
              exact Nat.lt_of_lt_of_le h4 (Nat.le_trans (Nat.pow_le_pow_right (by decide) (show i + 1 ≤ 9 by omega)) (by decide))
          · intro h8
            rw [hm]
            have h5 : ((128 ^ i : Nat) : Int) * 128 = ((128 ^ (i + 1) : Nat) : Int) := by rw [Nat.pow_succ, Int.natCast_mul]; rfl
            have h6 : 128 ^ (i + 1) ≤ 128 ^ 9 := Nat.pow_le_pow_right (by decide) h8
            have hp9 : (128 : Nat) ^ 9 = 9223372036854775808 := by decide
            rw [hp9] at h6
            rw [h5, wrapU_nat, Nat.mod_eq_of_lt (by omega)]
          · rw [htk]
            intro y hy
            rcases List.mem_append.1 hy with hy | hy
            · exact hp y hy
            · obtain rfl := List.mem_singleton.1 hy
              omega
      rw [hdig]
      by_cases h9 : i = 9
      · refine ev_pos (by omega) ?_
        by_cases hg : 1 < x.toNat % 128
        · have hd2 : decide (((x.toNat % 128 : Nat) : Int) > 1) = true := decide_eq_true (by omega)
          rw [hd2]
          refine Ev.step (f := _) (fun k => by rw [rotulusref1_GetUint.j2]) ?_
          refine ev_pos rfl ?_
          have hz : getL x0 (f + 1) i acc (x :: x0.drop (i + 1)) = (0, 0) := by
            unfold getL
            by_cases hs : x < 128
            · rw [if_pos hs, if_neg (fun h => ((hlast.out hs (by omega)).1 h).1 ⟨h9, by omega⟩)]
            · rw [if_neg hs]
              obtain rfl : f = 0 := by omega
              unfold getL
              rfl
          rw [hz]
          exact Ev.now _
        · have hd2 : decide (((x.toNat % 128 : Nat) : Int) > 1) = false := decide_eq_false (by omega)
          rw [hd2]
          exact next (fun h => hg h.2) _ rfl
      · refine ev_neg (by omega) ?_
        exact next (fun h => h9 h.1) _ rfl
    · refine ev_neg (by omega) ?_
      rw [List.drop_of_length_le (by omega)]
      refine Ev.step (f := _) (fun k => by rw [rotulusref1_GetUint.j1]) ?_
      exact ev_neg (by decide) (Ev.now _)
theorem refGet_ev (x0 : List Int) (hx : ∀ x ∈ x0, 0 ≤ x ∧ x < 256) (hlen : x0.length ≤ 1000000000) : Ev (fun k => rotulusref1_GetUint.f k x0) (getL x0 10 0 0 x0) := by
  have := ref_loop x0 hx hlen 10 0 0 1 rfl rfl (fun _ => rfl) (by simp) (by omega)
  simpa [rotulusref1_GetUint.f] using this
end Go.Proofs.Ytkigdcihhlkkdaa.Pure
end
section
set_option linter.unusedVariables false
set_option linter.unusedSimpArgs false
namespace Go.Proofs.Ytkigdcihhlkkdaa.P
open Go.RowKit Go.Shelf Go.Proofs.YtkigdcihhlkkdaaW.PrintWords Go.Proofs.YtkigdcihhlkkdaaW.PrintLast Go.Proofs.YtkigdcihhlkkdaaW.PrintMore Go.Proofs.Ytkigdcihhlkkdaa.Pure
attribute [local go_sem] Oper.semAt_some
attribute [local go_sem] max2_int min2_int max_two min_two
def tab_3_9 : Bool × List (List Nat × List Nat) := (true, [([], []), ([0], [0]), ([], []), ([2], [2]), ([3], [3]), ([1, 4], [1, 4]), ([5, 3], [5]), ([6], [6]), ([6], [6]), ([7, 8, 6], [6, 7, 8]), ([6, 9], [6, 9]), ([10, 6], [10]), ([11], [11]), ([11], [11]), ([13, 11], [11, 13]), ([12, 14, 11], [11, 12, 14]), ([11, 15], [11, 15]), ([16, 11], [16]), ([17], [17]), ([17], [17]), ([18, 19, 17], [17, 18, 19]), ([17, 20], [17, 20]), ([21, 17], [21]), ([22], [22]), ([22], [22]), ([23, 24, 22], [22, 23, 24]), ([22, 25], [22, 25]), ([26, 22, 0, 1, 2, 3, 4, 5, 6, 7, 8, 9, 10, 11, 12, 13, 14, 15, 16, 17, 18, 19, 20, 21, 22, 23, 24, 25, 26], [26])])
theorem tab_3_9_ : rtab .any (opsOf Try.f3 9) = tab_3_9 := by kernel_rfl
theorem packUint_ (x : Int) (h0 : 0 ≤ x) (h1 : x < 18446744073709551616) (w : World) : Calls Try.prog 19 #[.int .u64 x] w fun e w' => ∃ v0 : Value, e = .returned v0 ∧ Kd.R (Kd.int .u8) 5 w' w.heap.size (fun _ => True) v0 (uintL 10 x.toNat) ∧ Below w.heap.size w w' := by
  obtain ⟨k, hk⟩ := Ev.rounds (uint_ev x.toNat (by omega))
  rw [Int.toNat_of_nonneg h0] at hk
  exact pack_Uint.calls k _ _ w hk
theorem refUintN_ (x : Int) (h0 : 0 ≤ x) (h1 : x < 18446744073709551616) (w : World) : Calls Try.prog 22 #[.int .u64 x] w fun e w' => ∃ v0 : Value, e = .returned v0 ∧ Kd.R (Kd.int .u8) 5 w' w.heap.size (fun _ => True) v0 (uintL 10 x.toNat) ∧ Below w.heap.size w w' := by
  obtain ⟨k, hk⟩ := Ev.rounds (refUint_ev x.toNat (by omega))
  rw [Int.toNat_of_nonneg h0] at hk
  exact rotulusref1_Uint.calls k _ _ w hk
def getN (l : List Int) : Int × Int := getL l 10 0 0 l
theorem getUint_ (l : List Int) (hx : ∀ x ∈ l, 0 ≤ x ∧ x < 256) (A : Option Addr) (c : Nat) (w : World) (hC : Kd.C (Kd.int .u8) w A l.length l) (hc : l.length ≤ c) :
    Calls Try.prog 20 #[.slice A l.length c] w fun e w' => e = .returned (.tuple #[.int .u64 (getN l).1, .int .i64 (getN l).2]) ∧ Below w.heap.size w w' := by
  obtain ⟨k, hk⟩ := Ev.rounds (getUint_ev l hx)
  exact pack_GetUint.calls k A c l _ _ w hC hc hk
theorem refGet_ (l : List Int) (hx : ∀ x ∈ l, 0 ≤ x ∧ x < 256) (hl : l.length ≤ 1000000000) (A : Option Addr) (c : Nat) (w : World) (hC : Kd.C (Kd.int .u8) w A l.length l) (hc : l.length ≤ c) :
    Calls Try.prog 21 #[.slice A l.length c] w fun e w' => e = .returned (.tuple #[.int .u64 (getN l).1, .int .i64 (getN l).2]) ∧ Below w.heap.size w w' := by
  obtain ⟨k, hk⟩ := Ev.rounds (refGet_ev l hx hl)
  exact (rotulusref1_GetUint.calls k A c l _ _ w hC hc hk).mono (fun e w' h => ⟨h.1, h.2.below⟩)
theorem u8_of_wf {x : Int} (h : (Lit.int .u8 x).wf = true) : 0 ≤ x ∧ x < 256 := by
  have h2 : IntKind.u8.min ≤ x ∧ x ≤ IntKind.u8.max := by simpa [Lit.wf] using h
  have e1 : IntKind.u8.min = 0 := by decide
  have e2 : IntKind.u8.max = 255 := by decide
  omega
set_option maxHeartbeats 8000000 in
set_option maxRecDepth 100000 in
theorem packUintLaw_ (n : Int) (A : Option Addr) (c : Nat) (l : List Int) (w : World) (hn : (Lit.int .u64 n).wf = true) (hC : Kd.C (Kd.int .u8) w A l.length l) (hc : l.length ≤ c) (hwf : ∀ x ∈ l, (Lit.int .u8 x).wf = true) :
    Calls Try.prog 3 #[.int .u64 n, .slice A l.length c] w fun e w' => e = .returned (.bool true) ∧ Below w.heap.size w w' := by
  obtain ⟨hn0, hn1⟩ := u64_of_wf hn
  obtain ⟨m, hm⟩ : ∃ m : Nat, min l.length 14 = m := ⟨_, rfl⟩
  have hmn : (if 14 < (l.length : Int) then 14 else (l.length : Int)) = (m : Int) := by split <;> omega
  have hml : m ≤ l.length := by omega
  have hm0 : (0 : Int) ≤ (m : Int) := by omega
  have hm1 : (m : Int) ≤ l.length := by omega
  obtain ⟨i0, hi, _, hsz, _⟩ := info_parts info5
  have hcut := cut_to (P := Try.prog) 23 5 .i64 Try.underlying23 hi A l.length c (m : Int) hm0 hm1 hc
  rw [Int.toNat_natCast] at hcut
  have hCq := Kd.C_take (m := m) hC hml
  obtain ⟨q, hq⟩ : ∃ q, l.take m = q := ⟨_, rfl⟩
  have hql : q.length = m := by rw [← hq, List.length_take]; omega
  have hqx : ∀ x ∈ q, 0 ≤ x ∧ x < 256 := fun x hx => u8_of_wf (hwf x (List.mem_of_mem_take (hq ▸ hx)))
  rw [hq] at hCq
  rw [← hql] at hcut hmn hm0 hm1 hml
  have hcq : q.length ≤ c := by omega
  have hU := fun W => packUint_ n hn0 hn1 W
  have hV := fun W => refUintN_ n hn0 hn1 W
  have hul : (uintL 10 n.toNat).length ≤ 10 := uintL_bound 10 _
  have hup : ∀ x ∈ uintL 10 n.toNat, 0 ≤ x ∧ x < 256 := uintL_range 10 _
  have hget : getN (uintL 10 n.toNat ++ q) = (n, ((uintL 10 n.toNat).length : Int)) := by
    have := getL_num n.toNat (by omega) q
    rw [Int.toNat_of_nonneg hn0] at this
    exact this
  generalize uintL 10 n.toNat = u at hU hV hul hup hget
  have hql14 : q.length ≤ 14 := by omega
  clear hml hi hsz hq hC hc hwf hn hm hql
  go_enter Try.func3, Try.ntmps3
  go_upto_region 6 with (first
    | (go_at_call 18; refine (begun4_ _).mono ?_; rintro e w1 ⟨rfl, hb1⟩)
    | (go_at_call 19; refine (hU _).mono ?_; rintro e w2 ⟨v2, rfl, hR2, hb2⟩
       obtain ⟨A2, c2, hv2⟩ := Kd.R_slice hR2; subst hv2
       have hbw2 := hb1.trans (hb2.mono hb1.size)
       have hCq2 := Kd.C_below hCq hbw2
       have hR2' := Kd.R_reads' hR2
       clear hb1 hb2)
    | fail)
  have hF2 := Kd.R_F (Kd.R_bound hR2)
  go_upto_region 7 with (first
    | ((with_reducible refine gate_dst (N := 25) rfl ?_)
       refine Kd.R_append_rows (Kd.int .u8) (w0 := w2) (W := w2) w2.heap.size (by rfl) (.const (.slice none 0 0)) (.tmp 24) 23 5 (.int .u8 0) 1 (by rfl) Try.underlying23 info5 rfl (by decide) (by decide) (.slice none 0 0) ([] : List Int) u A2 u.length c2 (fun _ => True) (fun _ => False) (by rfl) (by rfl) (Kd.R_nil _ _ _ _ _) hR2'.2.2 (fun _ _ h => h) (fun _ h => h.elim) (fun _ _ => trivial) (Below.refl _ _) (Nat.le_refl _) (by simp; omega) ?_
       intro v3 w3 hR3 hb3 _ _
       rw [List.nil_append] at hR3
       have hCq3 := Kd.C_below hCq2 (hb3.mono (Nat.le_refl _)))
    | ((with_reducible refine gate_dst (N := 27) rfl ?_)
       refine Kd.R_append_rows (Kd.int .u8) (w0 := w2) (W := w3) w2.heap.size (by rfl) (.tmp 25) (.tmp 26) 23 5 (.int .u8 0) 1 (by rfl) Try.underlying23 info5 rfl (by decide) (by decide) v3 u q A q.length c (fun _ => True) (fun _ => False) (by rfl) (by rfl) hR3 (Kd.C_below hCq (hbw2.trans (hb3.mono hbw2.size))) (fun _ _ h => h) (fun _ h => h.elim) (fun _ _ => trivial) hb3 hb3.size (by omega) ?_
       intro v4 w4 hR4 hb4 _ _
       obtain ⟨A4, c4, hv4⟩ := Kd.R_slice hR4; subst hv4
       have h20 := getUint_ (u ++ q) (fun x hx => (List.mem_append.1 hx).elim (hup x) (hqx x)) A4 c4 w4 (Kd.R_reads' hR4).2.2 (Kd.R_reads' hR4).2.1
       rw [hget, List.length_append] at h20
       rw [List.length_append])
    | (go_at_call 20; refine h20.mono ?_; rintro e w5 ⟨rfl, hb5⟩)
    | fail)
  have hb25 : Below w2.heap.size w2 w5 := hb4.trans (hb5.mono hb4.size)
  have hCq5 := Kd.C_below hCq (hbw2.trans (hb25.mono hbw2.size))
  have h20q := getUint_ q hqx A c w5 hCq5 hcq
  have hF5 := Kd.F_below hF2 hb25
  generalize hgn : getN q = r at h20q
  obtain ⟨r1, r2⟩ := r
  clear hb3 hb4 hb5 hR3 hR4 hCq2 hCq3 h20 hR2 hF2 hR2'
  go_upto_region 9 with (first
    | (go_at_call 20; refine h20q.mono ?_; rintro e w5b ⟨rfl, hb5b⟩
       have h21q := refGet_ q hqx (by omega) A c w5b (Kd.C_below hCq5 hb5b) hcq
       rw [hgn] at h21q)
    | (go_at_call 21; refine h21q.mono ?_; rintro e w6 ⟨rfl, hb6⟩
       have hb56 := hb5b.trans (hb6.mono hb5b.size))
    | fail)
  have hF6 := Kd.F_below hF5 hb56
  have HB0 : SB w6 w6.drew := below_drew1 (Below.refl _ _)
  have hbw6 : Below w.heap.size w w6 := (hbw2.trans (hb25.mono hbw2.size)).trans (hb56.mono (by have := hbw2.size; have := hb25.size; omega))
  have HC1 : ∀ w', SB w6 w' → (convert 23 9 (.slice A2 u.length c2)).run Try.prog w' = .ok (.string (strOfNums u)) w' := fun w' hb => Kd.C_string Try.underlying23 Try.underlying5 Try.underlying9 (Kd.F_now (Kd.F_below hF6 hb))
  refine start_ (n := 28) (S := SB w6) (ds := []) (bl_ [0, 28]) (by kernel_rfl) (by kernel_rfl) rfl HB0 (fun _ => ?_)
  refine with_tab tab_3_9_ (fun HT_ => ?_)
  refine takes_ [0, 2, 1] 25 (bl_ [3, 25]) rfl HT_.out (by kernel_rfl) HB0 (a' := ?_) ?_ ?_
  rotate_left
  · repeat (first | exact rfl | (refine tkN rfl rfl (fun _ _ _ h => h) (by rfl) (by simp only [Act.put, List.setIfInBounds_toArray, List.set_cons_zero, List.set_cons_succ, i64_w, i32_w]; rfl) ?_) | (refine tkY rfl rfl (fun _ _ _ h => h) (by rfl) (fun w' hw' => by (obtain cv1 := HC1 w' hw'; have cv2 := trivial; go_simp; with_reducible rfl)) (by simp only [Act.put, List.setIfInBounds_toArray, List.set_cons_zero, List.set_cons_succ, i64_w, i32_w]; rfl) ?_))
  refine one_ (i := 3) (N := some 44) (bl_ [4, 24]) rfl rfl (one_of HT_.out (by kernel_rfl)) (by decide) (fun K hK => ?_)
  refine goes_ Try.func22 (by kernel_rfl) rfl #[.int .u64 n] (by rfl) rfl rfl (by (try simp only [List.map_toArray, List.map_cons, List.map_nil]); first | done | rfl) ?_
  refine (hV _).mono ?_
  rintro e w7 ⟨v7, rfl, hR7, hb7⟩
  obtain ⟨A7, c7, hv7⟩ := Kd.R_slice hR7; subst hv7
  have HB7 := HB0.next hb7
  have hF7 := Kd.R_F (Kd.R_bound hR7)
  have HC2 : ∀ w', SB w7 w' → (convert 23 9 (.slice A7 u.length c7)).run Try.prog w' = .ok (.string (strOfNums u)) w' := fun w' hb => Kd.C_string Try.underlying23 Try.underlying5 Try.underlying9 (Kd.F_now (Kd.F_below hF7 hb))
  refine ⟨_, rfl, hK.out _ _ HB7 (fun _ => ?_)⟩
  refine norm_ (a' := ?_) ?_ ?_
  rotate_left
  · show Act.put _ (some 44) _ = _
    simp only [Act.put, List.setIfInBounds_toArray, List.set_cons_zero, List.set_cons_succ]
    rfl
  have hcv2 := HC2 w7 (Below.refl _ _)
  refine one_ (i := 4) (N := some 45) (bl_ [5, 23]) rfl rfl (one_of HT_.out (by kernel_rfl)) (by decide) (fun K hK => ?_)
  refine value_ (w1 := w7) (v := .string (strOfNums u)) (by rfl) rfl (by go_simp; try with_reducible rfl) ?_
  refine hK.out _ _ HB7 (fun _ => ?_)
  refine norm_ (a' := ?_) ?_ ?_
  rotate_left
  · show Act.put _ (some 45) _ = _
    simp only [Act.put, List.setIfInBounds_toArray, List.set_cons_zero, List.set_cons_succ]
    rfl
  refine takes_ (List.range' 5 23) 0 (bl_ [28]) rfl HT_.out (by kernel_rfl) HB7 (a' := ?_) ?_ ?_
  rotate_left
  · repeat (first | exact rfl | (refine tkN rfl rfl (fun _ _ _ h => h) (by rfl) (by simp only [Act.put, List.setIfInBounds_toArray, List.set_cons_zero, List.set_cons_succ, i64_w, i32_w]; rfl) ?_) | (refine tkY rfl rfl (fun _ _ _ h => h) (by rfl) (fun w' hw' => by (obtain cv1 := HC1 w' hw'; have cv2 := trivial; go_simp; with_reducible rfl)) (by simp only [Act.put, List.setIfInBounds_toArray, List.set_cons_zero, List.set_cons_succ, i64_w, i32_w]; rfl) ?_))
  refine done_ (done_of HT_.out (by kernel_rfl)) ?_
  go_wp2
  go_ret
  exact ⟨by simp, hbw6.trans (Below.mono (w := w6) HB7 hbw6.size)⟩
end Go.Proofs.Ytkigdcihhlkkdaa.P
end
section
set_option linter.unusedVariables false
set_option linter.unusedSimpArgs false
namespace Go.Proofs.Ytkigdcihhlkkdaa.Pure
open Go.ChangeShapes Go.WideShapes Go.RowKit Go.Proofs.Ytkigdcihhlkkdaa.P Go.Proofs.YtkigdcihhlkkdaaW.PrintWords Go.Proofs.YtkigdcihhlkkdaaW.PrintLast
set_option maxRecDepth 100000
section
variable {H : Type} {enc : TypeId × Value → H} {w : World} {base : Nat} {spare : Nat → Bool} {held : Bool}
end
end Go.Proofs.Ytkigdcihhlkkdaa.Pure
end
section
set_option linter.unusedVariables false
set_option linter.unusedSimpArgs false
namespace Go.Proofs.Ytkigdcihhlkkdaa.Pure
open Go.RowKit Go.Proofs.Ytkigdcihhlkkdaa.P Go.Proofs.YtkigdcihhlkkdaaW.PrintWords Go.Proofs.YtkigdcihhlkkdaaW.PrintLast
end Go.Proofs.Ytkigdcihhlkkdaa.Pure
end
section
set_option linter.unusedVariables false
set_option linter.unusedSimpArgs false
namespace Go.Proofs.Ytkigdcihhlkkdaa.Pure
open Go.RowKit Go.Proofs.Ytkigdcihhlkkdaa.P Go.Proofs.YtkigdcihhlkkdaaW.PrintWords Go.Proofs.YtkigdcihhlkkdaaW.PrintLast
end Go.Proofs.Ytkigdcihhlkkdaa.Pure
end
section
set_option linter.unusedVariables false
set_option linter.unusedSimpArgs false
namespace Go.Proofs.Ytkigdcihhlkkdaa.Pure
open Go.ChangeShapes Go.WideShapes Go.RowKit Go.Proofs.Ytkigdcihhlkkdaa.P Go.Proofs.YtkigdcihhlkkdaaW.PrintWords Go.Proofs.YtkigdcihhlkkdaaW.PrintLast
set_option maxRecDepth 100000
section
variable {H : Type} {enc : TypeId × Value → H} {w : World} {base : Nat} {spare : Nat → Bool} {held : Bool}
theorem arg_ints {T E : TypeId} {k : IntKind} (hT : Try.prog.underlying T = some (.slice E)) (hE : Try.prog.underlying E = some (.int k)) (hcE : Try.prog.cellsOf E = 1) {a : Option Addr} {len cap : Nat} {d : DataW H} {ps : List MemPlace} (h : DataW.Trod enc Try.prog w 0 (fun _ => true) true T (.slice a len cap) d ps) :
    ∃ zs : List Int, len = zs.length ∧ zs.length ≤ cap ∧ zs.length ≤ maxLen ∧ Kd.C (Kd.int k) w a zs.length zs ∧ ∀ x ∈ zs, (Lit.int k x).wf = true := by
  obtain ⟨fuel, hf⟩ := h
  rcases open_ints hT hE hcE hf with ⟨hcs, _⟩ | ⟨x, l, c, zs, hcs, _, hl, hm, hz, _, hcell, hwz⟩
  · simp [Value.cells] at hcs
    obtain ⟨rfl, rfl, rfl⟩ := hcs
    exact ⟨[], rfl, Nat.le_refl _, Nat.zero_le _, Kd.C_nil _ _, by simp⟩
  · simp [Value.cells] at hcs
    obtain ⟨rfl, rfl, rfl⟩ := hcs
    obtain ⟨l1, hl1, hr1, hm1, hw1, hc1⟩ := Go.Proofs.YtkigdcihhlkkdaaW.PrintWords.ReadsInt.ofRowC (.inr ⟨_, rfl, hl, hm, by simpa using hz, hcell, hwz⟩)
    subst hl1
    exact ⟨l1, rfl, hc1, hm1, Go.Proofs.YtkigdcihhlkkdaaW.PrintWords.Kd.C_of_reads (d := (0 : Int)) (h1 := fun _ => rfl) hr1, hw1⟩
end
end Go.Proofs.Ytkigdcihhlkkdaa.Pure
end
