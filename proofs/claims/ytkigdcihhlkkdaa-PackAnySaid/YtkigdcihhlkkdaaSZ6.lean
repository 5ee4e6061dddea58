/- own texts of this session, put together -/
import Derived.Test.YtkigdcihhlkkdaaSZ0
import Derived.Test.YtkigdcihhlkkdaaSPx12
import Derived.Test.YtkigdcihhlkkdaaSZ3
import Derived.Test.YtkigdcihhlkkdaaSPx17
section
set_option linter.unusedVariables false
set_option linter.unusedSimpArgs false
namespace Go.Proofs.Ytkigdcihhlkkdaa.Pure
open Go.RowKit Go.Proofs.Ytkigdcihhlkkdaa.P Go.Proofs.YtkigdcihhlkkdaaW.PrintWords Go.Proofs.YtkigdcihhlkkdaaW.PrintLast
theorem ev_pos {α : Type} {c : Prop} [Decidable c] (h : c) {f g : Nat → Option α} {r : α} (x : Ev f r) : Ev (fun k => if c then f k else g k) r := by
  simpa only [if_pos h] using x
theorem ev_neg {α : Type} {c : Prop} [Decidable c] (h : ¬ c) {f g : Nat → Option α} {r : α} (x : Ev g r) : Ev (fun k => if c then f k else g k) r := by
  simpa only [if_neg h] using x
def uintL : Nat → Nat → List Int
  | 0, _ => []
  | f + 1, n => if 128 ≤ n then ((n % 128 + 128 : Nat) : Int) :: uintL f (n / 128) else [(n : Int)]
theorem or128 (n : Nat) : Go.bits .or .u8 ((n : Int) % 256) 128 = ((n % 128 + 128 : Nat) : Int) := by
  have h1 : (n : Int) % 256 = ((n % 256 : Nat) : Int) := by omega
  have h2 : ∀ a : Fin 256, (a.val ||| 128) = a.val % 128 + 128 := by decide +kernel
  rw [h1, show (128 : Int) = ((128 : Nat) : Int) from rfl, u8_or_nat _ _ (by omega) (by decide)]
  have := h2 ⟨n % 256, by omega⟩
  simp only at this
  rw [this]
  congr 1
  omega
theorem uint_loop : ∀ (f n : Nat) (acc : List Int), 0 < f → n < 128 ^ f → acc.length + f < 140737488355328 → Ev (fun k => pack_Uint.l0 k (n : Int) acc) (acc ++ uintL f n)
  | 0, n, acc, hf, _, _ => absurd hf (by decide)
  | f + 1, n, acc, hf, h, hl => by
    refine Ev.step (f := _) (fun k => by simp only [pack_Uint.l0]; rfl) ?_
    unfold uintL
    by_cases h128 : 128 ≤ n
    · refine ev_pos (by omega) (ev_pos (by omega) ?_)
      rw [if_pos h128, or128]
      have e : (n : Int) / 128 = ((n / 128 : Nat) : Int) := by omega
      rw [e]
      have h3 : n / 128 < 128 ^ f := by
        rw [Nat.div_lt_iff_lt_mul (by decide), ← Nat.pow_succ]
        exact h
      have hf1 : 0 < f := by
        rcases Nat.eq_zero_or_pos f with h0 | h0
        · subst h0; simp at h; omega
        · exact h0
      have := uint_loop f (n / 128) (acc ++ [((n % 128 + 128 : Nat) : Int)]) hf1 h3 (by simp; omega)
      rw [List.append_assoc] at this
      exact this
    · refine ev_neg (by omega) (ev_pos (by omega) ?_)
      rw [if_neg h128, show (n : Int) % 256 = (n : Int) by omega]
      exact Ev.now _
theorem uint_ev (n : Nat) (h : n < 18446744073709551616) : Ev (fun k => pack_Uint.f k (n : Int)) (uintL 10 n) := by
  have := uint_loop 10 n [] (by decide) (Nat.lt_of_lt_of_le h (by decide)) (by decide)
  simpa [pack_Uint.f] using this
theorem uintL_bound : ∀ (f n : Nat), (uintL f n).length ≤ f
  | 0, _ => Nat.le_refl _
  | f + 1, n => by
    unfold uintL
    split
    · have := uintL_bound f (n / 128)
      simp only [List.length_cons]; omega
    · simp
theorem uintL_pos : ∀ (f n : Nat), 0 < f → 1 ≤ (uintL f n).length
  | f + 1, n, _ => by
    unfold uintL
    split <;> simp
theorem uintL_range : ∀ (f n : Nat), ∀ x ∈ uintL f n, 0 ≤ x ∧ x < 256
  | 0, _, x, h => by simp [uintL] at h
  | f + 1, n, x, h => by
    unfold uintL at h
    split at h
    · rcases List.mem_cons.1 h with rfl | h
      · omega
      · exact uintL_range f _ x h
    · simp only [List.mem_singleton] at h
      omega
end Go.Proofs.Ytkigdcihhlkkdaa.Pure
end
section
set_option linter.unusedVariables false
set_option linter.unusedSimpArgs false
namespace Go.Proofs.Ytkigdcihhlkkdaa.Pure
open Go.RowKit Go.Proofs.Ytkigdcihhlkkdaa.P Go.Proofs.YtkigdcihhlkkdaaW.PrintWords Go.Proofs.YtkigdcihhlkkdaaW.PrintLast
theorem w64_in (n : Int) (h : -9223372036854775808 ≤ n ∧ n ≤ 9223372036854775807) : wrap64 n = n := by unfold wrap64; omega
def numB (x : Int) : List Int := uintL 10 (IntKind.u64.wrap x).toNat
theorem u64_wrap_range (x : Int) : 0 ≤ IntKind.u64.wrap x ∧ IntKind.u64.wrap x < 18446744073709551616 := by
  rw [IntKind.wrap_u64]
  omega
theorem numB_ev (x : Int) : Ev (fun k => pack_Uint.f k (IntKind.u64.wrap x)) (numB x) := by
  have h := u64_wrap_range x
  have := uint_ev (IntKind.u64.wrap x).toNat (by omega)
  rwa [Int.toNat_of_nonneg h.1] at this
theorem numB_len (x : Int) : (numB x).length ≤ 10 := uintL_bound 10 _
def runB (r : S78) : List Int := numB r.f0 ++ (numB (wrap64 r.f1.f0) ++ (numB r.f1.f1 ++ numB r.f1.f2))
theorem runB_len (r : S78) : (runB r).length ≤ 40 := by
  have h0 := numB_len r.f0
  have h1 := numB_len (wrap64 r.f1.f0)
  have h2 := numB_len r.f1.f1
  have h3 := numB_len r.f1.f2
  simp only [runB, List.length_append]
  omega
theorem put_l1_step (rs : List S78) (len : Int) (i : Int) (y : List Int) (j : Nat) (acc : List Int) (r : List Int × Bool) (hj : j < y.length) (hy : y.length ≤ 100) (hacc : acc.length + 10 < 140737488355328)
    (h : Ev (fun k => pack_Put.l1 k (acc ++ numB (rd y (j : Int))) rs len i y (y.length : Int) ((j + 1 : Nat) : Int)) r) : Ev (fun k => pack_Put.l1 k acc rs len i y (y.length : Int) (j : Int)) r := by
  refine Ev.step (f := _) (fun k => by rw [pack_Put.l1]) ?_
  refine ev_pos (by omega) (ev_pos (by omega) (ev_pos (by omega) ?_))
  refine Ev.bind (numB_ev (rd y (j : Int))) ?_
  have hl := numB_len (rd y (j : Int))
  refine ev_pos (by omega) ?_
  have e : wrap64 ((j : Int) + 1) = ((j + 1 : Nat) : Int) := by rw [w64_in _ (by omega)]; omega
  rw [e]
  exact h
theorem put_l1_end (rs : List S78) (len : Int) (i : Int) (y : List Int) (acc : List Int) (r : List Int × Bool) (h : Ev (fun k => pack_Put.l0 k acc rs len (wrap64 (i + 1))) r) : Ev (fun k => pack_Put.l1 k acc rs len i y (y.length : Int) (y.length : Int)) r := by
  refine Ev.step (f := _) (fun k => by rw [pack_Put.l1]) ?_
  exact ev_neg (by omega) h
theorem put_l0_ev (rs : List S78) (hrs : rs.length ≤ 100000) : ∀ (d i : Nat) (acc : List Int), i + d = rs.length → acc.length + 40 * d < 140737488355000 → Ev (fun k => pack_Put.l0 k acc rs (rs.length : Int) (i : Int)) (acc ++ ((rs.drop i).map runB).flatten, true)
  | 0, i, acc, hi, hl => by
    refine Ev.step (f := _) (fun k => by rw [pack_Put.l0]) ?_
    refine ev_neg (by omega) ?_
    rw [List.drop_of_length_le (by omega)]
    simpa using Ev.now (acc, true)
  | d + 1, i, acc, hi, hl => by
    have hlt : i < rs.length := by omega
    refine Ev.step (f := _) (fun k => by rw [pack_Put.l0]) ?_
    refine ev_pos (by omega) (ev_pos (by omega) (ev_pos (by omega) ?_))
    have hr : rd_T78 rs (i : Int) = rs[i] := by rw [rd_T78, Int.toNat_natCast, List.getD_eq_getElem?_getD, List.getElem?_eq_getElem hlt]; rfl
    rw [hr]
    generalize hgr : rs[i] = q
    have hd : rs.drop i = q :: rs.drop (i + 1) := by rw [← hgr]; exact List.drop_eq_getElem_cons hlt
    have hq := runB_len q
    have ih := put_l0_ev rs hrs d (i + 1) (acc ++ runB q) (by omega) (by rw [List.length_append]; omega)
    have e0 : rd [q.f0, wrap64 q.f1.f0, q.f1.f1, q.f1.f2] ((0 : Nat) : Int) = q.f0 := rfl
    have e1 : rd [q.f0, wrap64 q.f1.f0, q.f1.f1, q.f1.f2] ((1 : Nat) : Int) = wrap64 q.f1.f0 := rfl
    have e2 : rd [q.f0, wrap64 q.f1.f0, q.f1.f1, q.f1.f2] ((2 : Nat) : Int) = q.f1.f1 := rfl
    have e3 : rd [q.f0, wrap64 q.f1.f0, q.f1.f1, q.f1.f2] ((3 : Nat) : Int) = q.f1.f2 := rfl
    have n0 := numB_len q.f0
    have n1 := numB_len (wrap64 q.f1.f0)
    have n2 := numB_len q.f1.f1
    have n3 := numB_len q.f1.f2
    refine Ev.bind (Ev.now [q.f0, wrap64 q.f1.f0, q.f1.f1, q.f1.f2]) ?_
    refine put_l1_step rs _ _ [q.f0, wrap64 q.f1.f0, q.f1.f1, q.f1.f2] 0 acc _ (by simp) (by simp) (by omega) ?_
    rw [e0]
    refine put_l1_step rs _ _ [q.f0, wrap64 q.f1.f0, q.f1.f1, q.f1.f2] 1 _ _ (by simp) (by simp) (by simp only [List.length_append]; omega) ?_
    rw [e1]
    refine put_l1_step rs _ _ [q.f0, wrap64 q.f1.f0, q.f1.f1, q.f1.f2] 2 _ _ (by simp) (by simp) (by simp only [List.length_append]; omega) ?_
    rw [e2]
    refine put_l1_step rs _ _ [q.f0, wrap64 q.f1.f0, q.f1.f1, q.f1.f2] 3 _ _ (by simp) (by simp) (by simp only [List.length_append]; omega) ?_
    rw [e3]
    refine put_l1_end rs _ _ [q.f0, wrap64 q.f1.f0, q.f1.f1, q.f1.f2] _ _ ?_
    have e : wrap64 ((i : Int) + 1) = ((i + 1 : Nat) : Int) := by rw [w64_in _ (by omega)]; omega
    rw [e, hd, List.map_cons, List.flatten_cons]
    have e4 : acc ++ numB q.f0 ++ numB (wrap64 q.f1.f0) ++ numB q.f1.f1 ++ numB q.f1.f2 = acc ++ runB q := by simp [runB]
    rw [e4, ← List.append_assoc]
    exact ih
def rowB (l : List S45) (w : Bool) : List Int := numB (2 * ((runs78 l).length : Int) + (if w then 1 else 0)) ++ ((runs78 l).map runB).flatten
theorem runs78_le (l : List S45) : (runs78 l).length ≤ l.length := by have := runs78_len l []; simpa [runs78] using this
theorem put_ev (l : List S45) (w : Bool) (hl : l.length ≤ 1000) (hm : Ev (fun k => pack_May.f k l w) true) : Ev (fun k => pack_Put.f k l w) (rowB l w, true) := by
  unfold pack_Put.f
  refine Ev.bind hm ?_
  refine ev_pos rfl ?_
  have hr := runs78_le l
  unfold pack_runs.f
  rw [if_pos (by omega)]
  simp only [Option.bind_some]
  have e1 : wrap64 (2 * ((runs78 l).length : Int)) = 2 * ((runs78 l).length : Int) := w64_in _ (by omega)
  have hn := numB_len (2 * ((runs78 l).length : Int) + (if w then 1 else 0))
  have key : ∀ x : Int, x = 2 * ((runs78 l).length : Int) + (if w then 1 else 0) → Ev (fun k => pack_Put.j0 k (runs78 l) (IntKind.u64.wrap x)) (rowB l w, true) := by
    rintro x rfl
    refine Ev.step (f := _) (fun k => by rw [pack_Put.j0]) ?_
    refine Ev.bind (numB_ev _) ?_
    exact put_l0_ev (runs78 l) (by omega) (runs78 l).length 0 _ (by omega) (by omega)
  cases w with
  | true =>
    refine ev_pos rfl ?_
    have e2 : IntKind.u64.wrap (IntKind.u64.wrap (wrap64 (2 * ((runs78 l).length : Int))) + 1) = IntKind.u64.wrap (2 * ((runs78 l).length : Int) + 1) := by
      rw [e1, IntKind.wrap_u64, IntKind.wrap_u64, IntKind.wrap_u64]; omega
    rw [e2]
    exact key _ rfl
  | false =>
    refine ev_neg (by decide) ?_
    rw [e1]
    exact key _ (by simp)
theorem put_no (l : List S45) (w : Bool) (hm : Ev (fun k => pack_May.f k l w) false) : Ev (fun k => pack_Put.f k l w) (([] : List Int), false) := by
  unfold pack_Put.f
  refine Ev.bind hm ?_
  exact ev_neg (by decide) (Ev.now _)
end Go.Proofs.Ytkigdcihhlkkdaa.Pure
end
section
set_option linter.unusedVariables false
set_option linter.unusedSimpArgs false
namespace Go.Proofs.Ytkigdcihhlkkdaa.Pure
open Go.RowKit Go.Proofs.Ytkigdcihhlkkdaa.P Go.Proofs.YtkigdcihhlkkdaaW.PrintWords Go.Proofs.YtkigdcihhlkkdaaW.PrintLast
theorem w64_in_ (n : Int) (h : -9223372036854775808 ≤ n ∧ n ≤ 9223372036854775807) : wrap64 n = n := by unfold wrap64; omega
theorem rd_at {l : List Int} {i : Nat} (h : i < l.length) : rd l (i : Int) = l[i] := by
  simp [rd, List.getD_eq_getElem?_getD, List.getElem?_eq_getElem h]
theorem eqb_loop (a b : List Int) (hab : a.length = b.length) (hl : a.length ≤ 1000000000) : ∀ (d i : Nat), i + d = a.length → Ev (fun k => slices_Equal_byte_byte.l0 k a b (a.length : Int) (i : Int)) (decide (a.drop i = b.drop i))
  | 0, i, hi => by
    refine Ev.step (f := _) (fun k => by rw [slices_Equal_byte_byte.l0]) ?_
    refine ev_neg (by omega) ?_
    rw [List.drop_of_length_le (by omega), List.drop_of_length_le (by omega)]
    exact Ev.now _
  | d + 1, i, hi => by
    have ha : i < a.length := by omega
    have hb : i < b.length := by omega
    refine Ev.step (f := _) (fun k => by rw [slices_Equal_byte_byte.l0]) ?_
    refine ev_pos (by omega) (ev_pos (by omega) (ev_pos (by omega) (ev_pos (by omega) ?_)))
    rw [rd_at ha, rd_at hb]
    have e : wrap64 ((i : Int) + 1) = ((i + 1 : Nat) : Int) := by rw [w64_in_ _ (by omega)]; omega
    rw [e, List.drop_eq_getElem_cons ha, List.drop_eq_getElem_cons hb]
    by_cases h : a[i] = b[i]
    · refine ev_pos h ?_
      have := eqb_loop a b hab hl d (i + 1) (by omega)
      rw [h]
      simp only [List.cons.injEq, true_and]
      exact this
    · refine ev_neg h ?_
      have : decide (a[i] :: a.drop (i + 1) = b[i] :: b.drop (i + 1)) = false := by
        rw [decide_eq_false_iff_not]
        intro hh
        injection hh with h1 _
        exact h h1
      rw [this]
      exact Ev.now _
theorem eqb_ev (a b : List Int) (hl : a.length ≤ 1000000000) : Ev (fun k => slices_Equal_byte_byte.f k a b) (decide (a = b)) := by
  unfold slices_Equal_byte_byte.f
  by_cases h : a.length = b.length
  · refine ev_pos (by omega) ?_
    exact eqb_loop a b h hl a.length 0 (by omega)
  · refine ev_neg (by omega) ?_
    have : decide (a = b) = false := by
      rw [decide_eq_false_iff_not]
      rintro rfl
      exact h rfl
    rw [this]
    exact Ev.now _
theorem and127 (n : Nat) (h : n < 256) : Go.bits .and .u8 (n : Int) 127 = ((n % 128 : Nat) : Int) := by
  have h2 : ∀ a : Fin 256, (a.val &&& 127) = a.val % 128 := by decide +kernel
  rw [show (127 : Int) = ((127 : Nat) : Int) from rfl, u8_and_nat _ _ h (by decide)]
  have := h2 ⟨n, h⟩
  simp only at this
  rw [this]
def addB (acc i x : Nat) : Nat := (acc + x % 128 * 128 ^ i) % 18446744073709551616
theorem pow128 (i : Nat) : 128 ^ i = 2 ^ (7 * i) := by
  rw [Nat.pow_mul]
theorem addB_ev (acc i x : Nat) (hi : i < 10) (ha : acc < 128 ^ i) (hx : x < 256) : Go.bits .or .u64 (acc : Int) (shl .u64 (IntKind.u64.wrap (Go.bits .and .u8 (x : Int) 127)) (wrap64 (7 * (i : Int)))) = ((addB acc i x : Nat) : Int) := by
  rw [and127 x hx, w64_in_ _ (by omega)]
  have e1 : IntKind.u64.wrap ((x % 128 : Nat) : Int) = ((x % 128 : Nat) : Int) := by rw [IntKind.wrap_u64]; omega
  rw [e1]
  unfold shl
  have e2 : min (7 * (i : Int)).toNat IntKind.u64.bits = 7 * i := by
    have : IntKind.u64.bits = 64 := rfl
    omega
  rw [e2, IntKind.wrap_u64]
  have e3 : (((x % 128 : Nat) : Int) * 2 ^ (7 * i)) % 18446744073709551616 = ((x % 128 * 2 ^ (7 * i) % 18446744073709551616 : Nat) : Int) := by
    have : ((x % 128 : Nat) : Int) * 2 ^ (7 * i) = ((x % 128 * 2 ^ (7 * i) : Nat) : Int) := by rw [Int.natCast_mul, Int.natCast_pow]; rfl
    rw [this]
    omega
  rw [e3]
  have hacc : acc < 18446744073709551616 := Nat.lt_of_lt_of_le ha (by
    rw [pow128]
    exact Nat.le_trans (Nat.pow_le_pow_right (by decide) (show 7 * i ≤ 63 by omega)) (by decide))
  rw [u64_or_nat _ _ (by omega) (by omega)]
  congr 1
  unfold addB
  rw [pow128] at *
  by_cases h9 : i = 9
  · subst h9
    have e4 : x % 128 * 2 ^ (7 * 9) % 18446744073709551616 = (x % 2) * 2 ^ 63 := by omega
    rw [e4, Nat.or_comm, ← Nat.shiftLeft_eq, ← Nat.shiftLeft_add_eq_or_of_lt (by omega), Nat.shiftLeft_eq]
    omega
  · have hp : 2 ^ (7 * i) ≤ 2 ^ 56 := Nat.pow_le_pow_right (by decide) (by omega)
    have h1 : x % 128 * 2 ^ (7 * i) ≤ 127 * 2 ^ 56 := Nat.mul_le_mul (by omega) hp
    have h2 : acc + x % 128 * 2 ^ (7 * i) < 18446744073709551616 := by
      generalize x % 128 * 2 ^ (7 * i) = q at *
      generalize 2 ^ (7 * i) = p at *
      omega
    have h3 : x % 128 * 2 ^ (7 * i) < 18446744073709551616 := by omega
    rw [Nat.mod_eq_of_lt h2, Nat.mod_eq_of_lt h3, Nat.or_comm, ← Nat.shiftLeft_eq, ← Nat.shiftLeft_add_eq_or_of_lt ha, Nat.add_comm]
theorem addB_lt (acc i x : Nat) (hi : i < 9) (ha : acc < 128 ^ i) : addB acc i x < 128 ^ (i + 1) := by
  unfold addB
  refine Nat.lt_of_le_of_lt (Nat.mod_le _ _) ?_
  rw [Nat.pow_succ]
  have : x % 128 * 128 ^ i ≤ 127 * 128 ^ i := Nat.mul_le_mul_right _ (by omega)
  omega
theorem addB_lt64 (acc i x : Nat) : addB acc i x < 18446744073709551616 := Nat.mod_lt _ (by decide)
def getL (x0 : List Int) : Nat → Nat → Nat → List Int → Int × Int
  | 0, _, _, _ => (0, 0)
  | _ + 1, _, _, [] => (0, 0)
  | f + 1, i, acc, x :: t => if x < 128 then (if uintL 10 (addB acc i x.toNat) = x0.take (i + 1) then (((addB acc i x.toNat : Nat) : Int), ((i + 1 : Nat) : Int)) else (0, 0)) else getL x0 f (i + 1) (addB acc i x.toNat) t
theorem getL_ev (x0 : List Int) (hx : ∀ x ∈ x0, 0 ≤ x ∧ x < 256) : ∀ (f i acc : Nat), i + f = 10 → acc < 128 ^ i → Ev (fun k => pack_GetUint.l0 k x0 (acc : Int) (x0.take 10) ((x0.take 10).length : Int) (i : Int)) (getL x0 f i acc (x0.drop i))
  | 0, i, acc, hi, ha => by
    refine Ev.step (f := _) (fun k => by rw [pack_GetUint.l0]) ?_
    refine ev_neg (by rw [List.length_take]; omega) ?_
    exact Ev.now _
  | f + 1, i, acc, hi, ha => by
    refine Ev.step (f := _) (fun k => by rw [pack_GetUint.l0]) ?_
    by_cases hlt : i < x0.length
    · have hlt2 : i < (x0.take 10).length := by rw [List.length_take]; omega
      have hb := hx x0[i] (List.getElem_mem hlt)
      rw [List.drop_eq_getElem_cons hlt, rd_at hlt2, List.getElem_take]
      generalize x0[i] = x at hb
      obtain ⟨n, rfl⟩ : ∃ n : Nat, x = n := ⟨x.toNat, by omega⟩
      rw [addB_ev acc i n (by omega) ha (by omega)]
      have e : wrap64 ((i : Int) + 1) = ((i + 1 : Nat) : Int) := by rw [w64_in_ _ (by omega)]; omega
      rw [e]
      refine ev_pos (by omega) (ev_pos (by omega) (ev_pos (by omega) (ev_pos (by rw [w64_in_ _ (by omega)]; omega) ?_)))
      unfold getL
      rw [Int.toNat_natCast]
      by_cases h128 : (n : Int) < 128
      · refine ev_pos h128 ?_
        rw [if_pos h128]
        refine Ev.bind (uint_ev _ (addB_lt64 _ _ _)) ?_
        refine ev_pos (by omega) (ev_pos (by omega) ?_)
        have hlen := uintL_bound 10 (addB acc i n)
        refine Ev.bind (eqb_ev _ _ (by omega)) ?_
        rw [Int.toNat_natCast]
        by_cases heq : uintL 10 (addB acc i n) = x0.take (i + 1)
        · rw [if_pos heq]
          exact ev_pos (by simpa using heq) (Ev.now _)
        · rw [if_neg heq]
          exact ev_neg (by simpa using heq) (Ev.now _)
      · refine ev_neg h128 ?_
        rw [if_neg h128]
        by_cases h9 : i = 9
        · subst h9
          obtain rfl : f = 0 := by omega
          refine Ev.step (f := _) (fun k => by rw [pack_GetUint.l0]) ?_
          refine ev_neg (by rw [List.length_take]; omega) ?_
          exact Ev.now _
        · exact getL_ev x0 hx f (i + 1) (addB acc i n) (by omega) (addB_lt _ _ _ (by omega) ha)
    · refine ev_neg (by rw [List.length_take]; omega) ?_
      rw [List.drop_of_length_le (by omega)]
      exact Ev.now _
theorem getUint_ev (x0 : List Int) (hx : ∀ x ∈ x0, 0 ≤ x ∧ x < 256) : Ev (fun k => pack_GetUint.f k x0) (getL x0 10 0 0 x0) := by
  unfold pack_GetUint.f
  have hmn : mn (x0.length : Int) 10 = ((min x0.length 10 : Nat) : Int) := by unfold mn; split <;> omega
  rw [hmn]
  refine ev_pos (by omega) (ev_pos (by omega) ?_)
  have e : x0.take ((min x0.length 10 : Nat) : Int).toNat = x0.take 10 := by
    rw [Int.toNat_natCast]
    by_cases h : x0.length ≤ 10
    · rw [Nat.min_eq_left h, List.take_of_length_le (by omega), List.take_of_length_le (by omega)]
    · rw [Nat.min_eq_right (by omega)]
  rw [e]
  simp only [Option.bind_some]
  exact getL_ev x0 hx 10 0 0 (by decide) (by decide)
theorem uintL_succ (f n : Nat) : uintL (f + 1) n = if 128 ≤ n then ((n % 128 + 128 : Nat) : Int) :: uintL f (n / 128) else [(n : Int)] := rfl
theorem getL_uint (x0 rest : List Int) (n : Nat) (hn : n < 18446744073709551616) (hx0 : x0 = uintL 10 n ++ rest) : ∀ (f i : Nat), i + f = 10 → n / 128 ^ i < 128 ^ f → (uintL 10 n).length = i + (uintL f (n / 128 ^ i)).length → 0 < f →
    getL x0 f i (n % 128 ^ i) (uintL f (n / 128 ^ i) ++ rest) = ((n : Int), ((uintL 10 n).length : Int))
  | 0, i, hi, hlt, hlen, hf => absurd hf (by decide)
  | f + 1, i, hi, hlt, hlen, hf => by
    have hdiv : n / 128 ^ (i + 1) = n / 128 ^ i / 128 := by rw [Nat.pow_succ, Nat.div_div_eq_div_mul]
    have hmod : n % 128 ^ (i + 1) = n % 128 ^ i + 128 ^ i * (n / 128 ^ i % 128) := Nat.mod_pow_succ
    have hle : n % 128 ^ (i + 1) ≤ n := Nat.mod_le _ _
    have hsum : n = n % 128 ^ i + 128 ^ i * (n / 128 ^ i) := (Nat.mod_add_div n (128 ^ i)).symm
    rw [uintL_succ f (n / 128 ^ i)] at hlen ⊢
    by_cases h128 : 128 ≤ n / 128 ^ i
    · rw [if_pos h128] at hlen ⊢
      rw [List.cons_append]
      unfold getL
      rw [if_neg (by omega), Int.toNat_natCast]
      have hadd : addB (n % 128 ^ i) i (n / 128 ^ i % 128 + 128) = n % 128 ^ (i + 1) := by
        unfold addB
        rw [show (n / 128 ^ i % 128 + 128) % 128 = n / 128 ^ i % 128 by omega, Nat.mul_comm, ← hmod]
        exact Nat.mod_eq_of_lt (by omega)
      have hf0 : 0 < f := by
        rcases Nat.eq_zero_or_pos f with h0 | h0
        · subst h0; simp at hlt; omega
        · exact h0
      have h3 : n / 128 ^ i / 128 < 128 ^ f := by
        rw [Nat.div_lt_iff_lt_mul (by decide), ← Nat.pow_succ]
        exact hlt
      rw [hadd]
      rw [← hdiv] at h3 hlen ⊢
      exact getL_uint x0 rest n hn hx0 f (i + 1) (by omega) h3 (by simp only [List.length_cons] at hlen; omega) hf0
    · rw [if_neg h128] at hlen ⊢
      rw [List.cons_append, List.nil_append]
      unfold getL
      rw [if_pos (by omega), Int.toNat_natCast]
      have hadd : addB (n % 128 ^ i) i (n / 128 ^ i) = n := by
        unfold addB
        rw [Nat.mod_eq_of_lt (show n / 128 ^ i < 128 by omega), Nat.mul_comm, ← hsum]
        exact Nat.mod_eq_of_lt hn
      simp only [List.length_singleton] at hlen
      rw [hadd, if_pos (by rw [hx0, ← hlen, List.take_left]), hlen]
theorem getL_num (n : Nat) (hn : n < 18446744073709551616) (rest : List Int) : getL (uintL 10 n ++ rest) 10 0 0 (uintL 10 n ++ rest) = ((n : Int), ((uintL 10 n).length : Int)) := by
  have := getL_uint (uintL 10 n ++ rest) rest n hn rfl 10 0 (by decide) (by simp; exact Nat.lt_of_lt_of_le hn (by decide)) (by simp) (by decide)
  rw [Nat.pow_zero, Nat.mod_one, Nat.div_one] at this
  exact this
theorem getUint_num (n : Nat) (hn : n < 18446744073709551616) (rest : List Int) (hr : ∀ x ∈ rest, 0 ≤ x ∧ x < 256) : Ev (fun k => pack_GetUint.f k (uintL 10 n ++ rest)) ((n : Int), ((uintL 10 n).length : Int)) := by
  have := getUint_ev (uintL 10 n ++ rest) (fun x hx => (List.mem_append.1 hx).elim (uintL_range 10 n x) (hr x))
  rwa [getL_num n hn rest] at this
end Go.Proofs.Ytkigdcihhlkkdaa.Pure
end
section
set_option linter.unusedVariables false
set_option linter.unusedSimpArgs false
namespace Go.Proofs.Ytkigdcihhlkkdaa.Pure
open Go.RowKit Go.Proofs.Ytkigdcihhlkkdaa.P Go.Proofs.YtkigdcihhlkkdaaW.PrintWords Go.Proofs.YtkigdcihhlkkdaaW.PrintLast
def wOf (r : Int) : Int := if width_none.b r = true then 0 else if width_wide.b r = true then 2 else 1
theorem wOf_eq (r : Int) : width_Of.f r = some (wOf r) := by
  unfold width_Of.f width_none.f width_wide.f wOf
  simp only [Option.bind_some]
  split
  · rfl
  · split <;> rfl
def padB (c : S45) : Bool := c.f0 == 0 && (c.f1 == 1 && c.f2 == 0)
def cellB (c : S45) : Bool := decide (0 ≤ c.f2 ∧ c.f2 ≤ 255) && (padB c || (c.f1 == 0 && c.f0 == 0) || ((c.f1 == 1 || c.f1 == 2) && c.f1 == wOf c.f0))
theorem cellMay_ev (c : S45) : Ev (fun k => cell_May.f k c.f0 c.f1 c.f2) (cellB c) := by
  obtain ⟨r, w, a⟩ := c
  unfold cell_May.f cellB padB
  by_cases h0 : a < 0
  · refine ev_pos h0 ?_
    refine Ev.step (f := _) (fun k => by rw [cell_May.j0]) (ev_pos rfl ?_)
    rw [decide_eq_false (show ¬ (0 ≤ a ∧ a ≤ 255) by omega)]
    exact Ev.now _
  · refine ev_neg h0 ?_
    refine Ev.step (f := _) (fun k => by rw [cell_May.j0]) ?_
    by_cases h1 : a > 255
    · refine ev_pos (by simpa using h1) ?_
      rw [decide_eq_false (by simp only; omega)]
      exact Ev.now _
    · refine ev_neg (by simpa using h1) ?_
      rw [decide_eq_true (by simp only; omega), Bool.true_and]
      unfold cell_IsPad.f cell_Pad.f
      simp only [Option.bind_some, wOf_eq]
      have tail : ∀ x : Bool, x = false → Ev (fun k => if w = 1 then some (w == wOf r) else if w = 2 then some (w == wOf r) else some false) (x || ((w == 1 || w == 2) && w == wOf r)) := by
        rintro x rfl
        by_cases e1 : w = 1
        · refine ev_pos e1 ?_
          subst e1
          simpa using Ev.now _
        · refine ev_neg e1 ?_
          by_cases e2 : w = 2
          · refine ev_pos e2 ?_
            subst e2
            simpa using Ev.now _
          · refine ev_neg e2 ?_
            have : ((w == 1 || w == 2) && w == wOf r) = false := by simp [e1, e2]
            rw [Bool.false_or, this]
            exact Ev.now _
      by_cases hp : (r == 0 && (w == 1 && a == 0)) = true
      · rw [hp]
        by_cases hw : w = 0
        · refine ev_pos hw ?_
          simpa using Ev.now true
        · refine ev_neg hw ?_
          simpa using Ev.now true
      · have hp2 : (r == 0 && (w == 1 && a == 0)) = false := by simpa using hp
        rw [hp2]
        by_cases hw : w = 0
        · refine ev_pos hw (ev_neg (by simp) ?_)
          by_cases hr : r = 0
          · refine ev_pos hr ?_
            subst hr hw
            simpa using Ev.now true
          · refine ev_neg hr ?_
            have := tail (false || (w == 0 && r == 0)) (by simp [hr])
            exact this
        · refine ev_neg hw (ev_neg (by simp) ?_)
          have := tail (false || (w == 0 && r == 0)) (by simp [hw])
          exact this
theorem cellB_range {c : S45} (h : cellB c = true) : 0 ≤ c.f0 ∧ c.f0 ≤ 1114111 ∧ 0 ≤ c.f1 ∧ c.f1 ≤ 2 ∧ 0 ≤ c.f2 ∧ c.f2 ≤ 255 := by
  unfold cellB padB at h
  rw [Bool.and_eq_true] at h
  have h2 := of_decide_eq_true h.1
  have h3 := h.2
  simp only [Bool.or_eq_true, Bool.and_eq_true, beq_iff_eq] at h3
  rcases h3 with (h3 | h3) | h3
  · omega
  · omega
  · have hw := h3.2
    unfold wOf at hw
    split at hw
    · omega
    · rename_i hn
      have : ¬ width_none.c c.f0 := fun h => hn (decide_eq_true h)
      unfold width_none.c at this
      omega
def mayL : Bool → Int → List S45 → Bool
  | o, _, [] => !o
  | o, a, c :: t => cellB c && (o == (c.f1 == 0) && ((!o || c.f2 == a) && mayL (c.f1 == 2) c.f2 t))
theorem rd45_at {l : List S45} {i : Nat} (h : i < l.length) : rd_T45 l (i : Int) = l[i] := by
  rw [rd_T45, Int.toNat_natCast, List.getD_eq_getElem?_getD, List.getElem?_eq_getElem h]; rfl
theorem may_loop (l : List S45) (hl : l.length ≤ 100000) : ∀ (d i : Nat) (o : Bool) (a : Int), i + d = l.length → Ev (fun k => pack_May.l0 k o a l (l.length : Int) (i : Int)) (mayL o a (l.drop i))
  | 0, i, o, a, hi => by
    refine Ev.step (f := _) (fun k => by rw [pack_May.l0]) ?_
    refine ev_neg (by omega) ?_
    rw [List.drop_of_length_le (by omega)]
    exact Ev.now _
  | d + 1, i, o, a, hi => by
    have hlt : i < l.length := by omega
    refine Ev.step (f := _) (fun k => by rw [pack_May.l0]) ?_
    refine ev_pos (by omega) (ev_pos (by omega) (ev_pos (by omega) ?_))
    rw [rd45_at hlt, List.drop_eq_getElem_cons hlt]
    generalize l[i] = c
    refine Ev.bind (cellMay_ev c) ?_
    have e : wrap64 ((i : Int) + 1) = ((i + 1 : Nat) : Int) := by rw [w64_in _ (by omega)]; omega
    rw [e]
    have ih := may_loop l hl d (i + 1) (c.f1 == 2) c.f2 (by omega)
    unfold mayL
    cases hc : cellB c with
    | false =>
      refine ev_neg (by decide) ?_
      exact Ev.now _
    | true =>
      refine ev_pos rfl ?_
      rw [Bool.true_and]
      cases o with
      | true =>
        cases h1 : (c.f1 == 0) with
        | true =>
          refine ev_neg (by decide) (ev_pos rfl ?_)
          by_cases h2 : c.f2 = a
          · refine ev_pos h2 ?_
            simpa [h2] using ih
          · refine ev_neg h2 ?_
            have e2 : (c.f2 == a) = false := by simpa using h2
            rw [e2]
            exact Ev.now _
        | false =>
          refine ev_pos (by decide) ?_
          exact Ev.now _
      | false =>
        cases h1 : (c.f1 == 0) with
        | true =>
          refine ev_pos (by decide) ?_
          exact Ev.now _
        | false =>
          refine ev_neg (by decide) (ev_neg (by decide) ?_)
          simpa using ih
def mayB (l : List S45) : Bool := decide (l.length ≤ 300) && mayL false 0 l
theorem may_ev (l : List S45) (w : Bool) (hl : l.length ≤ 100000) : Ev (fun k => pack_May.f k l w) (mayB l) := by
  unfold pack_May.f mayB
  by_cases h : l.length ≤ 300
  · refine ev_neg (by omega) ?_
    rw [decide_eq_true h, Bool.true_and]
    exact may_loop l hl l.length 0 false 0 (by omega)
  · refine ev_pos (by omega) ?_
    rw [decide_eq_false h]
    exact Ev.now _
theorem mayL_cells : ∀ {l : List S45} {o : Bool} {a : Int}, mayL o a l = true → ∀ c ∈ l, cellB c = true
  | [], _, _, _, c, hc => by simp at hc
  | d :: t, o, a, h, c, hc => by
    unfold mayL at h
    simp only [Bool.and_eq_true] at h
    rcases List.mem_cons.1 hc with rfl | hc
    · exact h.1
    · exact mayL_cells h.2.2.2 c hc
end Go.Proofs.Ytkigdcihhlkkdaa.Pure
end
section
set_option linter.unusedVariables false
set_option linter.unusedSimpArgs false
namespace Go.Proofs.Ytkigdcihhlkkdaa.Pure
open Go.RowKit Go.Proofs.Ytkigdcihhlkkdaa.P Go.Proofs.YtkigdcihhlkkdaaW.PrintWords Go.Proofs.YtkigdcihhlkkdaaW.PrintLast
def numsB (vs : List Int) : List Int := (vs.map numB).flatten
theorem numB_range (v : Int) : ∀ x ∈ numB v, 0 ≤ x ∧ x < 256 := uintL_range 10 _
theorem numsB_range (vs : List Int) : ∀ x ∈ numsB vs, 0 ≤ x ∧ x < 256 := fun x hx => by
  obtain ⟨l, hl, hxl⟩ := List.mem_flatten.1 hx
  obtain ⟨v, _, rfl⟩ := List.mem_map.1 hl
  exact numB_range v x hxl
theorem getUint_v (v : Int) (h0 : 0 ≤ v) (h1 : v ≤ 9223372036854775807) (rest : List Int) (hr : ∀ x ∈ rest, 0 ≤ x ∧ x < 256) : Ev (fun k => pack_GetUint.f k (numB v ++ rest)) (v, ((numB v).length : Int)) := by
  have e : IntKind.u64.wrap v = v := by rw [IntKind.wrap_u64]; omega
  have := getUint_num v.toNat (by omega) rest hr
  unfold numB
  rw [e]
  rw [Int.toNat_of_nonneg h0] at this
  exact this
theorem numB_pos (v : Int) : 1 ≤ (numB v).length := uintL_pos 10 _ (by decide)
theorem nums_loop (rest : List Int) (hr : ∀ x ∈ rest, 0 ≤ x ∧ x < 256) (m : Int) : ∀ (vs zs don pre : List Int), zs.length = vs.length → m = ((don.length + vs.length : Nat) : Int) → m ≤ 1000 → (∀ v ∈ vs, 0 ≤ v ∧ v ≤ 1073741824) → pre.length + 10 * vs.length ≤ 1000000000 →
    Ev (fun k => pack_numbers.l0 k (pre ++ (numsB vs ++ rest)) (don ++ zs) (pre.length : Int) m (don.length : Int)) (((pre.length + (numsB vs).length : Nat) : Int), don ++ vs)
  | [], zs, don, pre, hz, hm, hm2, hv, hp => by
    refine Ev.step (f := _) (fun k => by rw [pack_numbers.l0]) ?_
    refine ev_neg (by simp at hm; omega) ?_
    obtain rfl : zs = [] := List.length_eq_zero_iff.1 hz
    exact Ev.now _
  | v :: t, [], don, pre, hz, hm, hm2, hv, hp => by simp at hz
  | v :: t, z :: zs, don, pre, hz, hm, hm2, hv, hp => by
    have hv0 := hv v (by simp)
    have hlen := numB_len v
    have hpos := numB_pos v
    simp only [List.length_cons] at hz hm hp
    refine Ev.step (f := _) (fun k => by rw [pack_numbers.l0]) ?_
    refine ev_pos (by omega) (ev_pos (by omega) (ev_pos (by rw [List.length_append]; omega) ?_))
    rw [Int.toNat_natCast, List.drop_left]
    have e1 : numsB (v :: t) ++ rest = numB v ++ (numsB t ++ rest) := by simp [numsB]
    rw [e1]
    refine Ev.bind (getUint_v v hv0.1 (by omega) (numsB t ++ rest) (fun x hx => (List.mem_append.1 hx).elim (numsB_range t x) (hr x))) ?_
    refine ev_neg (by simp only; omega) (ev_neg (by simp only; omega) (ev_pos (by omega) (ev_pos (by rw [List.length_append, List.length_cons]; omega) ?_)))
    simp only
    rw [Int.toNat_natCast, w64_in _ (show _ ≤ v ∧ v ≤ _ by omega), w64_in ((pre.length : Int) + ((numB v).length : Int)) (by omega), w64_in ((don.length : Int) + 1) (by omega)]
    have ih := nums_loop rest hr m t zs (don ++ [v]) (pre ++ numB v) (by omega) (by simp only [List.length_append, List.length_singleton]; omega) hm2 (fun x hx => hv x (by simp [hx])) (by rw [List.length_append]; omega)
    have e2 : (don ++ z :: zs).set don.length v = don ++ [v] ++ zs := by simp
    rw [e2]
    have e3 : pre ++ (numB v ++ (numsB t ++ rest)) = pre ++ numB v ++ (numsB t ++ rest) := by simp
    rw [e3]
    have e4 : ((pre ++ numB v).length : Int) = (pre.length : Int) + ((numB v).length : Int) := by rw [List.length_append]; omega
    have e5 : ((don ++ [v]).length : Int) = (don.length : Int) + 1 := by simp
    rw [e4, e5] at ih
    have e6 : (((pre ++ numB v).length + (numsB t).length : Nat) : Int) = ((pre.length + (numsB (v :: t)).length : Nat) : Int) := by
      have : (numsB (v :: t)).length = (numB v).length + (numsB t).length := by simp [numsB]
      rw [this, List.length_append]
      omega
    have e7 : don ++ [v] ++ t = don ++ v :: t := by simp
    rw [e6, e7] at ih
    exact ih
theorem nums_ev (vs rest : List Int) (hr : ∀ x ∈ rest, 0 ≤ x ∧ x < 256) (hl : vs.length ≤ 1000) (hv : ∀ v ∈ vs, 0 ≤ v ∧ v ≤ 1073741824) : Ev (fun k => pack_numbers.f k (numsB vs ++ rest) (List.replicate vs.length 0)) (((numsB vs).length : Int), vs) := by
  have := nums_loop rest hr (vs.length : Int) vs (List.replicate vs.length 0) [] [] (by simp) (by simp) (by omega) hv (by simp; omega)
  unfold pack_numbers.f
  rw [List.length_replicate]
  simpa using this
def expand (rs : List S78) : List S45 := (rs.map (fun r => List.replicate r.f0.toNat r.f1)).flatten
theorem expand_append (a b : List S78) : expand (a ++ b) = expand a ++ expand b := by simp [expand]
theorem same45_eq {a b : S45} (h : same45 a b = true) : a = b := by
  obtain ⟨a0, a1, a2⟩ := a
  obtain ⟨b0, b1, b2⟩ := b
  unfold same45 at h
  simp only [Bool.and_eq_true, beq_iff_eq] at h
  obtain ⟨rfl, rfl, rfl⟩ := h
  rfl
structure RunsOf (rs : List S78) (l : List S45) : Prop where
  exp : expand rs = l
  num : ∀ r ∈ rs, 1 ≤ r.f0 ∧ r.f0 ≤ l.length ∧ r.f1 ∈ l
theorem step78_of {rs : List S78} {l : List S45} (h : RunsOf rs l) (hl : l.length ≤ 100000) (c : S45) : RunsOf (step78 rs c) (l ++ [c]) := by
  unfold step78
  split
  · rename_i hc
    obtain ⟨a, r, rfl⟩ : ∃ a r, rs = a ++ [r] := by
      rcases List.eq_nil_or_concat rs with h0 | ⟨a, r, h0⟩
      · subst h0; simp at hc
      · exact ⟨a, r, by simpa using h0⟩
    have e1 : (a ++ [r]).length - 1 = a.length := by simp
    have e2 : rd_T78 (a ++ [r]) ((a.length : Nat) : Int) = r := by rw [rd_T78, Int.toNat_natCast, List.getD_eq_getElem?_getD]; simp
    rw [e1] at hc ⊢
    rw [e2] at hc ⊢
    have hs := same45_eq hc.2
    have hn := h.num r (by simp)
    have hx := h.exp
    rw [w64_in _ (by omega)]
    refine ⟨?_, fun q hq => ?_⟩
    · have e3 : (a ++ [r]).set a.length ⟨r.f0 + 1, r.f1⟩ = a ++ [⟨r.f0 + 1, r.f1⟩] := by simp
      rw [e3, expand_append, ← hx, expand_append, List.append_assoc]
      congr 1
      simp only [expand, List.map_cons, List.map_nil, List.flatten_cons, List.flatten_nil, List.append_nil]
      rw [show (r.f0 + 1).toNat = r.f0.toNat + 1 by omega, List.replicate_succ', hs]
    · have e3 : (a ++ [r]).set a.length ⟨r.f0 + 1, r.f1⟩ = a ++ [⟨r.f0 + 1, r.f1⟩] := by simp
      rw [e3] at hq
      rw [List.length_append, List.length_singleton]
      rcases List.mem_append.1 hq with hq | hq
      · have := h.num q (by simp [hq])
        exact ⟨this.1, by omega, by simp [this.2.2]⟩
      · obtain rfl := List.mem_singleton.1 hq
        exact ⟨by simp only; omega, by simp only; omega, by simp [hn.2.2]⟩
  · refine ⟨?_, fun q hq => ?_⟩
    · rw [expand_append, h.exp]
      congr 1
    · rw [List.length_append, List.length_singleton]
      rcases List.mem_append.1 hq with hq | hq
      · have := h.num q hq
        exact ⟨this.1, by omega, by simp [this.2.2]⟩
      · obtain rfl := List.mem_singleton.1 hq
        exact ⟨by simp, by simp only; omega, by simp⟩
theorem foldl_of : ∀ (t : List S45) (rs : List S78) (l : List S45), RunsOf rs l → l.length + t.length ≤ 100000 → RunsOf (t.foldl step78 rs) (l ++ t)
  | [], rs, l, h, _ => by simpa using h
  | c :: t, rs, l, h, hl => by
    simp only [List.length_cons] at hl
    have := foldl_of t (step78 rs c) (l ++ [c]) (step78_of h (by omega) c) (by simp; omega)
    simpa using this
theorem runs_of (l : List S45) (hl : l.length ≤ 100000) : RunsOf (runs78 l) l := by
  have := foldl_of l [] [] ⟨rfl, fun r hr => by simp at hr⟩ (by simp; omega)
  simpa [runs78] using this
theorem w32_in (n : Int) (h : -2147483648 ≤ n ∧ n ≤ 2147483647) : wrap32 n = n := by unfold wrap32; omega
structure RunIn (r : S78) : Prop where
  n0 : 1 ≤ r.f0
  n1 : r.f0 ≤ 300
  r0 : 0 ≤ r.f1.f0
  r1 : r.f1.f0 ≤ 1114111
  w0 : 0 ≤ r.f1.f1
  w1 : r.f1.f1 ≤ 2
  a0 : 0 ≤ r.f1.f2
  a1 : r.f1.f2 ≤ 255
theorem runB_eq (r : S78) (h : RunIn r) : runB r = numsB [r.f0, r.f1.f0, r.f1.f1, r.f1.f2] := by
  unfold runB numsB
  rw [w64_in _ (by have := h.r0; have := h.r1; omega)]
  simp
theorem runB_range (r : S78) : ∀ x ∈ runB r, 0 ≤ x ∧ x < 256 := fun x hx => by
  unfold runB at hx
  simp only [List.mem_append] at hx
  rcases hx with hx | hx | hx | hx <;> exact numB_range _ x hx
theorem rowB_range (l : List S45) (w : Bool) : ∀ x ∈ rowB l w, 0 ≤ x ∧ x < 256 := fun x hx => by
  unfold rowB at hx
  rcases List.mem_append.1 hx with hx | hx
  · exact numB_range _ x hx
  · obtain ⟨b, hb, hxb⟩ := List.mem_flatten.1 hx
    obtain ⟨r, _, rfl⟩ := List.mem_map.1 hb
    exact runB_range r x hxb
theorem expand_cons (r : S78) (t : List S78) : expand (r :: t) = List.replicate r.f0.toNat r.f1 ++ expand t := by simp [expand]
theorem get_loop (L : List S45) (w : Bool) (hL : mayB L = true) (rest : List Int) (hr : ∀ x ∈ rest, 0 ≤ x ∧ x < 256) (n : Int) : ∀ (rs : List S78) (pre : List Int) (cells : List S45) (i : Nat), (∀ r ∈ rs, RunIn r) → n = ((i + rs.length : Nat) : Int) → n ≤ 300 → cells ++ expand rs = L → pre ++ (rs.map runB).flatten = rowB L w →
    Ev (fun k => pack_Get.l0 k (rowB L w ++ rest) (pre.length : Int) n (i : Int) cells w) (L, w, ((rowB L w).length : Int), 0)
  | [], pre, cells, i, hrs, hn, hn3, hc, hp => by
    have hL2 : L.length ≤ 300 := by unfold mayB at hL; simp only [Bool.and_eq_true, decide_eq_true_eq] at hL; exact hL.1
    obtain rfl : cells = L := by simpa [expand] using hc
    have hp' : pre = rowB cells w := by simpa using hp
    have hrl : (rowB cells w).length ≤ 1000000 := by
      unfold rowB
      have h1 := runs78_le cells
      have h2 : ∀ rs : List S78, ((rs.map runB).flatten).length ≤ 40 * rs.length := by
        intro rs
        induction rs with
        | nil => simp
        | cons r t ih =>
          have := runB_len r
          simp only [List.map_cons, List.flatten_cons, List.length_append, List.length_cons]
          omega
      have h3 := h2 (runs78 cells)
      have h4 := numB_len (2 * ((runs78 cells).length : Int) + (if w then 1 else 0))
      rw [List.length_append]
      omega
    subst hp'
    refine Ev.step (f := _) (fun k => by rw [pack_Get.l0]) ?_
    refine ev_neg (by simp at hn; omega) ?_
    have hm := may_ev cells w (by omega)
    rw [hL] at hm
    refine Ev.bind (put_ev cells w (by omega) hm) ?_
    refine ev_pos rfl (ev_pos (by omega) (ev_pos (by rw [List.length_append]; omega) ?_))
    rw [Int.toNat_natCast, List.take_left]
    refine Ev.bind (eqb_ev _ _ (by simpa using (by omega))) ?_
    refine ev_pos (by simp) ?_
    exact Ev.now _
  | r :: t, pre, cells, i, hrs, hn, hn3, hc, hp => by
    have hL2 : L.length ≤ 300 := by unfold mayB at hL; simp only [Bool.and_eq_true, decide_eq_true_eq] at hL; exact hL.1
    have hR := hrs r (by simp)
    have hlen := runB_len r
    have hpl : pre.length ≤ (rowB L w).length := by rw [← hp, List.length_append]; omega
    have hdrop : (rowB L w ++ rest).drop pre.length = numsB [r.f0, r.f1.f0, r.f1.f1, r.f1.f2] ++ ((t.map runB).flatten ++ rest) := by
      rw [← hp, List.append_assoc, List.drop_left, List.map_cons, List.flatten_cons, runB_eq r hR, List.append_assoc]
    have hcl : cells.length + r.f0.toNat ≤ L.length := by
      rw [← hc, expand_cons, List.length_append, List.length_append, List.length_replicate]
      omega
    simp only [List.length_cons] at hn
    refine Ev.step (f := _) (fun k => by rw [pack_Get.l0]) ?_
    refine ev_pos (by omega) (ev_pos (by decide) ?_)
    refine Ev.bind (Ev.now (List.replicate 4 (0 : Int))) ?_
    refine ev_pos (by omega) (ev_pos (by rw [List.length_append]; omega) ?_)
    rw [Int.toNat_natCast, hdrop]
    have hv : ∀ v ∈ [r.f0, r.f1.f0, r.f1.f1, r.f1.f2], 0 ≤ v ∧ v ≤ 1073741824 := by
      intro v hv
      have := hR.n0; have := hR.n1; have := hR.r0; have := hR.r1; have := hR.w0; have := hR.w1; have := hR.a0; have := hR.a1
      simp only [List.mem_cons, List.not_mem_nil, or_false] at hv
      rcases hv with rfl | rfl | rfl | rfl <;> omega
    refine Ev.bind (nums_ev [r.f0, r.f1.f0, r.f1.f1, r.f1.f2] _ (fun x hx => ?_) (by simp) hv) ?_
    · rcases List.mem_append.1 hx with hx | hx
      · obtain ⟨b, hb, hxb⟩ := List.mem_flatten.1 hx
        obtain ⟨q, _, rfl⟩ := List.mem_map.1 hb
        exact runB_range q x hxb
      · exact hr x hx
    have hnl : (numsB [r.f0, r.f1.f0, r.f1.f1, r.f1.f2]).length = (runB r).length := by rw [runB_eq r hR]
    have hpos : 1 ≤ (runB r).length := by unfold runB; have := numB_pos r.f0; rw [List.length_append]; omega
    rw [hnl]
    have e0 : rd [r.f0, r.f1.f0, r.f1.f1, r.f1.f2] 0 = r.f0 := rfl
    have e1 : rd [r.f0, r.f1.f0, r.f1.f1, r.f1.f2] 1 = r.f1.f0 := rfl
    have e2 : rd [r.f0, r.f1.f0, r.f1.f1, r.f1.f2] 2 = r.f1.f1 := rfl
    have e3 : rd [r.f0, r.f1.f0, r.f1.f1, r.f1.f2] 3 = r.f1.f2 := rfl
    simp only [e0, e1, e2, e3, List.length_replicate]
    have b0 := hR.n0; have b1 := hR.n1; have b2 := hR.r0; have b3 := hR.r1
    refine ev_neg (by omega) (ev_pos (by decide) (ev_neg (by omega) (ev_pos (by decide) (ev_pos (by decide) (ev_pos (by decide) ?_)))))
    rw [w32_in _ (by omega)]
    have hrep : api_Cell_58.f [(⟨r.f1.f0, r.f1.f1, r.f1.f2⟩ : S45)] r.f0 = some (List.replicate r.f0.toNat r.f1) := by
      show slices_Repeat.f _ _ = _
      unfold slices_Repeat.f
      rw [if_pos ⟨rfl, by omega, by omega⟩]
      rfl
    rw [hrep]
    simp only [Option.bind_some]
    have hrl : (rowB L w).length ≤ 1000000000 := by
      unfold rowB
      have h1 := runs78_le L
      have h2 : ∀ rs : List S78, ((rs.map runB).flatten).length ≤ 40 * rs.length := by
        intro rs
        induction rs with
        | nil => simp
        | cons r t ih =>
          have := runB_len r
          simp only [List.map_cons, List.flatten_cons, List.length_append, List.length_cons]
          omega
      have h3 := h2 (runs78 L)
      have h4 := numB_len (2 * ((runs78 L).length : Int) + (if w then 1 else 0))
      rw [List.length_append]
      omega
    refine ev_pos (by rw [List.length_replicate]; omega) ?_
    rw [w64_in ((pre.length : Int) + ((runB r).length : Int)) (by omega), w64_in ((i : Int) + 1) (by omega)]
    have ih := get_loop L w hL rest hr n t (pre ++ runB r) (cells ++ List.replicate r.f0.toNat r.f1) (i + 1) (fun q hq => hrs q (by simp [hq])) (by omega) hn3 (by rw [List.append_assoc, ← expand_cons]; exact hc) (by rw [← hp]; simp)
    rw [List.length_append] at ih
    have e4 : (((i + 1 : Nat)) : Int) = (i : Int) + 1 := by omega
    have e5 : ((pre.length + (runB r).length : Nat) : Int) = (pre.length : Int) + ((runB r).length : Int) := by omega
    rw [e4, e5] at ih
    exact ih
theorem mayB_len {l : List S45} (h : mayB l = true) : l.length ≤ 300 := by
  unfold mayB at h
  simp only [Bool.and_eq_true, decide_eq_true_eq] at h
  exact h.1
theorem mayB_cells {l : List S45} (h : mayB l = true) : ∀ c ∈ l, cellB c = true := by
  unfold mayB at h
  simp only [Bool.and_eq_true] at h
  exact mayL_cells h.2
theorem runs_in {l : List S45} (h : mayB l = true) : ∀ r ∈ runs78 l, RunIn r := fun r hr => by
  have hl := mayB_len h
  have hn := (runs_of l (by omega)).num r hr
  have hc := cellB_range (mayB_cells h _ hn.2.2)
  exact ⟨hn.1, by omega, hc.1, hc.2.1, hc.2.2.1, hc.2.2.2.1, hc.2.2.2.2.1, hc.2.2.2.2.2⟩
theorem get_ev (l : List S45) (w : Bool) (h : mayB l = true) (rest : List Int) (hr : ∀ x ∈ rest, 0 ≤ x ∧ x < 256) : Ev (fun k => pack_Get.f k (rowB l w ++ rest)) (l, w, ((rowB l w).length : Int), 0) := by
  have hl := mayB_len h
  have hle := runs78_le l
  obtain ⟨hd, hhd⟩ : ∃ hd : Int, hd = 2 * ((runs78 l).length : Int) + (if w then 1 else 0) := ⟨_, rfl⟩
  have hhr : 0 ≤ hd ∧ hd ≤ 601 := by subst hhd; split <;> omega
  have hB : rowB l w = numsB [hd] ++ ((runs78 l).map runB).flatten := by unfold rowB; rw [← hhd]; simp [numsB]
  have hloop := get_loop l w h rest hr ((runs78 l).length : Int) (runs78 l) (numsB [hd]) [] 0 (runs_in h) (by simp) (by omega) (by rw [(runs_of l (by omega)).exp]; rfl) hB.symm
  unfold pack_Get.f
  refine ev_pos (by decide) ?_
  refine Ev.bind (Ev.now (List.replicate 1 (0 : Int))) ?_
  have hn := nums_ev [hd] (((runs78 l).map runB).flatten ++ rest) (fun x hx => by
    rcases List.mem_append.1 hx with hx | hx
    · obtain ⟨b, hb, hxb⟩ := List.mem_flatten.1 hx
      obtain ⟨q, _, rfl⟩ := List.mem_map.1 hb
      exact runB_range q x hxb
    · exact hr x hx) (by simp) (fun v hv => by obtain rfl := List.mem_singleton.1 hv; omega)
  rw [← List.append_assoc, ← hB] at hn
  refine Ev.bind hn ?_
  have hpos : 1 ≤ (numsB [hd]).length := by have := numB_pos hd; simp [numsB]; omega
  have e0 : rd [hd] 0 = hd := rfl
  refine ev_neg (by simp only; omega) (ev_pos (by decide) ?_)
  simp only [e0]
  have hdiv : Int.tdiv hd 2 = ((runs78 l).length : Int) := by
    rw [Int.tdiv_eq_ediv_of_nonneg hhr.1]
    subst hhd
    split <;> omega
  have hmod : (Int.tmod hd 2 == 1) = w := by
    rw [Int.tmod_eq_emod_of_nonneg hhr.1]
    subst hhd
    cases w
    · simp
    · simp
  rw [hdiv, w64_in _ (by omega), decide_eq_false (by omega)]
  refine Ev.step (f := _) (fun k => by rw [pack_Get.j0]) ?_
  refine ev_neg (by decide) (ev_pos (by simp) ?_)
  rw [e0, hdiv, w64_in _ (by omega), hmod]
  exact hloop
end Go.Proofs.Ytkigdcihhlkkdaa.Pure
end
section
namespace Go.Proofs.Ytkigdcihhlkkdaa.P
open Go.RowKit Go.Proofs.YtkigdcihhlkkdaaW.PrintWords Go.Proofs.YtkigdcihhlkkdaaW.PrintLast Go.Proofs.YtkigdcihhlkkdaaW.PrintMore
attribute [local go_sem] max2_int min2_int max_two min_two max_three min_three max_four min_four   -- for this text's walks alone
set_option linter.unusedVariables false
set_option linter.unusedSimpArgs false
def rotulusref1_Width.zeros : List (Int × Int) := [(-2147483648, 31), (127, 159), (768, 879), (8203, 8207), (65024, 65039), (1114112, 2147483647), (55296, 57343)]
def rotulusref1_Width.wides : List (Int × Int) := [(4352, 4447), (11904, 12350), (12353, 13311), (13312, 19903), (19968, 40959), (40960, 42191), (44032, 55203), (63744, 64255), (65072, 65135), (65280, 65376), (65504, 65510), (127744, 128591), (129280, 129535), (131072, 262141)]
def rotulusref1_Width.isIn (l : List (Int × Int)) (r : Int) : Bool := l.any fun p => decide (p.1 ≤ r) && decide (r ≤ p.2)
def rotulusref1_Width.w (r : Int) : Int := if rotulusref1_Width.isIn rotulusref1_Width.zeros r = true then 0 else if rotulusref1_Width.isIn rotulusref1_Width.wides r = true then 2 else 1
def rotulusref1_Width.f (a0 : Int) : Option Int := some (rotulusref1_Width.w a0)
def rotulusref1_Width.cells (l : List (Int × Int)) : List Value := l.flatMap fun p => [.int .i32 p.1, .int .i32 p.2]
theorem rotulusref1_Width.yes (l : List (Int × Int)) (r : Int) (i : Nat) (hi : i < l.length) (h1 : l[i].1 ≤ r) (h2 : r ≤ l[i].2) : rotulusref1_Width.isIn l r = true := by
  unfold rotulusref1_Width.isIn
  rw [List.any_eq_true]
  exact ⟨l[i], List.getElem_mem hi, by simp [h1, h2]⟩
theorem rotulusref1_Width.no (l : List (Int × Int)) (r : Int) (h : ∀ i, ∀ hi : i < l.length, ¬ (l[i].1 ≤ r ∧ r ≤ l[i].2)) : rotulusref1_Width.isIn l r = false := by
  unfold rotulusref1_Width.isIn
  rw [List.any_eq_false]
  intro p hp
  obtain ⟨i, hi, rfl⟩ := List.mem_iff_getElem.1 hp
  have := h i hi
  simp
  intro h1
  by_cases h2 : r ≤ l[i].2
  · exact absurd ⟨h1, h2⟩ this
  · omega
theorem rotulusref1_Width.row (W : World) (B : Nat) (l : List (Int × Int)) (hW : W.heap[B]? = some (.cells (rotulusref1_Width.cells l).toArray 96 (0, 0))) (i : Nat) (hi : i < l.length) :
    W.cell? ⟨B, i * 2, none⟩ = some (.int .i32 l[i].1) ∧ W.cell? ⟨B, i * 2 + 1, none⟩ = some (.int .i32 l[i].2) := by
  have key : ∀ (l : List (Int × Int)) (i : Nat) (hi : i < l.length), (rotulusref1_Width.cells l)[i * 2]? = some (.int .i32 l[i].1) ∧ (rotulusref1_Width.cells l)[i * 2 + 1]? = some (.int .i32 l[i].2) := by
    intro l
    induction l with
    | nil => intro i hi; simp at hi
    | cons p l ih =>
      intro i hi
      cases i with
      | zero => simp [rotulusref1_Width.cells]
      | succ i =>
        have := ih i (by simpa using hi)
        have e1 : (i + 1) * 2 = i * 2 + 2 := by omega
        simp only [rotulusref1_Width.cells, List.flatMap_cons, e1] at this ⊢
        simpa using this
  have k := key l i hi
  constructor
  · simp only [World.cell?, hW]
    simpa using k.1
  · simp only [World.cell?, hW]
    simpa using k.2
set_option maxHeartbeats 4000000 in
set_option maxRecDepth 100000 in
theorem rotulusref1_Width.calls (a0 : Int) (r : Int) (w : World) (h : rotulusref1_Width.f a0 = some r) :
    Calls Try.prog 59 #[.int .i32 a0] w fun e w' => e = .returned (.int .i64 r) ∧ Below w.heap.size w w' := by
  obtain rfl := Option.some.inj h
  clear h
  go_enter Try.func59, Try.ntmps59
  go_wp2
  have HB : Aside0 (Below w.heap.size w ((w.alloc (.cells #[.int .i32 (-2147483648), .int .i32 31, .int .i32 127, .int .i32 159, .int .i32 768, .int .i32 879, .int .i32 8203, .int .i32 8207, .int .i32 65024, .int .i32 65039, .int .i32 1114112, .int .i32 2147483647, .int .i32 55296, .int .i32 57343] 96)).alloc (.cells #[.int .i32 4352, .int .i32 4447, .int .i32 11904, .int .i32 12350, .int .i32 12353, .int .i32 13311, .int .i32 13312, .int .i32 19903, .int .i32 19968, .int .i32 40959, .int .i32 40960, .int .i32 42191, .int .i32 44032, .int .i32 55203, .int .i32 63744, .int .i32 64255, .int .i32 65072, .int .i32 65135, .int .i32 65280, .int .i32 65376, .int .i32 65504, .int .i32 65510, .int .i32 127744, .int .i32 128591, .int .i32 129280, .int .i32 129535, .int .i32 131072, .int .i32 262141] 96))) := ⟨below_alloc (below_alloc (Below.refl _ _) _) _⟩
  have hz : Aside0 (((w.alloc (.cells #[.int .i32 (-2147483648), .int .i32 31, .int .i32 127, .int .i32 159, .int .i32 768, .int .i32 879, .int .i32 8203, .int .i32 8207, .int .i32 65024, .int .i32 65039, .int .i32 1114112, .int .i32 2147483647, .int .i32 55296, .int .i32 57343] 96)).alloc (.cells #[.int .i32 4352, .int .i32 4447, .int .i32 11904, .int .i32 12350, .int .i32 12353, .int .i32 13311, .int .i32 13312, .int .i32 19903, .int .i32 19968, .int .i32 40959, .int .i32 40960, .int .i32 42191, .int .i32 44032, .int .i32 55203, .int .i32 63744, .int .i32 64255, .int .i32 65072, .int .i32 65135, .int .i32 65280, .int .i32 65376, .int .i32 65504, .int .i32 65510, .int .i32 127744, .int .i32 128591, .int .i32 129280, .int .i32 129535, .int .i32 131072, .int .i32 262141] 96)).heap[w.heap.size]? = some (.cells (rotulusref1_Width.cells rotulusref1_Width.zeros).toArray 96 (0, 0))) := ⟨blk_alloc (blk_new w _) _⟩
  have hwd : Aside0 (((w.alloc (.cells #[.int .i32 (-2147483648), .int .i32 31, .int .i32 127, .int .i32 159, .int .i32 768, .int .i32 879, .int .i32 8203, .int .i32 8207, .int .i32 65024, .int .i32 65039, .int .i32 1114112, .int .i32 2147483647, .int .i32 55296, .int .i32 57343] 96)).alloc (.cells #[.int .i32 4352, .int .i32 4447, .int .i32 11904, .int .i32 12350, .int .i32 12353, .int .i32 13311, .int .i32 13312, .int .i32 19903, .int .i32 19968, .int .i32 40959, .int .i32 40960, .int .i32 42191, .int .i32 44032, .int .i32 55203, .int .i32 63744, .int .i32 64255, .int .i32 65072, .int .i32 65135, .int .i32 65280, .int .i32 65376, .int .i32 65504, .int .i32 65510, .int .i32 127744, .int .i32 128591, .int .i32 129280, .int .i32 129535, .int .i32 131072, .int .i32 262141] 96)).heap[w.heap.size + 1]? = some (.cells (rotulusref1_Width.cells rotulusref1_Width.wides).toArray 96 (0, 0))) := ⟨by have h_ := blk_new (w.alloc (.cells #[.int .i32 (-2147483648), .int .i32 31, .int .i32 127, .int .i32 159, .int .i32 768, .int .i32 879, .int .i32 8203, .int .i32 8207, .int .i32 65024, .int .i32 65039, .int .i32 1114112, .int .i32 2147483647, .int .i32 55296, .int .i32 57343] 96)) (.cells #[.int .i32 4352, .int .i32 4447, .int .i32 11904, .int .i32 12350, .int .i32 12353, .int .i32 13311, .int .i32 13312, .int .i32 19903, .int .i32 19968, .int .i32 40959, .int .i32 40960, .int .i32 42191, .int .i32 44032, .int .i32 55203, .int .i32 63744, .int .i32 64255, .int .i32 65072, .int .i32 65135, .int .i32 65280, .int .i32 65376, .int .i32 65504, .int .i32 65510, .int .i32 127744, .int .i32 128591, .int .i32 129280, .int .i32 129535, .int .i32 131072, .int .i32 262141] 96); rw [World.size_alloc] at h_; exact h_⟩
  generalize (w.alloc (.cells #[.int .i32 (-2147483648), .int .i32 31, .int .i32 127, .int .i32 159, .int .i32 768, .int .i32 879, .int .i32 8203, .int .i32 8207, .int .i32 65024, .int .i32 65039, .int .i32 1114112, .int .i32 2147483647, .int .i32 55296, .int .i32 57343] 96)).alloc (.cells #[.int .i32 4352, .int .i32 4447, .int .i32 11904, .int .i32 12350, .int .i32 12353, .int .i32 13311, .int .i32 13312, .int .i32 19903, .int .i32 19968, .int .i32 40959, .int .i32 40960, .int .i32 42191, .int .i32 44032, .int .i32 55203, .int .i32 63744, .int .i32 64255, .int .i32 65072, .int .i32 65135, .int .i32 65280, .int .i32 65376, .int .i32 65504, .int .i32 65510, .int .i32 127744, .int .i32 128591, .int .i32 129280, .int .i32 129535, .int .i32 131072, .int .i32 262141] 96) = W at HB hz hwd ⊢
  go_loopg [5] 7 (fun gg s wr => ∃ kk : Nat, kk ≤ 7 ∧ 7 - kk ≤ gg ∧ s = .int .i64 kk ∧ Aside0 (wr = W) ∧ Aside0 (∀ i, i < kk → ∀ hi : i < rotulusref1_Width.zeros.length, ¬ (rotulusref1_Width.zeros[i].1 ≤ a0 ∧ a0 ≤ rotulusref1_Width.zeros[i].2)))
  case atStart => exact ⟨0, Nat.zero_le _, by omega, rfl, ⟨rfl⟩, ⟨fun i hi => absurd hi (Nat.not_lt_zero _)⟩⟩
  case round =>
    obtain ⟨kk, hkk, hg, rfl, hwr, HA⟩ := hrel
    obtain rfl := hwr.out
    clear hwr
    by_cases hlt : kk < 7
    · have hltz : (kk : Int) < 7 := by omega
      have hi : kk < rotulusref1_Width.zeros.length := hlt
      obtain ⟨hx0, hx1⟩ := rotulusref1_Width.row wr w.heap.size rotulusref1_Width.zeros hz.out kk hi
      have hyes := Lib.hid (rotulusref1_Width.yes rotulusref1_Width.zeros a0 kk hi)
      obtain ⟨lo, hlo⟩ : ∃ lo, lo = rotulusref1_Width.zeros[kk].1 := ⟨_, rfl⟩
      obtain ⟨hi_, hhi⟩ : ∃ hi_, hi_ = rotulusref1_Width.zeros[kk].2 := ⟨_, rfl⟩
      rw [← hlo] at hx0
      rw [← hhi] at hx1
      have Hlo := Lib.hid hlo
      have Hhi := Lib.hid hhi
      clear hlo hhi
      by_cases h1 : lo ≤ a0
      · by_cases h2 : a0 ≤ hi_
        · have hin := Lib.hid (hyes.out (by rw [← Hlo.out]; exact h1) (by rw [← Hhi.out]; exact h2))
          clear hyes HA
          have d1 : decide (a0 ≥ lo) = true := by simpa using h1
          have d2 : decide (a0 ≤ hi_) = true := by simpa using h2
          go_wp2
          go_ret
          exact ⟨by rw [rotulusref1_Width.w, if_pos hin.out] <;> rfl, HB.out⟩
        · have HA2 : Aside0 (∀ i, i < kk + 1 → ∀ hi : i < rotulusref1_Width.zeros.length, ¬ (rotulusref1_Width.zeros[i].1 ≤ a0 ∧ a0 ≤ rotulusref1_Width.zeros[i].2)) := ⟨fun i hi hl hh => by
            by_cases e : i = kk
            · subst e
              exact h2 (by rw [Hhi.out]; exact hh.2)
            · exact HA.out i (by omega) hl hh⟩
          clear HA hyes
          have d1 : decide (a0 ≥ lo) = true := by simpa using h1
          have d2 : decide (a0 ≤ hi_) = false := by simpa using h2
          go_wp2
          go_roundg (7 - (kk + 1))
          case measure => omega
          case rel => exact ⟨kk + 1, by omega, by omega, by go_num, ⟨rfl⟩, HA2⟩
      · have HA2 : Aside0 (∀ i, i < kk + 1 → ∀ hi : i < rotulusref1_Width.zeros.length, ¬ (rotulusref1_Width.zeros[i].1 ≤ a0 ∧ a0 ≤ rotulusref1_Width.zeros[i].2)) := ⟨fun i hi hl hh => by
          by_cases e : i = kk
          · subst e
            exact h1 (by rw [Hlo.out]; exact hh.1)
          · exact HA.out i (by omega) hl hh⟩
        clear HA hyes
        have d1 : decide (a0 ≥ lo) = false := by simpa using h1
        go_wp2
        go_roundg (7 - (kk + 1))
        case measure => omega
        case rel => exact ⟨kk + 1, by omega, by omega, by go_num, ⟨rfl⟩, HA2⟩
    · have hltz : ¬ (kk : Int) < 7 := by omega
      obtain rfl : kk = 7 := by omega
      have hout := Lib.hid (rotulusref1_Width.no rotulusref1_Width.zeros a0 fun i hi => HA.out i hi hi)
      clear HA
      go_wp2
      have hout0 := hout
      clear hout
      obtain ⟨W2, hW2⟩ : ∃ W2, W2 = wr := ⟨_, rfl⟩
      subst hW2
      go_loopg [6] 14 (fun gg s wr => ∃ kk : Nat, kk ≤ 14 ∧ 14 - kk ≤ gg ∧ s = .int .i64 kk ∧ Aside0 (wr = W2) ∧ Aside0 (∀ i, i < kk → ∀ hi : i < rotulusref1_Width.wides.length, ¬ (rotulusref1_Width.wides[i].1 ≤ a0 ∧ a0 ≤ rotulusref1_Width.wides[i].2)))
      case atStart => exact ⟨0, Nat.zero_le _, by omega, rfl, ⟨rfl⟩, ⟨fun i hi => absurd hi (Nat.not_lt_zero _)⟩⟩
      case round =>
        obtain ⟨kk, hkk, hg, rfl, hwr, HA⟩ := hrel
        obtain rfl := hwr.out
        clear hwr
        by_cases hlt : kk < 14
        · have hltz : (kk : Int) < 14 := by omega
          have hi : kk < rotulusref1_Width.wides.length := hlt
          obtain ⟨hx0, hx1⟩ := rotulusref1_Width.row wr (w.heap.size + 1) rotulusref1_Width.wides hwd.out kk hi
          have hyes := Lib.hid (rotulusref1_Width.yes rotulusref1_Width.wides a0 kk hi)
          obtain ⟨lo, hlo⟩ : ∃ lo, lo = rotulusref1_Width.wides[kk].1 := ⟨_, rfl⟩
          obtain ⟨hi_, hhi⟩ : ∃ hi_, hi_ = rotulusref1_Width.wides[kk].2 := ⟨_, rfl⟩
          rw [← hlo] at hx0
          rw [← hhi] at hx1
          have Hlo := Lib.hid hlo
          have Hhi := Lib.hid hhi
          clear hlo hhi
          by_cases h1 : lo ≤ a0
          · by_cases h2 : a0 ≤ hi_
            · have hin := Lib.hid (hyes.out (by rw [← Hlo.out]; exact h1) (by rw [← Hhi.out]; exact h2))
              clear hyes HA
              have d1 : decide (a0 ≥ lo) = true := by simpa using h1
              have d2 : decide (a0 ≤ hi_) = true := by simpa using h2
              go_wp2
              go_ret
              exact ⟨by rw [rotulusref1_Width.w, if_neg (by rw [hout0.out]; decide), if_pos hin.out] <;> rfl, HB.out⟩
            · have HA2 : Aside0 (∀ i, i < kk + 1 → ∀ hi : i < rotulusref1_Width.wides.length, ¬ (rotulusref1_Width.wides[i].1 ≤ a0 ∧ a0 ≤ rotulusref1_Width.wides[i].2)) := ⟨fun i hi hl hh => by
                by_cases e : i = kk
                · subst e
                  exact h2 (by rw [Hhi.out]; exact hh.2)
                · exact HA.out i (by omega) hl hh⟩
              clear HA hyes
              have d1 : decide (a0 ≥ lo) = true := by simpa using h1
              have d2 : decide (a0 ≤ hi_) = false := by simpa using h2
              go_wp2
              go_roundg (14 - (kk + 1))
              case measure => omega
              case rel => exact ⟨kk + 1, by omega, by omega, by go_num, ⟨rfl⟩, HA2⟩
          · have HA2 : Aside0 (∀ i, i < kk + 1 → ∀ hi : i < rotulusref1_Width.wides.length, ¬ (rotulusref1_Width.wides[i].1 ≤ a0 ∧ a0 ≤ rotulusref1_Width.wides[i].2)) := ⟨fun i hi hl hh => by
              by_cases e : i = kk
              · subst e
                exact h1 (by rw [Hlo.out]; exact hh.1)
              · exact HA.out i (by omega) hl hh⟩
            clear HA hyes
            have d1 : decide (a0 ≥ lo) = false := by simpa using h1
            go_wp2
            go_roundg (14 - (kk + 1))
            case measure => omega
            case rel => exact ⟨kk + 1, by omega, by omega, by go_num, ⟨rfl⟩, HA2⟩
        · have hltz : ¬ (kk : Int) < 14 := by omega
          obtain rfl : kk = 14 := by omega
          have hout := Lib.hid (rotulusref1_Width.no rotulusref1_Width.wides a0 fun i hi => HA.out i hi hi)
          clear HA
          go_wp2
          go_ret
          exact ⟨by rw [rotulusref1_Width.w, if_neg (by rw [hout0.out]; decide), if_neg (by rw [hout.out]; decide)] <;> rfl, HB.out⟩
end Go.Proofs.Ytkigdcihhlkkdaa.P
end
section
namespace Go.Proofs.Ytkigdcihhlkkdaa.P
open Go.RowKit Go.Proofs.YtkigdcihhlkkdaaW.PrintWords Go.Proofs.YtkigdcihhlkkdaaW.PrintLast Go.Proofs.YtkigdcihhlkkdaaW.PrintMore
attribute [local go_sem] max2_int min2_int max_two min_two max_three min_three max_four min_four   -- for this text's walks alone
set_option linter.unusedVariables false
set_option linter.unusedSimpArgs false
def rotulusref1_Pad.f  : Option (Int × Int × Int) := some (0, 1, 0)
set_option maxHeartbeats 8000000 in
set_option maxRecDepth 100000 in
theorem rotulusref1_Pad.calls  (r1 : Int) (r2 : Int) (r3 : Int) (w : World) (h : rotulusref1_Pad.f  = some (r1, r2, r3)) :
    Calls Try.prog 67 #[] w fun e w' => e = .returned (.agg #[.int .i32 r1, .int .i64 r2, .int .i64 r3]) ∧ Below w.heap.size w w' := by
  have hu45 := Try.underlying45
  have HB := Aside0.mk (Below.refl w.heap.size w)
  have H : (some (0, 1, 0)) = some (r1, r2, r3) := h
  clear h
  simp only [Option.some.injEq, Prod.mk.injEq] at H
  obtain ⟨rfl, rfl, rfl⟩ := H
  go_enter Try.func67, Try.ntmps67
  go_wp2_with (first | ((with_reducible refine gate_dst (N := 0) rfl ?_); refine box_event ?hg (N := 0) ?hd (cs := #[.int .i32 0, .int .i64 0, .int .i64 0]) (t := 45) ?hr ?_; (case hd => rfl); (case hg => rfl); (case hr => first | (go_simp; done) | (go_simp; rfl)); intro gb493 hg w1 hbox hb; have n0_ := Aside0.mk (below_step (by repeat (first | (with_reducible first | exact HB.out | apply below_alloc | apply pw_below_drewN | apply below_drew1) | exact HB.out)) hb); have n1_ := Aside0.mk (hbox); have n2_ := Aside0.mk ((by rw [hg]; exact (below_size (by repeat (first | (with_reducible first | exact HB.out | apply below_alloc | apply pw_below_drewN | apply below_drew1) | exact HB.out))) : w.heap.size ≤ gb493)); have n3_ := Aside0.mk ((by rw [hg]; exact (below_size (by repeat (first | (with_reducible first | exact HB.out | apply below_alloc | apply pw_below_drewN | apply below_drew1) | exact HB.out))) : w.heap.size ≤ gb493)); clear HB; have HB := n0_; have BK493 := n1_; have GW493 := n2_; have GE493 := n3_; clear n0_ n1_ n2_ n3_; clear hb hbox hg; have hcz2_0 : w1.cell? ⟨gb493, 0, none⟩ = some (.int .i32 0) := (blk_cell BK493.out 0).trans rfl; have hcz2_1 : w1.cell? ⟨gb493, 1, none⟩ = some (.int .i64 0) := (blk_cell BK493.out 1).trans rfl; have hcz2_2 : w1.cell? ⟨gb493, 2, none⟩ = some (.int .i64 0) := (blk_cell BK493.out 2).trans rfl; have hfz2_0 := blk_frozen BK493.out 0; have hfz2_1 := blk_frozen BK493.out 1; have hfz2_2 := blk_frozen BK493.out 2))
  refine bodyPost_ret (results_cell_row rfl _ _ gb493 45 #[.int .i32 0, .int .i64 1, .int .i64 0] (0, 0) _ rfl (by (with_reducible repeat (first | refine blk_drewN ?_ _ | refine blk_drew ?_ | refine blk_alloc ?_ _)); refine blk_put (cs := #[.int .i32 0, .int .i64 1, .int .i64 0]) ?_ 2 _ rfl; (with_reducible repeat (first | refine blk_drewN ?_ _ | refine blk_drew ?_ | refine blk_alloc ?_ _)); refine blk_put (cs := #[.int .i32 0, .int .i64 0, .int .i64 0]) ?_ 1 _ rfl; (with_reducible repeat (first | refine blk_drewN ?_ _ | refine blk_drew ?_ | refine blk_alloc ?_ _)); refine blk_put (cs := #[.int .i32 0, .int .i64 0, .int .i64 0]) ?_ 0 _ rfl; (with_reducible repeat (first | refine blk_drewN ?_ _ | refine blk_drew ?_ | refine blk_alloc ?_ _)); exact BK493.out) Try.underlying45 rfl (by kernel_rfl)) rfl ?_
  exact ⟨by first | rfl | (simp [errW_none, errW_some] <;> rfl) | (simp [*, errW_none, errW_some] <;> rfl), by repeat (first | (with_reducible first | exact HB.out | apply below_alloc | apply pw_below_drewN | apply below_drew1 | refine below_set ?_ GE493.out) | exact HB.out)⟩
end Go.Proofs.Ytkigdcihhlkkdaa.P
end
