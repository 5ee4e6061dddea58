/- A row of alike cells of one column takes ten bytes at most: the plain law of PackShort. -/
import Derived.Test.YtkigdcihhlkkdaaDPx2
import Derived.Test.YtkigdcihhlkkdaaDPx12
import Derived.Test.YtkigdcihhlkkdaaDPx8
import Derived.Test.YtkigdcihhlkkdaaDPx45
import Derived.Test.YtkigdcihhlkkdaaDPx50
set_option linter.unusedVariables false
set_option linter.unusedSimpArgs false
namespace Go.Proofs.Ytkigdcihhlkkdaa.Pure
open Go.RowKit Go.Proofs.Ytkigdcihhlkkdaa.P Go.Proofs.YtkigdcihhlkkdaaW.PrintWords Go.Proofs.YtkigdcihhlkkdaaW.PrintLast
theorem ev_pos {α : Type} {c : Prop} [Decidable c] (h : c) {f g : Nat → Option α} {r : α} (x : Ev f r) : Ev (fun k => if c then f k else g k) r := by
  simpa only [if_pos h] using x
theorem ev_neg {α : Type} {c : Prop} [Decidable c] (h : ¬ c) {f g : Nat → Option α} {r : α} (x : Ev g r) : Ev (fun k => if c then f k else g k) r := by
  simpa only [if_neg h] using x
def uintL : Nat → Nat → List Int
  | 0, _ => []
  | f + 1, n => if 128 ≤ n then ((n % 128 + 128 : Nat) : Int) :: uintL f (n / 128) else [(n : Int)]
theorem or128 (n : Nat) : Go.bits .or .u8 ((n : Int) % 256) 128 = ((n % 128 + 128 : Nat) : Int) := by
  have h1 : (n : Int) % 256 = ((n % 256 : Nat) : Int) := by omega
  have h2 : ∀ a : Fin 256, (a.val ||| 128) = a.val % 128 + 128 := by decide +kernel
  rw [h1, show (128 : Int) = ((128 : Nat) : Int) from rfl, u8_or_nat _ _ (by omega) (by decide)]
  have := h2 ⟨n % 256, by omega⟩
  simp only at this
  rw [this]
  congr 1
  omega
theorem uint_loop : ∀ (f n : Nat) (acc : List Int), 0 < f → n < 128 ^ f → acc.length + f < 140737488355328 → Ev (fun k => pack_Uint.l0 k (n : Int) acc) (acc ++ uintL f n)
  | 0, n, acc, hf, _, _ => absurd hf (by decide)
  | f + 1, n, acc, hf, h, hl => by
    refine Ev.step (f := _) (fun k => by simp only [pack_Uint.l0]; rfl) ?_
    unfold uintL
    by_cases h128 : 128 ≤ n
    · refine ev_pos (by omega) (ev_pos (by omega) ?_)
      rw [if_pos h128, or128]
      have e : (n : Int) / 128 = ((n / 128 : Nat) : Int) := by omega
      rw [e]
      have h3 : n / 128 < 128 ^ f := by
        rw [Nat.div_lt_iff_lt_mul (by decide), ← Nat.pow_succ]
        exact h
      have hf1 : 0 < f := by
        rcases Nat.eq_zero_or_pos f with h0 | h0
        · subst h0; simp at h; omega
        · exact h0
      have := uint_loop f (n / 128) (acc ++ [((n % 128 + 128 : Nat) : Int)]) hf1 h3 (by simp; omega)
      rw [List.append_assoc] at this
      exact this
    · refine ev_neg (by omega) (ev_pos (by omega) ?_)
      rw [if_neg h128, show (n : Int) % 256 = (n : Int) by omega]
      exact Ev.now _
theorem uint_ev (n : Nat) (h : n < 18446744073709551616) : Ev (fun k => pack_Uint.f k (n : Int)) (uintL 10 n) := by
  have := uint_loop 10 n [] (by decide) (Nat.lt_of_lt_of_le h (by decide)) (by decide)
  simpa [pack_Uint.f] using this
theorem uintL_bound : ∀ (f n : Nat), (uintL f n).length ≤ f
  | 0, _ => Nat.le_refl _
  | f + 1, n => by
    unfold uintL
    split
    · have := uintL_bound f (n / 128)
      simp only [List.length_cons]; omega
    · simp
end Go.Proofs.Ytkigdcihhlkkdaa.Pure
set_option linter.unusedVariables false
set_option linter.unusedSimpArgs false
namespace Go.Proofs.Ytkigdcihhlkkdaa.Pure
open Go.RowKit Go.Proofs.Ytkigdcihhlkkdaa.P Go.Proofs.YtkigdcihhlkkdaaW.PrintWords Go.Proofs.YtkigdcihhlkkdaaW.PrintLast
theorem w64_in (n : Int) (h : -9223372036854775808 ≤ n ∧ n ≤ 9223372036854775807) : wrap64 n = n := by unfold wrap64; omega
def numB (x : Int) : List Int := uintL 10 (IntKind.u64.wrap x).toNat
theorem u64_wrap_range (x : Int) : 0 ≤ IntKind.u64.wrap x ∧ IntKind.u64.wrap x < 18446744073709551616 := by
  rw [IntKind.wrap_u64]
  omega
theorem numB_ev (x : Int) : Ev (fun k => pack_Uint.f k (IntKind.u64.wrap x)) (numB x) := by
  have h := u64_wrap_range x
  have := uint_ev (IntKind.u64.wrap x).toNat (by omega)
  rwa [Int.toNat_of_nonneg h.1] at this
theorem numB_len (x : Int) : (numB x).length ≤ 10 := uintL_bound 10 _
def runB (r : S78) : List Int := numB r.f0 ++ (numB (wrap64 r.f1.f0) ++ (numB r.f1.f1 ++ numB r.f1.f2))
theorem runB_len (r : S78) : (runB r).length ≤ 40 := by
  have h0 := numB_len r.f0
  have h1 := numB_len (wrap64 r.f1.f0)
  have h2 := numB_len r.f1.f1
  have h3 := numB_len r.f1.f2
  simp only [runB, List.length_append]
  omega
theorem put_l1_step (rs : List S78) (len : Int) (i : Int) (y : List Int) (j : Nat) (acc : List Int) (r : List Int × Bool) (hj : j < y.length) (hy : y.length ≤ 100) (hacc : acc.length + 10 < 140737488355328)
    (h : Ev (fun k => pack_Put.l1 k (acc ++ numB (rd y (j : Int))) rs len i y (y.length : Int) ((j + 1 : Nat) : Int)) r) : Ev (fun k => pack_Put.l1 k acc rs len i y (y.length : Int) (j : Int)) r := by
  refine Ev.step (f := _) (fun k => by rw [pack_Put.l1]) ?_
  refine ev_pos (by omega) (ev_pos (by omega) (ev_pos (by omega) ?_))
  refine Ev.bind (numB_ev (rd y (j : Int))) ?_
  have hl := numB_len (rd y (j : Int))
  refine ev_pos (by omega) ?_
  have e : wrap64 ((j : Int) + 1) = ((j + 1 : Nat) : Int) := by rw [w64_in _ (by omega)]; omega
  rw [e]
  exact h
theorem put_l1_end (rs : List S78) (len : Int) (i : Int) (y : List Int) (acc : List Int) (r : List Int × Bool) (h : Ev (fun k => pack_Put.l0 k acc rs len (wrap64 (i + 1))) r) : Ev (fun k => pack_Put.l1 k acc rs len i y (y.length : Int) (y.length : Int)) r := by
  refine Ev.step (f := _) (fun k => by rw [pack_Put.l1]) ?_
  exact ev_neg (by omega) h
theorem put_l0_ev (rs : List S78) (hrs : rs.length ≤ 100000) : ∀ (d i : Nat) (acc : List Int), i + d = rs.length → acc.length + 40 * d < 140737488355000 → Ev (fun k => pack_Put.l0 k acc rs (rs.length : Int) (i : Int)) (acc ++ ((rs.drop i).map runB).flatten, true)
  | 0, i, acc, hi, hl => by
    refine Ev.step (f := _) (fun k => by rw [pack_Put.l0]) ?_
    refine ev_neg (by omega) ?_
    rw [List.drop_of_length_le (by omega)]
    simpa using Ev.now (acc, true)
  | d + 1, i, acc, hi, hl => by
    have hlt : i < rs.length := by omega
    refine Ev.step (f := _) (fun k => by rw [pack_Put.l0]) ?_
    refine ev_pos (by omega) (ev_pos (by omega) (ev_pos (by omega) ?_))
    have hr : rd_T78 rs (i : Int) = rs[i] := by rw [rd_T78, Int.toNat_natCast, List.getD_eq_getElem?_getD, List.getElem?_eq_getElem hlt]; rfl
    rw [hr]
    generalize hgr : rs[i] = q
    have hd : rs.drop i = q :: rs.drop (i + 1) := by rw [← hgr]; exact List.drop_eq_getElem_cons hlt
    have hq := runB_len q
    have ih := put_l0_ev rs hrs d (i + 1) (acc ++ runB q) (by omega) (by rw [List.length_append]; omega)
    have e0 : rd [q.f0, wrap64 q.f1.f0, q.f1.f1, q.f1.f2] ((0 : Nat) : Int) = q.f0 := rfl
    have e1 : rd [q.f0, wrap64 q.f1.f0, q.f1.f1, q.f1.f2] ((1 : Nat) : Int) = wrap64 q.f1.f0 := rfl
    have e2 : rd [q.f0, wrap64 q.f1.f0, q.f1.f1, q.f1.f2] ((2 : Nat) : Int) = q.f1.f1 := rfl
    have e3 : rd [q.f0, wrap64 q.f1.f0, q.f1.f1, q.f1.f2] ((3 : Nat) : Int) = q.f1.f2 := rfl
    have n0 := numB_len q.f0
    have n1 := numB_len (wrap64 q.f1.f0)
    have n2 := numB_len q.f1.f1
    have n3 := numB_len q.f1.f2
    refine Ev.bind (Ev.now [q.f0, wrap64 q.f1.f0, q.f1.f1, q.f1.f2]) ?_
    refine put_l1_step rs _ _ [q.f0, wrap64 q.f1.f0, q.f1.f1, q.f1.f2] 0 acc _ (by simp) (by simp) (by omega) ?_
    rw [e0]
    refine put_l1_step rs _ _ [q.f0, wrap64 q.f1.f0, q.f1.f1, q.f1.f2] 1 _ _ (by simp) (by simp) (by simp only [List.length_append]; omega) ?_
    rw [e1]
    refine put_l1_step rs _ _ [q.f0, wrap64 q.f1.f0, q.f1.f1, q.f1.f2] 2 _ _ (by simp) (by simp) (by simp only [List.length_append]; omega) ?_
    rw [e2]
    refine put_l1_step rs _ _ [q.f0, wrap64 q.f1.f0, q.f1.f1, q.f1.f2] 3 _ _ (by simp) (by simp) (by simp only [List.length_append]; omega) ?_
    rw [e3]
    refine put_l1_end rs _ _ [q.f0, wrap64 q.f1.f0, q.f1.f1, q.f1.f2] _ _ ?_
    have e : wrap64 ((i : Int) + 1) = ((i + 1 : Nat) : Int) := by rw [w64_in _ (by omega)]; omega
    rw [e, hd, List.map_cons, List.flatten_cons]
    have e4 : acc ++ numB q.f0 ++ numB (wrap64 q.f1.f0) ++ numB q.f1.f1 ++ numB q.f1.f2 = acc ++ runB q := by simp [runB]
    rw [e4, ← List.append_assoc]
    exact ih
def rowB (l : List S45) (w : Bool) : List Int := numB (2 * ((runs78 l).length : Int) + (if w then 1 else 0)) ++ ((runs78 l).map runB).flatten
theorem runs78_le (l : List S45) : (runs78 l).length ≤ l.length := by have := runs78_len l []; simpa [runs78] using this
theorem put_ev (l : List S45) (w : Bool) (hl : l.length ≤ 1000) (hm : Ev (fun k => pack_May.f k l w) true) : Ev (fun k => pack_Put.f k l w) (rowB l w, true) := by
  unfold pack_Put.f
  refine Ev.bind hm ?_
  refine ev_pos rfl ?_
  have hr := runs78_le l
  unfold pack_runs.f
  rw [if_pos (by omega)]
  simp only [Option.bind_some]
  have e1 : wrap64 (2 * ((runs78 l).length : Int)) = 2 * ((runs78 l).length : Int) := w64_in _ (by omega)
  have hn := numB_len (2 * ((runs78 l).length : Int) + (if w then 1 else 0))
  have key : ∀ x : Int, x = 2 * ((runs78 l).length : Int) + (if w then 1 else 0) → Ev (fun k => pack_Put.j0 k (runs78 l) (IntKind.u64.wrap x)) (rowB l w, true) := by
    rintro x rfl
    refine Ev.step (f := _) (fun k => by rw [pack_Put.j0]) ?_
    refine Ev.bind (numB_ev _) ?_
    exact put_l0_ev (runs78 l) (by omega) (runs78 l).length 0 _ (by omega) (by omega)
  cases w with
  | true =>
    refine ev_pos rfl ?_
    have e2 : IntKind.u64.wrap (IntKind.u64.wrap (wrap64 (2 * ((runs78 l).length : Int))) + 1) = IntKind.u64.wrap (2 * ((runs78 l).length : Int) + 1) := by
      rw [e1, IntKind.wrap_u64, IntKind.wrap_u64, IntKind.wrap_u64]; omega
    rw [e2]
    exact key _ rfl
  | false =>
    refine ev_neg (by decide) ?_
    rw [e1]
    exact key _ (by simp)
end Go.Proofs.Ytkigdcihhlkkdaa.Pure
namespace Go.Proofs.Ytkigdcihhlkkdaa.Pure
open Go.RowKit Go.Proofs.Ytkigdcihhlkkdaa.P Go.Proofs.YtkigdcihhlkkdaaW.PrintWords Go.Proofs.YtkigdcihhlkkdaaW.PrintLast
theorem isIn_nil (r : Int) : rotulusref1_Width.isIn [] r = false := rfl
theorem isIn_cons (p : Int × Int) (l : List (Int × Int)) (r : Int) : rotulusref1_Width.isIn (p :: l) r = true ↔ (p.1 ≤ r ∧ r ≤ p.2) ∨ rotulusref1_Width.isIn l r = true := by
  simp [rotulusref1_Width.isIn]
theorem zeros_iff (r : Int) (h0 : -2147483648 ≤ r) (h1 : r ≤ 2147483647) : rotulusref1_Width.isIn rotulusref1_Width.zeros r = true ↔ width_none.c r := by
  simp only [rotulusref1_Width.zeros, isIn_cons, isIn_nil, width_none.c, Bool.false_eq_true, or_false]
  omega
theorem wides_iff (r : Int) : rotulusref1_Width.isIn rotulusref1_Width.wides r = true ↔ width_wide.c r := by
  simp only [rotulusref1_Width.wides, isIn_cons, isIn_nil, width_wide.c, Bool.false_eq_true, or_false]
theorem of_eq (r : Int) (h0 : -2147483648 ≤ r) (h1 : r ≤ 2147483647) : width_Of.f r = some (rotulusref1_Width.w r) := by
  have z := zeros_iff r h0 h1
  have v := wides_iff r
  unfold width_Of.f width_none.f width_wide.f rotulusref1_Width.w
  simp only [Option.bind_some]
  by_cases c : width_none.c r
  · rw [if_pos (z.2 c), if_pos (show width_none.b r = true from decide_eq_true c)]
  · rw [if_neg (fun h => c (z.1 h)), if_neg (show ¬ width_none.b r = true from fun h => c (of_decide_eq_true h))]
    by_cases d : width_wide.c r
    · rw [if_pos (v.2 d), if_pos (show width_wide.b r = true from decide_eq_true d)]
    · rw [if_neg (fun h => d (v.1 h)), if_neg (show ¬ width_wide.b r = true from fun h => d (of_decide_eq_true h))]
theorem w_range (r : Int) : 0 ≤ rotulusref1_Width.w r ∧ rotulusref1_Width.w r ≤ 2 := by
  unfold rotulusref1_Width.w
  split
  · omega
  · split <;> omega
theorem i32_range {x : Int} (h : (Lit.int .i32 x).wf = true) : -2147483648 ≤ x ∧ x ≤ 2147483647 := by
  simp [Lit.wf] at h
  exact ⟨h.1, h.2⟩
end Go.Proofs.Ytkigdcihhlkkdaa.Pure
set_option linter.unusedVariables false
set_option linter.unusedSimpArgs false
namespace Go.Proofs.Ytkigdcihhlkkdaa.Pure
open Go.RowKit Go.Proofs.Ytkigdcihhlkkdaa.P Go.Proofs.YtkigdcihhlkkdaaW.PrintWords Go.Proofs.YtkigdcihhlkkdaaW.PrintLast
theorem may_one (r a : Int) (h0 : -2147483648 ≤ r) (h1 : r ≤ 2147483647) (hw : rotulusref1_Width.w r = 1) (ha : 0 ≤ a) (ha2 : a ≤ 255) : Ev (fun k => cell_May.f k r 1 a) true := by
  unfold cell_May.f
  refine ev_neg (by omega) ?_
  refine Ev.step (f := _) (fun k => by rw [cell_May.j0]) ?_
  refine ev_neg (by simp; omega) (ev_neg (by decide) ?_)
  unfold cell_IsPad.f cell_Pad.f
  simp only [Option.bind_some]
  by_cases hp : (r == 0 && ((1 : Int) == 1 && (a == 0))) = true
  · exact ev_pos hp (Ev.now _)
  · refine ev_neg hp (ev_pos trivial ?_)
    rw [of_eq r h0 h1, hw]
    exact Ev.now _
theorem may_same (c : S45) (hc : c.f1 = 1) (n : Nat) (hn : n ≤ 300) (hm : Ev (fun k => cell_May.f k c.f0 c.f1 c.f2) true) : Ev (fun k => pack_May.f k (List.replicate n c) false) true := by
  have key : ∀ (d i : Nat) (x4 : Int), i + d = n → Ev (fun k => pack_May.l0 k false x4 (List.replicate n c) (n : Int) (i : Int)) true := by
    intro d
    induction d with
    | zero =>
      intro i x4 hi
      refine Ev.step (f := _) (fun k => by rw [pack_May.l0]) ?_
      exact ev_neg (by omega) (Ev.now _)
    | succ d ih =>
      intro i x4 hi
      refine Ev.step (f := _) (fun k => by rw [pack_May.l0]) ?_
      have hr : rd_T45 (List.replicate n c) (i : Int) = c := by
        rw [rd_T45, Int.toNat_natCast, List.getD_eq_getElem?_getD, List.getElem?_replicate, if_pos (by omega)]
        rfl
      rw [hr]
      refine ev_pos (by omega) (ev_pos (by omega) (ev_pos (by rw [List.length_replicate]; omega) ?_))
      refine Ev.bind hm ?_
      refine ev_pos rfl ?_
      rw [hc]
      refine ev_neg (by decide) (ev_neg (by decide) ?_)
      have e : wrap64 ((i : Int) + 1) = ((i + 1 : Nat) : Int) := by rw [w64_in _ (by omega)]; omega
      rw [e]
      exact ih (i + 1) c.f2 (by omega)
  unfold pack_May.f
  rw [List.length_replicate]
  exact ev_neg (by omega) (key n 0 0 (by omega))
theorem same_self (c : S45) : same45 c c = true := by simp [same45]
theorem runs_same (c : S45) : ∀ n : Nat, n ≤ 1000 → runs78 (List.replicate n c) = if n = 0 then [] else [⟨(n : Int), c⟩]
  | 0, _ => rfl
  | n + 1, hn => by
    have ih := runs_same c n (by omega)
    have e : runs78 (List.replicate (n + 1) c) = step78 (runs78 (List.replicate n c)) c := by
      unfold runs78
      rw [List.replicate_succ', List.foldl_append]
      rfl
    rw [e, ih, if_neg (show ¬ n + 1 = 0 by omega)]
    by_cases h0 : n = 0
    · subst h0
      rfl
    · rw [if_neg h0]
      unfold step78
      have e2 : rd_T78 [⟨(n : Int), c⟩] ((([⟨(n : Int), c⟩] : List S78).length - 1 : Nat) : Int) = ⟨(n : Int), c⟩ := rfl
      rw [e2, if_pos ⟨by simp, same_self c⟩]
      have e3 : wrap64 ((n : Int) + 1) = ((n + 1 : Nat) : Int) := by rw [w64_in _ (by omega)]; omega
      simp only [e3]
      rfl
theorem uintL_le : ∀ (f g n : Nat), n < 128 ^ g → 0 < g → (uintL f n).length ≤ g
  | 0, g, n, _, _ => Nat.zero_le _
  | f + 1, g, n, h, hg => by
    unfold uintL
    split
    · rename_i h128
      obtain ⟨g', rfl⟩ : ∃ g', g = g' + 1 := ⟨g - 1, by omega⟩
      have hg' : 0 < g' := by
        rcases Nat.eq_zero_or_pos g' with h0 | h0
        · subst h0; simp at h; omega
        · exact h0
      have := uintL_le f g' (n / 128) (by rw [Nat.div_lt_iff_lt_mul (by decide), ← Nat.pow_succ]; exact h) hg'
      simp only [List.length_cons]
      omega
    · simp only [List.length_singleton]; omega
theorem numB_le (x : Int) (g : Nat) (h0 : 0 ≤ x) (h : x.toNat < 128 ^ g) (hg : 0 < g) (hx : x < 18446744073709551616) : (numB x).length ≤ g := by
  unfold numB
  rw [IntKind.wrap_u64, show x % 18446744073709551616 = x by omega]
  exact uintL_le 10 g _ h hg
theorem tmod300 (a : Int) : -300 < a.tmod 300 ∧ a.tmod 300 < 300 ∧ (0 ≤ a → a.tmod 300 = a % 300) := by
  by_cases h : 0 ≤ a
  · rw [Int.tmod_eq_emod_of_nonneg h]
    omega
  · have e : a.tmod 300 = -((-a).tmod 300) := by rw [Int.neg_tmod, Int.neg_neg]
    rw [e, Int.tmod_eq_emod_of_nonneg (show 0 ≤ -a by omega)]
    omega
theorem and255 (a : Int) : 0 ≤ Go.bits .and .i64 a 255 ∧ Go.bits .and .i64 a 255 ≤ 255 := by
  have h255 : (BitVec.ofInt 64 255).toNat = 2 ^ 8 - 1 := by decide
  have key : (BitVec.ofInt 64 a &&& BitVec.ofInt 64 255).toNat = (a % ((2 ^ 64 : Nat) : Int)).toNat % 2 ^ 8 := by
    rw [BitVec.toNat_and, BitVec.toNat_ofInt, h255, Nat.and_two_pow_sub_one_eq_mod]
  have e : Go.bits .and .i64 a 255 = IntKind.i64.wrap ((BitVec.ofInt 64 a &&& BitVec.ofInt 64 255).toNat : Nat) := rfl
  rw [e, key, IntKind.wrap_i64]
  omega
theorem PackShort : rotuluslaw4_PackShort.Pure := by
  intro a0 a1 a2 w0 w1 w2
  have hr := i32_range w0
  refine Ev.rounds (g := fun k => rotuluslaw4_PackShort.f k a0 a1 a2) ?_
  unfold rotuluslaw4_PackShort.f rotuluslaw4_begun.f
  simp only [Option.bind_some, if_true]
  have ha := and255 a1
  generalize Go.bits .and .i64 a1 255 = a at ha
  have hn0 : 0 ≤ Int.tmod (wrap64 (Int.tmod a2 300 + 300)) 300 ∧ Int.tmod (wrap64 (Int.tmod a2 300 + 300)) 300 < 300 := by
    have h1 := tmod300 a2
    have h2 := tmod300 (Int.tmod a2 300 + 300)
    rw [w64_in _ (by omega)]
    have h3 := h2.2.2 (by omega)
    omega
  generalize Int.tmod (wrap64 (Int.tmod a2 300 + 300)) 300 = n0 at hn0
  obtain ⟨n, rfl⟩ := Int.eq_ofNat_of_zero_le hn0.1
  have hwr := w_range a0
  have hcells : ∃ l, Ev (fun k => rotulusref1_Cells.f k a0 a) l ∧ (l.length = 1 → l = [⟨a0, 1, a⟩] ∧ rotulusref1_Width.w a0 = 1) := by
    unfold rotulusref1_Cells.f rotulusref1_Width.f
    simp only [Option.bind_some]
    by_cases hz : rotulusref1_Width.w a0 = 0
    · refine ⟨[], ?_, by simp⟩
      refine ev_pos hz ?_
      refine Ev.step (f := _) (fun k => by rw [rotulusref1_Cells.j0]) ?_
      exact ev_pos rfl (Ev.now _)
    · by_cases h1 : rotulusref1_Width.w a0 = 1
      · refine ⟨[⟨a0, 1, a⟩], ?_, fun _ => ⟨rfl, h1⟩⟩
        refine ev_neg hz (ev_neg (by omega) ?_)
        refine Ev.step (f := _) (fun k => by rw [rotulusref1_Cells.j0]) ?_
        exact ev_neg (by simp; omega) (ev_pos h1 (Ev.now _))
      · refine ⟨[⟨a0, 2, a⟩, ⟨0, 0, a⟩], ?_, by simp⟩
        refine ev_neg hz (ev_neg (by omega) ?_)
        refine Ev.step (f := _) (fun k => by rw [rotulusref1_Cells.j0]) ?_
        exact ev_neg (by simp; omega) (ev_neg h1 (Ev.now _))
  obtain ⟨l, hl, hl1⟩ := hcells
  refine Ev.bind hl ?_
  by_cases hlen : (l.length : Int) = 1
  · refine ev_pos hlen ?_
    obtain ⟨rfl, hw⟩ := hl1 (by omega)
    have hput := put_ev (List.replicate n ⟨a0, 1, a⟩) false (by rw [List.length_replicate]; omega) (may_same ⟨a0, 1, a⟩ rfl n (by omega) (may_one a0 a hr.1 hr.2 hw ha.1 ha.2))
    have hsign : 0 ≤ a0 ∧ a0 < 2097152 := by
      have hz : ¬ rotulusref1_Width.isIn rotulusref1_Width.zeros a0 = true := fun h => by
        unfold rotulusref1_Width.w at hw
        rw [if_pos h] at hw
        exact absurd hw (by decide)
      have hc : ¬ width_none.c a0 := fun h => hz ((zeros_iff a0 hr.1 hr.2).2 h)
      unfold width_none.c at hc
      omega
    have hbytes : ((rowB (List.replicate n ⟨a0, 1, a⟩) false).length : Int) ≤ 10 := by
      unfold rowB
      rw [runs_same _ n (by omega)]
      by_cases h0 : n = 0
      · rw [if_pos h0]
        have := numB_le (2 * ((([] : List S78).length : Nat) : Int) + 0) 1 (by simp) (by simp) (by decide) (by simp)
        simp only [List.map_nil, List.flatten_nil, List.append_nil]
        have e : (if false = true then (1 : Int) else 0) = 0 := rfl
        rw [e]
        omega
      · rw [if_neg h0]
        have b0 := numB_le (2 * ((([⟨(n : Int), ⟨a0, 1, a⟩⟩] : List S78).length : Nat) : Int) + 0) 1 (by simp) (by simp) (by decide) (by simp)
        have b1 := numB_le (n : Int) 2 (by omega) (by rw [Int.toNat_natCast]; omega) (by decide) (by omega)
        have b2 := numB_le (wrap64 a0) 3 (by rw [w64_in _ (by omega)]; omega) (by rw [w64_in _ (by omega)]; omega) (by decide) (by rw [w64_in _ (by omega)]; omega)
        have b3 := numB_le 1 1 (by decide) (by decide) (by decide) (by decide)
        have b4 := numB_le a 2 (by omega) (by omega) (by decide) (by omega)
        have e : (if false = true then (1 : Int) else 0) = 0 := rfl
        rw [e]
        simp only [List.map_cons, List.map_nil, List.flatten_cons, List.flatten_nil, List.append_nil, List.length_append, runB] at b0 ⊢
        omega
    have key : ∀ (d i : Nat), i + d = n → Ev (fun k => rotuluslaw4_PackShort.l0 k (n : Int) [⟨a0, 1, a⟩] (i : Int) (List.replicate i ⟨a0, 1, a⟩) false) true := by
      intro d
      induction d with
      | zero =>
        intro i hi
        refine Ev.step (f := _) (fun k => by rw [rotuluslaw4_PackShort.l0]) ?_
        refine ev_neg (by omega) ?_
        obtain rfl : i = n := by omega
        refine Ev.bind hput ?_
        refine ev_pos rfl ?_
        rw [decide_eq_true hbytes]
        exact Ev.now _
      | succ d ih =>
        intro i hi
        refine Ev.step (f := _) (fun k => by rw [rotuluslaw4_PackShort.l0]) ?_
        refine ev_pos (by omega) (ev_pos (by simp) (ev_pos (by rw [List.length_replicate]; omega) ?_))
        have e : wrap64 ((i : Int) + 1) = ((i + 1 : Nat) : Int) := by rw [w64_in _ (by omega)]; omega
        rw [e]
        have := ih (i + 1) (by omega)
        rw [List.replicate_succ'] at this
        exact this
    exact key n 0 (by omega)
  · exact ev_neg hlen (Ev.now _)
end Go.Proofs.Ytkigdcihhlkkdaa.Pure
