/- own texts of this session, put together -/
import Derived.Test.YtkigdcihhlkkdaaTZ15
import Derived.Test.YtkigdcihhlkkdaaTZ0
import Derived.Test.YtkigdcihhlkkdaaTZ2
import Derived.Test.YtkigdcihhlkkdaaTZ7
section
set_option linter.unusedVariables false
set_option linter.unusedSimpArgs false
namespace Go.Proofs.Ytkigdcihhlkkdaa.Pure
open Go.RowKit Go.Proofs.Ytkigdcihhlkkdaa.P Go.Proofs.YtkigdcihhlkkdaaW.PrintWords Go.Proofs.YtkigdcihhlkkdaaW.PrintLast
def numsB (vs : List Int) : List Int := (vs.map numB).flatten
theorem numB_range (v : Int) : ∀ x ∈ numB v, 0 ≤ x ∧ x < 256 := uintL_range 10 _
theorem numsB_range (vs : List Int) : ∀ x ∈ numsB vs, 0 ≤ x ∧ x < 256 := fun x hx => by
  obtain ⟨l, hl, hxl⟩ := List.mem_flatten.1 hx
  obtain ⟨v, _, rfl⟩ := List.mem_map.1 hl
  exact numB_range v x hxl
theorem getUint_v (v : Int) (h0 : 0 ≤ v) (h1 : v ≤ 9223372036854775807) (rest : List Int) (hr : ∀ x ∈ rest, 0 ≤ x ∧ x < 256) : Ev (fun k => pack_GetUint.f k (numB v ++ rest)) (v, ((numB v).length : Int)) := by
  have e : IntKind.u64.wrap v = v := by rw [IntKind.wrap_u64]; omega
  have := getUint_num v.toNat (by omega) rest hr
  unfold numB
  rw [e]
  rw [Int.toNat_of_nonneg h0] at this
  exact this
theorem numB_pos (v : Int) : 1 ≤ (numB v).length := uintL_pos 10 _ (by decide)
theorem nums_loop (rest : List Int) (hr : ∀ x ∈ rest, 0 ≤ x ∧ x < 256) (m : Int) : ∀ (vs zs don pre : List Int), zs.length = vs.length → m = ((don.length + vs.length : Nat) : Int) → m ≤ 1000 → (∀ v ∈ vs, 0 ≤ v ∧ v ≤ 1073741824) → pre.length + 10 * vs.length ≤ 1000000000 →
    Ev (fun k => pack_numbers.l0 k (pre ++ (numsB vs ++ rest)) (don ++ zs) (pre.length : Int) m (don.length : Int)) (((pre.length + (numsB vs).length : Nat) : Int), don ++ vs)
  | [], zs, don, pre, hz, hm, hm2, hv, hp => by
    refine Ev.step (f := _) (fun k => by rw [pack_numbers.l0]) ?_
    refine ev_neg (by simp at hm; omega) ?_
    obtain rfl : zs = [] := List.length_eq_zero_iff.1 hz
    exact Ev.now _
  | v :: t, [], don, pre, hz, hm, hm2, hv, hp => by simp at hz
  | v :: t, z :: zs, don, pre, hz, hm, hm2, hv, hp => by
    have hv0 := hv v (by simp)
    have hlen := numB_len v
    have hpos := numB_pos v
    simp only [List.length_cons] at hz hm hp
    refine Ev.step (f := _) (fun k => by rw [pack_numbers.l0]) ?_
    refine ev_pos (by omega) (ev_pos (by omega) (ev_pos (by rw [List.length_append]; omega) ?_))
    rw [Int.toNat_natCast, List.drop_left]
    have e1 : numsB (v :: t) ++ rest = numB v ++ (numsB t ++ rest) := by simp [numsB]
    rw [e1]
    refine Ev.bind (getUint_v v hv0.1 (by omega) (numsB t ++ rest) (fun x hx => (List.mem_append.1 hx).elim (numsB_range t x) (hr x))) ?_
    refine ev_neg (by simp only; omega) (ev_neg (by simp only; omega) (ev_pos (by omega) (ev_pos (by rw [List.length_append, List.length_cons]; omega) ?_)))
    simp only
    rw [Int.toNat_natCast, w64_in _ (show _ ≤ v ∧ v ≤ _ by omega), w64_in ((pre.length : Int) + ((numB v).length : Int)) (by omega), w64_in ((don.length : Int) + 1) (by omega)]
    have ih := nums_loop rest hr m t zs (don ++ [v]) (pre ++ numB v) (by omega) (by simp only [List.length_append, List.length_singleton]; omega) hm2 (fun x hx => hv x (by simp [hx])) (by rw [List.length_append]; omega)
    have e2 : (don ++ z :: zs).set don.length v = don ++ [v] ++ zs := by simp
    rw [e2]
    have e3 : pre ++ (numB v ++ (numsB t ++ rest)) = pre ++ numB v ++ (numsB t ++ rest) := by simp
    rw [e3]
    have e4 : ((pre ++ numB v).length : Int) = (pre.length : Int) + ((numB v).length : Int) := by rw [List.length_append]; omega
    have e5 : ((don ++ [v]).length : Int) = (don.length : Int) + 1 := by simp
    rw [e4, e5] at ih
    have e6 : (((pre ++ numB v).length + (numsB t).length : Nat) : Int) = ((pre.length + (numsB (v :: t)).length : Nat) : Int) := by
      have : (numsB (v :: t)).length = (numB v).length + (numsB t).length := by simp [numsB]
      rw [this, List.length_append]
      omega
    have e7 : don ++ [v] ++ t = don ++ v :: t := by simp
    rw [e6, e7] at ih
    exact ih
theorem nums_ev (vs rest : List Int) (hr : ∀ x ∈ rest, 0 ≤ x ∧ x < 256) (hl : vs.length ≤ 1000) (hv : ∀ v ∈ vs, 0 ≤ v ∧ v ≤ 1073741824) : Ev (fun k => pack_numbers.f k (numsB vs ++ rest) (List.replicate vs.length 0)) (((numsB vs).length : Int), vs) := by
  have := nums_loop rest hr (vs.length : Int) vs (List.replicate vs.length 0) [] [] (by simp) (by simp) (by omega) hv (by simp; omega)
  unfold pack_numbers.f
  rw [List.length_replicate]
  simpa using this
def expand (rs : List S78) : List S45 := (rs.map (fun r => List.replicate r.f0.toNat r.f1)).flatten
theorem expand_append (a b : List S78) : expand (a ++ b) = expand a ++ expand b := by simp [expand]
theorem same45_eq {a b : S45} (h : same45 a b = true) : a = b := by
  obtain ⟨a0, a1, a2⟩ := a
  obtain ⟨b0, b1, b2⟩ := b
  unfold same45 at h
  simp only [Bool.and_eq_true, beq_iff_eq] at h
  obtain ⟨rfl, rfl, rfl⟩ := h
  rfl
structure RunsOf (rs : List S78) (l : List S45) : Prop where
  exp : expand rs = l
  num : ∀ r ∈ rs, 1 ≤ r.f0 ∧ r.f0 ≤ l.length ∧ r.f1 ∈ l
theorem step78_of {rs : List S78} {l : List S45} (h : RunsOf rs l) (hl : l.length ≤ 100000) (c : S45) : RunsOf (step78 rs c) (l ++ [c]) := by
  unfold step78
  split
  · rename_i hc
    obtain ⟨a, r, rfl⟩ : ∃ a r, rs = a ++ [r] := by
      rcases List.eq_nil_or_concat rs with h0 | ⟨a, r, h0⟩
      · subst h0; simp at hc
      · exact ⟨a, r, by simpa using h0⟩
    have e1 : (a ++ [r]).length - 1 = a.length := by simp
    have e2 : rd_T78 (a ++ [r]) ((a.length : Nat) : Int) = r := by rw [rd_T78, Int.toNat_natCast, List.getD_eq_getElem?_getD]; simp
    rw [e1] at hc ⊢
    rw [e2] at hc ⊢
    have hs := same45_eq hc.2
    have hn := h.num r (by simp)
    have hx := h.exp
    rw [w64_in _ (by omega)]
    refine ⟨?_, fun q hq => ?_⟩
    · have e3 : (a ++ [r]).set a.length ⟨r.f0 + 1, r.f1⟩ = a ++ [⟨r.f0 + 1, r.f1⟩] := by simp
      rw [e3, expand_append, ← hx, expand_append, List.append_assoc]
      congr 1
      simp only [expand, List.map_cons, List.map_nil, List.flatten_cons, List.flatten_nil, List.append_nil]
      rw [show (r.f0 + 1).toNat = r.f0.toNat + 1 by omega, List.replicate_succ', hs]
    · have e3 : (a ++ [r]).set a.length ⟨r.f0 + 1, r.f1⟩ = a ++ [⟨r.f0 + 1, r.f1⟩] := by simp
      rw [e3] at hq
      rw [List.length_append, List.length_singleton]
      rcases List.mem_append.1 hq with hq | hq
      · have := h.num q (by simp [hq])
        exact ⟨this.1, by omega, by simp [this.2.2]⟩
      · obtain rfl := List.mem_singleton.1 hq
        exact ⟨by simp only; omega, by simp only; omega, by simp [hn.2.2]⟩
  · refine ⟨?_, fun q hq => ?_⟩
    · rw [expand_append, h.exp]
      congr 1
    · rw [List.length_append, List.length_singleton]
      rcases List.mem_append.1 hq with hq | hq
      · have := h.num q hq
        exact ⟨this.1, by omega, by simp [this.2.2]⟩
      · obtain rfl := List.mem_singleton.1 hq
        exact ⟨by simp, by simp only; omega, by simp⟩
theorem foldl_of : ∀ (t : List S45) (rs : List S78) (l : List S45), RunsOf rs l → l.length + t.length ≤ 100000 → RunsOf (t.foldl step78 rs) (l ++ t)
  | [], rs, l, h, _ => by simpa using h
  | c :: t, rs, l, h, hl => by
    simp only [List.length_cons] at hl
    have := foldl_of t (step78 rs c) (l ++ [c]) (step78_of h (by omega) c) (by simp; omega)
    simpa using this
theorem runs_of (l : List S45) (hl : l.length ≤ 100000) : RunsOf (runs78 l) l := by
  have := foldl_of l [] [] ⟨rfl, fun r hr => by simp at hr⟩ (by simp; omega)
  simpa [runs78] using this
theorem w32_in (n : Int) (h : -2147483648 ≤ n ∧ n ≤ 2147483647) : wrap32 n = n := by unfold wrap32; omega
structure RunIn (r : S78) : Prop where
  n0 : 1 ≤ r.f0
  n1 : r.f0 ≤ 300
  r0 : 0 ≤ r.f1.f0
  r1 : r.f1.f0 ≤ 1114111
  w0 : 0 ≤ r.f1.f1
  w1 : r.f1.f1 ≤ 2
  a0 : 0 ≤ r.f1.f2
  a1 : r.f1.f2 ≤ 255
theorem runB_eq (r : S78) (h : RunIn r) : runB r = numsB [r.f0, r.f1.f0, r.f1.f1, r.f1.f2] := by
  unfold runB numsB
  rw [w64_in _ (by have := h.r0; have := h.r1; omega)]
  simp
theorem runB_range (r : S78) : ∀ x ∈ runB r, 0 ≤ x ∧ x < 256 := fun x hx => by
  unfold runB at hx
  simp only [List.mem_append] at hx
  rcases hx with hx | hx | hx | hx <;> exact numB_range _ x hx
theorem expand_cons (r : S78) (t : List S78) : expand (r :: t) = List.replicate r.f0.toNat r.f1 ++ expand t := by simp [expand]
theorem get_loop (L : List S45) (w : Bool) (hL : mayB L = true) (rest : List Int) (hr : ∀ x ∈ rest, 0 ≤ x ∧ x < 256) (n : Int) : ∀ (rs : List S78) (pre : List Int) (cells : List S45) (i : Nat), (∀ r ∈ rs, RunIn r) → n = ((i + rs.length : Nat) : Int) → n ≤ 300 → cells ++ expand rs = L → pre ++ (rs.map runB).flatten = rowB L w →
    Ev (fun k => pack_Get.l0 k (rowB L w ++ rest) (pre.length : Int) n (i : Int) cells w) (L, w, ((rowB L w).length : Int), 0)
  | [], pre, cells, i, hrs, hn, hn3, hc, hp => by
    have hL2 : L.length ≤ 300 := by unfold mayB at hL; simp only [Bool.and_eq_true, decide_eq_true_eq] at hL; exact hL.1
    obtain rfl : cells = L := by simpa [expand] using hc
    have hp' : pre = rowB cells w := by simpa using hp
    have hrl : (rowB cells w).length ≤ 1000000 := by
      unfold rowB
      have h1 := runs78_le cells
      have h2 : ∀ rs : List S78, ((rs.map runB).flatten).length ≤ 40 * rs.length := by
        intro rs
        induction rs with
        | nil => simp
        | cons r t ih =>
          have := runB_len r
          simp only [List.map_cons, List.flatten_cons, List.length_append, List.length_cons]
          omega
      have h3 := h2 (runs78 cells)
      have h4 := numB_len (2 * ((runs78 cells).length : Int) + (if w then 1 else 0))
      rw [List.length_append]
      omega
    subst hp'
    refine Ev.step (f := _) (fun k => by rw [pack_Get.l0]) ?_
    refine ev_neg (by simp at hn; omega) ?_
    have hm := may_ev cells w (by omega)
    rw [hL] at hm
    refine Ev.bind (put_ev cells w (by omega) hm) ?_
    refine ev_pos rfl (ev_pos (by omega) (ev_pos (by rw [List.length_append]; omega) ?_))
    rw [Int.toNat_natCast, List.take_left]
    refine Ev.bind (eqb_ev _ _ (by simpa using (by omega))) ?_
    refine ev_pos (by simp) ?_
    exact Ev.now _
  | r :: t, pre, cells, i, hrs, hn, hn3, hc, hp => by
    have hL2 : L.length ≤ 300 := by unfold mayB at hL; simp only [Bool.and_eq_true, decide_eq_true_eq] at hL; exact hL.1
    have hR := hrs r (by simp)
    have hlen := runB_len r
    have hpl : pre.length ≤ (rowB L w).length := by rw [← hp, List.length_append]; omega
    have hdrop : (rowB L w ++ rest).drop pre.length = numsB [r.f0, r.f1.f0, r.f1.f1, r.f1.f2] ++ ((t.map runB).flatten ++ rest) := by
      rw [← hp, List.append_assoc, List.drop_left, List.map_cons, List.flatten_cons, runB_eq r hR, List.append_assoc]
    have hcl : cells.length + r.f0.toNat ≤ L.length := by
      rw [← hc, expand_cons, List.length_append, List.length_append, List.length_replicate]
      omega
    simp only [List.length_cons] at hn
    refine Ev.step (f := _) (fun k => by rw [pack_Get.l0]) ?_
    refine ev_pos (by omega) (ev_pos (by decide) ?_)
    refine Ev.bind (Ev.now (List.replicate 4 (0 : Int))) ?_
    refine ev_pos (by omega) (ev_pos (by rw [List.length_append]; omega) ?_)
    rw [Int.toNat_natCast, hdrop]
    have hv : ∀ v ∈ [r.f0, r.f1.f0, r.f1.f1, r.f1.f2], 0 ≤ v ∧ v ≤ 1073741824 := by
      intro v hv
      have := hR.n0; have := hR.n1; have := hR.r0; have := hR.r1; have := hR.w0; have := hR.w1; have := hR.a0; have := hR.a1
      simp only [List.mem_cons, List.not_mem_nil, or_false] at hv
      rcases hv with rfl | rfl | rfl | rfl <;> omega
    refine Ev.bind (nums_ev [r.f0, r.f1.f0, r.f1.f1, r.f1.f2] _ (fun x hx => ?_) (by simp) hv) ?_
    · rcases List.mem_append.1 hx with hx | hx
      · obtain ⟨b, hb, hxb⟩ := List.mem_flatten.1 hx
        obtain ⟨q, _, rfl⟩ := List.mem_map.1 hb
        exact runB_range q x hxb
      · exact hr x hx
    have hnl : (numsB [r.f0, r.f1.f0, r.f1.f1, r.f1.f2]).length = (runB r).length := by rw [runB_eq r hR]
    have hpos : 1 ≤ (runB r).length := by unfold runB; have := numB_pos r.f0; rw [List.length_append]; omega
    rw [hnl]
    have e0 : rd [r.f0, r.f1.f0, r.f1.f1, r.f1.f2] 0 = r.f0 := rfl
    have e1 : rd [r.f0, r.f1.f0, r.f1.f1, r.f1.f2] 1 = r.f1.f0 := rfl
    have e2 : rd [r.f0, r.f1.f0, r.f1.f1, r.f1.f2] 2 = r.f1.f1 := rfl
    have e3 : rd [r.f0, r.f1.f0, r.f1.f1, r.f1.f2] 3 = r.f1.f2 := rfl
    simp only [e0, e1, e2, e3, List.length_replicate]
    have b0 := hR.n0; have b1 := hR.n1; have b2 := hR.r0; have b3 := hR.r1
    refine ev_neg (by omega) (ev_pos (by decide) (ev_neg (by omega) (ev_pos (by decide) (ev_pos (by decide) (ev_pos (by decide) ?_)))))
    rw [w32_in _ (by omega)]
    have hrep : api_Cell_58.f [(⟨r.f1.f0, r.f1.f1, r.f1.f2⟩ : S45)] r.f0 = some (List.replicate r.f0.toNat r.f1) := by
      show slices_Repeat.f _ _ = _
      unfold slices_Repeat.f
      rw [if_pos ⟨rfl, by omega, by omega⟩]
      rfl
    rw [hrep]
    simp only [Option.bind_some]
    have hrl : (rowB L w).length ≤ 1000000000 := by
      unfold rowB
      have h1 := runs78_le L
      have h2 : ∀ rs : List S78, ((rs.map runB).flatten).length ≤ 40 * rs.length := by
        intro rs
        induction rs with
        | nil => simp
        | cons r t ih =>
          have := runB_len r
          simp only [List.map_cons, List.flatten_cons, List.length_append, List.length_cons]
          omega
      have h3 := h2 (runs78 L)
      have h4 := numB_len (2 * ((runs78 L).length : Int) + (if w then 1 else 0))
      rw [List.length_append]
      omega
    refine ev_pos (by rw [List.length_replicate]; omega) ?_
    rw [w64_in ((pre.length : Int) + ((runB r).length : Int)) (by omega), w64_in ((i : Int) + 1) (by omega)]
    have ih := get_loop L w hL rest hr n t (pre ++ runB r) (cells ++ List.replicate r.f0.toNat r.f1) (i + 1) (fun q hq => hrs q (by simp [hq])) (by omega) hn3 (by rw [List.append_assoc, ← expand_cons]; exact hc) (by rw [← hp]; simp)
    rw [List.length_append] at ih
    have e4 : (((i + 1 : Nat)) : Int) = (i : Int) + 1 := by omega
    have e5 : ((pre.length + (runB r).length : Nat) : Int) = (pre.length : Int) + ((runB r).length : Int) := by omega
    rw [e4, e5] at ih
    exact ih
theorem mayB_len {l : List S45} (h : mayB l = true) : l.length ≤ 300 := by
  unfold mayB at h
  simp only [Bool.and_eq_true, decide_eq_true_eq] at h
  exact h.1
theorem mayB_cells {l : List S45} (h : mayB l = true) : ∀ c ∈ l, cellB c = true := by
  unfold mayB at h
  simp only [Bool.and_eq_true] at h
  exact mayL_cells h.2
theorem runs_in {l : List S45} (h : mayB l = true) : ∀ r ∈ runs78 l, RunIn r := fun r hr => by
  have hl := mayB_len h
  have hn := (runs_of l (by omega)).num r hr
  have hc := cellB_range (mayB_cells h _ hn.2.2)
  exact ⟨hn.1, by omega, hc.1, hc.2.1, hc.2.2.1, hc.2.2.2.1, hc.2.2.2.2.1, hc.2.2.2.2.2⟩
theorem get_ev (l : List S45) (w : Bool) (h : mayB l = true) (rest : List Int) (hr : ∀ x ∈ rest, 0 ≤ x ∧ x < 256) : Ev (fun k => pack_Get.f k (rowB l w ++ rest)) (l, w, ((rowB l w).length : Int), 0) := by
  have hl := mayB_len h
  have hle := runs78_le l
  obtain ⟨hd, hhd⟩ : ∃ hd : Int, hd = 2 * ((runs78 l).length : Int) + (if w then 1 else 0) := ⟨_, rfl⟩
  have hhr : 0 ≤ hd ∧ hd ≤ 601 := by subst hhd; split <;> omega
  have hB : rowB l w = numsB [hd] ++ ((runs78 l).map runB).flatten := by unfold rowB; rw [← hhd]; simp [numsB]
  have hloop := get_loop l w h rest hr ((runs78 l).length : Int) (runs78 l) (numsB [hd]) [] 0 (runs_in h) (by simp) (by omega) (by rw [(runs_of l (by omega)).exp]; rfl) hB.symm
  unfold pack_Get.f
  refine ev_pos (by decide) ?_
  refine Ev.bind (Ev.now (List.replicate 1 (0 : Int))) ?_
  have hn := nums_ev [hd] (((runs78 l).map runB).flatten ++ rest) (fun x hx => by
    rcases List.mem_append.1 hx with hx | hx
    · obtain ⟨b, hb, hxb⟩ := List.mem_flatten.1 hx
      obtain ⟨q, _, rfl⟩ := List.mem_map.1 hb
      exact runB_range q x hxb
    · exact hr x hx) (by simp) (fun v hv => by obtain rfl := List.mem_singleton.1 hv; omega)
  rw [← List.append_assoc, ← hB] at hn
  refine Ev.bind hn ?_
  have hpos : 1 ≤ (numsB [hd]).length := by have := numB_pos hd; simp [numsB]; omega
  have e0 : rd [hd] 0 = hd := rfl
  refine ev_neg (by simp only; omega) (ev_pos (by decide) ?_)
  simp only [e0]
  have hdiv : Int.tdiv hd 2 = ((runs78 l).length : Int) := by
    rw [Int.tdiv_eq_ediv_of_nonneg hhr.1]
    subst hhd
    split <;> omega
  have hmod : (Int.tmod hd 2 == 1) = w := by
    rw [Int.tmod_eq_emod_of_nonneg hhr.1]
    subst hhd
    cases w
    · simp
    · simp
  rw [hdiv, w64_in _ (by omega), decide_eq_false (by omega)]
  refine Ev.step (f := _) (fun k => by rw [pack_Get.j0]) ?_
  refine ev_neg (by decide) (ev_pos (by simp) ?_)
  rw [e0, hdiv, w64_in _ (by omega), hmod]
  exact hloop
end Go.Proofs.Ytkigdcihhlkkdaa.Pure
end
section
namespace Go.Proofs.Ytkigdcihhlkkdaa.P
open Go.RowKit Go.Proofs.YtkigdcihhlkkdaaW.PrintWords Go.Proofs.YtkigdcihhlkkdaaW.PrintLast Go.Proofs.YtkigdcihhlkkdaaW.PrintMore
attribute [local go_sem] max2_int min2_int max_two min_two max_three min_three max_four min_four   -- for this text's walks alone
set_option linter.unusedVariables false
set_option linter.unusedSimpArgs false
def rotuluslaw4_Row.f (l0_0 : List (S45)) (a0_1 : Bool) : Option ((List (S45)) × Bool) := if 0 ≤ (mn (l0_0.length : Int) 310) then (if (mn (l0_0.length : Int) 310) ≤ (l0_0.length : Int) then ((some (l0_0.take ((mn (l0_0.length : Int) 310) : Int).toNat : List (S45))).bind fun y486 => (if ([] : List (S45)).length + y486.length < 5864062014805 then (some ((([] : List (S45)) ++ y486), a0_1)) else (none))) else (none)) else (none)
def rotuluslaw4_Row.T1 : Bool × List (List Nat × List Nat) := (true, [([], []), ([0], [0]), ([], []), ([2], [2]), ([3], [3]), ([4], [4]), ([1, 5], [1, 5]), ([6], [6]), ([], []), ([8], [8]), ([7, 9], [7, 9]), ([10, 7, 0, 1, 2, 3, 4, 5, 6, 7, 8, 9, 10], [10])])
def rotuluslaw4_Row.B1 : List Nat := [0, 1, 0, 4, 12, 28, 63, 127, 0, 256, 1023, 2047]
theorem rotuluslaw4_Row.tab1 : rtab .any (opsOf Try.f23 1) = rotuluslaw4_Row.T1 := by kernel_rfl
theorem rotuluslaw4_Row.bits1 : waitsOk rotuluslaw4_Row.T1.2 rotuluslaw4_Row.B1 = true := by kernel_rfl
set_option maxHeartbeats 8000000 in
set_option maxRecDepth 100000 in
theorem rotuluslaw4_Row.calls (A0_0 : Option Addr) (c0_0 : Nat) (l0_0 : List (S45)) (a0_1 : Bool) (r1 : List (S45)) (r2 : Bool) (w : World) (hr0_0 : Kd.C k45 w A0_0 l0_0.length l0_0) (hc0_0 : l0_0.length ≤ c0_0) (h : rotuluslaw4_Row.f l0_0 a0_1 = some (r1, r2)) :
    Calls Try.prog 23 #[.agg #[.slice A0_0 l0_0.length c0_0, .bool a0_1]] w fun e w' => ∃ v0_ : Value, e = .returned (.agg #[v0_, .bool r2]) ∧ Kd.R k45 45 w' w.heap.size (fun _ => True) v0_ r1 ∧ Below w.heap.size w w' := by
  have hu31 := Try.underlying31
  have HR0_0 := Aside0.mk hr0_0
  have HC0_0 := Aside0.mk hc0_0
  clear hr0_0 hc0_0
  have HB := Aside0.mk (Below.refl w.heap.size w)
  have H : (if 0 ≤ (mn (l0_0.length : Int) 310) then (if (mn (l0_0.length : Int) 310) ≤ (l0_0.length : Int) then ((some (l0_0.take ((mn (l0_0.length : Int) 310) : Int).toNat : List (S45))).bind fun y486 => (if ([] : List (S45)).length + y486.length < 5864062014805 then (some ((([] : List (S45)) ++ y486), a0_1)) else (none))) else (none)) else (none)) = some (r1, r2) := h
  clear h
  obtain ⟨ji2, hji2⟩ : ∃ j_ : Int, (mn (l0_0.length : Int) 310) = j_ := ⟨_, rfl⟩
  replace H : (if 0 ≤ (ji2) then (if (ji2) ≤ (l0_0.length : Int) then ((some (l0_0.take ((ji2) : Int).toNat : List (S45))).bind fun y486 => (if ([] : List (S45)).length + y486.length < 5864062014805 then (some ((([] : List (S45)) ++ y486), a0_1)) else (none))) else (none)) else (none)) = some (r1, r2) := by first | (rw [hji2] at H; exact H) | (simp only [hji2] at H ⊢; exact H)
  (try (have hji2h : ji2 ≤ 310 := by (rw [← hji2]; unfold mn; (repeat' split) <;> omega)))
  (try (have hji2g : ji2 ≤ 64 := by omega))
  (try (have hji2l : 0 ≤ ji2 := by (rw [← hji2]; unfold mn; (repeat' split) <;> omega)))
  (try (have hji2m : 0 ≤ ji2 := by omega))
  have hji2_ : (if 310 < (l0_0.length : Int) then 310 else (l0_0.length : Int)) = ji2 := hji2
  have c3 : 0 ≤ (ji2) := Decidable.byContradiction fun hc_ => absurd ((if_neg hc_).symm.trans H) (by simp)
  rw [if_pos c3] at H
  have c3b0 := eq_true c3
  have c3b1 : decide (0 ≤ (ji2)) = true := decide_eq_true c3
  clear c3
  have c4 : (ji2) ≤ (l0_0.length : Int) := Decidable.byContradiction fun hc_ => absurd ((if_neg hc_).symm.trans H) (by simp)
  rw [if_pos c4] at H
  have c4b0 := eq_true c4
  have c4b1 : decide ((ji2) ≤ (l0_0.length : Int)) = true := decide_eq_true c4
  clear c4
  obtain ⟨y486, hy486⟩ : ∃ y_ : List (S45), y_ = (l0_0.take ((ji2) : Int).toNat) := ⟨_, rfl⟩
  replace H : (if ([] : List (S45)).length + y486.length < 5864062014805 then (some ((([] : List (S45)) ++ y486), a0_1)) else (none)) = some (r1, r2) := by first | (rw [hy486]; with_reducible exact H) | (have H2_ := (Option.bind_some _ _).symm.trans H; rw [hy486]; with_reducible exact H2_) | (have H2_ := (Option.bind_some _ _).symm.trans H; with_reducible exact H2_) | with_reducible exact H | (rw [hy486]; exact H) | exact H
  have Ny486 := Aside0.mk hy486
  clear hy486
  have c5 : ([] : List (S45)).length + y486.length < 5864062014805 := Decidable.byContradiction fun hc_ => absurd ((if_neg hc_).symm.trans H) (by simp)
  rw [if_pos c5] at H
  have LMc5 := Aside0.mk c5
  clear c5
  obtain ⟨y490, hy490⟩ : ∃ y_ : List (S45), y_ = (([] : List (S45)) ++ y486) := ⟨_, rfl⟩
  replace H : (some (y490, a0_1)) = some (r1, r2) := by first | (rw [hy490]; with_reducible exact H) | (have H2_ := (Option.bind_some _ _).symm.trans H; rw [hy490]; with_reducible exact H2_) | (have H2_ := (Option.bind_some _ _).symm.trans H; with_reducible exact H2_) | with_reducible exact H | (rw [hy490]; exact H) | exact H
  have Ny490 := Aside0.mk hy490
  clear hy490
  simp only [Option.some.injEq, Prod.mk.injEq] at H
  obtain ⟨rfl, rfl⟩ := H
  go_enter Try.func23, Try.ntmps23
  try go_wp2_with (first | ((with_reducible refine gate_dst (N := 1) rfl ?_); refine box_event ?hg (N := 1) ?hd (cs := #[.slice A0_0 l0_0.length c0_0, .bool a0_1]) (t := 31) ?hr ?_; (case hd => rfl); (case hg => rfl); (case hr => first | (go_simp; done) | (go_simp; rfl)); intro gb484 hg w6 hbox hb; have n0_ := Aside0.mk (below_step (by repeat (first | (with_reducible first | exact HB.out | apply below_alloc | apply pw_below_drewN | apply below_drew1) | exact HB.out)) hb); have n1_ := Aside0.mk (hbox); have n2_ := Aside0.mk ((by rw [hg]; exact (below_size (by repeat (first | (with_reducible first | exact HB.out | apply below_alloc | apply pw_below_drewN | apply below_drew1) | exact HB.out))) : w.heap.size ≤ gb484)); have n3_ := Aside0.mk ((by rw [hg]; exact (below_size (by repeat (first | (with_reducible first | exact HB.out | apply below_alloc | apply pw_below_drewN | apply below_drew1) | exact HB.out))) : w.heap.size ≤ gb484)); clear HB; have HB := n0_; have BK484 := n1_; have GW484 := n2_; have GE484 := n3_; clear n0_ n1_ n2_ n3_; clear hb hbox hg) | ((with_reducible refine gate_dst (N := 2) rfl ?_); refine box_event ?hg (N := 2) ?hd (cs := #[.slice none 0 0, .bool false]) (t := 31) ?hr ?_; (case hd => rfl); (case hg => rfl); (case hr => first | (go_simp; done) | (go_simp; rfl)); intro gb485 hg w7 hbox hb; have n0_ := Aside0.mk (blk_below (g := gb484) (o := .cells #[.slice A0_0 l0_0.length c0_0, .bool a0_1] 31 (0, 0)) (by (with_reducible repeat (first | refine blk_drewN ?_ _ | refine blk_drew ?_ | refine blk_alloc ?_ _)); exact BK484.out) hb); have n1_ := Aside0.mk (below_step (by repeat (first | (with_reducible first | exact HB.out | apply below_alloc | apply pw_below_drewN | apply below_drew1 | refine below_set ?_ GE484.out) | exact HB.out)) hb); have n2_ := Aside0.mk (hbox); have n3_ := Aside0.mk ((by rw [hg]; exact (below_size (by repeat (first | (with_reducible first | exact HB.out | apply below_alloc | apply pw_below_drewN | apply below_drew1 | refine below_set ?_ GE484.out) | exact HB.out))) : w.heap.size ≤ gb485)); have n4_ := Aside0.mk ((by rw [hg]; exact (below_size (by repeat (first | (with_reducible first | exact HB.out | apply below_alloc | apply pw_below_drewN | apply below_drew1 | refine below_set ?_ GE484.out) | exact HB.out))) : w.heap.size ≤ gb485)); have n5_ := Aside0.mk ((by rw [hg]; exact Nat.ne_of_lt (blk_lt (g := gb484) (o := .cells #[.slice A0_0 l0_0.length c0_0, .bool a0_1] 31 (0, 0)) (by (with_reducible repeat (first | refine blk_drewN ?_ _ | refine blk_drew ?_ | refine blk_alloc ?_ _)); exact BK484.out)) : gb484 ≠ gb485)); have n6_ := Aside0.mk ((by rw [hg]; exact Nat.ne_of_gt (blk_lt (g := gb484) (o := .cells #[.slice A0_0 l0_0.length c0_0, .bool a0_1] 31 (0, 0)) (by (with_reducible repeat (first | refine blk_drewN ?_ _ | refine blk_drew ?_ | refine blk_alloc ?_ _)); exact BK484.out)) : gb485 ≠ gb484)); clear BK484; clear HB; have BK484 := n0_; have HB := n1_; have BK485 := n2_; have GW485 := n3_; have GE485 := n4_; have NB484_485 := n5_; have NB485_484 := n6_; clear n0_ n1_ n2_ n3_ n4_ n5_ n6_; clear hb hbox hg))
  have n0_ := Aside0.mk (blk_drew BK484.out)
  have n1_ := Aside0.mk (blk_drew BK485.out)
  have n2_ := Aside0.mk (below_drew1 HB.out)
  clear BK484
  clear BK485
  clear HB
  have BK484 := n0_
  have BK485 := n1_
  have HB := n2_
  clear n0_ n1_ n2_
  have q9 : ((ji2) : Int) ≤ ((l0_0.length : Int) : Int) := of_decide_eq_true (by first | (with_reducible assumption) | assumption)
  obtain ⟨i09, hi09, _, hsz9, _⟩ := info_parts info45
  have hroom9 : l0_0.length ≤ c0_0 := HC0_0.out
  have hC9 : Kd.C k45 _ A0_0 l0_0.length l0_0 := HR0_0.out
  have hcut9 := cut_to (P := Try.prog) 29 45 .i64 Try.underlying29 hi09 A0_0 l0_0.length c0_0 (ji2) (of_decide_eq_true (by first | (with_reducible assumption) | assumption)) q9 hroom9
  have hr9 := Kd.C_take (m := ((ji2) : Int).toNat) hC9 (by omega)
  have hy9 : y486.length = ((ji2) : Int).toNat := (by rw [Ny486.out, List.length_take]; omega)
  rw [← Ny486.out] at hr9
  rw [← hy9] at hcut9
  have HR489 := Aside0.mk hr9
  have HC489 := Aside0.mk (show y486.length ≤ c0_0 from by omega)
  clear hr9 hC9 hroom9 hi09 hsz9
  have KY9 := Aside0.mk hy9
  clear hy9
  replace q9 := eq_true q9
  refine start_ (n := 12) (S := fun w' => w'.cell? ⟨gb484, 0, none⟩ = some (.slice A0_0 l0_0.length c0_0) ∧ w'.cell? ⟨gb484, 1, none⟩ = some (.bool a0_1)) (ds := []) (bl_ [0, 12]) (by kernel_rfl) rfl rfl ⟨(blk_cell BK484.out 0).trans rfl, (blk_cell BK484.out 1).trans rfl⟩ (fun hHeld => ?_); refine with_tabW rotuluslaw4_Row.tab1 rotuluslaw4_Row.bits1 (fun HT_ HW_ => ?_)
  generalize w7.drew = w8 at BK484 BK485 HB HR489 hHeld ⊢
  refine pure_ (i := 0) (N := some 3) (v := ?_) (a' := ?_) (bl_ [1, 11]) rfl rfl (any_of HT_.out (by kernel_rfl)) (fun _ _ _ h => h) (Or.inl ⟨by rfl, ?_⟩) ?_ ?_
  rotate_left
  · intro w'
    go_simp
    with_reducible rfl
  rotate_left
  · simp only [Act.put, List.setIfInBounds_toArray, List.set_cons_zero, List.set_cons_succ, i64_w, i32_w]
    rfl
  refine pure_ (i := 2) (N := some 5) (v := ?_) (a' := ?_) (bl_ [1, 1, 1, 9]) rfl rfl (any_of HT_.out (by kernel_rfl)) (fun _ _ _ h => h) (Or.inl ⟨by rfl, ?_⟩) ?_ ?_
  rotate_left
  · intro w'
    go_simp
    with_reducible rfl
  rotate_left
  · simp only [Act.put, List.setIfInBounds_toArray, List.set_cons_zero, List.set_cons_succ, i64_w, i32_w]
    rfl
  refine pure_ (i := 8) (N := some 11) (v := ?_) (a' := ?_) (bl_ [1, 1, 1, 5, 1, 3]) rfl rfl (any_of HT_.out (by kernel_rfl)) (fun _ _ _ h => h) (Or.inl ⟨by rfl, ?_⟩) ?_ ?_
  rotate_left
  · intro w'
    go_simp
    with_reducible rfl
  rotate_left
  · simp only [Act.put, List.setIfInBounds_toArray, List.set_cons_zero, List.set_cons_succ, i64_w, i32_w]
    rfl
  refine take_ (i := 1) (N := some 4) (v := ?_) (a' := ?_) (bl_ [3, 5, 1, 3]) rfl rfl (take_ofW HT_.out HW_.out (by kernel_rfl)) (fun _ _ _ h => h) (Or.inl ⟨by rfl, ?_⟩) hHeld ?_ ?_
  rotate_left
  · rintro w' ⟨s0, s1⟩
    go_simp
    with_reducible rfl
  rotate_left
  · simp only [Act.put, List.setIfInBounds_toArray, List.set_cons_zero, List.set_cons_succ, i64_w, i32_w]
    rfl
  refine take_ (i := 3) (N := some 6) (v := ?_) (a' := ?_) (bl_ [4, 4, 1, 3]) rfl rfl (take_ofW HT_.out HW_.out (by kernel_rfl)) (fun _ _ _ h => h) (Or.inl ⟨by rfl, ?_⟩) hHeld ?_ ?_
  rotate_left
  · rintro w' ⟨s0, s1⟩
    go_simp
    with_reducible rfl
  rotate_left
  · simp only [Act.put, List.setIfInBounds_toArray, List.set_cons_zero, List.set_cons_succ, i64_w, i32_w]
    rfl
  refine pure_ (i := 4) (N := some 7) (v := ?_) (a' := ?_) (bl_ [5, 3, 1, 3]) rfl rfl (any_of HT_.out (by kernel_rfl)) (fun _ _ _ h => h) (Or.inl ⟨by rfl, ?_⟩) ?_ ?_
  rotate_left
  · intro w'
    go_simp
    with_reducible rfl
  rotate_left
  · simp only [Act.put, List.setIfInBounds_toArray, List.set_cons_zero, List.set_cons_succ, i64_w, i32_w]
    rfl
  refine pure_ (i := 5) (N := some 8) (v := ?_) (a' := ?_) (bl_ [6, 2, 1, 3]) rfl rfl (any_of HT_.out (by kernel_rfl)) (fun _ _ _ h => h) (Or.inl ⟨by rfl, ?_⟩) ?_ ?_
  rotate_left
  · intro w'
    go_simp
    with_reducible rfl
  rotate_left
  · simp only [Act.put, List.setIfInBounds_toArray, List.set_cons_zero, List.set_cons_succ, i64_w, i32_w]
    rfl
  refine pure_ (i := 6) (N := some 9) (v := ?_) (a' := ?_) (bl_ [7, 1, 1, 3]) rfl rfl (any_of HT_.out (by kernel_rfl)) (fun _ _ _ h => h) (Or.inl ⟨by rfl, ?_⟩) ?_ ?_
  rotate_left
  · intro w'
    go_simp
    with_reducible rfl
  rotate_left
  · simp only [Act.put, List.setIfInBounds_toArray, List.set_cons_zero, List.set_cons_succ, i64_w, i32_w]
    rfl
  refine take_ (i := 9) (N := some 12) (v := ?_) (a' := ?_) (bl_ [7, 1, 2, 2]) rfl rfl (take_ofW HT_.out HW_.out (by kernel_rfl)) (fun _ _ _ h => h) (Or.inl ⟨by rfl, ?_⟩) hHeld ?_ ?_
  rotate_left
  · rintro w' ⟨s0, s1⟩
    go_simp
    with_reducible rfl
  rotate_left
  · simp only [Act.put, List.setIfInBounds_toArray, List.set_cons_zero, List.set_cons_succ, i64_w, i32_w]
    rfl
  refine one_ (i := 7) (N := some 10) (bl_ [10, 2]) rfl rfl (one_of HT_.out (by kernel_rfl)) (by decide) (fun K hK => ?_)
  refine Kd.R_append_rows_step k45 (w0 := w) w.heap.size (by rfl) (.const (.slice none 0 0)) (.tmp 9) 29 45 (.agg #[(.int .i32 0), (.int .i64 0), (.int .i64 0)]) 24 rfl Try.underlying29 info45 rfl (by decide) (by omega) (.slice none 0 0) ([] : List (S45)) y486 _ _ _ (fun _ => True) (fun _ => False) rfl rfl ?aO ?aR (fun _ _ h => h) (fun _ h => h.elim) ?aF ?aB ?aS ?aL ?_
  (case aR => repeat (first | exact (Kd.C_below HR489.out HB.out) | (with_reducible refine Kd.C_alloc ?_ _) | (with_reducible refine Kd.C_drewN ?_ _) | (with_reducible refine Kd.C_drew ?_) | exact Kd.C_drewN (Kd.C_below HR489.out HB.out) _ | exact Kd.C_drew (Kd.C_below HR489.out HB.out) | exact Kd.C_alloc (Kd.C_below HR489.out HB.out) _))
  (case aB => exact (by repeat (first | (with_reducible first | exact HB.out | apply below_alloc | apply pw_below_drewN | apply below_drew1 | refine below_set ?_ GE484.out | refine below_set ?_ GE485.out) | exact HB.out)))
  (case aF => exact (fun _ _ => trivial))
  (case aO => exact ((Kd.R_nil _ _ _ _ (fun _ => True))))
  (case aS => exact (below_size (by repeat (first | (with_reducible first | exact HB.out | apply below_alloc | apply pw_below_drewN | apply below_drew1 | refine below_set ?_ GE484.out | refine below_set ?_ GE485.out) | exact HB.out))))
  (case aL => have := LMc5.out; omega)
  intro v491 w10 ho hb hg hat
  rw [← Ny490.out] at ho
  have n0_ := Aside0.mk (blk_grown (g := gb484) (o := .cells #[.slice A0_0 l0_0.length c0_0, .bool a0_1] 31 (0, 0)) (by (with_reducible repeat (first | refine blk_drewN ?_ _ | refine blk_drew ?_ | refine blk_alloc ?_ _)); exact BK484.out) hg (by simp [Value.ownBlock]))
  have n1_ := Aside0.mk (blk_grown (g := gb485) (o := .cells #[.slice none 0 0, .bool false] 31 (0, 0)) (by (with_reducible repeat (first | refine blk_drewN ?_ _ | refine blk_drew ?_ | refine blk_alloc ?_ _)); exact BK485.out) hg (by simp [Value.ownBlock]))
  have n2_ := Aside0.mk (hb)
  have n3_ := Aside0.mk (ho)
  clear BK484
  clear BK485
  clear HB
  have BK484 := n0_
  have BK485 := n1_
  have HB := n2_
  have HO492 := n3_
  clear n0_ n1_ n2_ n3_
  clear ho hb hg hat
  obtain ⟨Ao11, co11, eo11⟩ := Kd.R_slice HO492.out
  (first | subst eo11 | (injection eo11 with f1_ f2_ f3_; have f4_ := f1_.symm; have f5_ := f3_.symm; clear f1_ f2_ f3_; subst f4_; subst f5_))
  refine hK.out _ _ ⟨(blk_cell BK484.out 0).trans rfl, (blk_cell BK484.out 1).trans rfl⟩ (fun hHeld => ?_)
  clear hK K
  refine norm_ (a' := ?_) ?_ ?_
  rotate_left
  · show Act.put _ (some 10) _ = _
    simp only [Act.put, List.setIfInBounds_toArray, List.set_cons_zero, List.set_cons_succ, i64_w, i32_w]
    rfl
  refine pure_ (i := 10) (N := some 13) (v := ?_) (a' := ?_) (bl_ [11, 1]) rfl rfl (any_of HT_.out (by kernel_rfl)) (fun _ _ _ h => h) (Or.inl ⟨by rfl, ?_⟩) ?_ ?_
  rotate_left
  · intro w'
    go_simp
    with_reducible rfl
  rotate_left
  · simp only [Act.put, List.setIfInBounds_toArray, List.set_cons_zero, List.set_cons_succ, i64_w, i32_w]
    rfl
  refine one_ (i := 11) (N := none) (bl_ [12]) rfl rfl (one_of HT_.out (by kernel_rfl)) (by decide) (fun K hK => ?_)
  have hs12 : w10.cell? ⟨gb485, 0, none⟩ = some (.slice none 0 0) := (blk_cell BK485.out 0).trans rfl
  have hfs12 := blk_frozen BK485.out 0
  have hns12_0 := NB484_485.out
  have hms12_0 := NB485_484.out
  have hs13 : w10.cell? ⟨gb485, 1, none⟩ = some (.bool false) := (blk_cell BK485.out 1).trans rfl
  have hfs13 := blk_frozen BK485.out 1
  have hns13_0 := NB484_485.out
  have hms13_0 := NB485_484.out
  refine skip_ (w1 := ?_) (by rfl) rfl ?_ ?_
  rotate_left
  · go_simp
    rfl
  refine hK.out _ _ ⟨((cell_far (p := ⟨gb485, _, none⟩) NB484_485.out _).trans (((cell_far (p := ⟨gb485, _, none⟩) NB484_485.out _).trans (hHeld.1)))), ((cell_far (p := ⟨gb485, _, none⟩) NB484_485.out _).trans (((cell_far (p := ⟨gb485, _, none⟩) NB484_485.out _).trans (hHeld.2))))⟩ (fun hHeld => ?_)
  clear hK K
  refine done_ (done_of HT_.out (by kernel_rfl)) ?_
  try go_wp2
  refine bodyPost_ret (results_cell_row rfl _ _ gb485 31 #[.slice Ao11 y490.length co11, .bool a0_1] (0, 0) _ rfl (by (with_reducible repeat (first | refine blk_drewN ?_ _ | refine blk_drew ?_ | refine blk_alloc ?_ _)); refine blk_put (cs := #[.slice Ao11 y490.length co11, .bool false]) ?_ 1 _ rfl; (with_reducible repeat (first | refine blk_drewN ?_ _ | refine blk_drew ?_ | refine blk_alloc ?_ _)); refine blk_put (cs := #[.slice none 0 0, .bool false]) ?_ 0 _ rfl; (with_reducible repeat (first | refine blk_drewN ?_ _ | refine blk_drew ?_ | refine blk_alloc ?_ _)); exact BK485.out) Try.underlying31 rfl (by kernel_rfl)) rfl ?_
  exact ⟨_, by first | rfl | (simp [errW_none, errW_some] <;> rfl) | (simp only [← hji2]; first | rfl | (simp [errW_none, errW_some] <;> rfl)) | (simp [*, errW_none, errW_some] <;> rfl), by (with_reducible repeat (first | apply Kd.R_alloc | apply Kd.R_drewN | apply Kd.R_drew)); exact Kd.R_mono (Kd.R_far (p := ⟨gb485, 1, none⟩) (Kd.R_far (p := ⟨gb485, 0, none⟩) (Kd.R_types HO492.out BK485.out (by decide)) (fun _ hk => hk.2) (.slice Ao11 y490.length co11)) (fun _ hk => hk.2) (.bool a0_1)) (fun _ hk => trivial), by repeat (first | (with_reducible first | exact HB.out | apply below_alloc | apply pw_below_drewN | apply below_drew1 | refine below_set ?_ GE484.out | refine below_set ?_ GE485.out) | exact HB.out)⟩
end Go.Proofs.Ytkigdcihhlkkdaa.P
end
section
namespace Go.Proofs.Ytkigdcihhlkkdaa.P
open Go.RowKit Go.Proofs.YtkigdcihhlkkdaaW.PrintWords Go.Proofs.YtkigdcihhlkkdaaW.PrintLast Go.Proofs.YtkigdcihhlkkdaaW.PrintMore
attribute [local go_sem] max2_int min2_int max_two min_two max_three min_three max_four min_four   -- for this text's walks alone
set_option linter.unusedVariables false
set_option linter.unusedSimpArgs false
attribute [local go_sem high] eqA45
def rotulusref1_EqCells.l0 : Nat → List (S45) → List (S45) → Int → Option (Bool)
  | 0, _, _, _ => none
  | k + 1, x0, x1, x5 => if x5 < (x0.length : Int) then (if 0 ≤ x5 then (if x5 < (x1.length : Int) then (if (!(((rd_T45 x0 x5).f0) == ((rd_T45 x1 x5).f0)) || (!(((rd_T45 x0 x5).f1) == ((rd_T45 x1 x5).f1)) || (!(((rd_T45 x0 x5).f2) == ((rd_T45 x1 x5).f2))))) = true then (some false) else (rotulusref1_EqCells.l0 k x0 x1 (wrap64 (x5 + 1)))) else (none)) else (none)) else (some true)
def rotulusref1_EqCells.f (k : Nat) (l0 : List (S45)) (l1 : List (S45)) : Option (Bool) := if (l0.length : Int) = (l1.length : Int) then (rotulusref1_EqCells.l0 k l0 l1 0) else (some false)
theorem rotulusref1_EqCells.mono_l : ∀ k, (∀ y0 y1 y2, LeO (rotulusref1_EqCells.l0 k y0 y1 y2) (rotulusref1_EqCells.l0 (k + 1) y0 y1 y2))
  | 0 => fun _ _ _ r h => by simp [rotulusref1_EqCells.l0] at h
  | k + 1 => by
    have ih0 := rotulusref1_EqCells.mono_l k
    · intro y0 y1 y2
      unfold rotulusref1_EqCells.l0
      repeat' first
      | (with_reducible exact ih0 _ _ _)
      | (with_reducible exact LeO.refl _)
      | (with_reducible exact LeO.none _)
      | (with_reducible refine LeO.ite ?_ ?_)
      | (with_reducible refine LeO.bind ?_ (fun _ => ?_))
      | exact ih0 _ _ _
      | exact LeO.none _
      | refine LeO.ite ?_ ?_
      | refine LeO.bind ?_ (fun _ => ?_)
theorem rotulusref1_EqCells.mono : ∀ a0 a1 k, LeO (rotulusref1_EqCells.f k a0 a1) (rotulusref1_EqCells.f (k + 1) a0 a1) := by
  intro a0 a1 k
  have ih0 := rotulusref1_EqCells.mono_l k
  unfold rotulusref1_EqCells.f
  repeat' first
      | (with_reducible exact ih0 _ _ _)
      | (with_reducible exact LeO.refl _)
      | (with_reducible exact LeO.none _)
      | (with_reducible refine LeO.ite ?_ ?_)
      | (with_reducible refine LeO.bind ?_ (fun _ => ?_))
      | exact ih0 _ _ _
      | exact LeO.none _
      | refine LeO.ite ?_ ?_
      | refine LeO.bind ?_ (fun _ => ?_)
set_option maxHeartbeats 8000000 in
set_option maxRecDepth 100000 in
theorem rotulusref1_EqCells.calls (k : Nat) (A0 : Option Addr) (c0 : Nat) (l0 : List (S45)) (A1 : Option Addr) (c1 : Nat) (l1 : List (S45)) (r : Bool) (w : World) (hr0 : Kd.C k45 w A0 l0.length l0) (hc0 : l0.length ≤ c0) (hr1 : Kd.C k45 w A1 l1.length l1) (hc1 : l1.length ≤ c1) (h : rotulusref1_EqCells.f k l0 l1 = some r) :
    Calls Try.prog 56 #[.slice A0 l0.length c0, .slice A1 l1.length c1] w fun e w' => e = .returned (.bool r) ∧ Drawn0 w w' := by
  have hu45 := Try.underlying45
  have HR0 := Aside0.mk hr0
  have HC0 := Aside0.mk hc0
  clear hr0 hc0
  have HR1 := Aside0.mk hr1
  have HC1 := Aside0.mk hc1
  clear hr1 hc1
  have H : (if (l0.length : Int) = (l1.length : Int) then (rotulusref1_EqCells.l0 k l0 l1 0) else (some false)) = some r := h
  clear h
  by_cases c3 : (l0.length : Int) = (l1.length : Int)
  · rw [if_pos c3] at H
    have c3b0 : ((l0.length : Int) == (l1.length : Int)) = true := beq_iff_eq.mpr c3
    have c3b1 : ((l0.length : Int) != (l1.length : Int)) = false := bne_eq_false_iff_eq.mpr c3
    have c3b2 : (l0.length == l1.length) = true := by first | simpa using c3 | (simp at c3 ⊢; omega)
    clear c3
    have H' := Aside0.mk H
    clear H
    go_enter Try.func56, Try.ntmps56
    go_wp2
    repeat (go_quiet (fail); try go_wp2)
    go_loopg [5] k (fun kq v5 w' => ∃ (x5_1 : Int), v5 = .int .i64 x5_1 ∧ Aside0 (rotulusref1_EqCells.l0 kq l0 l1 x5_1 = some r) ∧ Aside0 (kq ≤ k) ∧ Drawn0 w w')
    case atStart => exact ⟨(0), (by first | rfl | (simp; done) | (simp [*]; done)), H', ⟨Nat.le_refl _⟩, by repeat (first | exact Drawn0.refl _ | apply Drawn0.step)⟩
    case round =>
      clear H'
      try clear c1
      try clear p2
      try clear c3
      try clear c3b0
      try clear c3b1
      try clear c3b2
      obtain ⟨x5_1, rfl, HA, HK1, ⟨m1, rfl⟩⟩ := hrel
      cases gk with
      | zero => exact absurd HA.out (by simp [rotulusref1_EqCells.l0])
      | succ k1 =>
        have H := HA.out
        clear HA
        simp only [rotulusref1_EqCells.l0] at H
        by_cases c4 : x5_1 < (l0.length : Int)
        · rw [if_pos c4] at H
          have c4b0 : decide (x5_1 < (l0.length : Int)) = true := decide_eq_true c4
          clear c4
          have c5 : 0 ≤ x5_1 := Decidable.byContradiction fun hc_ => absurd ((if_neg hc_).symm.trans H) (by simp)
          rw [if_pos c5] at H
          have c5b0 : decide (0 ≤ x5_1) = true := decide_eq_true c5
          clear c5
          have c6 : x5_1 < (l1.length : Int) := Decidable.byContradiction fun hc_ => absurd ((if_neg hc_).symm.trans H) (by simp)
          rw [if_pos c6] at H
          have c6b0 : decide (x5_1 < (l1.length : Int)) = true := decide_eq_true c6
          clear c6
          by_cases c7 : (!(((rd_T45 l0 x5_1).f0) == ((rd_T45 l1 x5_1).f0)) || (!(((rd_T45 l0 x5_1).f1) == ((rd_T45 l1 x5_1).f1)) || (!(((rd_T45 l0 x5_1).f2) == ((rd_T45 l1 x5_1).f2))))) = true
          · rw [if_pos c7] at H
            have c7b0 : (!(((rd_T45 l0 x5_1).f0) == ((rd_T45 l1 x5_1).f0)) || (!(((rd_T45 l0 x5_1).f1) == ((rd_T45 l1 x5_1).f1)) || (!(((rd_T45 l0 x5_1).f2) == ((rd_T45 l1 x5_1).f2))))) = true := c7
            clear c7
            obtain rfl := Option.some.inj H
            have p547 : 0 ≤ (x5_1 : Int) := of_decide_eq_true (by first | (with_reducible assumption) | assumption)
            have q547 : x5_1 < (l0.length : Int) := of_decide_eq_true (by first | (with_reducible assumption) | assumption)
            obtain ⟨ad547, e547, hx547_0, hx547_1, hx547_2⟩ := at_T45 HR0.out x5_1 p547 q547
            cases e547
            replace p547 := eq_true p547
            replace q547 := eq_true q547
            have p548 : 0 ≤ (x5_1 : Int) := of_decide_eq_true (by first | (with_reducible assumption) | assumption)
            have q548 : x5_1 < (l1.length : Int) := of_decide_eq_true (by first | (with_reducible assumption) | assumption)
            obtain ⟨ad548, e548, hx548_0, hx548_1, hx548_2⟩ := at_T45 HR1.out x5_1 p548 q548
            cases e548
            replace p548 := eq_true p548
            replace q548 := eq_true q548
            go_wp2
            repeat (go_quiet (fail); try go_wp2)
            go_ret
            exact ⟨by first | rfl | (simp; done) | (simp [*]; done), by repeat (first | exact Drawn0.refl _ | apply Drawn0.step)⟩
          · rw [if_neg c7] at H
            have c7b0 : (!(((rd_T45 l0 x5_1).f0) == ((rd_T45 l1 x5_1).f0)) || (!(((rd_T45 l0 x5_1).f1) == ((rd_T45 l1 x5_1).f1)) || (!(((rd_T45 l0 x5_1).f2) == ((rd_T45 l1 x5_1).f2))))) = false := by simpa using c7
            clear c7
            have H' := Aside0.mk H
            clear H
            have p547 : 0 ≤ (x5_1 : Int) := of_decide_eq_true (by first | (with_reducible assumption) | assumption)
            have q547 : x5_1 < (l0.length : Int) := of_decide_eq_true (by first | (with_reducible assumption) | assumption)
            obtain ⟨ad547, e547, hx547_0, hx547_1, hx547_2⟩ := at_T45 HR0.out x5_1 p547 q547
            cases e547
            replace p547 := eq_true p547
            replace q547 := eq_true q547
            have p548 : 0 ≤ (x5_1 : Int) := of_decide_eq_true (by first | (with_reducible assumption) | assumption)
            have q548 : x5_1 < (l1.length : Int) := of_decide_eq_true (by first | (with_reducible assumption) | assumption)
            obtain ⟨ad548, e548, hx548_0, hx548_1, hx548_2⟩ := at_T45 HR1.out x5_1 p548 q548
            cases e548
            replace p548 := eq_true p548
            replace q548 := eq_true q548
            go_wp2
            repeat (go_quiet (fail); try go_wp2)
            go_roundg k1
            case measure => have := HK1.out; omega
            case rel => exact ⟨(wrap64 (x5_1 + 1)), (by first | rfl | (simp; done) | (simp [*]; done)), H', ⟨by have := HK1.out; omega⟩, by repeat (first | exact Drawn0.refl _ | apply Drawn0.step)⟩
        · rw [if_neg c4] at H
          have c4b0 : decide (x5_1 < (l0.length : Int)) = false := decide_eq_false c4
          clear c4
          obtain rfl := Option.some.inj H
          go_wp2
          repeat (go_quiet (fail); try go_wp2)
          go_ret
          exact ⟨by first | rfl | (simp; done) | (simp [*]; done), by repeat (first | exact Drawn0.refl _ | apply Drawn0.step)⟩
  · rw [if_neg c3] at H
    have c3b0 : ((l0.length : Int) == (l1.length : Int)) = false := beq_eq_false_iff_ne.mpr c3
    have c3b1 : ((l0.length : Int) != (l1.length : Int)) = true := bne_iff_ne.mpr c3
    have c3b2 : (l0.length == l1.length) = false := by first | simpa using c3 | (simp at c3 ⊢; omega)
    obtain rfl := Option.some.inj H
    go_enter Try.func56, Try.ntmps56
    go_wp2
    repeat (go_quiet (fail); try go_wp2)
    go_ret
    exact ⟨by first | rfl | (simp; done) | (simp [*]; done), by repeat (first | exact Drawn0.refl _ | apply Drawn0.step)⟩
end Go.Proofs.Ytkigdcihhlkkdaa.P
end
section
namespace Go.Proofs.Ytkigdcihhlkkdaa.P
open Go.RowKit Go.Proofs.YtkigdcihhlkkdaaW.PrintWords Go.Proofs.YtkigdcihhlkkdaaW.PrintLast Go.Proofs.YtkigdcihhlkkdaaW.PrintMore
attribute [local go_sem] max2_int min2_int max_two min_two max_three min_three max_four min_four   -- for this text's walks alone
set_option linter.unusedVariables false
set_option linter.unusedSimpArgs false
def rotulusref1_EqRow.f (k : Nat) (l0_0 : List (S45)) (a0_1 : Bool) (l1_0 : List (S45)) (a1_1 : Bool) : Option (Bool) := if (a0_1 == a1_1) = true then ((rotulusref1_EqCells.f k l0_0 l1_0).bind fun t551 => (some t551)) else (some false)
theorem rotulusref1_EqRow.mono : ∀ a0 a1 a2 a3 k, LeO (rotulusref1_EqRow.f k a0 a1 a2 a3) (rotulusref1_EqRow.f (k + 1) a0 a1 a2 a3) := by
  intro a0 a1 a2 a3 k
  unfold rotulusref1_EqRow.f
  repeat' first
      | (with_reducible exact rotulusref1_EqCells.mono _ _ _)
      | (with_reducible exact LeO.refl _)
      | (with_reducible exact LeO.none _)
      | (with_reducible refine LeO.ite ?_ ?_)
      | (with_reducible refine LeO.bind ?_ (fun _ => ?_))
      | exact rotulusref1_EqCells.mono _ _ _
      | exact LeO.none _
      | refine LeO.ite ?_ ?_
      | refine LeO.bind ?_ (fun _ => ?_)
set_option maxHeartbeats 8000000 in
set_option maxRecDepth 100000 in
theorem rotulusref1_EqRow.calls (k : Nat) (A0_0 : Option Addr) (c0_0 : Nat) (l0_0 : List (S45)) (a0_1 : Bool) (A1_0 : Option Addr) (c1_0 : Nat) (l1_0 : List (S45)) (a1_1 : Bool) (r : Bool) (w : World) (hr0_0 : Kd.C k45 w A0_0 l0_0.length l0_0) (hc0_0 : l0_0.length ≤ c0_0) (hr1_0 : Kd.C k45 w A1_0 l1_0.length l1_0) (hc1_0 : l1_0.length ≤ c1_0) (h : rotulusref1_EqRow.f k l0_0 a0_1 l1_0 a1_1 = some r) :
    Calls Try.prog 29 #[.agg #[.slice A0_0 l0_0.length c0_0, .bool a0_1], .agg #[.slice A1_0 l1_0.length c1_0, .bool a1_1]] w fun e w' => e = .returned (.bool r) ∧ Below w.heap.size w w' := by
  have hu31 := Try.underlying31
  have HR0_0 := Aside0.mk hr0_0
  have HC0_0 := Aside0.mk hc0_0
  clear hr0_0 hc0_0
  have HR1_0 := Aside0.mk hr1_0
  have HC1_0 := Aside0.mk hc1_0
  clear hr1_0 hc1_0
  have HB := Aside0.mk (Below.refl w.heap.size w)
  have H : (if (a0_1 == a1_1) = true then ((rotulusref1_EqCells.f k l0_0 l1_0).bind fun t551 => (some t551)) else (some false)) = some r := h
  clear h
  by_cases c3 : (a0_1 == a1_1) = true
  · rw [if_pos c3] at H
    have c3b0 : (a0_1 == a1_1) = true := c3
    (try (have c3b1 : decide (a0_1 = a1_1) = true := by simpa using c3))
    (try (have c3b2 : (a0_1 == a1_1) = true := by simpa using c3))
    clear c3
    replace H := Option.bind_eq_some_iff.mp H
    obtain ⟨t551, A40, H⟩ := H
    replace H : (some t551) = some r := H
    have A4 := Aside0.mk A40
    clear A40
    obtain rfl := Option.some.inj H
    go_enter Try.func29, Try.ntmps29
    go_wp2_with (first | ((with_reducible refine gate_dst (N := 2) rfl ?_); refine box_event ?hg (N := 2) ?hd (cs := #[.slice A0_0 l0_0.length c0_0, .bool a0_1]) (t := 31) ?hr ?_; (case hd => rfl); (case hg => rfl); (case hr => first | (go_simp; done) | (go_simp; rfl)); intro gb549 hg w5 hbox hb; have n0_ := Aside0.mk (below_step (by repeat (first | (with_reducible first | exact HB.out | apply below_alloc | apply pw_below_drewN | apply below_drew1) | exact HB.out)) hb); have n1_ := Aside0.mk (hbox); have n2_ := Aside0.mk ((by rw [hg]; exact (below_size (by repeat (first | (with_reducible first | exact HB.out | apply below_alloc | apply pw_below_drewN | apply below_drew1) | exact HB.out))) : w.heap.size ≤ gb549)); have n3_ := Aside0.mk ((by rw [hg]; exact (below_size (by repeat (first | (with_reducible first | exact HB.out | apply below_alloc | apply pw_below_drewN | apply below_drew1) | exact HB.out))) : w.heap.size ≤ gb549)); clear HB; have HB := n0_; have BK549 := n1_; have GW549 := n2_; have GE549 := n3_; clear n0_ n1_ n2_ n3_; clear hb hbox hg) | ((with_reducible refine gate_dst (N := 3) rfl ?_); refine box_event ?hg (N := 3) ?hd (cs := #[.slice A1_0 l1_0.length c1_0, .bool a1_1]) (t := 31) ?hr ?_; (case hd => rfl); (case hg => rfl); (case hr => first | (go_simp; done) | (go_simp; rfl)); intro gb550 hg w6 hbox hb; have n0_ := Aside0.mk (blk_below (g := gb549) (o := .cells #[.slice A0_0 l0_0.length c0_0, .bool a0_1] 31 (0, 0)) (by (with_reducible repeat (first | refine blk_drewN ?_ _ | refine blk_drew ?_ | refine blk_alloc ?_ _)); exact BK549.out) hb); have n1_ := Aside0.mk (below_step (by repeat (first | (with_reducible first | exact HB.out | apply below_alloc | apply pw_below_drewN | apply below_drew1 | refine below_set ?_ GE549.out) | exact HB.out)) hb); have n2_ := Aside0.mk (hbox); have n3_ := Aside0.mk ((by rw [hg]; exact (below_size (by repeat (first | (with_reducible first | exact HB.out | apply below_alloc | apply pw_below_drewN | apply below_drew1 | refine below_set ?_ GE549.out) | exact HB.out))) : w.heap.size ≤ gb550)); have n4_ := Aside0.mk ((by rw [hg]; exact (below_size (by repeat (first | (with_reducible first | exact HB.out | apply below_alloc | apply pw_below_drewN | apply below_drew1 | refine below_set ?_ GE549.out) | exact HB.out))) : w.heap.size ≤ gb550)); have n5_ := Aside0.mk ((by rw [hg]; exact Nat.ne_of_lt (blk_lt (g := gb549) (o := .cells #[.slice A0_0 l0_0.length c0_0, .bool a0_1] 31 (0, 0)) (by (with_reducible repeat (first | refine blk_drewN ?_ _ | refine blk_drew ?_ | refine blk_alloc ?_ _)); exact BK549.out)) : gb549 ≠ gb550)); have n6_ := Aside0.mk ((by rw [hg]; exact Nat.ne_of_gt (blk_lt (g := gb549) (o := .cells #[.slice A0_0 l0_0.length c0_0, .bool a0_1] 31 (0, 0)) (by (with_reducible repeat (first | refine blk_drewN ?_ _ | refine blk_drew ?_ | refine blk_alloc ?_ _)); exact BK549.out)) : gb550 ≠ gb549)); clear BK549; clear HB; have BK549 := n0_; have HB := n1_; have BK550 := n2_; have GW550 := n3_; have GE550 := n4_; have NB549_550 := n5_; have NB550_549 := n6_; clear n0_ n1_ n2_ n3_ n4_ n5_ n6_; clear hb hbox hg; have hnb7 := NB549_550.out; have hnc7 := NB550_549.out; have hcz8_0 : w6.cell? ⟨gb549, 0, none⟩ = some (.slice A0_0 l0_0.length c0_0) := (blk_cell BK549.out 0).trans rfl; have hcz8_1 : w6.cell? ⟨gb549, 1, none⟩ = some (.bool a0_1) := (blk_cell BK549.out 1).trans rfl; have hfz8_0 := blk_frozen BK549.out 0; have hfz8_1 := blk_frozen BK549.out 1; have hcz9_0 : w6.cell? ⟨gb550, 0, none⟩ = some (.slice A1_0 l1_0.length c1_0) := (blk_cell BK550.out 0).trans rfl; have hcz9_1 : w6.cell? ⟨gb550, 1, none⟩ = some (.bool a1_1) := (blk_cell BK550.out 1).trans rfl; have hfz9_0 := blk_frozen BK550.out 0; have hfz9_1 := blk_frozen BK550.out 1) | (go_at_call 56; (with_reducible refine (rotulusref1_EqCells.calls k _ _ l0_0 _ _ l1_0 t551 _ ?side1 ?side2 ?side3 ?side4 A4.out).mono ?_); (case side1 => repeat (first | exact (Kd.C_below HR0_0.out HB.out) | (with_reducible refine Kd.C_alloc ?_ _) | (with_reducible refine Kd.C_drewN ?_ _) | (with_reducible refine Kd.C_drew ?_) | exact Kd.C_drewN (Kd.C_below HR0_0.out HB.out) _ | exact Kd.C_drew (Kd.C_below HR0_0.out HB.out) | exact Kd.C_alloc (Kd.C_below HR0_0.out HB.out) _)); (case side2 => exact HC0_0.out); (case side3 => repeat (first | exact (Kd.C_below HR1_0.out HB.out) | (with_reducible refine Kd.C_alloc ?_ _) | (with_reducible refine Kd.C_drewN ?_ _) | (with_reducible refine Kd.C_drew ?_) | exact Kd.C_drewN (Kd.C_below HR1_0.out HB.out) _ | exact Kd.C_drew (Kd.C_below HR1_0.out HB.out) | exact Kd.C_alloc (Kd.C_below HR1_0.out HB.out) _)); (case side4 => exact HC1_0.out); rintro e w' ⟨rfl, ⟨nd, rfl⟩⟩))
    go_ret
    exact ⟨by first | rfl | (simp [errW_none, errW_some] <;> rfl) | (simp [*, errW_none, errW_some] <;> rfl), by repeat (first | (with_reducible first | exact HB.out | apply below_alloc | apply pw_below_drewN | apply below_drew1 | refine below_set ?_ GE549.out | refine below_set ?_ GE550.out) | exact HB.out)⟩
  · rw [if_neg c3] at H
    have c3b0 : (a0_1 == a1_1) = false := by simpa using c3
    (try (have c3b1 : decide (a0_1 = a1_1) = false := by simpa using c3))
    (try (have c3b2 : (a0_1 == a1_1) = false := by simpa using c3))
    (try (have c3b3 : ¬ (a0_1 = a1_1) := by simpa using c3))
    clear c3
    obtain rfl := Option.some.inj H
    go_enter Try.func29, Try.ntmps29
    go_wp2_with (first | ((with_reducible refine gate_dst (N := 2) rfl ?_); refine box_event ?hg (N := 2) ?hd (cs := #[.slice A0_0 l0_0.length c0_0, .bool a0_1]) (t := 31) ?hr ?_; (case hd => rfl); (case hg => rfl); (case hr => first | (go_simp; done) | (go_simp; rfl)); intro gb549 hg w10 hbox hb; have n0_ := Aside0.mk (below_step (by repeat (first | (with_reducible first | exact HB.out | apply below_alloc | apply pw_below_drewN | apply below_drew1) | exact HB.out)) hb); have n1_ := Aside0.mk (hbox); have n2_ := Aside0.mk ((by rw [hg]; exact (below_size (by repeat (first | (with_reducible first | exact HB.out | apply below_alloc | apply pw_below_drewN | apply below_drew1) | exact HB.out))) : w.heap.size ≤ gb549)); have n3_ := Aside0.mk ((by rw [hg]; exact (below_size (by repeat (first | (with_reducible first | exact HB.out | apply below_alloc | apply pw_below_drewN | apply below_drew1) | exact HB.out))) : w.heap.size ≤ gb549)); clear HB; have HB := n0_; have BK549 := n1_; have GW549 := n2_; have GE549 := n3_; clear n0_ n1_ n2_ n3_; clear hb hbox hg) | ((with_reducible refine gate_dst (N := 3) rfl ?_); refine box_event ?hg (N := 3) ?hd (cs := #[.slice A1_0 l1_0.length c1_0, .bool a1_1]) (t := 31) ?hr ?_; (case hd => rfl); (case hg => rfl); (case hr => first | (go_simp; done) | (go_simp; rfl)); intro gb550 hg w11 hbox hb; have n0_ := Aside0.mk (blk_below (g := gb549) (o := .cells #[.slice A0_0 l0_0.length c0_0, .bool a0_1] 31 (0, 0)) (by (with_reducible repeat (first | refine blk_drewN ?_ _ | refine blk_drew ?_ | refine blk_alloc ?_ _)); exact BK549.out) hb); have n1_ := Aside0.mk (below_step (by repeat (first | (with_reducible first | exact HB.out | apply below_alloc | apply pw_below_drewN | apply below_drew1 | refine below_set ?_ GE549.out) | exact HB.out)) hb); have n2_ := Aside0.mk (hbox); have n3_ := Aside0.mk ((by rw [hg]; exact (below_size (by repeat (first | (with_reducible first | exact HB.out | apply below_alloc | apply pw_below_drewN | apply below_drew1 | refine below_set ?_ GE549.out) | exact HB.out))) : w.heap.size ≤ gb550)); have n4_ := Aside0.mk ((by rw [hg]; exact (below_size (by repeat (first | (with_reducible first | exact HB.out | apply below_alloc | apply pw_below_drewN | apply below_drew1 | refine below_set ?_ GE549.out) | exact HB.out))) : w.heap.size ≤ gb550)); have n5_ := Aside0.mk ((by rw [hg]; exact Nat.ne_of_lt (blk_lt (g := gb549) (o := .cells #[.slice A0_0 l0_0.length c0_0, .bool a0_1] 31 (0, 0)) (by (with_reducible repeat (first | refine blk_drewN ?_ _ | refine blk_drew ?_ | refine blk_alloc ?_ _)); exact BK549.out)) : gb549 ≠ gb550)); have n6_ := Aside0.mk ((by rw [hg]; exact Nat.ne_of_gt (blk_lt (g := gb549) (o := .cells #[.slice A0_0 l0_0.length c0_0, .bool a0_1] 31 (0, 0)) (by (with_reducible repeat (first | refine blk_drewN ?_ _ | refine blk_drew ?_ | refine blk_alloc ?_ _)); exact BK549.out)) : gb550 ≠ gb549)); clear BK549; clear HB; have BK549 := n0_; have HB := n1_; have BK550 := n2_; have GW550 := n3_; have GE550 := n4_; have NB549_550 := n5_; have NB550_549 := n6_; clear n0_ n1_ n2_ n3_ n4_ n5_ n6_; clear hb hbox hg; have hnb12 := NB549_550.out; have hnc12 := NB550_549.out; have hcz13_0 : w11.cell? ⟨gb549, 0, none⟩ = some (.slice A0_0 l0_0.length c0_0) := (blk_cell BK549.out 0).trans rfl; have hcz13_1 : w11.cell? ⟨gb549, 1, none⟩ = some (.bool a0_1) := (blk_cell BK549.out 1).trans rfl; have hfz13_0 := blk_frozen BK549.out 0; have hfz13_1 := blk_frozen BK549.out 1; have hcz14_0 : w11.cell? ⟨gb550, 0, none⟩ = some (.slice A1_0 l1_0.length c1_0) := (blk_cell BK550.out 0).trans rfl; have hcz14_1 : w11.cell? ⟨gb550, 1, none⟩ = some (.bool a1_1) := (blk_cell BK550.out 1).trans rfl; have hfz14_0 := blk_frozen BK550.out 0; have hfz14_1 := blk_frozen BK550.out 1))
    go_ret
    exact ⟨by first | rfl | (simp [errW_none, errW_some] <;> rfl) | (simp [*, errW_none, errW_some] <;> rfl), by repeat (first | (with_reducible first | exact HB.out | apply below_alloc | apply pw_below_drewN | apply below_drew1 | refine below_set ?_ GE549.out | refine below_set ?_ GE550.out) | exact HB.out)⟩
end Go.Proofs.Ytkigdcihhlkkdaa.P
end
section
set_option linter.unusedVariables false
set_option linter.unusedSimpArgs false
namespace Go.Proofs.Ytkigdcihhlkkdaa.P
open Go.RowKit Go.Proofs.YtkigdcihhlkkdaaW.PrintWords Go.Proofs.YtkigdcihhlkkdaaW.PrintLast Go.Proofs.YtkigdcihhlkkdaaW.PrintMore Go.Proofs.Ytkigdcihhlkkdaa.Pure
theorem lawRow_ (A : Option Addr) (c : Nat) (l : List S45) (wr : Bool) (w : World) (hC : Kd.C k45 w A l.length l) (hc : l.length ≤ c) :
    Calls Try.prog 23 #[.agg #[.slice A l.length c, .bool wr]] w fun e w' => ∃ v0 : Value, e = .returned (.agg #[v0, .bool wr]) ∧ Kd.R k45 45 w' w.heap.size (fun _ => True) v0 (l.take 310) ∧ Below w.heap.size w w' := by
  refine rotuluslaw4_Row.calls A c l wr (l.take 310) wr w hC hc ?_
  unfold rotuluslaw4_Row.f
  have hmn : mn (l.length : Int) 310 = ((min l.length 310 : Nat) : Int) := by unfold mn; split <;> omega
  have e : l.take ((min l.length 310 : Nat) : Int).toNat = l.take 310 := by
    rw [Int.toNat_natCast]
    by_cases h : l.length ≤ 310
    · rw [Nat.min_eq_left h, List.take_of_length_le (Nat.le_refl _), List.take_of_length_le h]
    · rw [Nat.min_eq_right (by omega)]
  have hl : (l.take 310).length ≤ 310 := by rw [List.length_take]; omega
  rw [hmn, if_pos (by omega), if_pos (by omega), e]
  simp only [Option.bind_some, List.nil_append, List.length_nil]
  rw [if_pos (by omega)]
theorem may_ (A : Option Addr) (c : Nat) (l : List S45) (wr : Bool) (w : World) (hC : Kd.C k45 w A l.length l) (hc : l.length ≤ c) (hl : l.length ≤ 1000) :
    Calls Try.prog 26 #[.agg #[.slice A l.length c, .bool wr]] w fun e w' => e = .returned (.bool (mayB l)) ∧ Below w.heap.size w w' := by
  obtain ⟨k, hk⟩ := Ev.rounds (may_ev l wr (by omega))
  exact pack_May.calls k A c l wr _ w hC hc hk
def putB (l : List S45) (wr : Bool) : List Int := if mayB l then rowB l wr else []
theorem put_ (A : Option Addr) (c : Nat) (l : List S45) (wr : Bool) (w : World) (hC : Kd.C k45 w A l.length l) (hc : l.length ≤ c) (hl : l.length ≤ 1000) :
    Calls Try.prog 24 #[.agg #[.slice A l.length c, .bool wr]] w fun e w' => ∃ v0 : Value, e = .returned (.tuple #[v0, .bool (mayB l)]) ∧ Kd.R (Kd.int .u8) 5 w' w.heap.size (fun _ => True) v0 (putB l wr) ∧ Below w.heap.size w w' := by
  have hm := may_ev l wr (by omega)
  unfold putB
  cases hb : mayB l with
  | true =>
    rw [hb] at hm
    obtain ⟨k, hk⟩ := Ev.rounds (put_ev l wr hl hm)
    exact pack_Put.calls k A c l wr _ _ w hC hc hk
  | false =>
    rw [hb] at hm
    obtain ⟨k, hk⟩ := Ev.rounds (put_no l wr hm)
    exact pack_Put.calls k A c l wr _ _ w hC hc hk
theorem get_ (A : Option Addr) (c : Nat) (l : List S45) (wr : Bool) (rest : List Int) (w : World) (hm : mayB l = true) (hr : ∀ x ∈ rest, 0 ≤ x ∧ x < 256) (hC : Kd.C (Kd.int .u8) w A (rowB l wr ++ rest).length (rowB l wr ++ rest)) (hc : (rowB l wr ++ rest).length ≤ c) :
    Calls Try.prog 30 #[.slice A (rowB l wr ++ rest).length c] w fun e w' => ∃ v0 : Value, e = .returned (.tuple #[.agg #[v0, .bool wr], .int .i64 (rowB l wr).length, .int .i64 0]) ∧ Kd.R k45 45 w' w.heap.size (fun _ => True) v0 l ∧ Below w.heap.size w w' := by
  obtain ⟨k, hk⟩ := Ev.rounds (get_ev l wr hm rest hr)
  exact pack_Get.calls k A c (rowB l wr ++ rest) l wr _ _ w hC hc hk
instance : DecidableEq S45 := fun a b => decidable_of_iff (a.f0 = b.f0 ∧ a.f1 = b.f1 ∧ a.f2 = b.f2) (by
  obtain ⟨a0, a1, a2⟩ := a
  obtain ⟨b0, b1, b2⟩ := b
  simp)
theorem ne45 (a b : S45) : ((!(a.f0 == b.f0) || (!(a.f1 == b.f1) || (!(a.f2 == b.f2)))) = true) ↔ a ≠ b := by
  obtain ⟨a0, a1, a2⟩ := a
  obtain ⟨b0, b1, b2⟩ := b
  simp only [Bool.or_eq_true, Bool.not_eq_true', beq_eq_false_iff_ne, ne_eq, S45.mk.injEq, not_and]
  constructor
  · intro h h0 h1 h2
    rcases h with h | h | h
    · exact h h0
    · exact h h1
    · exact h h2
  · intro h
    by_cases h0 : a0 = b0
    · by_cases h1 : a1 = b1
      · exact .inr (.inr (h h0 h1))
      · exact .inr (.inl h1)
    · exact .inl h0
theorem eqr_loop (a b : List S45) (hab : a.length = b.length) (hl : a.length ≤ 1000000000) : ∀ (d i : Nat), i + d = a.length → Ev (fun k => rotulusref1_EqCells.l0 k a b (i : Int)) (decide (a.drop i = b.drop i))
  | 0, i, hi => by
    refine Ev.step (f := _) (fun k => by rw [rotulusref1_EqCells.l0]) ?_
    refine ev_neg (by omega) ?_
    rw [List.drop_of_length_le (by omega), List.drop_of_length_le (by omega)]
    exact Ev.now _
  | d + 1, i, hi => by
    refine Ev.step (f := _) (fun k => by rw [rotulusref1_EqCells.l0]) ?_
    refine ev_pos (by omega) (ev_pos (by omega) (ev_pos (by omega) ?_))
    rw [rd45_at (by omega), rd45_at (by omega)]
    have e : wrap64 ((i : Int) + 1) = ((i + 1 : Nat) : Int) := by rw [w64_in_ _ (by omega)]; omega
    rw [e, List.drop_eq_getElem_cons (by omega : i < a.length), List.drop_eq_getElem_cons (by omega : i < b.length)]
    by_cases h : a[i] = b[i]
    · refine ev_neg (fun hh => (ne45 _ _).1 hh h) ?_
      have := eqr_loop a b hab hl d (i + 1) (by omega)
      rw [h]
      simp only [List.cons.injEq, true_and]
      exact this
    · refine ev_pos ((ne45 _ _).2 h) ?_
      have : decide (a[i] :: a.drop (i + 1) = b[i] :: b.drop (i + 1)) = false := by
        rw [decide_eq_false_iff_not]
        intro hh
        injection hh with h1 _
        exact h h1
      rw [this]
      exact Ev.now _
def eqB (l : List S45) (wr : Bool) (l' : List S45) (wr' : Bool) : Bool := wr == wr' && decide (l = l')
theorem eqRow_ (A : Option Addr) (c : Nat) (l : List S45) (wr : Bool) (A' : Option Addr) (c' : Nat) (l' : List S45) (wr' : Bool) (w : World) (hC : Kd.C k45 w A l.length l) (hc : l.length ≤ c) (hC' : Kd.C k45 w A' l'.length l') (hc' : l'.length ≤ c') (hl : l.length ≤ 1000) :
    Calls Try.prog 29 #[.agg #[.slice A l.length c, .bool wr], .agg #[.slice A' l'.length c', .bool wr']] w fun e w' => e = .returned (.bool (eqB l wr l' wr')) ∧ Below w.heap.size w w' := by
  have hE : Ev (fun k => rotulusref1_EqRow.f k l wr l' wr') (eqB l wr l' wr') := by
    unfold rotulusref1_EqRow.f eqB
    by_cases hw : (wr == wr') = true
    · refine ev_pos hw ?_
      rw [hw, Bool.true_and]
      refine Ev.bind (a := decide (l = l')) ?_ (Ev.now _)
      unfold rotulusref1_EqCells.f
      by_cases h : l.length = l'.length
      · refine ev_pos (by omega) ?_
        exact eqr_loop l l' h (by omega) l.length 0 (by omega)
      · refine ev_neg (by omega) ?_
        rw [decide_eq_false (fun hh => h (by rw [hh]))]
        exact Ev.now _
    · refine ev_neg hw ?_
      rw [Bool.eq_false_iff.2 hw, Bool.false_and]
      exact Ev.now _
  obtain ⟨k, hk⟩ := Ev.rounds hE
  exact rotulusref1_EqRow.calls k A c l wr A' c' l' wr' _ w hC hc hC' hc' hk
end Go.Proofs.Ytkigdcihhlkkdaa.P
end
section
set_option linter.unusedVariables false
set_option linter.unusedSimpArgs false
namespace Go.Proofs.Ytkigdcihhlkkdaa.P
open Go.RowKit Go.Proofs.YtkigdcihhlkkdaaW.PrintWords Go.Proofs.YtkigdcihhlkkdaaW.PrintLast Go.Proofs.YtkigdcihhlkkdaaW.PrintMore Go.Proofs.Ytkigdcihhlkkdaa.Pure
theorem may_t (l : List S45) (wr : Bool) (hm : mayB l = true) (A : Option Addr) (c : Nat) (hc : l.length ≤ c) (w : World) (hC : Kd.C k45 w A l.length l) :
    Calls Try.prog 26 #[.agg #[.slice A l.length c, .bool wr]] w fun e w' => e = .returned (.bool true) ∧ Below w.heap.size w w' := by
  have h := may_ A c l wr w hC hc (by have := mayB_len hm; omega)
  rwa [hm] at h
theorem put_t (l : List S45) (wr : Bool) (hm : mayB l = true) (A : Option Addr) (c : Nat) (hc : l.length ≤ c) (w : World) (hC : Kd.C k45 w A l.length l) :
    Calls Try.prog 24 #[.agg #[.slice A l.length c, .bool wr]] w fun e w' => ∃ v0 : Value, e = .returned (.tuple #[v0, .bool true]) ∧ Kd.R (Kd.int .u8) 5 w' w.heap.size (fun _ => True) v0 (rowB l wr) ∧ Below w.heap.size w w' := by
  have h := put_ A c l wr w hC hc (by have := mayB_len hm; omega)
  unfold putB at h
  rwa [hm] at h
theorem get_t (l : List S45) (wr : Bool) (hm : mayB l = true) (w : World) (A : Option Addr) (c : Nat) (hC : Kd.C (Kd.int .u8) w A (rowB l wr).length (rowB l wr)) (hc : (rowB l wr).length ≤ c) :
    Calls Try.prog 30 #[.slice A (rowB l wr).length c] w fun e w' => ∃ v0 : Value, e = .returned (.tuple #[.agg #[v0, .bool wr], .int .i64 (rowB l wr).length, .int .i64 0]) ∧ Kd.R k45 45 w' w.heap.size (fun _ => True) v0 l ∧ Below w.heap.size w w' := by
  have h := get_ A c l wr [] w hm (by simp)
  rw [List.append_nil] at h
  exact h hC hc
theorem eqB_self (l : List S45) (wr : Bool) : eqB l wr l wr = true := by simp [eqB]
theorem may_no (l : List S45) (wr : Bool) (hm : mayB l = false) (hl : l.length ≤ 1000) (A : Option Addr) (c : Nat) (hc : l.length ≤ c) (w : World) (hC : Kd.C k45 w A l.length l) :
    Calls Try.prog 26 #[.agg #[.slice A l.length c, .bool wr]] w fun e w' => e = .returned (.bool false) ∧ Below w.heap.size w w' := by
  have h := may_ A c l wr w hC hc hl
  rwa [hm] at h
end Go.Proofs.Ytkigdcihhlkkdaa.P
end
