/- own texts of this session, put together -/
import Derived.Test.YtkigdcihhlkkdaaTZ0
import Derived.Laws.CopyOwn
import Derived.BigRegion
import Derived.Deep.RegionLaw
import Derived.Laws.BitsAllLaws
section
set_option linter.unusedVariables false
set_option linter.unusedSimpArgs false
namespace Go.Proofs.Ytkigdcihhlkkdaa.P
open Go.RowKit Go.Proofs.YtkigdcihhlkkdaaW.PrintWords Go.Proofs.YtkigdcihhlkkdaaW.PrintLast Go.Proofs.YtkigdcihhlkkdaaW.PrintMore
section
attribute [local go_sem] max2_int min2_int max_two min_two max_three min_three max_four min_four
def bits_Mul32.f (a0 : Int) (a1 : Int) : Option (Int × Int) := some (((IntKind.u64.wrap ((IntKind.u64.wrap (a0)) * (IntKind.u64.wrap (a1)))) / 4294967296) % 4294967296, (IntKind.u64.wrap ((IntKind.u64.wrap (a0)) * (IntKind.u64.wrap (a1)))) % 4294967296)
set_option maxHeartbeats 8000000 in
set_option maxRecDepth 100000 in
theorem bits_Mul32.calls (a0 : Int) (a1 : Int) (r1 : Int) (r2 : Int) (w : World) (h : bits_Mul32.f a0 a1 = some (r1, r2)) :
    Calls Try.prog 83 #[.int .u32 a0, .int .u32 a1] w fun e w' => e = .returned (.tuple #[.int .u32 r1, .int .u32 r2]) ∧ Drawn0 w w' := by
  have H : (some (((IntKind.u64.wrap ((IntKind.u64.wrap (a0)) * (IntKind.u64.wrap (a1)))) / 4294967296) % 4294967296, (IntKind.u64.wrap ((IntKind.u64.wrap (a0)) * (IntKind.u64.wrap (a1)))) % 4294967296)) = some (r1, r2) := h
  clear h
  simp only [Option.some.injEq, Prod.mk.injEq] at H
  obtain ⟨rfl, rfl⟩ := H
  go_enter Try.func83, Try.ntmps83
  go_wp2
  go_ret2
  exact ⟨by first | rfl | (simp; done) | (simp [*]; done), by repeat (first | exact Drawn0.refl _ | apply Drawn0.step)⟩
def bits_Mul64.f (a0 : Int) (a1 : Int) : Option (Int × Int) := some (IntKind.u64.wrap ((IntKind.u64.wrap ((IntKind.u64.wrap ((a0 / 4294967296) * (a1 / 4294967296))) + ((IntKind.u64.wrap ((IntKind.u64.wrap ((a0 / 4294967296) * (Go.bits .and .u64 a1 4294967295))) + ((IntKind.u64.wrap ((Go.bits .and .u64 a0 4294967295) * (Go.bits .and .u64 a1 4294967295))) / 4294967296))) / 4294967296))) + ((IntKind.u64.wrap ((Go.bits .and .u64 (IntKind.u64.wrap ((IntKind.u64.wrap ((a0 / 4294967296) * (Go.bits .and .u64 a1 4294967295))) + ((IntKind.u64.wrap ((Go.bits .and .u64 a0 4294967295) * (Go.bits .and .u64 a1 4294967295))) / 4294967296))) 4294967295) + (IntKind.u64.wrap ((Go.bits .and .u64 a0 4294967295) * (a1 / 4294967296))))) / 4294967296)), IntKind.u64.wrap (a0 * a1))
set_option maxHeartbeats 8000000 in
set_option maxRecDepth 100000 in
theorem bits_Mul64.calls (a0 : Int) (a1 : Int) (r1 : Int) (r2 : Int) (w : World) (h : bits_Mul64.f a0 a1 = some (r1, r2)) :
    Calls Try.prog 84 #[.int .u64 a0, .int .u64 a1] w fun e w' => e = .returned (.tuple #[.int .u64 r1, .int .u64 r2]) ∧ Drawn0 w w' := by
  have H : (some (IntKind.u64.wrap ((IntKind.u64.wrap ((IntKind.u64.wrap ((a0 / 4294967296) * (a1 / 4294967296))) + ((IntKind.u64.wrap ((IntKind.u64.wrap ((a0 / 4294967296) * (Go.bits .and .u64 a1 4294967295))) + ((IntKind.u64.wrap ((Go.bits .and .u64 a0 4294967295) * (Go.bits .and .u64 a1 4294967295))) / 4294967296))) / 4294967296))) + ((IntKind.u64.wrap ((Go.bits .and .u64 (IntKind.u64.wrap ((IntKind.u64.wrap ((a0 / 4294967296) * (Go.bits .and .u64 a1 4294967295))) + ((IntKind.u64.wrap ((Go.bits .and .u64 a0 4294967295) * (Go.bits .and .u64 a1 4294967295))) / 4294967296))) 4294967295) + (IntKind.u64.wrap ((Go.bits .and .u64 a0 4294967295) * (a1 / 4294967296))))) / 4294967296)), IntKind.u64.wrap (a0 * a1))) = some (r1, r2) := h
  clear h
  simp only [Option.some.injEq, Prod.mk.injEq] at H
  obtain ⟨rfl, rfl⟩ := H
  go_enter Try.func84, Try.ntmps84
  go_wp2
  go_ret2
  exact ⟨by first | rfl | (simp; done) | (simp [*]; done), by repeat (first | exact Drawn0.refl _ | apply Drawn0.step)⟩
def bits_Mul.f (a0 : Int) (a1 : Int) : Option (Int × Int) := (bits_Mul64.f a0 a1).bind fun bt172 => (some (bt172.1, bt172.2))
set_option maxHeartbeats 8000000 in
set_option maxRecDepth 100000 in
theorem bits_Mul.calls (a0 : Int) (a1 : Int) (r1 : Int) (r2 : Int) (w : World) (h : bits_Mul.f a0 a1 = some (r1, r2)) :
    Calls Try.prog 68 #[.int .u64 a0, .int .u64 a1] w fun e w' => e = .returned (.tuple #[.int .u64 r1, .int .u64 r2]) ∧ Drawn0 w w' := by
  have H : ((bits_Mul64.f a0 a1).bind fun bt172 => (some (bt172.1, bt172.2))) = some (r1, r2) := h
  clear h
  replace H := Option.bind_eq_some_iff.mp H
  obtain ⟨⟨t172, t173⟩, A30, H⟩ := H
  replace H : (some (t172, t173)) = some (r1, r2) := H
  have A3 := Aside0.mk A30
  clear A30
  simp only [Option.some.injEq, Prod.mk.injEq] at H
  obtain ⟨rfl, rfl⟩ := H
  go_enter Try.func68, Try.ntmps68
  go_wp2_with (first | ((with_reducible refine gate_callee (f := 84) rfl ?_); refine goesL_ (some 25) rfl rfl Try.func84 (by kernel_rfl) rfl #[.int .u64 a0, .int .u64 a1] rfl (by (try simp only [List.map_toArray, List.map_cons, List.map_nil]); first | done | rfl | (simp only [List.length_drop, List.length_take]; rfl)) ?_; (with_reducible refine (bits_Mul64.calls a0 a1 t172 t173 _ A3.out).mono ?_); rintro e w' ⟨rfl, ⟨nd, rfl⟩⟩; refine ⟨_, rfl, ?_⟩))
  go_ret2
  exact ⟨by first | rfl | (simp; done) | (simp [*]; done), by repeat (first | exact Drawn0.refl _ | apply Drawn0.step)⟩
end
theorem run_copy_rows {P : Program} (w : World) (dT sT ty elem : TypeId) (size g o dLen dCap : Nat) (a : Addr) (sLen sCap : Nat) (cur : Array Value) (t : TypeId) (cs : List Value)
    (hu : P.underlying dT = some (.slice elem)) (hs : (P.info? elem).map (·.size) = some size)
    (hg : w.heap[g]? = some (.cells cur t (0, 0))) (hn : cs.length = Nat.min sLen dLen * size)
    (hsrc : ∀ j v, cs[j]? = some v → w.cell? (a.add j) = some v) (hfit : o + cs.length ≤ cur.size) (h1 : ∀ v ∈ cs, v.oneCell' = true) :
    (Builtin.copy_ #[dT, sT] ty #[.slice (some ⟨g, o, none⟩) dLen dCap, .slice (some a) sLen sCap]).run P w =
      .ok (goInt (Nat.min sLen dLen)) (w.setRow g (cur.toList.take o ++ cs ++ cur.toList.drop (o + cs.length)).toArray) := by
  have hl := run_firstCells_some (P := P) w size (Nat.min sLen dLen) a sLen sCap cs hn hsrc
  have hst := run_storeCells_at P g o t cs 0 cur w hg (by simpa using hfit) h1
  cases hq : P.info? elem with
  | none => simp [hq] at hs
  | some i =>
    have hi : i.size = size := by simpa [hq] using hs
    simp [Builtin.copy_, run_underlying hu, Builtin.lenOf, sizeOf, typeInfo, hq, hi, hl, hst]
theorem step_copy_run {P : Program} (w : World) {ops : Array Oper} {o : Oper} {a : Act} {K : Act → World → Prop} {Q : Exit → Act → World → Prop} {E : Prop} (hgd : o.guard = none) (d s : Operand) (t t' : TypeId)
    (ho : o.op = .call { callee := .builtin .copy, args := #[d, s], argTypes := #[t, t'] }) (v u : Value) (hd : a.eval d = v) (hs : a.eval s = u) {v' : Value} {w' : World}
    (hr : (Builtin.copy_ #[t, t'] o.type #[v, u]).run P w = .ok v' w') (h : K (a.put o.dst v') w') : if Region.wanted o (yielded ops a.tmps) = true then Oper.wp P o a w K Q else E := by
  have hw : Region.wanted o (yielded ops a.tmps) = true := by simp [Region.wanted, hgd]
  rw [if_pos hw]
  unfold Oper.wp execOp
  simp only [ho, resolve, invoke, builtin, Sem.run_bind, Sem.run_pure, Result.andThen_ok, List.map_toArray, List.map_cons, List.map_nil, hd, hs, hr]
  exact h
theorem wpList_copy_run' {P : Program} (w : World) {ops : Array Oper} {rest : List Oper} {o : Oper} {a : Act} {Q : Exit → Act → World → Prop} (hgd : o.guard = none) (d s : Operand) (t t' : TypeId)
    (ho : o.op = .call { callee := .builtin .copy, args := #[d, s], argTypes := #[t, t'] }) (v u : Value) (hd : a.eval d = v) (hs : a.eval s = u) {v' : Value} {w' : World}
    (hr : (Builtin.copy_ #[t, t'] o.type #[v, u]).run P w = .ok v' w') (h : wpList P ops Q rest (a.put o.dst v') w') : wpList P ops Q (o :: rest) a w :=
  wpList_plain hgd fun _ hK => by
    unfold Oper.wp execOp
    simp only [ho, resolve, invoke, builtin, Sem.run_bind, Sem.run_pure, Result.andThen_ok, List.map_toArray, List.map_cons, List.map_nil, hd, hs, hr]
    exact hK _ _ h
theorem u64_mask32 (n : Int) (h0 : 0 ≤ n) (h1 : n < 4294967296) : Go.bits .and .u64 n 4294967295 = n := by
  rw [u64_and n 4294967295 h0 (by omega) (by decide) (by decide), show (4294967295 : Int).toNat = 2 ^ 32 - 1 from rfl, Nat.and_two_pow_sub_one_eq_mod]
  omega
theorem mul_one_ (n : Int) (h0 : 0 ≤ n) (h1 : n < 4294967296) : bits_Mul.f 1 n = some (0, n) := by
  unfold bits_Mul.f bits_Mul64.f
  simp only [Option.bind_some, u64_mask32 n h0 h1, show Go.bits .and .u64 1 4294967295 = 1 by decide, IntKind.wrap_u64, show (1 : Int) / 4294967296 = 0 by decide, Int.zero_mul, Int.one_mul, Int.mul_one]
  have e1 : n / 4294967296 = 0 := by omega
  have e2 : n % 18446744073709551616 = n := by omega
  simp only [e1, e2]
  simp only [show Go.bits .and .u64 0 4294967295 = 0 by decide, Int.zero_emod, Int.zero_ediv, Int.add_zero, Int.zero_add]
def cell3 (c : S45) : List Value := [.int .i32 c.f0, .int .i64 c.f1, .int .i64 c.f2]
def rep3 (m : Nat) (c : S45) : List Value := (List.replicate m (cell3 c)).flatten
theorem rep3_len (m : Nat) (c : S45) : (rep3 m c).length = m * 3 := by simp [rep3, cell3]
theorem rep3_add (a b : Nat) (c : S45) : rep3 (a + b) c = rep3 a c ++ rep3 b c := by
  unfold rep3
  rw [← List.flatten_append, List.replicate_append_replicate]
theorem rep3_one (m : Nat) (c : S45) : ∀ v ∈ rep3 m c, v.oneCell' = true := by
  intro v hv
  simp only [rep3, List.mem_flatten, List.mem_replicate] at hv
  obtain ⟨l, ⟨_, rfl⟩, hv⟩ := hv
  simp only [cell3, List.mem_cons, List.not_mem_nil, or_false] at hv
  rcases hv with rfl | rfl | rfl <;> rfl
theorem rep3_reps (W : World) (b : Nat) (ok : Nat → Prop) (m : Nat) (c : S45) : Reps (k45.M W b ok) 3 (List.replicate m c) (rep3 m c) := by
  refine ⟨by rw [rep3_len, List.length_replicate], fun j p hj => ?_⟩
  have hjm : j < m := by have := (List.getElem?_eq_some_iff.1 hj).1; simpa using this
  have hp : p = c := by rw [List.getElem?_replicate, if_pos hjm] at hj; exact (Option.some.inj hj).symm
  subst hp
  have e : ((rep3 m p).drop (j * 3)).take 3 = cell3 p := by
    have e1 : rep3 m p = rep3 j p ++ (rep3 1 p ++ rep3 (m - j - 1) p) := by rw [← rep3_add, ← rep3_add]; congr 1; omega
    rw [e1, List.drop_left' (rep3_len j p), List.take_left' (rep3_len 1 p)]
    simp [rep3]
  rw [e]
  exact k45_mkM W b ok p
def slices_Repeat.f (l0 : List S45) (n : Int) : Option (List S45) := if l0.length = 1 ∧ 0 ≤ n ∧ n ≤ 1000000 then some (List.replicate n.toNat (rd_T45 l0 0)) else none
set_option maxHeartbeats 8000000 in
set_option maxRecDepth 100000 in
theorem slices_Repeat.calls (A0 : Option Addr) (c0 : Nat) (l0 : List S45) (a1 : Int) (r : List S45) (w : World) (hr0 : Kd.C k45 w A0 l0.length l0) (hc0 : l0.length ≤ c0) (h : slices_Repeat.f l0 a1 = some r) :
    Calls Try.prog 58 #[.slice A0 l0.length c0, .int .i64 a1] w fun e w' => ∃ v0_ : Value, e = .returned (v0_) ∧ Kd.R k45 45 w' w.heap.size (fun _ => True) v0_ r ∧ Below w.heap.size w w' := by
  unfold slices_Repeat.f at h
  split at h
  case isFalse => cases h
  case isTrue hh =>
  obtain ⟨hl1, hn0, hn1⟩ := hh
  obtain rfl := Option.some.inj h
  clear h
  obtain ⟨n, rfl⟩ := Int.eq_ofNat_of_zero_le hn0
  obtain ⟨ad, cs, rfl, _, hK, hcc⟩ := Kd.C_get hr0 z45 0 (by decide) (by omega)
  rw [Int.toNat_natCast]
  change k45.K w (rd_T45 l0 0) cs at hK
  generalize rd_T45 l0 0 = c at hK ⊢
  obtain rfl := k45_open hK
  have hsrc0 : ∀ j u, (cell3 c)[j]? = some u → w.cell? (ad.add j) = some u := fun j u hu => by have := hcc j u hu; rwa [show (0 : Int).toNat * k45.sz + j = j by simp] at this
  have hA := Aside0.mk hcc
  clear hcc
  have hmul := fun m => bits_Mul.calls 1 n 0 n (w.drewN m) (mul_one_ n (by omega) (by omega))
  have hw1 : IntKind.u64.wrap (n : Int) = n := by rw [IntKind.wrap_u64]; omega
  have hw2 : IntKind.i64.wrap (n : Int) = n := by rw [IntKind.wrap_i64]; omega
  have hmul0 := bits_Mul.calls 1 n 0 n w (mul_one_ n (by omega) (by omega))
  rw [hl1] at hc0 ⊢
  go_enter Try.func58, Try.ntmps58
  go_wp2_with (first
    | (go_at_call 68; refine hmul0.mono ?_; rintro e w1 ⟨rfl, hd1⟩; obtain ⟨m1, rfl⟩ := hd1.out)
    | ((with_reducible refine gate_dst (N := 30) rfl ?_)
       refine Kd.R_make k45 (w0 := w) w.heap.size 45 (by rfl) (N := 30) (by rfl) 29 (.tmp 29) (.tmp 29) (by rfl) n (by rfl) (by rfl) Try.underlying29 (.agg #[(.int .i32 0), (.int .i64 0), (.int .i64 0)]) 24 info45 rfl (by decide) (by decide) z45 (ok := fun _ => True) (okp := fun _ => True) (k45_mkM _ _ _ z45) (fun _ h => h) trivial (by omega) (by omega) (pw_below_drewN (Below.refl _ _) m1) (Nat.le_refl _) ?_
       intro v2 w2 hR2 hB2 hg2 hnew2
       rw [Int.toNat_natCast] at hR2
       obtain ⟨_, inner, ho, _⟩ := hR2
       rw [List.length_replicate] at ho
       obtain ⟨g, cap, cur, rfl, hgb, hh, hnc, hcm, hcs⟩ : ∃ g cap cur, v2 = .slice (some ⟨g, 0, none⟩) n cap ∧ w.heap.size ≤ g ∧ w2.heap[g]? = some (.cells cur 45 (0, 0)) ∧ n ≤ cap ∧ cap ≤ maxLen ∧ cur.size = cap * 3 := by
         rcases ho.2 with ⟨rfl, _⟩ | ⟨g, cap, cur, hv, h1, h2, h3, h4, h5, _⟩
         · obtain ⟨b, hb, _⟩ := hnew2; simp [Value.ownBlock] at hb
         · exact ⟨g, cap, cur, hv, h1, h2, h3, h4, h5⟩
       have hcp := run_copy_rows (P := Try.prog) w2 29 29 3 45 3 g 0 n cap ad 1 c0 cur 45 (rep3 (Nat.min 1 n) c) Try.underlying29 (by kernel_rfl) hh (rep3_len _ _) (fun j u hu => by
         have hu2 : (cell3 c)[j]? = some u := by
           rcases Nat.eq_zero_or_pos n with h0 | h0
           · subst h0; simp [rep3] at hu
           · rw [show Nat.min 1 n = 1 from Nat.min_eq_left h0] at hu; simpa [rep3] using hu
         have := hsrc0 j u hu2
         exact (hB2.cell (World.block_lt_of_cell? w _ this)).trans this) (by rw [rep3_len, hcs]; have : Nat.min 1 n ≤ cap := Nat.le_trans (Nat.min_le_right _ _) hnc; omega) (rep3_one _ _)
       have hcpd : ∀ x, (Builtin.copy_ #[29, 29] 3 #[.slice (some ⟨g, 0, none⟩) n cap, .slice (some ad) 1 c0]).run Try.prog w2 = x → x = x := fun _ _ => rfl)
    | ((with_reducible refine gate_builtin (b := .copy) rfl ?_)
       refine wpList_copy_run' w2 (by rfl) (.tmp 31) (.tmp 32) 29 29 (by rfl) (.slice (some ⟨g, 0, none⟩) n cap) (.slice (some ad) 1 c0) (by rfl) (by rfl) hcp ?_
       obtain ⟨w3, hw3⟩ : ∃ w3, w3 = w2.setRow g (cur.toList.take 0 ++ rep3 (Nat.min 1 n) c ++ cur.toList.drop (0 + (rep3 (Nat.min 1 n) c).length)).toArray := ⟨_, rfl⟩
       rw [← hw3]
       have hh3 : w3.heap[g]? = some (.cells (rep3 (Nat.min 1 n) c ++ cur.toList.drop (rep3 (Nat.min 1 n) c).length).toArray 45 (0, 0)) := by
         rw [hw3]
         have := setRow_heap w2 g cur (cur.toList.take 0 ++ rep3 (Nat.min 1 n) c ++ cur.toList.drop (0 + (rep3 (Nat.min 1 n) c).length)).toArray 45 (0, 0) hh
         simpa using this
       have hB3 : Below w.heap.size w w3 := by rw [hw3]; exact below_setRow hB2 hgb _
       have hLL : (rep3 (Nat.min 1 n) c ++ cur.toList.drop (rep3 (Nat.min 1 n) c).length).length = cap * 3 := by
         have h1 : Nat.min 1 n ≤ cap := Nat.le_trans (Nat.min_le_right _ _) hnc
         rw [List.length_append, List.length_drop, rep3_len, Array.length_toList, hcs]; omega
       generalize hL : rep3 (Nat.min 1 n) c ++ cur.toList.drop (rep3 (Nat.min 1 n) c).length = L at hh3 hLL
       have hL3 : L.take (Nat.min 1 n * 3) = rep3 (Nat.min 1 n) c := by rw [← hL, List.take_left' (rep3_len _ _)]
       clear hcp hcpd hw3)
    | fail)
  go_loopg [8] (n + 1) (fun kq v8 w' => ∃ (m : Nat) (L : List Value), v8 = .int .i64 (m : Int) ∧ Aside0 (m ≤ n ∧ (n = 0 ∨ 1 ≤ m) ∧ w'.heap[g]? = some (.cells L.toArray 45 (0, 0)) ∧ L.length = cap * 3 ∧ L.take (m * 3) = rep3 m c ∧ Below w.heap.size w w' ∧ n < kq + m))
  case atStart =>
    refine ⟨Nat.min 1 n, L, ?_, ⟨Nat.min_le_right _ _, ?_, hh3, hLL, hL3, hB3, by omega⟩⟩
    · rfl
    · rcases Nat.eq_zero_or_pos n with h0 | h0
      · exact .inl h0
      · exact .inr (by rw [show Nat.min 1 n = 1 from Nat.min_eq_left h0]; exact Nat.le_refl _)
  case round =>
    obtain ⟨m, L2, rfl, HA⟩ := hrel
    by_cases hm : m < n
    · have hmc : m < cap := by omega
      have hne : ¬ cap = m := by omega
      have hq1 : (m : Int) ≤ (n : Int) := by omega
      have hq2 : (0 : Int) ≤ (m : Int) := by omega
      have hq3 : (m : Int) ≤ (cap : Int) := by omega
      have hq4 : (n : Int) ≤ (cap : Int) := by omega
      have hwm : IntKind.i64.wrap ((m : Int) + (Nat.min m (n - m) : Nat)) = (m : Int) + (Nat.min m (n - m) : Nat) := by have : Nat.min m (n - m) ≤ n := Nat.le_trans (Nat.min_le_right _ _) (by omega); rw [IntKind.wrap_i64]; omega
      have hkm : Nat.min m (n - m) ≤ m := Nat.min_le_left _ _
      have hkn : Nat.min m (n - m) ≤ n - m := Nat.min_le_right _ _
      have hk1 : 1 ≤ m → 1 ≤ Nat.min m (n - m) := fun h => Nat.le_min.2 ⟨h, by omega⟩
      generalize hk : Nat.min m (n - m) = k at hwm hkm hkn hk1
      have hHA := HA.out
      have hsplit : L2.take (m * 3) = rep3 k c ++ rep3 (m - k) c := by rw [hHA.2.2.2.2.1, ← rep3_add]; congr 1; omega
      have hcp := run_copy_rows (P := Try.prog) wr.drew 29 29 3 45 3 g (m * 3) (n - m) (cap - m) ⟨g, 0, none⟩ m cap L2.toArray 45 (rep3 k c) Try.underlying29 (by kernel_rfl) hHA.2.2.1 (by rw [rep3_len, hk]) (fun j u hu => by
        have hj : j < k * 3 := by have := (List.getElem?_eq_some_iff.1 hu).1; rwa [rep3_len] at this
        have h2 : L2[j]? = some u := by
          have h3 : (L2.take (m * 3))[j]? = some u := by rw [hsplit, List.getElem?_append_left (by rw [rep3_len]; exact hj)]; exact hu
          rw [List.getElem?_take, if_pos (by omega)] at h3
          exact h3
        have h4 : (⟨g, 0, none⟩ : Addr).add j = ⟨g, j, none⟩ := by unfold Addr.add; split <;> simp_all
        rw [h4, cell_of_row wr.drew g j L2.toArray 45 (0, 0) hHA.2.2.1]
        simpa using h2) (by rw [rep3_len]; have := hHA.2.2.2.1; simp; omega) (rep3_one _ _)
      rw [hk] at hcp
      obtain ⟨w5, hw5⟩ : ∃ w5, w5 = wr.drew.setRow g (L2.toArray.toList.take (m * 3) ++ rep3 k c ++ L2.toArray.toList.drop (m * 3 + (rep3 k c).length)).toArray := ⟨_, rfl⟩
      rw [← hw5] at hcp
      have hh5 : w5.heap[g]? = some (.cells (L2.take (m * 3) ++ rep3 k c ++ L2.drop (m * 3 + (rep3 k c).length)).toArray 45 (0, 0)) := by
        rw [hw5]
        simpa using setRow_heap wr.drew g L2.toArray (L2.toArray.toList.take (m * 3) ++ rep3 k c ++ L2.toArray.toList.drop (m * 3 + (rep3 k c).length)).toArray 45 (0, 0) hHA.2.2.1
      have hB5 : Below w.heap.size w w5 := by rw [hw5]; exact below_setRow (below_drew hHA.2.2.2.2.2.1) hgb _
      clear hw5
      have hcpA := Aside0.mk hcp
      have hHB := Aside0.mk hHA
      have hh5A := Aside0.mk hh5
      have hB5A := Aside0.mk hB5
      clear hcp hHA hh5 hB5 hsplit hmul hmul0 hr0 hK hA hh3 hL3 hLL hL hB3 hh hB2 hg2 hnew2 ho hsrc0
      go_wp2
      go_region_law (refine step_copy_run wr.drew (by rfl) (.tmp 41) (.tmp 44) 29 29 (by rfl) (.slice (some ⟨g, m * 3, none⟩) (n - m) (cap - m)) (.slice (some ⟨g, 0, none⟩) m cap) (by rfl) (by rfl) hcpA.out ?_)
      have hHA := hHB.out
      have hh5 := hh5A.out
      have hB5 := hB5A.out
      go_wp2
      go_roundg (gk - 1)
      case measure => have := HA.out.2.2.2.2.2.2; omega
      case rel =>
        refine ⟨m + k, _, by simp, ⟨by omega, .inr (by rcases hHA.2.1 with h | h <;> omega), hh5, ?_, ?_, hB5, by have := hHA.2.2.2.2.2.2; have := hk1 (by rcases hHA.2.1 with h | h <;> omega); omega⟩⟩
        · have := hHA.2.2.2.1
          simp only [List.length_append, List.length_take, List.length_drop, rep3_len]
          omega
        · rw [hHA.2.2.2.2.1, ← rep3_add, List.take_left' (by rw [rep3_len])]
    · go_wp2
      go_ret
      have hHA := HA.out
      have hmn : m = n := by omega
      subst hmn
      refine ⟨.slice (some ⟨g, 0, none⟩) m cap, rfl, ⟨fun _ _ => trivial, rep3 m c, ⟨by rw [List.length_replicate]; exact rep3_len _ _, .inr ⟨g, cap, L2.toArray, by rw [List.length_replicate], hgb, hHA.2.2.1, by rw [List.length_replicate]; exact hnc, hcm, by rw [List.size_toArray]; exact hHA.2.2.2.1, by rw [List.length_replicate]; exact hHA.2.2.2.2.1⟩⟩, rep3_reps _ _ _ _ _⟩, hHA.2.2.2.2.2.1⟩
end Go.Proofs.Ytkigdcihhlkkdaa.P
end
section
namespace Go.Proofs.Ytkigdcihhlkkdaa.P
open Go.RowKit Go.Proofs.YtkigdcihhlkkdaaW.PrintWords Go.Proofs.YtkigdcihhlkkdaaW.PrintLast Go.Proofs.YtkigdcihhlkkdaaW.PrintMore
attribute [local go_sem] max2_int min2_int max_two min_two max_three min_three max_four min_four   -- for this text's walks alone
set_option linter.unusedVariables false
set_option linter.unusedSimpArgs false
abbrev api_Cell_58.f := slices_Repeat.f
theorem api_Cell_58.calls (A0 : Option Addr) (c0 : Nat) (l0 : List S45) (a1 : Int) (r : List S45) (w : World) (hr0 : Kd.C k45 w A0 l0.length l0) (hc0 : l0.length ≤ c0) (h : api_Cell_58.f l0 a1 = some r) :
    Calls Try.prog 58 #[.slice A0 l0.length c0, .int .i64 a1] w fun e w' => ∃ v0_ : Value, e = .returned (v0_) ∧ Kd.R k45 45 w' w.heap.size (fun _ => True) v0_ r ∧ Below w.heap.size w w' := slices_Repeat.calls A0 c0 l0 a1 r w hr0 hc0 h
end Go.Proofs.Ytkigdcihhlkkdaa.P
end
