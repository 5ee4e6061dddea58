/- Helpers: how a sign is written; what is read of it. -/
import Derived.Test.YtohafoihegjlnaaPx9
import Derived.Test.YtohafoihegjlnaaMu
set_option linter.unusedVariables false
set_option linter.unusedSimpArgs false
namespace Go.Proofs.Ytohafoihegjlnaa.Pure
open Go.RowKit Go.Proofs.Ytohafoihegjlnaa.P Go.Proofs.YtohafoihegjlnaaW.PrintWords Go.Proofs.YtohafoihegjlnaaW.PrintLast

def sgn (r : Int) : Prop := 0 ≤ r ∧ r ≤ 1114111 ∧ (r < 55296 ∨ 57343 < r)
instance (r : Int) : Decidable (sgn r) := by unfold sgn; infer_instance
def fix (r : Int) : Int := if sgn r then r else 65533
theorem fix_sgn (r : Int) : sgn (fix r) := by unfold fix; split; assumption; unfold sgn; omega
def enc0 (r : Int) : List Int := if r < 128 then [r] else if r < 2048 then [192 + r / 64, 128 + r % 64] else if r < 65536 then [224 + r / 4096, 128 + r / 64 % 64, 128 + r % 64] else [240 + r / 262144, 128 + r / 4096 % 64, 128 + r / 64 % 64, 128 + r % 64]
/-- how a sign is written -/
def enc (r : Int) : List Int := enc0 (fix r)
theorem enc0_range (r : Int) (h : sgn r) : ∀ b ∈ enc0 r, 0 ≤ b ∧ b ≤ 255 := by
  unfold sgn at h
  intro b hb
  unfold enc0 at hb
  split at hb
  · simp at hb; omega
  split at hb
  · simp at hb; omega
  split at hb
  · simp at hb; omega
  · simp at hb; omega
theorem enc_range (r : Int) : ∀ b ∈ enc r, 0 ≤ b ∧ b ≤ 255 := enc0_range _ (fix_sgn r)
theorem enc0_len (r : Int) : (enc0 r).length ≤ 4 := by
  unfold enc0
  (repeat' split) <;> simp
theorem enc_len (r : Int) : (enc r).length ≤ 4 := enc0_len _
theorem dec_enc0 (r : Int) (h : sgn r) (t : List Int) : dec (enc0 r ++ t) = cons1 r (dec t) := by
  unfold sgn at h
  unfold enc0
  by_cases c1 : r < 128
  · rw [if_pos c1, List.singleton_append, dec.eq_def]
    have : nb r = 1 := by unfold nb; rw [if_pos c1]
    simp only [this, if_true]
  rw [if_neg c1]
  by_cases c2 : r < 2048
  · rw [if_pos c2, List.cons_append, List.singleton_append, dec.eq_def]
    have e : nb (192 + r / 64) = 2 := by unfold nb; rw [if_neg (by omega), if_pos (by omega)]
    have l : lo2 (192 + r / 64) = 128 := by unfold lo2; rw [if_neg (by omega), if_neg (by omega)]
    have hh : hi2 (192 + r / 64) = 191 := by unfold hi2; rw [if_neg (by omega), if_neg (by omega)]
    simp only [e, l, hh]
    rw [if_neg (by decide), if_neg (by decide), if_pos (by omega), if_pos trivial]
    congr 1
    omega
  rw [if_neg c2]
  by_cases c3 : r < 65536
  · rw [if_pos c3, List.cons_append, List.cons_append, List.singleton_append, dec.eq_def]
    have e : nb (224 + r / 4096) = 3 := by unfold nb; rw [if_neg (by omega), if_neg (by omega), if_pos (by omega)]
    have l : lo2 (224 + r / 4096) ≤ 128 + r / 64 % 64 := by unfold lo2; split; omega; split <;> omega
    have hh : 128 + r / 64 % 64 ≤ hi2 (224 + r / 4096) := by unfold hi2; split; omega; split <;> omega
    simp only [e]
    rw [if_neg (by decide), if_neg (by decide), if_pos ⟨l, hh⟩, if_neg (by decide), if_pos (by omega), if_pos trivial]
    congr 1
    omega
  · rw [if_neg c3, List.cons_append, List.cons_append, List.cons_append, List.singleton_append, dec.eq_def]
    have e : nb (240 + r / 262144) = 4 := by unfold nb; rw [if_neg (by omega), if_neg (by omega), if_neg (by omega), if_pos (by omega)]
    have l : lo2 (240 + r / 262144) ≤ 128 + r / 4096 % 64 := by unfold lo2; split; omega; split <;> omega
    have hh : 128 + r / 4096 % 64 ≤ hi2 (240 + r / 262144) := by unfold hi2; split; omega; split <;> omega
    simp only [e]
    rw [if_neg (by decide), if_neg (by decide), if_pos ⟨l, hh⟩, if_neg (by decide), if_pos (by omega), if_neg (by decide), if_pos (by omega)]
    congr 1
    omega
theorem dec_enc (r : Int) (t : List Int) : dec (enc r ++ t) = cons1 (fix r) (dec t) := dec_enc0 _ (fix_sgn r) t

theorem or192 (x : Int) (h0 : 0 ≤ x) (h1 : x < 32) : Go.bits .or .u8 192 x = 192 + x := by
  have : ∀ n : Fin 32, Go.bits .or .u8 192 (n.val : Int) = 192 + n.val := by decide +kernel
  have := this ⟨x.toNat, by omega⟩
  simpa [Int.toNat_of_nonneg h0] using this
theorem or224 (x : Int) (h0 : 0 ≤ x) (h1 : x < 16) : Go.bits .or .u8 224 x = 224 + x := by
  have : ∀ n : Fin 16, Go.bits .or .u8 224 (n.val : Int) = 224 + n.val := by decide +kernel
  have := this ⟨x.toNat, by omega⟩
  simpa [Int.toNat_of_nonneg h0] using this
theorem or240 (x : Int) (h0 : 0 ≤ x) (h1 : x < 8) : Go.bits .or .u8 240 x = 240 + x := by
  have : ∀ n : Fin 8, Go.bits .or .u8 240 (n.val : Int) = 240 + n.val := by decide +kernel
  have := this ⟨x.toNat, by omega⟩
  simpa [Int.toNat_of_nonneg h0] using this

theorem app_at (k : Nat) (l : List Int) (r : Int) (h0 : -2147483648 ≤ r) (h1 : r ≤ 2147483647) (hl : l.length ≤ 1000000000) : utf8_AppendRune.f (k + 1) l r = some (l ++ enc r) := by
  unfold utf8_AppendRune.f
  by_cases c1 : 0 ≤ r ∧ r < 128
  · have e : enc r = [r] := by unfold enc fix; rw [if_pos (by unfold sgn; omega)]; unfold enc0; rw [if_pos c1.2]
    rw [if_pos (by omega), if_pos (by omega), e, show r % 256 = r by omega]
  rw [if_neg (by omega)]
  unfold utf8_appendRuneNonASCII.f
  by_cases c2 : 0 ≤ r ∧ r < 2048
  · have e : enc r = [192 + r / 64, 128 + r % 64] := by unfold enc fix; rw [if_pos (by unfold sgn; omega)]; unfold enc0; rw [if_neg (by omega), if_pos c2.2]
    rw [if_pos (by omega)]
    simp only [Option.bind_some]
    rw [if_pos (by simp; omega), e, or192 _ (by omega) (by omega), show r / 64 % 256 = r / 64 by omega]
    rfl
  rw [if_neg (by omega)]
  by_cases c3 : 0 ≤ r ∧ r < 65536 ∧ (r < 55296 ∨ 57343 < r)
  · have e : enc r = [224 + r / 4096, 128 + r / 64 % 64, 128 + r % 64] := by unfold enc fix; rw [if_pos (by unfold sgn; omega)]; unfold enc0; rw [if_neg (by omega), if_neg (by omega), if_pos (by omega)]
    have j : ∀ x5, utf8_appendRuneNonASCII.j0 (k + 1) l r x5 true = some (l ++ enc r) := by
      intro x5
      simp only [utf8_appendRuneNonASCII.j0]
      rw [if_pos trivial]
      simp only [Option.bind_some]
      rw [if_pos (by simp; omega), e, or224 _ (by omega) (by omega), show r / 4096 % 256 = r / 4096 by omega]
    by_cases c4 : r < 55296
    · rw [if_pos (by omega), decide_eq_true (by omega), j]; rfl
    · rw [if_neg (by omega), if_pos (by omega), decide_eq_true (by omega), j]; rfl
  have bad : ¬ sgn r → enc r = [239, 191, 189] := by
    intro h
    unfold enc fix
    rw [if_neg h]
    rfl
  by_cases c5 : 55296 ≤ r ∧ r ≤ 57343
  · rw [if_neg (by omega), if_neg (by omega), bad (by unfold sgn; omega)]
    simp only [utf8_appendRuneNonASCII.j0]
    rw [if_neg (by decide), if_neg (by omega)]
    simp only [Option.bind_some]
    rw [if_pos (by simp; omega)]
    rfl
  rw [if_neg (by omega), if_pos (by omega), decide_eq_false (by omega)]
  simp only [utf8_appendRuneNonASCII.j0]
  rw [if_neg (by decide), if_pos (by omega)]
  by_cases c6 : 0 ≤ r ∧ r ≤ 1114111
  · have e : enc r = [240 + r / 262144, 128 + r / 4096 % 64, 128 + r / 64 % 64, 128 + r % 64] := by unfold enc fix; rw [if_pos (by unfold sgn; omega)]; unfold enc0; rw [if_neg (by omega), if_neg (by omega), if_neg (by omega)]
    rw [if_pos (by omega)]
    simp only [Option.bind_some]
    rw [if_pos (by simp; omega), e, or240 _ (by omega) (by omega), show r / 262144 % 256 = r / 262144 by omega]
    rfl
  · rw [if_neg (by omega), bad (by unfold sgn; omega)]
    simp only [Option.bind_some]
    rw [if_pos (by simp; omega)]
    rfl

/-- a list of signs, written -/
def encs1 : List Int → List Int
  | [] => []
  | r :: l => enc r ++ encs1 l
theorem dec_encs1 : ∀ l : List Int, dec (encs1 l) = (l.map fix, 0)
  | [] => by rw [encs1, dec.eq_def]; rfl
  | r :: l => by rw [encs1, dec_enc, dec_encs1 l]; rfl
theorem encs1_len : ∀ l : List Int, (encs1 l).length ≤ 4 * l.length
  | [] => by simp [encs1]
  | r :: l => by
    have := enc_len r
    have := encs1_len l
    simp only [encs1, List.length_append, List.length_cons]
    omega
theorem encs1_range : ∀ l : List Int, ∀ b ∈ encs1 l, 0 ≤ b ∧ b ≤ 255
  | [], b, h => by simp [encs1] at h
  | r :: l, b, h => by
    rw [encs1] at h
    exact (List.mem_append.1 h).elim (enc_range r b) (encs1_range l b)
theorem bytes_nums (xs : List Int) (h : ∀ b ∈ xs, 0 ≤ b ∧ b ≤ 255) : bytesOf (strOfNums xs) = xs := by
  unfold bytesOf strOfNums
  simp only [List.map_map]
  refine (List.map_congr_left (g := id) fun b hb => ?_).trans (List.map_id _)
  have := h b hb
  simp only [Function.comp, id]
  rw [UInt8.toNat_ofNat']
  omega
theorem nums_size (xs : List Int) : (strOfNums xs).size = xs.length := by simp [strOfNums, ByteArray.size]
theorem nums_app (xs ys : List Int) : strOfNums (xs ++ ys) = strOfNums xs ++ strOfNums ys := by
  apply ByteArray.ext
  rw [ByteArray.data_append]
  simp [strOfNums]
theorem rd_at (l : List Int) (i : Nat) (h : i < l.length) : rd l (i : Int) = l[i] := by
  unfold rd
  rw [Int.toNat_natCast]
  simp [List.getD_eq_getElem?_getD, List.getElem?_eq_getElem h]

theorem write_at (l : List Int) (hw : ∀ x ∈ l, -2147483648 ≤ x ∧ x ≤ 2147483647) (hl : l.length ≤ 1000000) : ∀ (d i : Nat) (out : List Int) (k : Nat), i + d = l.length → d + 1 < k → out.length ≤ 4 * i →
    utf_Write.l0 k out l (l.length : Int) (i : Int) = some (strOfNums (out ++ encs1 (l.drop i))) := by
  intro d
  induction d with
  | zero =>
    intro i out k hi hk h0
    obtain ⟨k, rfl⟩ : ∃ m, k = m + 1 := ⟨k - 1, by omega⟩
    simp only [utf_Write.l0]
    rw [if_neg (by omega), List.drop_of_length_le (by omega), encs1, List.append_nil]
  | succ d ih =>
    intro i out k hi hk h0
    obtain ⟨k, rfl⟩ : ∃ m, k = m + 1 := ⟨k - 1, by omega⟩
    have hlt : i < l.length := by omega
    have hm := hw _ (List.getElem_mem hlt)
    have he := enc_len l[i]
    have hap := app_at (k - 1) out l[i] hm.1 hm.2 (by omega)
    rw [show k - 1 + 1 = k by omega] at hap
    simp only [utf_Write.l0]
    rw [if_pos (by omega), if_pos (by omega), if_pos (by omega), rd_at l i hlt, hap]
    simp only [Option.bind_some]
    rw [w64 (by omega) (by omega), show ((i : Int) + 1) = ((i + 1 : Nat) : Int) from rfl, ih (i + 1) _ k (by omega) (by omega) (by rw [List.length_append]; omega), List.drop_eq_getElem_cons hlt, encs1, List.append_assoc]
theorem write_ev (l : List Int) (hw : ∀ x ∈ l, -2147483648 ≤ x ∧ x ≤ 2147483647) (hl : l.length ≤ 1000000) : Ev (fun k => utf_Write.f k l) (strOfNums (encs1 l)) :=
  ⟨l.length + 2, fun k hk => by
    unfold utf_Write.f
    have := write_at l hw hl l.length 0 [] k (by omega) hk (by simp)
    rw [show ((0 : Nat) : Int) = 0 from rfl] at this
    refine this.trans ?_
    simp⟩
end Go.Proofs.Ytohafoihegjlnaa.Pure
