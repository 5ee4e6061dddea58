/- The text of cells made of signs is the reference's; trimmed, it is the front of it. -/
import Derived.Test.YtohafoihegjlnaaPx40
import Derived.Test.YtohafoihegjlnaaMb
import Derived.Test.YtohafoihegjlnaaMo
import Derived.Test.YtohafoihegjlnaaMt
set_option linter.unusedVariables false
set_option linter.unusedSimpArgs false
namespace Go.Proofs.Ytohafoihegjlnaa.Pure
open Go.RowKit Go.Proofs.Ytohafoihegjlnaa.P Go.Proofs.YtohafoihegjlnaaW.PrintWords Go.Proofs.YtohafoihegjlnaaW.PrintLast

theorem and255 (n : Int) : Go.bits .and .i64 n 255 = n % 256 := by
  have h255 : (BitVec.ofInt 64 255).toNat = 2 ^ 8 - 1 := by decide
  have key : (BitVec.ofInt 64 n &&& BitVec.ofInt 64 255).toNat = (n % ((2 ^ 64 : Nat) : Int)).toNat % 2 ^ 8 := by
    rw [BitVec.toNat_and, BitVec.toNat_ofInt, h255, Nat.and_two_pow_sub_one_eq_mod]
  show IntKind.i64.wrap ((BitVec.ofInt 64 n &&& BitVec.ofInt 64 255).toNat : Nat) = n % 256
  rw [key, IntKind.wrap_i64]
  omega
theorem w_zero : rotulusref1_Width.w 0 = 0 := by decide +kernel

/-- cells and bytes and width of one sign -/
theorem ofL_eq (r a : Int) (ha : 0 ≤ a ∧ a ≤ 255) :
    texts (ofL r a) = (if rotulusref1_Width.w r > 0 then enc r else []) ∧ ((ofL r a).length : Int) = rotulusref1_Width.w r ∧ ∀ c ∈ ofL r a, c.f0 = r ∨ c.f0 = 0 := by
  have hr := w_range r
  have h0 := w_zero
  unfold ofL
  by_cases c0 : rotulusref1_Width.w r = 0
  · rw [if_pos (Or.inl c0), if_neg (by omega), c0]
    exact ⟨rfl, rfl, by simp⟩
  · have hne : r ≠ 0 := by intro e; rw [e] at c0; exact c0 h0
    have w0 : rotulusref1_Width.w r > 0 := by omega
    rw [if_neg (show ¬ (rotulusref1_Width.w r = 0 ∨ a < 0 ∨ a > 255) by omega), if_pos w0]
    have hp : ∀ (f1 f2 : Int), padB ⟨r, f1, f2⟩ = false := by
      intro f1 f2
      unfold padB
      simp [hne]
    by_cases c2 : rotulusref1_Width.w r = 2
    · rw [if_pos c2]
      refine ⟨?_, by simp [c2], ?_⟩
      · simp [texts, ct, hp]
      · intro c hc
        simp only [List.mem_cons, List.not_mem_nil, or_false] at hc
        rcases hc with rfl | rfl
        · left; rfl
        · right; rfl
    · rw [if_neg c2]
      refine ⟨?_, by simp; omega, ?_⟩
      · simp [texts, ct, hp]
      · intro c hc
        simp only [List.mem_cons, List.not_mem_nil, or_false] at hc
        subst hc
        left; rfl

theorem texts_app (l m : List S49) : texts (l ++ m) = texts l ++ texts m := by simp [texts]

theorem cellText_l0 (l : List Int) (hw : ∀ x ∈ l, -2147483648 ≤ x ∧ x ≤ 2147483647) (hl : l.length ≤ 100) (a : Int) (ha : 0 ≤ a ∧ a ≤ 255) : ∀ (d i : Nat) (cs : List S49), i + d = l.length → cs.length ≤ 2 * i →
    (∀ c ∈ cs, -2147483648 ≤ c.f0 ∧ c.f0 ≤ 2147483647) →
    Ev (fun k => rotuluslaw1_CellText.l0 k l a cs (strOfNums (texts cs)) (cs.length : Int) (i : Int)) true := by
  intro d
  induction d with
  | zero =>
    intro i cs hi h0 hc
    refine Ev.step (f := _) (fun k => by
      simp only [rotuluslaw1_CellText.l0]
      rfl) ?_
    refine evq_neg (by omega) ?_
    obtain ⟨n, hn⟩ := trim_ev cs (by omega)
    refine Ev.bind hn ?_
    refine Ev.bind (ctext_ev (cs.take n) (fun x h => hc x (List.mem_of_mem_take h)) (by rw [List.length_take]; omega)) ?_
    refine Ev.bind (ctext_ev cs hc (by omega)) ?_
    have e : texts cs = texts (cs.take n) ++ texts (cs.drop n) := by rw [← texts_app, List.take_append_drop]
    refine evq_pos rfl (evq_pos trivial (evq_pos ?_ (evq_pos (by omega) ?_)))
    · rw [nums_size, nums_size, e, List.length_append]; omega
    · have : (strOfNums (texts cs)).extract 0 ((strOfNums (texts (cs.take n))).size : Int).toNat = strOfNums (texts (cs.take n)) := by
        rw [Int.toNat_natCast, e, nums_app]
        apply ByteArray.ext
        rw [ByteArray.data_extract, ByteArray.data_append]
        have : (strOfNums (texts (cs.take n))).size = (strOfNums (texts (cs.take n))).data.size := rfl
        rw [this, Array.extract_append_left]
        simp
      rw [this]
      simpa using Ev.now true
  | succ d ih =>
    intro i cs hi h0 hc
    have hlt : i < l.length := by omega
    have hm := hw _ (List.getElem_mem hlt)
    obtain ⟨h1, h2, h3⟩ := ofL_eq l[i] a ha
    have hr := w_range l[i]
    have he := enc_len l[i]
    have ht := texts_len cs
    have hc' : ∀ c ∈ cs ++ ofL l[i] a, -2147483648 ≤ c.f0 ∧ c.f0 ≤ 2147483647 := by
      intro c h
      rcases List.mem_append.1 h with h | h
      · exact hc c h
      · rcases h3 c h with e | e <;> rw [e] <;> omega
    have nx := ih (i + 1) (cs ++ ofL l[i] a) (by omega) (by rw [List.length_append]; omega) hc'
    refine Ev.step (f := _) (fun k => by
      simp only [rotuluslaw1_CellText.l0]
      rfl) ?_
    refine evq_pos (by omega) (evq_pos (by omega) ?_)
    rw [rd_at l i hlt]
    unfold rotulusref1_Width.f
    refine Ev.bind (of_ev _ _ hm.1 hm.2) (evq_pos (by omega) (evq_some (evq_some ?_)))
    by_cases c : rotulusref1_Width.w l[i] > 0
    · refine evq_pos c ?_
      rw [texts_app, h1, if_pos c, nums_app, List.length_append] at nx
      refine Ev.bind (put_sign_ev _) (evq_pos (by rw [nums_size, nums_size]; omega) (evq_some ?_))
      rw [w64 (by omega) (by omega), w64 (by omega) (by omega), ← h2]
      exact nx
    · refine evq_neg c ?_
      rw [texts_app, h1, if_neg c, List.append_nil, List.length_append] at nx
      rw [w64 (by omega) (by omega)]
      have z : (ofL l[i] a).length = 0 := by omega
      rw [z, Nat.add_zero] at nx
      exact nx

theorem CellText : rotuluslaw1_CellText.Pure := by
  intro l0 a1 _ _ hx _
  refine Ev.rounds (g := fun k => rotuluslaw1_CellText.f k l0 a1) ?_
  unfold rotuluslaw1_CellText.f
  refine Ev.bind begun_ev ?_
  have hm : 0 ≤ mn (l0.length : Int) 30 ∧ mn (l0.length : Int) 30 ≤ l0.length ∧ (mn (l0.length : Int) 30).toNat ≤ 30 := by unfold mn; split <;> omega
  refine evq_pos rfl (evq_pos (by omega) (evq_pos (by omega) ?_))
  obtain ⟨l, e⟩ : ∃ l, l = l0.take (mn (l0.length : Int) 30).toNat := ⟨_, rfl⟩
  rw [← e, and255]
  have hl : l.length ≤ 30 := by rw [e, List.length_take]; omega
  have hw : ∀ x ∈ l, -2147483648 ≤ x ∧ x ≤ 2147483647 := fun x h => i32_range (hx x (List.mem_of_mem_take (e ▸ h)))
  have := cellText_l0 l hw (by omega) (a1 % 256) (by omega) l.length 0 [] (by omega) (by simp) (by simp)
  exact this

end Go.Proofs.Ytohafoihegjlnaa.Pure
