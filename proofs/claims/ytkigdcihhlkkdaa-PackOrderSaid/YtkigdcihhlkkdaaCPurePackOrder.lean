/- own text of this session -/
import Derived.Test.YtkigdcihhlkkdaaCPx43
import Derived.Test.YtkigdcihhlkkdaaCMU
namespace Go.Proofs.Ytkigdcihhlkkdaa.Pure
open Go.RowKit Go.Proofs.Ytkigdcihhlkkdaa.P Go.Proofs.YtkigdcihhlkkdaaW.PrintWords Go.Proofs.YtkigdcihhlkkdaaW.PrintLast
theorem PackOrder : rotuluslaw4_PackOrder.Pure := by
  intro a0 a1 w0 w1
  have h0 := u64_of_wf w0
  have h1 := u64_of_wf w1
  obtain ⟨a, rfl⟩ := Int.eq_ofNat_of_zero_le h0.1
  obtain ⟨b, rfl⟩ := Int.eq_ofNat_of_zero_le h1.1
  refine Ev.rounds (g := fun k => rotuluslaw4_PackOrder.f k (a : Int) (b : Int)) ?_
  unfold rotuluslaw4_PackOrder.f rotuluslaw4_begun.f
  simp only [Option.bind_some, if_true]
  refine Ev.bind (uint_ev a (by omega)) ?_
  refine Ev.bind (uint_ev b (by omega)) ?_
  have ha := uintL_bound 10 a
  have hb := uintL_bound 10 b
  have pa := uintL_pos 10 a (by decide)
  have oa := uintL_one 10 a (by decide)
  have hone : (((((uintL 10 a).length : Int) == 1) == (decide ((a : Int) < 128))) = true) := by
    by_cases h : a < 128
    · have h2 := oa.2 h
      have h3 : ((((uintL 10 a).length : Int)) == 1) = true := beq_iff_eq.2 (by omega)
      have h4 : decide ((a : Int) < 128) = true := decide_eq_true (by omega)
      rw [h3, h4]
      rfl
    · have h2 : ¬ (uintL 10 a).length = 1 := fun h2 => h (oa.1 h2)
      have h3 : ((((uintL 10 a).length : Int)) == 1) = false := beq_eq_false_iff_ne.2 (by omega)
      have h4 : decide ((a : Int) < 128) = false := decide_eq_false (by omega)
      rw [h3, h4]
      rfl
  have hlast : (((a : Int) == (b : Int)) == ((strOfNums (uintL 10 a)).toList == (strOfNums (uintL 10 b)).toList)) = true := by
    by_cases h : a = b
    · subst h; simp
    · have h2 : (strOfNums (uintL 10 a)).toList ≠ (strOfNums (uintL 10 b)).toList := fun h2 => h (uintL_inj 10 a b (Nat.lt_of_lt_of_le (by omega : a < 18446744073709551616) (by decide)) (Nat.lt_of_lt_of_le (by omega : b < 18446744073709551616) (by decide)) (str_inj (uintL_range _ _) (uintL_range _ _) h2))
      have h3 : ((a : Int) == (b : Int)) = false := beq_eq_false_iff_ne.2 (by omega)
      have h4 : ((strOfNums (uintL 10 a)).toList == (strOfNums (uintL 10 b)).toList) = false := beq_eq_false_iff_ne.2 h2
      rw [h3, h4]
      rfl
  rw [hlast]
  rcases Nat.lt_trichotomy a b with h | h | h
  · have hm := uintL_mono 10 a b (by omega)
    refine ev_neg (by omega) (ev_pos (by omega) (ev_pos (by omega) (ev_pos (by omega) (ev_pos (by omega) (ev_pos hone (Ev.now _))))))
  · subst h
    refine ev_neg (by omega) (ev_pos (by omega) (ev_neg (by omega) (ev_pos (by omega) (ev_pos (by omega) (ev_pos (by omega) (ev_pos hone (Ev.now _)))))))
  · have hm := uintL_mono 10 b a (by omega)
    refine ev_pos (by omega) (ev_neg (by omega) (ev_pos (by omega) (ev_pos (by omega) (ev_pos (by omega) (ev_pos hone (Ev.now _))))))
end Go.Proofs.Ytkigdcihhlkkdaa.Pure
