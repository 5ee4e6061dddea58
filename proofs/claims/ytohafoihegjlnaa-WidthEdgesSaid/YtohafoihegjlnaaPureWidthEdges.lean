/- At the ends of all ranges of signs, and one sign beside them, the program's width is the reference's: for every two numbers which, by. -/
import Derived.Test.YtohafoihegjlnaaPx37
import Derived.Test.YtohafoihegjlnaaMb
import Derived.Test.YtohafoihegjlnaaMw
namespace Go.Proofs.Ytohafoihegjlnaa.Pure
open Go.RowKit Go.Proofs.Ytohafoihegjlnaa.P Go.Proofs.YtohafoihegjlnaaW.PrintWords Go.Proofs.YtohafoihegjlnaaW.PrintLast

theorem edge_at (a : Int) : 0 ≤ Int.tmod (wrap64 (Int.tmod a 40 + 40)) 40 ∧ Int.tmod (wrap64 (Int.tmod a 40 + 40)) 40 < 40 := by
  have h1 : -40 < Int.tmod a 40 := by have := Int.lt_tmod_of_pos a (show (0 : Int) < 40 by decide); omega
  have h2 : Int.tmod a 40 < 40 := Int.tmod_lt_of_pos a (by decide)
  have e : wrap64 (Int.tmod a 40 + 40) = Int.tmod a 40 + 40 := by unfold wrap64; omega
  rw [e, Int.tmod_eq_emod_of_nonneg (by omega)]
  omega

theorem WidthEdges : rotuluslaw1_WidthEdges.Pure := by
  intro a0 a1 _ _
  refine Ev.rounds (g := fun k => rotuluslaw1_WidthEdges.f k a0 a1) ?_
  unfold rotuluslaw1_WidthEdges.f
  refine Ev.bind begun_ev ?_
  refine Ev.of (k := 0) (fun k => LeO.refl _) ?_
  rw [if_pos rfl]
  simp only [Option.bind_some]
  obtain ⟨e1, e2⟩ := edge_at a0
  rw [if_neg (by decide)]
  simp only [List.length_cons, List.length_nil, Nat.reduceAdd]
  rw [show ((40 : Nat) : Int) = 40 from rfl, if_pos e1, if_pos e2]
  obtain ⟨r, hr⟩ : ∃ r, r = wrap32 (rd [31, 127, 159, 768, 879, 4352, 4447, 8203, 8207, 11904, 12350, 12353, 13311, 13312, 19903, 19968, 40959, 40960, 42191, 44032, 55203, 55296, 57343, 63744, 64255, 65024, 65039, 65072, 65135, 65280, 65376, 65504, 65510, 127744, 128591, 129280, 129535, 131072, 262141, 1114111] (Int.tmod (wrap64 (Int.tmod a0 40 + 40)) 40) + wrap32 (Int.tmod a1 2)) := ⟨_, rfl⟩
  have g := wrap32_range (rd [31, 127, 159, 768, 879, 4352, 4447, 8203, 8207, 11904, 12350, 12353, 13311, 13312, 19903, 19968, 40959, 40960, 42191, 44032, 55203, 55296, 57343, 63744, 64255, 65024, 65039, 65072, 65135, 65280, 65376, 65504, 65510, 127744, 128591, 129280, 129535, 131072, 262141, 1114111] (Int.tmod (wrap64 (Int.tmod a0 40 + 40)) 40) + wrap32 (Int.tmod a1 2))
  rw [← hr] at g ⊢
  rw [of_eq r g.1 g.2]
  simp [rotulusref1_Width.f]

end Go.Proofs.Ytohafoihegjlnaa.Pure
