/- The names of package api stand for the document's numbers: the two lists of numbers that the law compares are one list. No condition. -/
import Derived.Test.YtohafoihegjlnaaPNamesx1
namespace Go.Proofs.Ytohafoihegjlnaa.Pure
open Go.RowKit Go.Proofs.Ytohafoihegjlnaa.PNames Go.Proofs.YtohafoihegjlnaaW.PrintWords Go.Proofs.YtohafoihegjlnaaW.PrintLast

theorem Names : rotuluslaw0_Names.Pure := by
  exact ⟨70, by decide +kernel⟩

end Go.Proofs.Ytohafoihegjlnaa.Pure
