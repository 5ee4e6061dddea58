/- Helpers: the closed beginning of each law tells true; the widths of the program are the reference's. -/
import Derived.Test.YtohafoihegjlnaaCx23
namespace Go.Proofs.Ytohafoihegjlnaa.Pure
open Go.RowKit Go.Proofs.Ytohafoihegjlnaa.C Go.Proofs.YtohafoihegjlnaaW.PrintWords Go.Proofs.YtohafoihegjlnaaW.PrintLast

theorem begun_ev : Ev rotuluslaw1_begun.f true := Ev.of rotuluslaw1_begun.mono (k := 60) (by decide +kernel)

end Go.Proofs.Ytohafoihegjlnaa.Pure
