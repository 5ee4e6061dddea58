/- Nothing in, nothing out: closed. -/
import Derived.Test.YtohafoihegjlnaaQx25
namespace Go.Proofs.Ytohafoihegjlnaa.Pure
open Go.RowKit Go.Proofs.Ytohafoihegjlnaa.Q Go.Proofs.YtohafoihegjlnaaW.PrintWords Go.Proofs.YtohafoihegjlnaaW.PrintLast

theorem UtfNone : rotuluslaw1_UtfNone.Pure := ⟨60, by decide +kernel⟩

end Go.Proofs.Ytohafoihegjlnaa.Pure
