/- '[]byte(s)' of a string: a row of its own that bears the mark of a conversion (frozen behind its end). What the walks say of a row of the call's own ('Kd.R_..'), said of such a row ('Kd.Y_..'). -/
import Derived.Test.YtkigdcihhlkkdaaFV1
import Derived.Lib.ConvBytes
import Derived.Lib.SmallJoins
set_option linter.unusedVariables false
set_option linter.unusedSimpArgs false
namespace Go.Proofs.YtkigdcihhlkkdaaW.PrintWords
open Go.RowKit
namespace Kd
section
variable {d : Kd Int} {e : Nat} {w W w1 : World} {base base' : Nat} {ok ok' : Nat → Prop} {v u : Value} {xs : List Int} {g : Nat} {A : Option Addr} {n c : Nat}
end
section
variable {P : Program} {ops : Array Oper} {rest : List Oper} {o : Oper} {a : Act} {Q : Exit → Act → World → Prop} {Kc : Act → World → Prop} {W : World}
end
end Kd
end Go.Proofs.YtkigdcihhlkkdaaW.PrintWords
