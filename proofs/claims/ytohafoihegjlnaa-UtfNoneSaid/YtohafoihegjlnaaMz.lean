/- The reader's methods at a reader that is none: hand contracts for the printed walk of UtfNone. -/
import Derived.Test.YtohafoihegjlnaaQx0
set_option linter.unusedVariables false
set_option linter.unusedSimpArgs false
namespace Go.Proofs.Ytohafoihegjlnaa.Q
open Go.RowKit Go.Proofs.YtohafoihegjlnaaW.PrintWords Go.Proofs.YtohafoihegjlnaaW.PrintLast Go.Proofs.YtohafoihegjlnaaW.PrintMore

def utf_Reader_Put_nil.f (u : Unit) (b : Int) : Option (List Int) := some []
def utf_Reader_End_nil.f (u : Unit) : Option (List Int) := some []
def utf_Reader_Waits_nil.f (u : Unit) : Option Int := some 0
set_option maxHeartbeats 2000000 in
set_option maxRecDepth 100000 in
theorem utf_Reader_Put_nil.calls (u : Unit) (b : Int) (r : List Int) (w : World) (h : utf_Reader_Put_nil.f u b = some r) :
    Calls Try.prog 22 #[.pointer none, .int .u8 b] w fun e w' => ∃ v0_ : Value, e = .returned (v0_) ∧ Kd.R (Kd.int .i32) 21 w' w.heap.size (fun _ => True) v0_ r ∧ Below w.heap.size w w' := by
  obtain rfl := Option.some.inj h
  go_enter Try.func22, Try.ntmps22
  go_wp2
  all_goals go_ret
  all_goals exact ⟨_, rfl, Kd.R_nil _ _ _ _ _, Below.refl _ _⟩
set_option maxHeartbeats 2000000 in
set_option maxRecDepth 100000 in
theorem utf_Reader_End_nil.calls (u : Unit) (r : List Int) (w : World) (h : utf_Reader_End_nil.f u = some r) :
    Calls Try.prog 25 #[.pointer none] w fun e w' => ∃ v0_ : Value, e = .returned (v0_) ∧ Kd.R (Kd.int .i32) 21 w' w.heap.size (fun _ => True) v0_ r ∧ Below w.heap.size w w' := by
  obtain rfl := Option.some.inj h
  go_enter Try.func25, Try.ntmps25
  go_wp2
  all_goals go_ret
  all_goals exact ⟨_, rfl, Kd.R_nil _ _ _ _ _, Below.refl _ _⟩
set_option maxHeartbeats 2000000 in
set_option maxRecDepth 100000 in
theorem utf_Reader_Waits_nil.calls (u : Unit) (r : Int) (w : World) (h : utf_Reader_Waits_nil.f u = some r) :
    Calls Try.prog 24 #[.pointer none] w fun e w' => e = .returned (.int .i64 r) ∧ Drawn0 w w' := by
  obtain rfl := Option.some.inj h
  go_enter Try.func24, Try.ntmps24
  go_wp2
  all_goals go_ret
  all_goals exact ⟨rfl, Drawn0.refl _⟩
end Go.Proofs.Ytohafoihegjlnaa.Q
