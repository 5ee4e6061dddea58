-- written by a print that this session turned (wip/tools/turnprint.py)
import Derived.Test.YtkigdcihhlkkdaaTZ0
import Derived.Test.YtkigdcihhlkkdaaTZ2
import Derived.Test.YtkigdcihhlkkdaaTZ8
import Derived.Test.YtkigdcihhlkkdaaTZ9
import Derived.Test.YtkigdcihhlkkdaaTZ10
import Derived.Test.YtkigdcihhlkkdaaTZ11
import Derived.Test.YtkigdcihhlkkdaaTZ12
namespace Go.Proofs.Ytkigdcihhlkkdaa.P
open Go.RowKit Go.Proofs.YtkigdcihhlkkdaaW.PrintWords Go.Proofs.YtkigdcihhlkkdaaW.PrintLast Go.Proofs.YtkigdcihhlkkdaaW.PrintMore
attribute [local go_sem] max2_int min2_int max_two min_two max_three min_three max_four min_four   -- for this text's walks alone
set_option linter.unusedVariables false
set_option linter.unusedSimpArgs false
def rotuluslaw1_begun.f (k : Nat)  : Option (Bool) := (utf_Reader_Put.f k 0 0 0 0 0 195).bind fun bt382 => ((utf_Reader_Put.f k bt382.2.1 bt382.2.2.1 bt382.2.2.2.1 bt382.2.2.2.2.1 bt382.2.2.2.2.2 169).bind fun bt390 => ((utf_All.f k (⟨#[97, 255, 228, 184, 173]⟩ : ByteArray)).bind fun t398 => ((cell_Of.f k 20013 3).bind fun t401 => (if (bt382.1.length : Int) = 0 then ((utf_Reader_Waits.f bt390.2.1 bt390.2.2.1 bt390.2.2.2.1 bt390.2.2.2.2.1 bt390.2.2.2.2.2).bind fun bt404 => (if bt404.1 = 0 then (if (bt390.1.length : Int) = 1 then (if 0 < (bt390.1.length : Int) then (if (rd bt390.1 0) = 233 then (if (t398.length : Int) = 3 then (if 1 < (t398.length : Int) then (if (rd t398 1) = 65533 then ((utf_Write.f k t398).bind fun t412 => (if t412.toList = ([97, 239, 191, 189, 228, 184, 173] : List UInt8) then ((width_Of.f 20013).bind fun t413 => (if t413 = 2 then ((width_Of.f 97).bind fun t414 => (if t414 = 1 then ((width_Of.f 7).bind fun t415 => (if t415 = 0 then (if (t401.length : Int) = 2 then (if 0 < (t401.length : Int) then (if ((rd_T45 t401 0).f1) = 2 then (if 1 < (t401.length : Int) then (if ((rd_T45 t401 1).f2) = 3 then ((cell_May.f k ((rd_T45 t401 1).f0) ((rd_T45 t401 1).f1) ((rd_T45 t401 1).f2)).bind fun t419 => (if t419 = true then ((cell_Blank.f).bind fun bt420 => ((cell_IsBlank.f bt420.1 bt420.2.1 bt420.2.2).bind fun t423 => (if t423 = true then ((cell_Pad.f).bind fun bt424 => ((cell_IsPad.f bt424.1 bt424.2.1 bt424.2.2).bind fun t427 => (if t427 = true then ((cell_Text.f k t401).bind fun t428 => (if t428.toList = ([228, 184, 173] : List UInt8) then ((cell_Blank.f).bind fun bt430 => ((cell_Trim.f k (([(⟨(rd_T45 t401 0).f0, (rd_T45 t401 0).f1, (rd_T45 t401 0).f2⟩ : S45), (⟨bt430.1, bt430.2.1, bt430.2.2⟩ : S45)] : List (S45)))).bind fun t436 => (if (t436.length : Int) = 1 then (if 1 ≤ (t401.length : Int) then ((cell_Line.f k (t401.take 1)).bind fun t443 => (some t443)) else (none)) else (none)))) else (none))) else (none)))) else (none)))) else (none))) else (none)) else (none)) else (none)) else (none)) else (none)) else (none))) else (none))) else (none))) else (none))) else (none)) else (none)) else (none)) else (none)) else (none)) else (none)) else (none))) else (none)))))
theorem rotuluslaw1_begun.mono : ∀ k, LeO (rotuluslaw1_begun.f k ) (rotuluslaw1_begun.f (k + 1) ) := by
  intro  k
  unfold rotuluslaw1_begun.f
  repeat' first
      | (with_reducible exact cell_Line.mono _ _)
      | (with_reducible exact cell_May.mono _ _ _ _)
      | (with_reducible exact cell_Of.mono _ _ _)
      | (with_reducible exact cell_Text.mono _ _)
      | (with_reducible exact cell_Trim.mono _ _)
      | (with_reducible exact utf_All.mono _ _)
      | (with_reducible exact utf_Reader_Put.mono _ _ _ _ _ _ _)
      | (with_reducible exact utf_Write.mono _ _)
      | (with_reducible exact LeO.refl _)
      | (with_reducible exact LeO.none _)
      | (with_reducible refine LeO.ite ?_ ?_)
      | (with_reducible refine LeO.bind ?_ (fun _ => ?_))
      | exact cell_Line.mono _ _
      | exact cell_May.mono _ _ _ _
      | exact cell_Of.mono _ _ _
      | exact cell_Text.mono _ _
      | exact cell_Trim.mono _ _
      | exact utf_All.mono _ _
      | exact utf_Reader_Put.mono _ _ _ _ _ _ _
      | exact utf_Write.mono _ _
      | exact LeO.none _
      | refine LeO.ite ?_ ?_
      | refine LeO.bind ?_ (fun _ => ?_)
def rotuluslaw1_begun.T6 : Bool × List (List Nat × List Nat) := (true, [([], []), ([0], [0]), ([1], [1]), ([2], [2]), ([3], [3]), ([4, 3, 3], [3, 4]), ([5, 3], [3, 5]), ([3, 6], [3, 6]), ([7, 5], [7]), ([8], [8]), ([9, 8], [8, 9]), ([10, 8], [8, 10]), ([8, 11], [8, 11]), ([12, 8], [12]), ([13], [13]), ([14, 13], [13, 14]), ([15, 13], [13, 15]), ([16, 13], [13, 16]), ([13, 17], [13, 17]), ([18, 13], [18]), ([19], [19]), ([20, 19], [19, 20]), ([21, 19], [19, 21]), ([19, 22], [19, 22]), ([23, 19], [23]), ([24], [24]), ([25, 24], [24, 25]), ([26, 24], [24, 26]), ([27, 24], [24, 27]), ([24, 28], [24, 28]), ([29, 24], [29]), ([30], [30]), ([31, 30, 30], [30, 31]), ([32, 30], [30, 32]), ([30, 33], [30, 33]), ([34, 32], [34]), ([35, 35], [35]), ([36, 35], [35, 36]), ([35, 37], [35, 37]), ([38, 36], [38]), ([39, 39], [39]), ([40, 39], [39, 40]), ([39, 41], [39, 41]), ([42, 40], [42]), ([43, 43], [43]), ([44, 43], [43, 44]), ([43, 45], [43, 45]), ([46, 44], [46]), ([47], [47]), ([48, 47], [47, 48]), ([49, 47], [47, 49]), ([47, 50], [47, 50]), ([51, 47], [51]), ([52], [52]), ([53, 52], [52, 53]), ([54, 52], [52, 54]), ([55, 52], [52, 55]), ([56, 52], [52, 56]), ([52, 57], [52, 57]), ([58, 52], [58]), ([59], [59]), ([60, 59], [59, 60]), ([61, 59], [59, 61]), ([62, 59], [59, 62]), ([63, 59], [59, 63]), ([59, 64], [59, 64]), ([65, 59], [65]), ([66], [66]), ([67, 66], [66, 67]), ([68, 66], [66, 68]), ([69, 66, 66], [66, 69]), ([66, 70], [66, 70]), ([71, 70], [71]), ([72, 72], [72]), ([73, 73, 72], [72, 73]), ([72, 74], [72, 74]), ([75, 74], [75]), ([76, 76], [76]), ([77, 77, 76], [76, 77]), ([76, 78], [76, 78]), ([79, 78], [79]), ([80], [80]), ([81, 80, 80], [80, 81]), ([82, 80], [80, 82]), ([80, 83], [80, 83]), ([84, 82], [84]), ([85], [85]), ([86, 85], [85, 86]), ([87, 85], [85, 87]), ([85, 85], [85]), ([88, 89, 85], [85, 88, 89]), ([90, 89, 85], [85, 90]), ([91, 85], [85, 91]), ([92, 85], [85, 92]), ([85, 93], [85, 93]), ([94, 91], [94]), ([95], [95]), ([96, 95], [95, 96]), ([97, 95, 95], [95, 97]), ([95, 98], [95, 98]), ([99, 98, 0, 1, 2, 3, 4, 5, 6, 7, 8, 9, 10, 11, 12, 13, 14, 15, 16, 17, 18, 19, 20, 21, 22, 23, 24, 25, 26, 27, 28, 29, 30, 31, 32, 33, 34, 35, 36, 37, 38, 39, 40, 41, 42, 43, 44, 45, 46, 47, 48, 49, 50, 51, 52, 53, 54, 55, 56, 57, 58, 59, 60, 61, 62, 63, 64, 65, 66, 67, 68, 69, 70, 71, 72, 73, 74, 75, 76, 77, 78, 79, 80, 81, 82, 83, 84, 85, 86, 87, 88, 89, 90, 91, 92, 93, 94, 95, 96, 97, 98, 99], [99])])
def rotuluslaw1_begun.B6 : List Nat := [0, 1, 3, 7, 15, 31, 63, 127, 255, 511, 1023, 2047, 4095, 8191, 16383, 32767, 65535, 131071, 262143, 524287, 1048575, 2097151, 4194303, 8388607, 16777215, 33554431, 67108863, 134217727, 268435455, 536870911, 1073741823, 2147483647, 4294967295, 8589934591, 17179869183, 34359738367, 68719476735, 137438953471, 274877906943, 549755813887, 1099511627775, 2199023255551, 4398046511103, 8796093022207, 17592186044415, 35184372088831, 70368744177663, 140737488355327, 281474976710655, 562949953421311, 1125899906842623, 2251799813685247, 4503599627370495, 9007199254740991, 18014398509481983, 36028797018963967, 72057594037927935, 144115188075855871, 288230376151711743, 576460752303423487, 1152921504606846975, 2305843009213693951, 4611686018427387903, 9223372036854775807, 18446744073709551615, 36893488147419103231, 73786976294838206463, 147573952589676412927, 295147905179352825855, 590295810358705651711, 1180591620717411303423, 2361183241434822606847, 4722366482869645213695, 9444732965739290427391, 18889465931478580854783, 37778931862957161709567, 75557863725914323419135, 151115727451828646838271, 302231454903657293676543, 604462909807314587353087, 1208925819614629174706175, 2417851639229258349412351, 4835703278458516698824703, 9671406556917033397649407, 19342813113834066795298815, 38685626227668133590597631, 77371252455336267181195263, 154742504910672534362390527, 309485009821345068724781055, 77371252455336267181195263, 1237940039285380274899124223, 2475880078570760549798248447, 4951760157141521099596496895, 9903520314283042199192993791, 19807040628566084398385987583, 39614081257132168796771975167, 79228162514264337593543950335, 158456325028528675187087900671, 316912650057057350374175801343, 633825300114114700748351602687, 1267650600228229401496703205375]
theorem rotuluslaw1_begun.tab6 : rtab .any (opsOf Try.f64 6) = rotuluslaw1_begun.T6 := by kernel_rfl
theorem rotuluslaw1_begun.bits6 : waitsOk rotuluslaw1_begun.T6.2 rotuluslaw1_begun.B6 = true := by kernel_rfl
set_option maxHeartbeats 8000000 in
set_option maxRecDepth 100000 in
theorem rotuluslaw1_begun.calls (k : Nat)  (r : Bool) (w : World) (h : rotuluslaw1_begun.f k  = some r) :
    Calls Try.prog 64 #[] w fun e w' => e = .returned (.bool r) ∧ Below w.heap.size w w' := by
  have hu101 := Try.underlying101
  have hu45 := Try.underlying45
  have HB := Aside0.mk (Below.refl w.heap.size w)
  have H : ((utf_Reader_Put.f k 0 0 0 0 0 195).bind fun bt382 => ((utf_Reader_Put.f k bt382.2.1 bt382.2.2.1 bt382.2.2.2.1 bt382.2.2.2.2.1 bt382.2.2.2.2.2 169).bind fun bt390 => ((utf_All.f k (⟨#[97, 255, 228, 184, 173]⟩ : ByteArray)).bind fun t398 => ((cell_Of.f k 20013 3).bind fun t401 => (if (bt382.1.length : Int) = 0 then ((utf_Reader_Waits.f bt390.2.1 bt390.2.2.1 bt390.2.2.2.1 bt390.2.2.2.2.1 bt390.2.2.2.2.2).bind fun bt404 => (if bt404.1 = 0 then (if (bt390.1.length : Int) = 1 then (if 0 < (bt390.1.length : Int) then (if (rd bt390.1 0) = 233 then (if (t398.length : Int) = 3 then (if 1 < (t398.length : Int) then (if (rd t398 1) = 65533 then ((utf_Write.f k t398).bind fun t412 => (if t412.toList = ([97, 239, 191, 189, 228, 184, 173] : List UInt8) then ((width_Of.f 20013).bind fun t413 => (if t413 = 2 then ((width_Of.f 97).bind fun t414 => (if t414 = 1 then ((width_Of.f 7).bind fun t415 => (if t415 = 0 then (if (t401.length : Int) = 2 then (if 0 < (t401.length : Int) then (if ((rd_T45 t401 0).f1) = 2 then (if 1 < (t401.length : Int) then (if ((rd_T45 t401 1).f2) = 3 then ((cell_May.f k ((rd_T45 t401 1).f0) ((rd_T45 t401 1).f1) ((rd_T45 t401 1).f2)).bind fun t419 => (if t419 = true then ((cell_Blank.f).bind fun bt420 => ((cell_IsBlank.f bt420.1 bt420.2.1 bt420.2.2).bind fun t423 => (if t423 = true then ((cell_Pad.f).bind fun bt424 => ((cell_IsPad.f bt424.1 bt424.2.1 bt424.2.2).bind fun t427 => (if t427 = true then ((cell_Text.f k t401).bind fun t428 => (if t428.toList = ([228, 184, 173] : List UInt8) then ((cell_Blank.f).bind fun bt430 => ((cell_Trim.f k (([(⟨(rd_T45 t401 0).f0, (rd_T45 t401 0).f1, (rd_T45 t401 0).f2⟩ : S45), (⟨bt430.1, bt430.2.1, bt430.2.2⟩ : S45)] : List (S45)))).bind fun t436 => (if (t436.length : Int) = 1 then (if 1 ≤ (t401.length : Int) then ((cell_Line.f k (t401.take 1)).bind fun t443 => (some t443)) else (none)) else (none)))) else (none))) else (none)))) else (none)))) else (none))) else (none)) else (none)) else (none)) else (none)) else (none)) else (none))) else (none))) else (none))) else (none))) else (none)) else (none)) else (none)) else (none)) else (none)) else (none)) else (none))) else (none)))))) = some r := h
  clear h
  replace H := Option.bind_eq_some_iff.mp H
  obtain ⟨⟨t382, t385, t386, t387, t388, t389⟩, A10, H⟩ := H
  replace H : ((utf_Reader_Put.f k t385 t386 t387 t388 t389 169).bind fun bt390 => ((utf_All.f k (⟨#[97, 255, 228, 184, 173]⟩ : ByteArray)).bind fun t398 => ((cell_Of.f k 20013 3).bind fun t401 => (if (t382.length : Int) = 0 then ((utf_Reader_Waits.f bt390.2.1 bt390.2.2.1 bt390.2.2.2.1 bt390.2.2.2.2.1 bt390.2.2.2.2.2).bind fun bt404 => (if bt404.1 = 0 then (if (bt390.1.length : Int) = 1 then (if 0 < (bt390.1.length : Int) then (if (rd bt390.1 0) = 233 then (if (t398.length : Int) = 3 then (if 1 < (t398.length : Int) then (if (rd t398 1) = 65533 then ((utf_Write.f k t398).bind fun t412 => (if t412.toList = ([97, 239, 191, 189, 228, 184, 173] : List UInt8) then ((width_Of.f 20013).bind fun t413 => (if t413 = 2 then ((width_Of.f 97).bind fun t414 => (if t414 = 1 then ((width_Of.f 7).bind fun t415 => (if t415 = 0 then (if (t401.length : Int) = 2 then (if 0 < (t401.length : Int) then (if ((rd_T45 t401 0).f1) = 2 then (if 1 < (t401.length : Int) then (if ((rd_T45 t401 1).f2) = 3 then ((cell_May.f k ((rd_T45 t401 1).f0) ((rd_T45 t401 1).f1) ((rd_T45 t401 1).f2)).bind fun t419 => (if t419 = true then ((cell_Blank.f).bind fun bt420 => ((cell_IsBlank.f bt420.1 bt420.2.1 bt420.2.2).bind fun t423 => (if t423 = true then ((cell_Pad.f).bind fun bt424 => ((cell_IsPad.f bt424.1 bt424.2.1 bt424.2.2).bind fun t427 => (if t427 = true then ((cell_Text.f k t401).bind fun t428 => (if t428.toList = ([228, 184, 173] : List UInt8) then ((cell_Blank.f).bind fun bt430 => ((cell_Trim.f k (([(⟨(rd_T45 t401 0).f0, (rd_T45 t401 0).f1, (rd_T45 t401 0).f2⟩ : S45), (⟨bt430.1, bt430.2.1, bt430.2.2⟩ : S45)] : List (S45)))).bind fun t436 => (if (t436.length : Int) = 1 then (if 1 ≤ (t401.length : Int) then ((cell_Line.f k (t401.take 1)).bind fun t443 => (some t443)) else (none)) else (none)))) else (none))) else (none)))) else (none)))) else (none))) else (none)) else (none)) else (none)) else (none)) else (none)) else (none))) else (none))) else (none))) else (none))) else (none)) else (none)) else (none)) else (none)) else (none)) else (none)) else (none))) else (none))))) = some r := H
  have A1 := Aside0.mk A10
  clear A10
  replace H := Option.bind_eq_some_iff.mp H
  obtain ⟨⟨t390, t393, t394, t395, t396, t397⟩, A20, H⟩ := H
  replace H : ((utf_All.f k (⟨#[97, 255, 228, 184, 173]⟩ : ByteArray)).bind fun t398 => ((cell_Of.f k 20013 3).bind fun t401 => (if (t382.length : Int) = 0 then ((utf_Reader_Waits.f t393 t394 t395 t396 t397).bind fun bt404 => (if bt404.1 = 0 then (if (t390.length : Int) = 1 then (if 0 < (t390.length : Int) then (if (rd t390 0) = 233 then (if (t398.length : Int) = 3 then (if 1 < (t398.length : Int) then (if (rd t398 1) = 65533 then ((utf_Write.f k t398).bind fun t412 => (if t412.toList = ([97, 239, 191, 189, 228, 184, 173] : List UInt8) then ((width_Of.f 20013).bind fun t413 => (if t413 = 2 then ((width_Of.f 97).bind fun t414 => (if t414 = 1 then ((width_Of.f 7).bind fun t415 => (if t415 = 0 then (if (t401.length : Int) = 2 then (if 0 < (t401.length : Int) then (if ((rd_T45 t401 0).f1) = 2 then (if 1 < (t401.length : Int) then (if ((rd_T45 t401 1).f2) = 3 then ((cell_May.f k ((rd_T45 t401 1).f0) ((rd_T45 t401 1).f1) ((rd_T45 t401 1).f2)).bind fun t419 => (if t419 = true then ((cell_Blank.f).bind fun bt420 => ((cell_IsBlank.f bt420.1 bt420.2.1 bt420.2.2).bind fun t423 => (if t423 = true then ((cell_Pad.f).bind fun bt424 => ((cell_IsPad.f bt424.1 bt424.2.1 bt424.2.2).bind fun t427 => (if t427 = true then ((cell_Text.f k t401).bind fun t428 => (if t428.toList = ([228, 184, 173] : List UInt8) then ((cell_Blank.f).bind fun bt430 => ((cell_Trim.f k (([(⟨(rd_T45 t401 0).f0, (rd_T45 t401 0).f1, (rd_T45 t401 0).f2⟩ : S45), (⟨bt430.1, bt430.2.1, bt430.2.2⟩ : S45)] : List (S45)))).bind fun t436 => (if (t436.length : Int) = 1 then (if 1 ≤ (t401.length : Int) then ((cell_Line.f k (t401.take 1)).bind fun t443 => (some t443)) else (none)) else (none)))) else (none))) else (none)))) else (none)))) else (none))) else (none)) else (none)) else (none)) else (none)) else (none)) else (none))) else (none))) else (none))) else (none))) else (none)) else (none)) else (none)) else (none)) else (none)) else (none)) else (none))) else (none)))) = some r := H
  have A2 := Aside0.mk A20
  clear A20
  replace H := Option.bind_eq_some_iff.mp H
  obtain ⟨t398, A30, H⟩ := H
  replace H : ((cell_Of.f k 20013 3).bind fun t401 => (if (t382.length : Int) = 0 then ((utf_Reader_Waits.f t393 t394 t395 t396 t397).bind fun bt404 => (if bt404.1 = 0 then (if (t390.length : Int) = 1 then (if 0 < (t390.length : Int) then (if (rd t390 0) = 233 then (if (t398.length : Int) = 3 then (if 1 < (t398.length : Int) then (if (rd t398 1) = 65533 then ((utf_Write.f k t398).bind fun t412 => (if t412.toList = ([97, 239, 191, 189, 228, 184, 173] : List UInt8) then ((width_Of.f 20013).bind fun t413 => (if t413 = 2 then ((width_Of.f 97).bind fun t414 => (if t414 = 1 then ((width_Of.f 7).bind fun t415 => (if t415 = 0 then (if (t401.length : Int) = 2 then (if 0 < (t401.length : Int) then (if ((rd_T45 t401 0).f1) = 2 then (if 1 < (t401.length : Int) then (if ((rd_T45 t401 1).f2) = 3 then ((cell_May.f k ((rd_T45 t401 1).f0) ((rd_T45 t401 1).f1) ((rd_T45 t401 1).f2)).bind fun t419 => (if t419 = true then ((cell_Blank.f).bind fun bt420 => ((cell_IsBlank.f bt420.1 bt420.2.1 bt420.2.2).bind fun t423 => (if t423 = true then ((cell_Pad.f).bind fun bt424 => ((cell_IsPad.f bt424.1 bt424.2.1 bt424.2.2).bind fun t427 => (if t427 = true then ((cell_Text.f k t401).bind fun t428 => (if t428.toList = ([228, 184, 173] : List UInt8) then ((cell_Blank.f).bind fun bt430 => ((cell_Trim.f k (([(⟨(rd_T45 t401 0).f0, (rd_T45 t401 0).f1, (rd_T45 t401 0).f2⟩ : S45), (⟨bt430.1, bt430.2.1, bt430.2.2⟩ : S45)] : List (S45)))).bind fun t436 => (if (t436.length : Int) = 1 then (if 1 ≤ (t401.length : Int) then ((cell_Line.f k (t401.take 1)).bind fun t443 => (some t443)) else (none)) else (none)))) else (none))) else (none)))) else (none)))) else (none))) else (none)) else (none)) else (none)) else (none)) else (none)) else (none))) else (none))) else (none))) else (none))) else (none)) else (none)) else (none)) else (none)) else (none)) else (none)) else (none))) else (none))) = some r := H
  have A3 := Aside0.mk A30
  clear A30
  replace H := Option.bind_eq_some_iff.mp H
  obtain ⟨t401, A40, H⟩ := H
  replace H : (if (t382.length : Int) = 0 then ((utf_Reader_Waits.f t393 t394 t395 t396 t397).bind fun bt404 => (if bt404.1 = 0 then (if (t390.length : Int) = 1 then (if 0 < (t390.length : Int) then (if (rd t390 0) = 233 then (if (t398.length : Int) = 3 then (if 1 < (t398.length : Int) then (if (rd t398 1) = 65533 then ((utf_Write.f k t398).bind fun t412 => (if t412.toList = ([97, 239, 191, 189, 228, 184, 173] : List UInt8) then ((width_Of.f 20013).bind fun t413 => (if t413 = 2 then ((width_Of.f 97).bind fun t414 => (if t414 = 1 then ((width_Of.f 7).bind fun t415 => (if t415 = 0 then (if (t401.length : Int) = 2 then (if 0 < (t401.length : Int) then (if ((rd_T45 t401 0).f1) = 2 then (if 1 < (t401.length : Int) then (if ((rd_T45 t401 1).f2) = 3 then ((cell_May.f k ((rd_T45 t401 1).f0) ((rd_T45 t401 1).f1) ((rd_T45 t401 1).f2)).bind fun t419 => (if t419 = true then ((cell_Blank.f).bind fun bt420 => ((cell_IsBlank.f bt420.1 bt420.2.1 bt420.2.2).bind fun t423 => (if t423 = true then ((cell_Pad.f).bind fun bt424 => ((cell_IsPad.f bt424.1 bt424.2.1 bt424.2.2).bind fun t427 => (if t427 = true then ((cell_Text.f k t401).bind fun t428 => (if t428.toList = ([228, 184, 173] : List UInt8) then ((cell_Blank.f).bind fun bt430 => ((cell_Trim.f k (([(⟨(rd_T45 t401 0).f0, (rd_T45 t401 0).f1, (rd_T45 t401 0).f2⟩ : S45), (⟨bt430.1, bt430.2.1, bt430.2.2⟩ : S45)] : List (S45)))).bind fun t436 => (if (t436.length : Int) = 1 then (if 1 ≤ (t401.length : Int) then ((cell_Line.f k (t401.take 1)).bind fun t443 => (some t443)) else (none)) else (none)))) else (none))) else (none)))) else (none)))) else (none))) else (none)) else (none)) else (none)) else (none)) else (none)) else (none))) else (none))) else (none))) else (none))) else (none)) else (none)) else (none)) else (none)) else (none)) else (none)) else (none))) else (none)) = some r := H
  have A4 := Aside0.mk A40
  clear A40
  have c5 : (t382.length : Int) = 0 := Decidable.byContradiction fun hc_ => absurd ((if_neg hc_).symm.trans H) (by simp)
  rw [if_pos c5] at H
  have c5b0 : ((t382.length : Int) == 0) = true := beq_iff_eq.mpr c5
  have c5b1 : ((t382.length : Int) != 0) = false := bne_eq_false_iff_eq.mpr c5
  clear c5
  replace H := Option.bind_eq_some_iff.mp H
  obtain ⟨⟨t404, t405, t406, t407, t408, t409⟩, A60, H⟩ := H
  replace H : (if t404 = 0 then (if (t390.length : Int) = 1 then (if 0 < (t390.length : Int) then (if (rd t390 0) = 233 then (if (t398.length : Int) = 3 then (if 1 < (t398.length : Int) then (if (rd t398 1) = 65533 then ((utf_Write.f k t398).bind fun t412 => (if t412.toList = ([97, 239, 191, 189, 228, 184, 173] : List UInt8) then ((width_Of.f 20013).bind fun t413 => (if t413 = 2 then ((width_Of.f 97).bind fun t414 => (if t414 = 1 then ((width_Of.f 7).bind fun t415 => (if t415 = 0 then (if (t401.length : Int) = 2 then (if 0 < (t401.length : Int) then (if ((rd_T45 t401 0).f1) = 2 then (if 1 < (t401.length : Int) then (if ((rd_T45 t401 1).f2) = 3 then ((cell_May.f k ((rd_T45 t401 1).f0) ((rd_T45 t401 1).f1) ((rd_T45 t401 1).f2)).bind fun t419 => (if t419 = true then ((cell_Blank.f).bind fun bt420 => ((cell_IsBlank.f bt420.1 bt420.2.1 bt420.2.2).bind fun t423 => (if t423 = true then ((cell_Pad.f).bind fun bt424 => ((cell_IsPad.f bt424.1 bt424.2.1 bt424.2.2).bind fun t427 => (if t427 = true then ((cell_Text.f k t401).bind fun t428 => (if t428.toList = ([228, 184, 173] : List UInt8) then ((cell_Blank.f).bind fun bt430 => ((cell_Trim.f k (([(⟨(rd_T45 t401 0).f0, (rd_T45 t401 0).f1, (rd_T45 t401 0).f2⟩ : S45), (⟨bt430.1, bt430.2.1, bt430.2.2⟩ : S45)] : List (S45)))).bind fun t436 => (if (t436.length : Int) = 1 then (if 1 ≤ (t401.length : Int) then ((cell_Line.f k (t401.take 1)).bind fun t443 => (some t443)) else (none)) else (none)))) else (none))) else (none)))) else (none)))) else (none))) else (none)) else (none)) else (none)) else (none)) else (none)) else (none))) else (none))) else (none))) else (none))) else (none)) else (none)) else (none)) else (none)) else (none)) else (none)) else (none)) = some r := H
  have A6 := Aside0.mk A60
  clear A60
  have c7 : t404 = 0 := Decidable.byContradiction fun hc_ => absurd ((if_neg hc_).symm.trans H) (by simp)
  rw [if_pos c7] at H
  have c7b0 : (t404 == 0) = true := beq_iff_eq.mpr c7
  have c7b1 : (t404 != 0) = false := bne_eq_false_iff_eq.mpr c7
  clear c7
  have c8 : (t390.length : Int) = 1 := Decidable.byContradiction fun hc_ => absurd ((if_neg hc_).symm.trans H) (by simp)
  rw [if_pos c8] at H
  have c8b0 : ((t390.length : Int) == 1) = true := beq_iff_eq.mpr c8
  have c8b1 : ((t390.length : Int) != 1) = false := bne_eq_false_iff_eq.mpr c8
  clear c8
  have c9 : 0 < (t390.length : Int) := Decidable.byContradiction fun hc_ => absurd ((if_neg hc_).symm.trans H) (by simp)
  rw [if_pos c9] at H
  have c9b0 : decide (0 < (t390.length : Int)) = true := decide_eq_true c9
  have c9b1 : decide (0 < t390.length) = true := decide_eq_true (by omega)
  clear c9
  have c10 : (rd t390 0) = 233 := Decidable.byContradiction fun hc_ => absurd ((if_neg hc_).symm.trans H) (by simp)
  rw [if_pos c10] at H
  have c10b0 : ((rd t390 0) == 233) = true := beq_iff_eq.mpr c10
  have c10b1 : ((rd t390 0) != 233) = false := bne_eq_false_iff_eq.mpr c10
  clear c10
  have c11 : (t398.length : Int) = 3 := Decidable.byContradiction fun hc_ => absurd ((if_neg hc_).symm.trans H) (by simp)
  rw [if_pos c11] at H
  have c11b0 : ((t398.length : Int) == 3) = true := beq_iff_eq.mpr c11
  have c11b1 : ((t398.length : Int) != 3) = false := bne_eq_false_iff_eq.mpr c11
  clear c11
  have c12 : 1 < (t398.length : Int) := Decidable.byContradiction fun hc_ => absurd ((if_neg hc_).symm.trans H) (by simp)
  rw [if_pos c12] at H
  have c12b0 : decide (1 < (t398.length : Int)) = true := decide_eq_true c12
  have c12b1 : decide (1 < t398.length) = true := decide_eq_true (by omega)
  clear c12
  have c13 : (rd t398 1) = 65533 := Decidable.byContradiction fun hc_ => absurd ((if_neg hc_).symm.trans H) (by simp)
  rw [if_pos c13] at H
  have c13b0 : ((rd t398 1) == 65533) = true := beq_iff_eq.mpr c13
  have c13b1 : ((rd t398 1) != 65533) = false := bne_eq_false_iff_eq.mpr c13
  clear c13
  replace H := Option.bind_eq_some_iff.mp H
  obtain ⟨t412, A140, H⟩ := H
  replace H : (if t412.toList = ([97, 239, 191, 189, 228, 184, 173] : List UInt8) then ((width_Of.f 20013).bind fun t413 => (if t413 = 2 then ((width_Of.f 97).bind fun t414 => (if t414 = 1 then ((width_Of.f 7).bind fun t415 => (if t415 = 0 then (if (t401.length : Int) = 2 then (if 0 < (t401.length : Int) then (if ((rd_T45 t401 0).f1) = 2 then (if 1 < (t401.length : Int) then (if ((rd_T45 t401 1).f2) = 3 then ((cell_May.f k ((rd_T45 t401 1).f0) ((rd_T45 t401 1).f1) ((rd_T45 t401 1).f2)).bind fun t419 => (if t419 = true then ((cell_Blank.f).bind fun bt420 => ((cell_IsBlank.f bt420.1 bt420.2.1 bt420.2.2).bind fun t423 => (if t423 = true then ((cell_Pad.f).bind fun bt424 => ((cell_IsPad.f bt424.1 bt424.2.1 bt424.2.2).bind fun t427 => (if t427 = true then ((cell_Text.f k t401).bind fun t428 => (if t428.toList = ([228, 184, 173] : List UInt8) then ((cell_Blank.f).bind fun bt430 => ((cell_Trim.f k (([(⟨(rd_T45 t401 0).f0, (rd_T45 t401 0).f1, (rd_T45 t401 0).f2⟩ : S45), (⟨bt430.1, bt430.2.1, bt430.2.2⟩ : S45)] : List (S45)))).bind fun t436 => (if (t436.length : Int) = 1 then (if 1 ≤ (t401.length : Int) then ((cell_Line.f k (t401.take 1)).bind fun t443 => (some t443)) else (none)) else (none)))) else (none))) else (none)))) else (none)))) else (none))) else (none)) else (none)) else (none)) else (none)) else (none)) else (none))) else (none))) else (none))) else (none)) = some r := H
  have A14 := Aside0.mk A140
  clear A140
  have c15 : t412.toList = ([97, 239, 191, 189, 228, 184, 173] : List UInt8) := Decidable.byContradiction fun hc_ => absurd ((if_neg hc_).symm.trans H) (by simp)
  rw [if_pos c15] at H
  have c15b0 : (t412.toList == ([97, 239, 191, 189, 228, 184, 173] : List UInt8)) = true := beq_iff_eq.mpr c15
  have c15b1 : (t412.toList != ([97, 239, 191, 189, 228, 184, 173] : List UInt8)) = false := bne_eq_false_iff_eq.mpr c15
  clear c15
  replace H := Option.bind_eq_some_iff.mp H
  obtain ⟨t413, A160, H⟩ := H
  replace H : (if t413 = 2 then ((width_Of.f 97).bind fun t414 => (if t414 = 1 then ((width_Of.f 7).bind fun t415 => (if t415 = 0 then (if (t401.length : Int) = 2 then (if 0 < (t401.length : Int) then (if ((rd_T45 t401 0).f1) = 2 then (if 1 < (t401.length : Int) then (if ((rd_T45 t401 1).f2) = 3 then ((cell_May.f k ((rd_T45 t401 1).f0) ((rd_T45 t401 1).f1) ((rd_T45 t401 1).f2)).bind fun t419 => (if t419 = true then ((cell_Blank.f).bind fun bt420 => ((cell_IsBlank.f bt420.1 bt420.2.1 bt420.2.2).bind fun t423 => (if t423 = true then ((cell_Pad.f).bind fun bt424 => ((cell_IsPad.f bt424.1 bt424.2.1 bt424.2.2).bind fun t427 => (if t427 = true then ((cell_Text.f k t401).bind fun t428 => (if t428.toList = ([228, 184, 173] : List UInt8) then ((cell_Blank.f).bind fun bt430 => ((cell_Trim.f k (([(⟨(rd_T45 t401 0).f0, (rd_T45 t401 0).f1, (rd_T45 t401 0).f2⟩ : S45), (⟨bt430.1, bt430.2.1, bt430.2.2⟩ : S45)] : List (S45)))).bind fun t436 => (if (t436.length : Int) = 1 then (if 1 ≤ (t401.length : Int) then ((cell_Line.f k (t401.take 1)).bind fun t443 => (some t443)) else (none)) else (none)))) else (none))) else (none)))) else (none)))) else (none))) else (none)) else (none)) else (none)) else (none)) else (none)) else (none))) else (none))) else (none)) = some r := H
  have A16 := Aside0.mk A160
  clear A160
  have c17 : t413 = 2 := Decidable.byContradiction fun hc_ => absurd ((if_neg hc_).symm.trans H) (by simp)
  rw [if_pos c17] at H
  have c17b0 : (t413 == 2) = true := beq_iff_eq.mpr c17
  have c17b1 : (t413 != 2) = false := bne_eq_false_iff_eq.mpr c17
  clear c17
  replace H := Option.bind_eq_some_iff.mp H
  obtain ⟨t414, A180, H⟩ := H
  replace H : (if t414 = 1 then ((width_Of.f 7).bind fun t415 => (if t415 = 0 then (if (t401.length : Int) = 2 then (if 0 < (t401.length : Int) then (if ((rd_T45 t401 0).f1) = 2 then (if 1 < (t401.length : Int) then (if ((rd_T45 t401 1).f2) = 3 then ((cell_May.f k ((rd_T45 t401 1).f0) ((rd_T45 t401 1).f1) ((rd_T45 t401 1).f2)).bind fun t419 => (if t419 = true then ((cell_Blank.f).bind fun bt420 => ((cell_IsBlank.f bt420.1 bt420.2.1 bt420.2.2).bind fun t423 => (if t423 = true then ((cell_Pad.f).bind fun bt424 => ((cell_IsPad.f bt424.1 bt424.2.1 bt424.2.2).bind fun t427 => (if t427 = true then ((cell_Text.f k t401).bind fun t428 => (if t428.toList = ([228, 184, 173] : List UInt8) then ((cell_Blank.f).bind fun bt430 => ((cell_Trim.f k (([(⟨(rd_T45 t401 0).f0, (rd_T45 t401 0).f1, (rd_T45 t401 0).f2⟩ : S45), (⟨bt430.1, bt430.2.1, bt430.2.2⟩ : S45)] : List (S45)))).bind fun t436 => (if (t436.length : Int) = 1 then (if 1 ≤ (t401.length : Int) then ((cell_Line.f k (t401.take 1)).bind fun t443 => (some t443)) else (none)) else (none)))) else (none))) else (none)))) else (none)))) else (none))) else (none)) else (none)) else (none)) else (none)) else (none)) else (none))) else (none)) = some r := H
  have A18 := Aside0.mk A180
  clear A180
  have c19 : t414 = 1 := Decidable.byContradiction fun hc_ => absurd ((if_neg hc_).symm.trans H) (by simp)
  rw [if_pos c19] at H
  have c19b0 : (t414 == 1) = true := beq_iff_eq.mpr c19
  have c19b1 : (t414 != 1) = false := bne_eq_false_iff_eq.mpr c19
  clear c19
  replace H := Option.bind_eq_some_iff.mp H
  obtain ⟨t415, A200, H⟩ := H
  replace H : (if t415 = 0 then (if (t401.length : Int) = 2 then (if 0 < (t401.length : Int) then (if ((rd_T45 t401 0).f1) = 2 then (if 1 < (t401.length : Int) then (if ((rd_T45 t401 1).f2) = 3 then ((cell_May.f k ((rd_T45 t401 1).f0) ((rd_T45 t401 1).f1) ((rd_T45 t401 1).f2)).bind fun t419 => (if t419 = true then ((cell_Blank.f).bind fun bt420 => ((cell_IsBlank.f bt420.1 bt420.2.1 bt420.2.2).bind fun t423 => (if t423 = true then ((cell_Pad.f).bind fun bt424 => ((cell_IsPad.f bt424.1 bt424.2.1 bt424.2.2).bind fun t427 => (if t427 = true then ((cell_Text.f k t401).bind fun t428 => (if t428.toList = ([228, 184, 173] : List UInt8) then ((cell_Blank.f).bind fun bt430 => ((cell_Trim.f k (([(⟨(rd_T45 t401 0).f0, (rd_T45 t401 0).f1, (rd_T45 t401 0).f2⟩ : S45), (⟨bt430.1, bt430.2.1, bt430.2.2⟩ : S45)] : List (S45)))).bind fun t436 => (if (t436.length : Int) = 1 then (if 1 ≤ (t401.length : Int) then ((cell_Line.f k (t401.take 1)).bind fun t443 => (some t443)) else (none)) else (none)))) else (none))) else (none)))) else (none)))) else (none))) else (none)) else (none)) else (none)) else (none)) else (none)) else (none)) = some r := H
  have A20 := Aside0.mk A200
  clear A200
  have c21 : t415 = 0 := Decidable.byContradiction fun hc_ => absurd ((if_neg hc_).symm.trans H) (by simp)
  rw [if_pos c21] at H
  have c21b0 : (t415 == 0) = true := beq_iff_eq.mpr c21
  have c21b1 : (t415 != 0) = false := bne_eq_false_iff_eq.mpr c21
  clear c21
  have c22 : (t401.length : Int) = 2 := Decidable.byContradiction fun hc_ => absurd ((if_neg hc_).symm.trans H) (by simp)
  rw [if_pos c22] at H
  have c22b0 : ((t401.length : Int) == 2) = true := beq_iff_eq.mpr c22
  have c22b1 : ((t401.length : Int) != 2) = false := bne_eq_false_iff_eq.mpr c22
  clear c22
  have c23 : 0 < (t401.length : Int) := Decidable.byContradiction fun hc_ => absurd ((if_neg hc_).symm.trans H) (by simp)
  rw [if_pos c23] at H
  have c23b0 : decide (0 < (t401.length : Int)) = true := decide_eq_true c23
  have c23b1 : decide (0 < t401.length) = true := decide_eq_true (by omega)
  clear c23
  have c24 : ((rd_T45 t401 0).f1) = 2 := Decidable.byContradiction fun hc_ => absurd ((if_neg hc_).symm.trans H) (by simp)
  rw [if_pos c24] at H
  have c24b0 : (((rd_T45 t401 0).f1) == 2) = true := beq_iff_eq.mpr c24
  have c24b1 : (((rd_T45 t401 0).f1) != 2) = false := bne_eq_false_iff_eq.mpr c24
  clear c24
  have c25 : 1 < (t401.length : Int) := Decidable.byContradiction fun hc_ => absurd ((if_neg hc_).symm.trans H) (by simp)
  rw [if_pos c25] at H
  have c25b0 : decide (1 < (t401.length : Int)) = true := decide_eq_true c25
  have c25b1 : decide (1 < t401.length) = true := decide_eq_true (by omega)
  clear c25
  have c26 : ((rd_T45 t401 1).f2) = 3 := Decidable.byContradiction fun hc_ => absurd ((if_neg hc_).symm.trans H) (by simp)
  rw [if_pos c26] at H
  have c26b0 : (((rd_T45 t401 1).f2) == 3) = true := beq_iff_eq.mpr c26
  have c26b1 : (((rd_T45 t401 1).f2) != 3) = false := bne_eq_false_iff_eq.mpr c26
  clear c26
  replace H := Option.bind_eq_some_iff.mp H
  obtain ⟨t419, A270, H⟩ := H
  replace H : (if t419 = true then ((cell_Blank.f).bind fun bt420 => ((cell_IsBlank.f bt420.1 bt420.2.1 bt420.2.2).bind fun t423 => (if t423 = true then ((cell_Pad.f).bind fun bt424 => ((cell_IsPad.f bt424.1 bt424.2.1 bt424.2.2).bind fun t427 => (if t427 = true then ((cell_Text.f k t401).bind fun t428 => (if t428.toList = ([228, 184, 173] : List UInt8) then ((cell_Blank.f).bind fun bt430 => ((cell_Trim.f k (([(⟨(rd_T45 t401 0).f0, (rd_T45 t401 0).f1, (rd_T45 t401 0).f2⟩ : S45), (⟨bt430.1, bt430.2.1, bt430.2.2⟩ : S45)] : List (S45)))).bind fun t436 => (if (t436.length : Int) = 1 then (if 1 ≤ (t401.length : Int) then ((cell_Line.f k (t401.take 1)).bind fun t443 => (some t443)) else (none)) else (none)))) else (none))) else (none)))) else (none)))) else (none)) = some r := H
  have A27 := Aside0.mk A270
  clear A270
  have c28 : t419 = true := Decidable.byContradiction fun hc_ => absurd ((if_neg hc_).symm.trans H) (by simp)
  subst c28
  have H1 : ((cell_Blank.f).bind fun bt420 => ((cell_IsBlank.f bt420.1 bt420.2.1 bt420.2.2).bind fun t423 => (if t423 = true then ((cell_Pad.f).bind fun bt424 => ((cell_IsPad.f bt424.1 bt424.2.1 bt424.2.2).bind fun t427 => (if t427 = true then ((cell_Text.f k t401).bind fun t428 => (if t428.toList = ([228, 184, 173] : List UInt8) then ((cell_Blank.f).bind fun bt430 => ((cell_Trim.f k (([(⟨(rd_T45 t401 0).f0, (rd_T45 t401 0).f1, (rd_T45 t401 0).f2⟩ : S45), (⟨bt430.1, bt430.2.1, bt430.2.2⟩ : S45)] : List (S45)))).bind fun t436 => (if (t436.length : Int) = 1 then (if 1 ≤ (t401.length : Int) then ((cell_Line.f k (t401.take 1)).bind fun t443 => (some t443)) else (none)) else (none)))) else (none))) else (none)))) else (none)))) = some r := by rw [if_pos rfl] at H; exact H
  clear H
  have H := H1
  clear H1
  replace H := Option.bind_eq_some_iff.mp H
  obtain ⟨⟨t420, t421, t422⟩, A290, H⟩ := H
  replace H : ((cell_IsBlank.f t420 t421 t422).bind fun t423 => (if t423 = true then ((cell_Pad.f).bind fun bt424 => ((cell_IsPad.f bt424.1 bt424.2.1 bt424.2.2).bind fun t427 => (if t427 = true then ((cell_Text.f k t401).bind fun t428 => (if t428.toList = ([228, 184, 173] : List UInt8) then ((cell_Blank.f).bind fun bt430 => ((cell_Trim.f k (([(⟨(rd_T45 t401 0).f0, (rd_T45 t401 0).f1, (rd_T45 t401 0).f2⟩ : S45), (⟨bt430.1, bt430.2.1, bt430.2.2⟩ : S45)] : List (S45)))).bind fun t436 => (if (t436.length : Int) = 1 then (if 1 ≤ (t401.length : Int) then ((cell_Line.f k (t401.take 1)).bind fun t443 => (some t443)) else (none)) else (none)))) else (none))) else (none)))) else (none))) = some r := H
  have A29 := Aside0.mk A290
  clear A290
  replace H := Option.bind_eq_some_iff.mp H
  obtain ⟨t423, A300, H⟩ := H
  replace H : (if t423 = true then ((cell_Pad.f).bind fun bt424 => ((cell_IsPad.f bt424.1 bt424.2.1 bt424.2.2).bind fun t427 => (if t427 = true then ((cell_Text.f k t401).bind fun t428 => (if t428.toList = ([228, 184, 173] : List UInt8) then ((cell_Blank.f).bind fun bt430 => ((cell_Trim.f k (([(⟨(rd_T45 t401 0).f0, (rd_T45 t401 0).f1, (rd_T45 t401 0).f2⟩ : S45), (⟨bt430.1, bt430.2.1, bt430.2.2⟩ : S45)] : List (S45)))).bind fun t436 => (if (t436.length : Int) = 1 then (if 1 ≤ (t401.length : Int) then ((cell_Line.f k (t401.take 1)).bind fun t443 => (some t443)) else (none)) else (none)))) else (none))) else (none)))) else (none)) = some r := H
  have A30 := Aside0.mk A300
  clear A300
  have c31 : t423 = true := Decidable.byContradiction fun hc_ => absurd ((if_neg hc_).symm.trans H) (by simp)
  subst c31
  have H1 : ((cell_Pad.f).bind fun bt424 => ((cell_IsPad.f bt424.1 bt424.2.1 bt424.2.2).bind fun t427 => (if t427 = true then ((cell_Text.f k t401).bind fun t428 => (if t428.toList = ([228, 184, 173] : List UInt8) then ((cell_Blank.f).bind fun bt430 => ((cell_Trim.f k (([(⟨(rd_T45 t401 0).f0, (rd_T45 t401 0).f1, (rd_T45 t401 0).f2⟩ : S45), (⟨bt430.1, bt430.2.1, bt430.2.2⟩ : S45)] : List (S45)))).bind fun t436 => (if (t436.length : Int) = 1 then (if 1 ≤ (t401.length : Int) then ((cell_Line.f k (t401.take 1)).bind fun t443 => (some t443)) else (none)) else (none)))) else (none))) else (none)))) = some r := by rw [if_pos rfl] at H; exact H
  clear H
  have H := H1
  clear H1
  replace H := Option.bind_eq_some_iff.mp H
  obtain ⟨⟨t424, t425, t426⟩, A320, H⟩ := H
  replace H : ((cell_IsPad.f t424 t425 t426).bind fun t427 => (if t427 = true then ((cell_Text.f k t401).bind fun t428 => (if t428.toList = ([228, 184, 173] : List UInt8) then ((cell_Blank.f).bind fun bt430 => ((cell_Trim.f k (([(⟨(rd_T45 t401 0).f0, (rd_T45 t401 0).f1, (rd_T45 t401 0).f2⟩ : S45), (⟨bt430.1, bt430.2.1, bt430.2.2⟩ : S45)] : List (S45)))).bind fun t436 => (if (t436.length : Int) = 1 then (if 1 ≤ (t401.length : Int) then ((cell_Line.f k (t401.take 1)).bind fun t443 => (some t443)) else (none)) else (none)))) else (none))) else (none))) = some r := H
  have A32 := Aside0.mk A320
  clear A320
  replace H := Option.bind_eq_some_iff.mp H
  obtain ⟨t427, A330, H⟩ := H
  replace H : (if t427 = true then ((cell_Text.f k t401).bind fun t428 => (if t428.toList = ([228, 184, 173] : List UInt8) then ((cell_Blank.f).bind fun bt430 => ((cell_Trim.f k (([(⟨(rd_T45 t401 0).f0, (rd_T45 t401 0).f1, (rd_T45 t401 0).f2⟩ : S45), (⟨bt430.1, bt430.2.1, bt430.2.2⟩ : S45)] : List (S45)))).bind fun t436 => (if (t436.length : Int) = 1 then (if 1 ≤ (t401.length : Int) then ((cell_Line.f k (t401.take 1)).bind fun t443 => (some t443)) else (none)) else (none)))) else (none))) else (none)) = some r := H
  have A33 := Aside0.mk A330
  clear A330
  have c34 : t427 = true := Decidable.byContradiction fun hc_ => absurd ((if_neg hc_).symm.trans H) (by simp)
  subst c34
  have H1 : ((cell_Text.f k t401).bind fun t428 => (if t428.toList = ([228, 184, 173] : List UInt8) then ((cell_Blank.f).bind fun bt430 => ((cell_Trim.f k (([(⟨(rd_T45 t401 0).f0, (rd_T45 t401 0).f1, (rd_T45 t401 0).f2⟩ : S45), (⟨bt430.1, bt430.2.1, bt430.2.2⟩ : S45)] : List (S45)))).bind fun t436 => (if (t436.length : Int) = 1 then (if 1 ≤ (t401.length : Int) then ((cell_Line.f k (t401.take 1)).bind fun t443 => (some t443)) else (none)) else (none)))) else (none))) = some r := by rw [if_pos rfl] at H; exact H
  clear H
  have H := H1
  clear H1
  replace H := Option.bind_eq_some_iff.mp H
  obtain ⟨t428, A350, H⟩ := H
  replace H : (if t428.toList = ([228, 184, 173] : List UInt8) then ((cell_Blank.f).bind fun bt430 => ((cell_Trim.f k (([(⟨(rd_T45 t401 0).f0, (rd_T45 t401 0).f1, (rd_T45 t401 0).f2⟩ : S45), (⟨bt430.1, bt430.2.1, bt430.2.2⟩ : S45)] : List (S45)))).bind fun t436 => (if (t436.length : Int) = 1 then (if 1 ≤ (t401.length : Int) then ((cell_Line.f k (t401.take 1)).bind fun t443 => (some t443)) else (none)) else (none)))) else (none)) = some r := H
  have A35 := Aside0.mk A350
  clear A350
  have c36 : t428.toList = ([228, 184, 173] : List UInt8) := Decidable.byContradiction fun hc_ => absurd ((if_neg hc_).symm.trans H) (by simp)
  rw [if_pos c36] at H
  have c36b0 : (t428.toList == ([228, 184, 173] : List UInt8)) = true := beq_iff_eq.mpr c36
  have c36b1 : (t428.toList != ([228, 184, 173] : List UInt8)) = false := bne_eq_false_iff_eq.mpr c36
  clear c36
  replace H := Option.bind_eq_some_iff.mp H
  obtain ⟨⟨t430, t431, t432⟩, A370, H⟩ := H
  replace H : ((cell_Trim.f k (([(⟨(rd_T45 t401 0).f0, (rd_T45 t401 0).f1, (rd_T45 t401 0).f2⟩ : S45), (⟨t430, t431, t432⟩ : S45)] : List (S45)))).bind fun t436 => (if (t436.length : Int) = 1 then (if 1 ≤ (t401.length : Int) then ((cell_Line.f k (t401.take 1)).bind fun t443 => (some t443)) else (none)) else (none))) = some r := H
  have A37 := Aside0.mk A370
  clear A370
  obtain ⟨y433, hy433⟩ : ∃ y_ : List (S45), y_ = (([(⟨(rd_T45 t401 0).f0, (rd_T45 t401 0).f1, (rd_T45 t401 0).f2⟩ : S45), (⟨t430, t431, t432⟩ : S45)] : List (S45))) := ⟨_, rfl⟩
  replace H : ((cell_Trim.f k y433).bind fun t436 => (if (t436.length : Int) = 1 then (if 1 ≤ (t401.length : Int) then ((cell_Line.f k (t401.take 1)).bind fun t443 => (some t443)) else (none)) else (none))) = some r := by first | (rw [hy433]; with_reducible exact H) | (have H2_ := (Option.bind_some _ _).symm.trans H; rw [hy433]; with_reducible exact H2_) | (have H2_ := (Option.bind_some _ _).symm.trans H; with_reducible exact H2_) | with_reducible exact H | (rw [hy433]; exact H) | exact H
  have Ny433 := Aside0.mk hy433
  clear hy433
  replace H := Option.bind_eq_some_iff.mp H
  obtain ⟨t436, A380, H⟩ := H
  replace H : (if (t436.length : Int) = 1 then (if 1 ≤ (t401.length : Int) then ((cell_Line.f k (t401.take 1)).bind fun t443 => (some t443)) else (none)) else (none)) = some r := H
  have A38 := Aside0.mk A380
  clear A380
  have c39 : (t436.length : Int) = 1 := Decidable.byContradiction fun hc_ => absurd ((if_neg hc_).symm.trans H) (by simp)
  rw [if_pos c39] at H
  have c39b0 : ((t436.length : Int) == 1) = true := beq_iff_eq.mpr c39
  have c39b1 : ((t436.length : Int) != 1) = false := bne_eq_false_iff_eq.mpr c39
  clear c39
  have c40 : 1 ≤ (t401.length : Int) := Decidable.byContradiction fun hc_ => absurd ((if_neg hc_).symm.trans H) (by simp)
  rw [if_pos c40] at H
  have c40b0 := eq_true c40
  have c40b1 : decide (1 ≤ (t401.length : Int)) = true := decide_eq_true c40
  clear c40
  obtain ⟨y439, hy439⟩ : ∃ y_ : List (S45), y_ = (t401.take 1) := ⟨_, rfl⟩
  replace H : ((cell_Line.f k y439).bind fun t443 => (some t443)) = some r := by first | (rw [hy439]; with_reducible exact H) | (have H2_ := (Option.bind_some _ _).symm.trans H; rw [hy439]; with_reducible exact H2_) | (have H2_ := (Option.bind_some _ _).symm.trans H; with_reducible exact H2_) | with_reducible exact H | (rw [hy439]; exact H) | exact H
  have Ny439 := Aside0.mk hy439
  clear hy439
  replace H := Option.bind_eq_some_iff.mp H
  obtain ⟨t443, A410, H⟩ := H
  replace H : (some t443) = some r := H
  have A41 := Aside0.mk A410
  clear A410
  obtain rfl := Option.some.inj H
  go_enter Try.func64, Try.ntmps64
  try go_wp2_with (first | ((with_reducible refine gate_dst (N := 7) rfl ?_); (try (refine gate_guard (by rfl) ?_; dsimp only)); refine box_event ?hg (N := 7) ?hd (cs := #[.int .i64 0, .int .i64 0, .int .i32 0, .int .u8 0, .int .u8 0]) (t := 101) ?hr ?_; (case hd => rfl); (case hg => rfl); (case hr => first | (go_simp; done) | (go_simp; rfl)); intro gb381 hg w42 hbox hb; have n0_ := Aside0.mk (below_step (by repeat (first | (with_reducible first | exact HB.out | apply below_alloc | apply pw_below_drewN | apply below_drew1) | exact HB.out)) hb); have n1_ := Aside0.mk ((show IsS101 w w42 gb381 0 0 0 0 0 from ⟨hbox, (by rw [hg]; exact (below_size (by repeat (first | (with_reducible first | exact HB.out | apply below_alloc | apply pw_below_drewN | apply below_drew1) | exact HB.out))) : w.heap.size ≤ gb381)⟩)); have n2_ := Aside0.mk ((by rw [hg]; exact (below_size (by repeat (first | (with_reducible first | exact HB.out | apply below_alloc | apply pw_below_drewN | apply below_drew1) | exact HB.out))) : w.heap.size ≤ gb381)); have n3_ := Aside0.mk ((by rw [hg]; exact (below_size (by repeat (first | (with_reducible first | exact HB.out | apply below_alloc | apply pw_below_drewN | apply below_drew1) | exact HB.out))) : w.heap.size ≤ gb381)); clear HB; have HB := n0_; have HI381 := n1_; have GW381 := n2_; have GE381 := n3_; clear n0_ n1_ n2_ n3_; clear hb hbox hg) | ((with_reducible refine gate_callee (f := 70) rfl ?_); refine goesL_ (some 9) rfl rfl Try.func70 (by kernel_rfl) rfl #[.pointer (some ⟨gb381, 0, none⟩), .int .u8 195] rfl (by (try simp only [List.map_toArray, List.map_cons, List.map_nil]); first | done | rfl | (simp only [List.length_drop, List.length_take]; rfl)) ?_; (with_reducible refine (utf_Reader_Put.calls k gb381 0 0 0 0 0 195 t382 t385 t386 t387 t388 t389 w _ ?side1 ?side2 A1.out).mono ?_); (case side1 => repeat (first | (with_reducible first | exact HI381.out | apply IsS101.alloc | apply IsS101.drewN | apply IsS101.drew | apply IsS101.set_0 | apply IsS101.set_1 | apply IsS101.set_2 | apply IsS101.set_3 | apply IsS101.set_4) | exact HI381.out)); (case side2 => repeat (first | (with_reducible first | exact HB.out | apply below_alloc | apply pw_below_drewN | apply below_drew1 | refine below_set ?_ (IsS101.ge HI381.out)) | exact HB.out)); rintro e w43 ⟨v383, rfl, ho0, hi, hb, hk⟩; refine ⟨_, rfl, ?_⟩; have n0_ := Aside0.mk (Kd.R_lower ho0 (below_size (by repeat (first | (with_reducible first | exact HB.out | apply below_alloc | apply pw_below_drewN | apply below_drew1 | refine below_set ?_ (IsS101.ge HI381.out)) | exact HB.out)))); have n1_ := Aside0.mk (hb); have n2_ := Aside0.mk (hi); clear HB; clear HI381; have HO384 := n0_; have HB := n1_; have HI381 := n2_; clear n0_ n1_ n2_; (try clear hb); (try clear hb2); (try clear hk); (try clear hi); (try clear ho0)) | ((with_reducible refine gate_callee (f := 70) rfl ?_); refine goesL_ (some 11) rfl rfl Try.func70 (by kernel_rfl) rfl #[.pointer (some ⟨gb381, 0, none⟩), .int .u8 169] rfl (by (try simp only [List.map_toArray, List.map_cons, List.map_nil]); first | done | rfl | (simp only [List.length_drop, List.length_take]; rfl)) ?_; (with_reducible refine (utf_Reader_Put.calls k gb381 t385 t386 t387 t388 t389 169 t390 t393 t394 t395 t396 t397 w _ ?side1 ?side2 A2.out).mono ?_); (case side1 => repeat (first | (with_reducible first | exact HI381.out | apply IsS101.alloc | apply IsS101.drewN | apply IsS101.drew | apply IsS101.set_0 | apply IsS101.set_1 | apply IsS101.set_2 | apply IsS101.set_3 | apply IsS101.set_4) | exact HI381.out)); (case side2 => repeat (first | (with_reducible first | exact HB.out | apply below_alloc | apply pw_below_drewN | apply below_drew1 | refine below_set ?_ (IsS101.ge HI381.out)) | exact HB.out)); rintro e w44 ⟨v391, rfl, ho0, hi, hb, hk⟩; refine ⟨_, rfl, ?_⟩; have n0_ := Aside0.mk (Kd.R_mono (Kd.R_told (Kd.R_oldK (IsS101.apart (show IsS101 w _ gb381 t385 t386 t387 t388 t389 from by repeat (first | (with_reducible first | exact HI381.out | apply IsS101.alloc | apply IsS101.drewN | apply IsS101.drew | apply IsS101.set_0 | apply IsS101.set_1 | apply IsS101.set_2 | apply IsS101.set_3 | apply IsS101.set_4) | exact HI381.out)) (by (with_reducible repeat (first | apply Kd.R_alloc | apply Kd.R_drewN | apply Kd.R_drew)); exact HO384.out) (by decide)) hk) (Kd.R_base ho0)) (fun _ h_ => h_.1)); have n1_ := Aside0.mk (Kd.R_lower (Kd.R_new' ho0 (Kd.R_lt (by (with_reducible repeat (first | apply Kd.R_alloc | apply Kd.R_drewN | apply Kd.R_drew)); exact HO384.out))) (below_size (by repeat (first | (with_reducible first | exact HB.out | apply below_alloc | apply pw_below_drewN | apply below_drew1 | refine below_set ?_ (IsS101.ge HI381.out)) | exact HB.out)))); have n2_ := Aside0.mk (hb); have n3_ := Aside0.mk (hi); clear HO384; clear HB; clear HI381; have HO384 := n0_; have HO392 := n1_; have HB := n2_; have HI381 := n3_; clear n0_ n1_ n2_ n3_; (try clear hb); (try clear hb2); (try clear hk); (try clear hi); (try clear ho0)) | ((with_reducible refine gate_callee (f := 71) rfl ?_); refine goesL_ (some 12) rfl rfl Try.func71 (by kernel_rfl) rfl #[.string (⟨#[97, 255, 228, 184, 173]⟩ : ByteArray)] rfl (by (try simp only [List.map_toArray, List.map_cons, List.map_nil]); first | done | rfl | (simp only [List.length_drop, List.length_take]; rfl)) ?_; (with_reducible refine (utf_All.calls k (⟨#[97, 255, 228, 184, 173]⟩ : ByteArray) t398 _ A3.out).mono ?_); rintro e w45 ⟨v399, rfl, ho0, hb⟩; refine ⟨_, rfl, ?_⟩; have n0_ := Aside0.mk (Kd.R_elder' (by (with_reducible repeat (first | apply Kd.R_alloc | apply Kd.R_drewN | apply Kd.R_drew)); exact HO384.out) (Kd.R_base ho0) hb); have n1_ := Aside0.mk (Kd.R_elder' (by (with_reducible repeat (first | apply Kd.R_alloc | apply Kd.R_drewN | apply Kd.R_drew)); exact HO392.out) (Kd.R_base ho0) hb); have n2_ := Aside0.mk (Kd.R_lower (Kd.R_new' (Kd.R_new' ho0 (Kd.R_lt (by (with_reducible repeat (first | apply Kd.R_alloc | apply Kd.R_drewN | apply Kd.R_drew)); exact HO384.out))) (Kd.R_lt (by (with_reducible repeat (first | apply Kd.R_alloc | apply Kd.R_drewN | apply Kd.R_drew)); exact HO392.out))) (below_size (by repeat (first | (with_reducible first | exact HB.out | apply below_alloc | apply pw_below_drewN | apply below_drew1 | refine below_set ?_ (IsS101.ge HI381.out)) | exact HB.out)))); have n3_ := Aside0.mk (IsS101.below (by repeat (first | (with_reducible first | exact HI381.out | apply IsS101.alloc | apply IsS101.drewN | apply IsS101.drew | apply IsS101.set_0 | apply IsS101.set_1 | apply IsS101.set_2 | apply IsS101.set_3 | apply IsS101.set_4) | exact HI381.out)) hb); have n4_ := Aside0.mk (below_step (by repeat (first | (with_reducible first | exact HB.out | apply below_alloc | apply pw_below_drewN | apply below_drew1 | refine below_set ?_ (IsS101.ge HI381.out)) | exact HB.out)) hb); clear HO384; clear HO392; clear HI381; clear HB; have HO384 := n0_; have HO392 := n1_; have HO400 := n2_; have HI381 := n3_; have HB := n4_; clear n0_ n1_ n2_ n3_ n4_; (try clear hb); (try clear hb2); (try clear hk); (try clear hi); (try clear ho0)) | ((with_reducible refine gate_callee (f := 72) rfl ?_); refine goesL_ (some 13) rfl rfl Try.func72 (by kernel_rfl) rfl #[.int .i32 20013, .int .i64 3] rfl (by (try simp only [List.map_toArray, List.map_cons, List.map_nil]); first | done | rfl | (simp only [List.length_drop, List.length_take]; rfl)) ?_; (with_reducible refine (cell_Of.calls k 20013 3 t401 _ A4.out).mono ?_); rintro e w46 ⟨v402, rfl, ho0, hb⟩; refine ⟨_, rfl, ?_⟩; have n0_ := Aside0.mk (Kd.R_below (by (with_reducible repeat (first | apply Kd.R_alloc | apply Kd.R_drewN | apply Kd.R_drew)); exact HO384.out) hb); have n1_ := Aside0.mk (Kd.R_below (by (with_reducible repeat (first | apply Kd.R_alloc | apply Kd.R_drewN | apply Kd.R_drew)); exact HO392.out) hb); have n2_ := Aside0.mk (Kd.R_below (by (with_reducible repeat (first | apply Kd.R_alloc | apply Kd.R_drewN | apply Kd.R_drew)); exact HO400.out) hb); have n3_ := Aside0.mk (Kd.R_lower ho0 (below_size (by repeat (first | (with_reducible first | exact HB.out | apply below_alloc | apply pw_below_drewN | apply below_drew1 | refine below_set ?_ (IsS101.ge HI381.out)) | exact HB.out)))); have n4_ := Aside0.mk (IsS101.below (by repeat (first | (with_reducible first | exact HI381.out | apply IsS101.alloc | apply IsS101.drewN | apply IsS101.drew | apply IsS101.set_0 | apply IsS101.set_1 | apply IsS101.set_2 | apply IsS101.set_3 | apply IsS101.set_4) | exact HI381.out)) hb); have n5_ := Aside0.mk (below_step (by repeat (first | (with_reducible first | exact HB.out | apply below_alloc | apply pw_below_drewN | apply below_drew1 | refine below_set ?_ (IsS101.ge HI381.out)) | exact HB.out)) hb); clear HO384; clear HO392; clear HO400; clear HI381; clear HB; have HO384 := n0_; have HO392 := n1_; have HO400 := n2_; have HO403 := n3_; have HI381 := n4_; have HB := n5_; clear n0_ n1_ n2_ n3_ n4_ n5_; (try clear hb); (try clear hb2); (try clear hk); (try clear hi); (try clear ho0)))
  have n0_ := Aside0.mk (Kd.R_drew HO384.out)
  have n1_ := Aside0.mk (Kd.R_drew HO392.out)
  have n2_ := Aside0.mk (Kd.R_drew HO400.out)
  have n3_ := Aside0.mk (Kd.R_drew HO403.out)
  have n4_ := Aside0.mk (IsS101.drew HI381.out)
  have n5_ := Aside0.mk (below_drew1 HB.out)
  clear HO384
  clear HO392
  clear HO400
  clear HO403
  clear HI381
  clear HB
  have HO384 := n0_
  have HO392 := n1_
  have HO400 := n2_
  have HO403 := n3_
  have HI381 := n4_
  have HB := n5_
  clear n0_ n1_ n2_ n3_ n4_ n5_
  obtain ⟨Ao48, co48, eo48⟩ := Kd.R_slice HO384.out
  (first | subst eo48 | (injection eo48 with f1_ f2_ f3_; have f4_ := f1_.symm; have f5_ := f3_.symm; clear f1_ f2_ f3_; subst f4_; subst f5_))
  obtain ⟨Ao50, co50, eo50⟩ := Kd.R_slice HO392.out
  (first | subst eo50 | (injection eo50 with f1_ f2_ f3_; have f4_ := f1_.symm; have f5_ := f3_.symm; clear f1_ f2_ f3_; subst f4_; subst f5_))
  have p410 : 0 ≤ (0 : Int) := (by omega)
  have q410 : 0 < (t390.length : Int) := of_decide_eq_true (by first | (with_reducible assumption) | assumption)
  obtain ⟨ad410, e410, hx410_0⟩ := Kd.at_int (Kd.R_reads' HO392.out).2.2 0 p410 q410
  cases e410
  have qi410 : (0 < t390.length) = True := eq_true (by omega)
  (try rw [show ((0 : Int)).toNat = 0 from rfl] at hx410_0)
  (try rw [Addr.add_zero'] at hx410_0)
  replace p410 := eq_true p410
  replace q410 := eq_true q410
  obtain ⟨Ao51, co51, eo51⟩ := Kd.R_slice HO400.out
  (first | subst eo51 | (injection eo51 with f1_ f2_ f3_; have f4_ := f1_.symm; have f5_ := f3_.symm; clear f1_ f2_ f3_; subst f4_; subst f5_))
  have p411 : 0 ≤ (1 : Int) := (by omega)
  have q411 : 1 < (t398.length : Int) := of_decide_eq_true (by first | (with_reducible assumption) | assumption)
  obtain ⟨ad411, e411, hx411_0⟩ := Kd.at_int (Kd.R_reads' HO400.out).2.2 1 p411 q411
  cases e411
  (try simp only [show (1 : Int).toNat = 1 from rfl, Nat.reduceMul, Nat.reduceEqDiff, Go.Addr.add, ↓reduceIte] at hx411_0)
  have qi411 : (1 < t398.length) = True := eq_true (by omega)
  (try rw [show ((1 : Int)).toNat = 1 from rfl] at hx411_0)
  replace p411 := eq_true p411
  replace q411 := eq_true q411
  obtain ⟨Ao53, co53, eo53⟩ := Kd.R_slice HO403.out
  (first | subst eo53 | (injection eo53 with f1_ f2_ f3_; have f4_ := f1_.symm; have f5_ := f3_.symm; clear f1_ f2_ f3_; subst f4_; subst f5_))
  have p416 : 0 ≤ (0 : Int) := (by omega)
  have q416 : 0 < (t401.length : Int) := of_decide_eq_true (by first | (with_reducible assumption) | assumption)
  obtain ⟨ad416, e416, hx416_0, hx416_1, hx416_2⟩ := at_T45 (Kd.R_reads' HO403.out).2.2 0 p416 q416
  cases e416
  have qi416 : (0 < t401.length) = True := eq_true (by omega)
  (try rw [show ((0 : Int)).toNat = 0 from rfl] at hx416_0)
  (try rw [show 0 * 3 = 0 from rfl] at hx416_0)
  (try rw [Addr.add_zero'] at hx416_0)
  (try rw [show ((0 : Int)).toNat = 0 from rfl] at hx416_1)
  (try rw [show 0 * 3 = 0 from rfl] at hx416_1)
  (try rw [Addr.add_zero'] at hx416_1)
  (try rw [show ((0 : Int)).toNat = 0 from rfl] at hx416_2)
  (try rw [show 0 * 3 = 0 from rfl] at hx416_2)
  (try rw [Addr.add_zero'] at hx416_2)
  replace p416 := eq_true p416
  replace q416 := eq_true q416
  have p417 : 0 ≤ (1 : Int) := (by omega)
  have q417 : 1 < (t401.length : Int) := of_decide_eq_true (by first | (with_reducible assumption) | assumption)
  obtain ⟨ad417, e417, hx417_0, hx417_1, hx417_2⟩ := at_T45 (Kd.R_reads' HO403.out).2.2 1 p417 q417
  obtain rfl : ad416 = ad417 := (by injection e417)
  (try simp only [show (1 : Int).toNat = 1 from rfl, Nat.reduceMul, Nat.reduceEqDiff, Go.Addr.add, ↓reduceIte] at hx417_0)
  (try simp only [show (1 : Int).toNat = 1 from rfl, Nat.reduceMul, Nat.reduceEqDiff, Go.Addr.add, ↓reduceIte] at hx417_1)
  (try simp only [show (1 : Int).toNat = 1 from rfl, Nat.reduceMul, Nat.reduceEqDiff, Go.Addr.add, ↓reduceIte] at hx417_2)
  have qi417 : (1 < t401.length) = True := eq_true (by omega)
  (try rw [show ((1 : Int)).toNat = 1 from rfl] at hx417_0)
  (try rw [show 1 * 3 = 3 from rfl] at hx417_0)
  (try rw [show ((1 : Int)).toNat = 1 from rfl] at hx417_1)
  (try rw [show 1 * 3 = 3 from rfl] at hx417_1)
  (try rw [show ((1 : Int)).toNat = 1 from rfl] at hx417_2)
  (try rw [show 1 * 3 = 3 from rfl] at hx417_2)
  replace p417 := eq_true p417
  replace q417 := eq_true q417
  have p418 : 0 ≤ (1 : Int) := (by omega)
  have q418 : 1 < (t401.length : Int) := of_decide_eq_true (by first | (with_reducible assumption) | assumption)
  obtain ⟨ad418, e418, hx418_0, hx418_1, hx418_2⟩ := at_T45 (Kd.R_reads' HO403.out).2.2 1 p418 q418
  obtain rfl : ad416 = ad418 := (by injection e418)
  (try simp only [show (1 : Int).toNat = 1 from rfl, Nat.reduceMul, Nat.reduceEqDiff, Go.Addr.add, ↓reduceIte] at hx418_0)
  (try simp only [show (1 : Int).toNat = 1 from rfl, Nat.reduceMul, Nat.reduceEqDiff, Go.Addr.add, ↓reduceIte] at hx418_1)
  (try simp only [show (1 : Int).toNat = 1 from rfl, Nat.reduceMul, Nat.reduceEqDiff, Go.Addr.add, ↓reduceIte] at hx418_2)
  have qi418 : (1 < t401.length) = True := eq_true (by omega)
  (try rw [show ((1 : Int)).toNat = 1 from rfl] at hx418_0)
  (try rw [show 1 * 3 = 3 from rfl] at hx418_0)
  (try rw [show ((1 : Int)).toNat = 1 from rfl] at hx418_1)
  (try rw [show 1 * 3 = 3 from rfl] at hx418_1)
  (try rw [show ((1 : Int)).toNat = 1 from rfl] at hx418_2)
  (try rw [show 1 * 3 = 3 from rfl] at hx418_2)
  replace p418 := eq_true p418
  replace q418 := eq_true q418
  have p429 : 0 ≤ (0 : Int) := (by omega)
  have q429 : 0 < (t401.length : Int) := of_decide_eq_true (by first | (with_reducible assumption) | assumption)
  obtain ⟨ad429, e429, hx429_0, hx429_1, hx429_2⟩ := at_T45 (Kd.R_reads' HO403.out).2.2 0 p429 q429
  obtain rfl : ad416 = ad429 := (by injection e429)
  have qi429 : (0 < t401.length) = True := eq_true (by omega)
  (try rw [show ((0 : Int)).toNat = 0 from rfl] at hx429_0)
  (try rw [show 0 * 3 = 0 from rfl] at hx429_0)
  (try rw [Addr.add_zero'] at hx429_0)
  (try rw [show ((0 : Int)).toNat = 0 from rfl] at hx429_1)
  (try rw [show 0 * 3 = 0 from rfl] at hx429_1)
  (try rw [Addr.add_zero'] at hx429_1)
  (try rw [show ((0 : Int)).toNat = 0 from rfl] at hx429_2)
  (try rw [show 0 * 3 = 0 from rfl] at hx429_2)
  (try rw [Addr.add_zero'] at hx429_2)
  replace p429 := eq_true p429
  replace q429 := eq_true q429
  refine start_ (n := 101) (S := fun w' => w'.cell? ad410 = some (.int .i32 (rd t390 0)) ∧ w'.cell? ⟨ad411.block, ad411.off + 1, none⟩ = some (.int .i32 (rd t398 1)) ∧ w'.cell? ad416 = some (.int .i32 ((rd_T45 t401 0).f0)) ∧ w'.cell? ⟨ad416.block, ad416.off + 1, none⟩ = some (.int .i64 ((rd_T45 t401 0).f1)) ∧ w'.cell? ⟨ad416.block, ad416.off + 2, none⟩ = some (.int .i64 ((rd_T45 t401 0).f2)) ∧ w'.cell? ⟨ad416.block, ad416.off + 3, none⟩ = some (.int .i32 ((rd_T45 t401 1).f0)) ∧ w'.cell? ⟨ad416.block, ad416.off + 3 + 1, none⟩ = some (.int .i64 ((rd_T45 t401 1).f1)) ∧ w'.cell? ⟨ad416.block, ad416.off + 3 + 2, none⟩ = some (.int .i64 ((rd_T45 t401 1).f2)) ∧ w'.cell? ⟨ad416.block, ad416.off + 3, none⟩ = some (.int .i32 ((rd_T45 t401 1).f0)) ∧ w'.cell? ⟨ad416.block, ad416.off + 3 + 1, none⟩ = some (.int .i64 ((rd_T45 t401 1).f1)) ∧ w'.cell? ⟨ad416.block, ad416.off + 3 + 2, none⟩ = some (.int .i64 ((rd_T45 t401 1).f2)) ∧ w'.cell? ad416 = some (.int .i32 ((rd_T45 t401 0).f0)) ∧ w'.cell? ⟨ad416.block, ad416.off + 1, none⟩ = some (.int .i64 ((rd_T45 t401 0).f1)) ∧ w'.cell? ⟨ad416.block, ad416.off + 2, none⟩ = some (.int .i64 ((rd_T45 t401 0).f2))) (ds := []) (bl_ [0, 101]) (by kernel_rfl) rfl rfl ⟨hx410_0, hx411_0, hx416_0, hx416_1, hx416_2, hx417_0, hx417_1, hx417_2, hx418_0, hx418_1, hx418_2, hx429_0, hx429_1, hx429_2⟩ (fun hHeld => ?_); refine with_tabW rotuluslaw1_begun.tab6 rotuluslaw1_begun.bits6 (fun HT_ HW_ => ?_)
  generalize w46.drew = w47 at HO384 HO392 HO400 HO403 HI381 HB hx410_0 hx411_0 hx416_0 hx416_1 hx416_2 hx417_0 hx417_1 hx417_2 hx418_0 hx418_1 hx418_2 hx429_0 hx429_1 hx429_2 hHeld ⊢
  refine pure_ (i := 0) (N := some 14) (v := ?_) (a' := ?_) (bl_ [1, 100]) rfl rfl (any_of HT_.out (by kernel_rfl)) (fun _ _ _ h => h) (Or.inl ⟨by rfl, ?_⟩) ?_ ?_
  rotate_left
  · intro w'
    go_simp
    with_reducible rfl
  rotate_left
  · simp only [Act.put, List.setIfInBounds_toArray, List.set_cons_zero, List.set_cons_succ, i64_w, i32_w]
    rfl
  refine pure_ (i := 1) (N := some 15) (v := ?_) (a' := ?_) (bl_ [2, 99]) rfl rfl (any_of HT_.out (by kernel_rfl)) (fun _ _ _ h => h) (Or.inl ⟨by rfl, ?_⟩) ?_ ?_
  rotate_left
  · intro w'
    go_simp
    with_reducible rfl
  rotate_left
  · simp only [Act.put, List.setIfInBounds_toArray, List.set_cons_zero, List.set_cons_succ, i64_w, i32_w]
    rfl
  refine pure_ (i := 2) (N := some 16) (v := ?_) (a' := ?_) (bl_ [3, 98]) rfl rfl (any_of HT_.out (by kernel_rfl)) (fun _ _ _ h => h) (Or.inl ⟨by rfl, ?_⟩) ?_ ?_
  rotate_left
  · intro w'
    go_simp
    with_reducible rfl
  rotate_left
  · simp only [Act.put, List.setIfInBounds_toArray, List.set_cons_zero, List.set_cons_succ, i64_w, i32_w]
    rfl
  refine pure_ (i := 3) (N := some 17) (v := ?_) (a' := ?_) (bl_ [4, 97]) rfl rfl (any_of HT_.out (by kernel_rfl)) (fun _ _ _ h => h) (Or.inl ⟨by rfl, ?_⟩) ?_ ?_
  rotate_left
  · intro w'
    go_simp
    with_reducible rfl
  rotate_left
  · simp only [Act.put, List.setIfInBounds_toArray, List.set_cons_zero, List.set_cons_succ, i64_w, i32_w]
    rfl
  refine pure_ (i := 4) (N := some 18) (v := ?_) (a' := ?_) (bl_ [5, 96]) rfl rfl (any_of HT_.out (by kernel_rfl)) (fun _ _ _ h => h) (Or.inl ⟨by rfl, ?_⟩) ?_ ?_
  rotate_left
  · intro w'
    go_simp
    with_reducible rfl
  rotate_left
  · simp only [Act.put, List.setIfInBounds_toArray, List.set_cons_zero, List.set_cons_succ, i64_w, i32_w]
    rfl
  refine one_ (i := 5) (N := some 19) (bl_ [6, 95]) rfl rfl (one_of HT_.out (by kernel_rfl)) (by decide) (fun K hK => ?_)
  refine goes_ Try.func73 (by kernel_rfl) rfl #[.pointer (some ⟨gb381, 0, none⟩)] (by rfl) rfl rfl (by (try simp only [List.map_toArray, List.map_cons, List.map_nil]); first | done | rfl | (simp only [List.length_drop, List.length_take]; rfl)) ?_
  with_reducible refine (utf_Reader_Waits.calls gb381 t393 t394 t395 t396 t397 t404 t405 t406 t407 t408 t409 w _ ?side1 ?side2 A6.out).mono ?_
  (case side1 => repeat (first | (with_reducible first | exact HI381.out | apply IsS101.alloc | apply IsS101.drewN | apply IsS101.drew | apply IsS101.set_0 | apply IsS101.set_1 | apply IsS101.set_2 | apply IsS101.set_3 | apply IsS101.set_4) | exact HI381.out))
  (case side2 => repeat (first | (with_reducible first | exact HB.out | apply below_alloc | apply pw_below_drewN | apply below_drew1 | refine below_set ?_ (IsS101.ge HI381.out)) | exact HB.out))
  rintro e w49 ⟨rfl, hi, hb, hk⟩
  have HS0_ := keep_cell hk (hHeld.1) (by first | (rw [add_block]; exact Kd.own_blk (IsS101.own_ne HI381.out HO392.out (by decide))) | (show (Addr.add _ _).block ≠ _; rw [add_block]; exact Kd.own_blk (IsS101.own_ne HI381.out HO392.out (by decide))) | exact Kd.own_blk (IsS101.own_ne HI381.out HO392.out (by decide)) | (have h_ := Kd.own_blk (IsS101.own_ne HI381.out HO392.out (by decide)); exact h_))
  have HS1_ := keep_cell hk (hHeld.2.1) (by first | (rw [add_block]; exact Kd.own_blk (IsS101.own_ne HI381.out HO400.out (by decide))) | (show (Addr.add _ _).block ≠ _; rw [add_block]; exact Kd.own_blk (IsS101.own_ne HI381.out HO400.out (by decide))) | exact Kd.own_blk (IsS101.own_ne HI381.out HO400.out (by decide)) | (have h_ := Kd.own_blk (IsS101.own_ne HI381.out HO400.out (by decide)); exact h_))
  have HS2_ := keep_cell hk (hHeld.2.2.1) (by first | (rw [add_block]; exact Kd.own_blk (IsS101.own_ne HI381.out HO403.out (by decide))) | (show (Addr.add _ _).block ≠ _; rw [add_block]; exact Kd.own_blk (IsS101.own_ne HI381.out HO403.out (by decide))) | exact Kd.own_blk (IsS101.own_ne HI381.out HO403.out (by decide)) | (have h_ := Kd.own_blk (IsS101.own_ne HI381.out HO403.out (by decide)); exact h_))
  have HS3_ := keep_cell hk (hHeld.2.2.2.1) (by first | (rw [add_block]; exact Kd.own_blk (IsS101.own_ne HI381.out HO403.out (by decide))) | (show (Addr.add _ _).block ≠ _; rw [add_block]; exact Kd.own_blk (IsS101.own_ne HI381.out HO403.out (by decide))) | exact Kd.own_blk (IsS101.own_ne HI381.out HO403.out (by decide)) | (have h_ := Kd.own_blk (IsS101.own_ne HI381.out HO403.out (by decide)); exact h_))
  have HS4_ := keep_cell hk (hHeld.2.2.2.2.1) (by first | (rw [add_block]; exact Kd.own_blk (IsS101.own_ne HI381.out HO403.out (by decide))) | (show (Addr.add _ _).block ≠ _; rw [add_block]; exact Kd.own_blk (IsS101.own_ne HI381.out HO403.out (by decide))) | exact Kd.own_blk (IsS101.own_ne HI381.out HO403.out (by decide)) | (have h_ := Kd.own_blk (IsS101.own_ne HI381.out HO403.out (by decide)); exact h_))
  have HS5_ := keep_cell hk (hHeld.2.2.2.2.2.1) (by first | (rw [add_block]; exact Kd.own_blk (IsS101.own_ne HI381.out HO403.out (by decide))) | (show (Addr.add _ _).block ≠ _; rw [add_block]; exact Kd.own_blk (IsS101.own_ne HI381.out HO403.out (by decide))) | exact Kd.own_blk (IsS101.own_ne HI381.out HO403.out (by decide)) | (have h_ := Kd.own_blk (IsS101.own_ne HI381.out HO403.out (by decide)); exact h_))
  have HS6_ := keep_cell hk (hHeld.2.2.2.2.2.2.1) (by first | (rw [add_block]; exact Kd.own_blk (IsS101.own_ne HI381.out HO403.out (by decide))) | (show (Addr.add _ _).block ≠ _; rw [add_block]; exact Kd.own_blk (IsS101.own_ne HI381.out HO403.out (by decide))) | exact Kd.own_blk (IsS101.own_ne HI381.out HO403.out (by decide)) | (have h_ := Kd.own_blk (IsS101.own_ne HI381.out HO403.out (by decide)); exact h_))
  have HS7_ := keep_cell hk (hHeld.2.2.2.2.2.2.2.1) (by first | (rw [add_block]; exact Kd.own_blk (IsS101.own_ne HI381.out HO403.out (by decide))) | (show (Addr.add _ _).block ≠ _; rw [add_block]; exact Kd.own_blk (IsS101.own_ne HI381.out HO403.out (by decide))) | exact Kd.own_blk (IsS101.own_ne HI381.out HO403.out (by decide)) | (have h_ := Kd.own_blk (IsS101.own_ne HI381.out HO403.out (by decide)); exact h_))
  have HS8_ := keep_cell hk (hHeld.2.2.2.2.2.2.2.2.1) (by first | (rw [add_block]; exact Kd.own_blk (IsS101.own_ne HI381.out HO403.out (by decide))) | (show (Addr.add _ _).block ≠ _; rw [add_block]; exact Kd.own_blk (IsS101.own_ne HI381.out HO403.out (by decide))) | exact Kd.own_blk (IsS101.own_ne HI381.out HO403.out (by decide)) | (have h_ := Kd.own_blk (IsS101.own_ne HI381.out HO403.out (by decide)); exact h_))
  have HS9_ := keep_cell hk (hHeld.2.2.2.2.2.2.2.2.2.1) (by first | (rw [add_block]; exact Kd.own_blk (IsS101.own_ne HI381.out HO403.out (by decide))) | (show (Addr.add _ _).block ≠ _; rw [add_block]; exact Kd.own_blk (IsS101.own_ne HI381.out HO403.out (by decide))) | exact Kd.own_blk (IsS101.own_ne HI381.out HO403.out (by decide)) | (have h_ := Kd.own_blk (IsS101.own_ne HI381.out HO403.out (by decide)); exact h_))
  have HS10_ := keep_cell hk (hHeld.2.2.2.2.2.2.2.2.2.2.1) (by first | (rw [add_block]; exact Kd.own_blk (IsS101.own_ne HI381.out HO403.out (by decide))) | (show (Addr.add _ _).block ≠ _; rw [add_block]; exact Kd.own_blk (IsS101.own_ne HI381.out HO403.out (by decide))) | exact Kd.own_blk (IsS101.own_ne HI381.out HO403.out (by decide)) | (have h_ := Kd.own_blk (IsS101.own_ne HI381.out HO403.out (by decide)); exact h_))
  have HS11_ := keep_cell hk (hHeld.2.2.2.2.2.2.2.2.2.2.2.1) (by first | (rw [add_block]; exact Kd.own_blk (IsS101.own_ne HI381.out HO403.out (by decide))) | (show (Addr.add _ _).block ≠ _; rw [add_block]; exact Kd.own_blk (IsS101.own_ne HI381.out HO403.out (by decide))) | exact Kd.own_blk (IsS101.own_ne HI381.out HO403.out (by decide)) | (have h_ := Kd.own_blk (IsS101.own_ne HI381.out HO403.out (by decide)); exact h_))
  have HS12_ := keep_cell hk (hHeld.2.2.2.2.2.2.2.2.2.2.2.2.1) (by first | (rw [add_block]; exact Kd.own_blk (IsS101.own_ne HI381.out HO403.out (by decide))) | (show (Addr.add _ _).block ≠ _; rw [add_block]; exact Kd.own_blk (IsS101.own_ne HI381.out HO403.out (by decide))) | exact Kd.own_blk (IsS101.own_ne HI381.out HO403.out (by decide)) | (have h_ := Kd.own_blk (IsS101.own_ne HI381.out HO403.out (by decide)); exact h_))
  have HS13_ := keep_cell hk (hHeld.2.2.2.2.2.2.2.2.2.2.2.2.2) (by first | (rw [add_block]; exact Kd.own_blk (IsS101.own_ne HI381.out HO403.out (by decide))) | (show (Addr.add _ _).block ≠ _; rw [add_block]; exact Kd.own_blk (IsS101.own_ne HI381.out HO403.out (by decide))) | exact Kd.own_blk (IsS101.own_ne HI381.out HO403.out (by decide)) | (have h_ := Kd.own_blk (IsS101.own_ne HI381.out HO403.out (by decide)); exact h_))
  refine ⟨_, rfl, ?_⟩
  have n0_ := Aside0.mk (Kd.R_mono (Kd.R_keep (IsS101.apart (show IsS101 w _ gb381 t393 t394 t395 t396 t397 from by repeat (first | (with_reducible first | exact HI381.out | apply IsS101.alloc | apply IsS101.drewN | apply IsS101.drew | apply IsS101.set_0 | apply IsS101.set_1 | apply IsS101.set_2 | apply IsS101.set_3 | apply IsS101.set_4) | exact HI381.out)) (by (with_reducible repeat (first | apply Kd.R_alloc | apply Kd.R_drewN | apply Kd.R_drew)); exact HO384.out) (by decide)) hk (fun _ h => h.2)) (fun _ h => h.1))
  have n1_ := Aside0.mk (Kd.R_mono (Kd.R_keep (IsS101.apart (show IsS101 w _ gb381 t393 t394 t395 t396 t397 from by repeat (first | (with_reducible first | exact HI381.out | apply IsS101.alloc | apply IsS101.drewN | apply IsS101.drew | apply IsS101.set_0 | apply IsS101.set_1 | apply IsS101.set_2 | apply IsS101.set_3 | apply IsS101.set_4) | exact HI381.out)) (by (with_reducible repeat (first | apply Kd.R_alloc | apply Kd.R_drewN | apply Kd.R_drew)); exact HO392.out) (by decide)) hk (fun _ h => h.2)) (fun _ h => h.1))
  have n2_ := Aside0.mk (Kd.R_mono (Kd.R_keep (IsS101.apart (show IsS101 w _ gb381 t393 t394 t395 t396 t397 from by repeat (first | (with_reducible first | exact HI381.out | apply IsS101.alloc | apply IsS101.drewN | apply IsS101.drew | apply IsS101.set_0 | apply IsS101.set_1 | apply IsS101.set_2 | apply IsS101.set_3 | apply IsS101.set_4) | exact HI381.out)) (by (with_reducible repeat (first | apply Kd.R_alloc | apply Kd.R_drewN | apply Kd.R_drew)); exact HO400.out) (by decide)) hk (fun _ h => h.2)) (fun _ h => h.1))
  have n3_ := Aside0.mk (Kd.R_mono (Kd.R_keep (IsS101.apart (show IsS101 w _ gb381 t393 t394 t395 t396 t397 from by repeat (first | (with_reducible first | exact HI381.out | apply IsS101.alloc | apply IsS101.drewN | apply IsS101.drew | apply IsS101.set_0 | apply IsS101.set_1 | apply IsS101.set_2 | apply IsS101.set_3 | apply IsS101.set_4) | exact HI381.out)) (by (with_reducible repeat (first | apply Kd.R_alloc | apply Kd.R_drewN | apply Kd.R_drew)); exact HO403.out) (by decide)) hk (fun _ h => h.2)) (fun _ h => h.1))
  have n4_ := Aside0.mk (hb)
  have n5_ := Aside0.mk (hi)
  clear HO384
  clear HO392
  clear HO400
  clear HO403
  clear HB
  clear HI381
  have HO384 := n0_
  have HO392 := n1_
  have HO400 := n2_
  have HO403 := n3_
  have HB := n4_
  have HI381 := n5_
  clear n0_ n1_ n2_ n3_ n4_ n5_
  (try clear hb)
  (try clear hb2)
  (try clear hk)
  (try clear hi)
  refine hK.out _ _ ⟨HS0_, HS1_, HS2_, HS3_, HS4_, HS5_, HS6_, HS7_, HS8_, HS9_, HS10_, HS11_, HS12_, HS13_⟩ (fun hHeld => ?_)
  clear hK K
  refine norm_ (a' := ?_) ?_ ?_
  rotate_left
  · show Act.put _ (some 19) _ = _
    simp only [Act.put, List.setIfInBounds_toArray, List.set_cons_zero, List.set_cons_succ, i64_w, i32_w]
    rfl
  refine pure_ (i := 6) (N := some 20) (v := ?_) (a' := ?_) (bl_ [7, 94]) rfl rfl (any_of HT_.out (by kernel_rfl)) (fun _ _ _ h => h) (Or.inl ⟨by rfl, ?_⟩) ?_ ?_
  rotate_left
  · intro w'
    go_simp
    with_reducible rfl
  rotate_left
  · simp only [Act.put, List.setIfInBounds_toArray, List.set_cons_zero, List.set_cons_succ, i64_w, i32_w]
    rfl
  refine pure_ (i := 7) (N := some 21) (v := ?_) (a' := ?_) (bl_ [8, 93]) rfl rfl (any_of HT_.out (by kernel_rfl)) (fun _ _ _ h => h) (Or.inl ⟨by rfl, ?_⟩) ?_ ?_
  rotate_left
  · intro w'
    go_simp
    with_reducible rfl
  rotate_left
  · simp only [Act.put, List.setIfInBounds_toArray, List.set_cons_zero, List.set_cons_succ, i64_w, i32_w]
    rfl
  refine pure_ (i := 8) (N := some 22) (v := ?_) (a' := ?_) (bl_ [9, 92]) rfl rfl (any_of HT_.out (by kernel_rfl)) (fun _ _ _ h => h) (Or.inl ⟨by rfl, ?_⟩) ?_ ?_
  rotate_left
  · intro w'
    go_simp
    with_reducible rfl
  rotate_left
  · simp only [Act.put, List.setIfInBounds_toArray, List.set_cons_zero, List.set_cons_succ, i64_w, i32_w]
    rfl
  refine pure_ (i := 9) (N := some 23) (v := ?_) (a' := ?_) (bl_ [10, 91]) rfl rfl (any_of HT_.out (by kernel_rfl)) (fun _ _ _ h => h) (Or.inl ⟨by rfl, ?_⟩) ?_ ?_
  rotate_left
  · intro w'
    go_simp
    with_reducible rfl
  rotate_left
  · simp only [Act.put, List.setIfInBounds_toArray, List.set_cons_zero, List.set_cons_succ, i64_w, i32_w]
    rfl
  refine pure_ (i := 10) (N := some 24) (v := ?_) (a' := ?_) (bl_ [11, 90]) rfl rfl (any_of HT_.out (by kernel_rfl)) (fun _ _ _ h => h) (Or.inl ⟨by rfl, ?_⟩) ?_ ?_
  rotate_left
  · intro w'
    go_simp
    with_reducible rfl
  rotate_left
  · simp only [Act.put, List.setIfInBounds_toArray, List.set_cons_zero, List.set_cons_succ, i64_w, i32_w]
    rfl
  refine pure_ (i := 11) (N := some 25) (v := ?_) (a' := ?_) (bl_ [12, 89]) rfl rfl (any_of HT_.out (by kernel_rfl)) (fun _ _ _ h => h) (Or.inl ⟨by rfl, ?_⟩) ?_ ?_
  rotate_left
  · intro w'
    go_simp
    with_reducible rfl
  rotate_left
  · simp only [Act.put, List.setIfInBounds_toArray, List.set_cons_zero, List.set_cons_succ, i64_w, i32_w]
    rfl
  refine pure_ (i := 12) (N := some 26) (v := ?_) (a' := ?_) (bl_ [13, 88]) rfl rfl (any_of HT_.out (by kernel_rfl)) (fun _ _ _ h => h) (Or.inl ⟨by rfl, ?_⟩) ?_ ?_
  rotate_left
  · intro w'
    go_simp
    with_reducible rfl
  rotate_left
  · simp only [Act.put, List.setIfInBounds_toArray, List.set_cons_zero, List.set_cons_succ, i64_w, i32_w]
    rfl
  refine pure_ (i := 13) (N := some 27) (v := ?_) (a' := ?_) (bl_ [14, 87]) rfl rfl (any_of HT_.out (by kernel_rfl)) (fun _ _ _ h => h) (Or.inl ⟨by rfl, ?_⟩) ?_ ?_
  rotate_left
  · intro w'
    go_simp
    with_reducible rfl
  rotate_left
  · simp only [Act.put, List.setIfInBounds_toArray, List.set_cons_zero, List.set_cons_succ, i64_w, i32_w]
    rfl
  refine pure_ (i := 14) (N := some 28) (v := ?_) (a' := ?_) (bl_ [15, 86]) rfl rfl (any_of HT_.out (by kernel_rfl)) (fun _ _ _ h => h) (Or.inl ⟨by rfl, ?_⟩) ?_ ?_
  rotate_left
  · intro w'
    go_simp
    with_reducible rfl
  rotate_left
  · simp only [Act.put, List.setIfInBounds_toArray, List.set_cons_zero, List.set_cons_succ, i64_w, i32_w]
    rfl
  refine pure_ (i := 15) (N := some 29) (v := ?_) (a' := ?_) (bl_ [16, 85]) rfl rfl (any_of HT_.out (by kernel_rfl)) (fun _ _ _ h => h) (Or.inl ⟨by rfl, ?_⟩) ?_ ?_
  rotate_left
  · intro w'
    go_simp
    with_reducible rfl
  rotate_left
  · simp only [Act.put, List.setIfInBounds_toArray, List.set_cons_zero, List.set_cons_succ, i64_w, i32_w]
    rfl
  refine take_ (i := 16) (N := some 30) (v := ?_) (a' := ?_) (bl_ [17, 84]) rfl rfl (take_ofW HT_.out HW_.out (by kernel_rfl)) (fun _ _ _ h => h) (Or.inl ⟨by rfl, ?_⟩) hHeld ?_ ?_
  rotate_left
  · rintro w' ⟨s0, s1, s2, s3, s4, s5, s6, s7, s8, s9, s10, s11, s12, s13⟩
    go_simp
    with_reducible rfl
  rotate_left
  · simp only [Act.put, List.setIfInBounds_toArray, List.set_cons_zero, List.set_cons_succ, i64_w, i32_w]
    rfl
  refine pure_ (i := 17) (N := some 31) (v := ?_) (a' := ?_) (bl_ [18, 83]) rfl rfl (any_of HT_.out (by kernel_rfl)) (fun _ _ _ h => h) (Or.inl ⟨by rfl, ?_⟩) ?_ ?_
  rotate_left
  · intro w'
    go_simp
    with_reducible rfl
  rotate_left
  · simp only [Act.put, List.setIfInBounds_toArray, List.set_cons_zero, List.set_cons_succ, i64_w, i32_w]
    rfl
  refine pure_ (i := 18) (N := some 32) (v := ?_) (a' := ?_) (bl_ [19, 82]) rfl rfl (any_of HT_.out (by kernel_rfl)) (fun _ _ _ h => h) (Or.inl ⟨by rfl, ?_⟩) ?_ ?_
  rotate_left
  · intro w'
    go_simp
    with_reducible rfl
  rotate_left
  · simp only [Act.put, List.setIfInBounds_toArray, List.set_cons_zero, List.set_cons_succ, i64_w, i32_w]
    rfl
  refine pure_ (i := 19) (N := some 33) (v := ?_) (a' := ?_) (bl_ [20, 81]) rfl rfl (any_of HT_.out (by kernel_rfl)) (fun _ _ _ h => h) (Or.inl ⟨by rfl, ?_⟩) ?_ ?_
  rotate_left
  · intro w'
    go_simp
    with_reducible rfl
  rotate_left
  · simp only [Act.put, List.setIfInBounds_toArray, List.set_cons_zero, List.set_cons_succ, i64_w, i32_w]
    rfl
  refine pure_ (i := 20) (N := some 34) (v := ?_) (a' := ?_) (bl_ [21, 80]) rfl rfl (any_of HT_.out (by kernel_rfl)) (fun _ _ _ h => h) (Or.inl ⟨by rfl, ?_⟩) ?_ ?_
  rotate_left
  · intro w'
    go_simp
    with_reducible rfl
  rotate_left
  · simp only [Act.put, List.setIfInBounds_toArray, List.set_cons_zero, List.set_cons_succ, i64_w, i32_w]
    rfl
  refine pure_ (i := 21) (N := some 35) (v := ?_) (a' := ?_) (bl_ [22, 79]) rfl rfl (any_of HT_.out (by kernel_rfl)) (fun _ _ _ h => h) (Or.inl ⟨by rfl, ?_⟩) ?_ ?_
  rotate_left
  · intro w'
    go_simp
    with_reducible rfl
  rotate_left
  · simp only [Act.put, List.setIfInBounds_toArray, List.set_cons_zero, List.set_cons_succ, i64_w, i32_w]
    rfl
  refine pure_ (i := 22) (N := some 36) (v := ?_) (a' := ?_) (bl_ [23, 78]) rfl rfl (any_of HT_.out (by kernel_rfl)) (fun _ _ _ h => h) (Or.inl ⟨by rfl, ?_⟩) ?_ ?_
  rotate_left
  · intro w'
    go_simp
    with_reducible rfl
  rotate_left
  · simp only [Act.put, List.setIfInBounds_toArray, List.set_cons_zero, List.set_cons_succ, i64_w, i32_w]
    rfl
  refine pure_ (i := 23) (N := some 37) (v := ?_) (a' := ?_) (bl_ [24, 77]) rfl rfl (any_of HT_.out (by kernel_rfl)) (fun _ _ _ h => h) (Or.inl ⟨by rfl, ?_⟩) ?_ ?_
  rotate_left
  · intro w'
    go_simp
    with_reducible rfl
  rotate_left
  · simp only [Act.put, List.setIfInBounds_toArray, List.set_cons_zero, List.set_cons_succ, i64_w, i32_w]
    rfl
  refine pure_ (i := 24) (N := some 38) (v := ?_) (a' := ?_) (bl_ [25, 76]) rfl rfl (any_of HT_.out (by kernel_rfl)) (fun _ _ _ h => h) (Or.inl ⟨by rfl, ?_⟩) ?_ ?_
  rotate_left
  · intro w'
    go_simp
    with_reducible rfl
  rotate_left
  · simp only [Act.put, List.setIfInBounds_toArray, List.set_cons_zero, List.set_cons_succ, i64_w, i32_w]
    rfl
  refine pure_ (i := 25) (N := some 39) (v := ?_) (a' := ?_) (bl_ [26, 75]) rfl rfl (any_of HT_.out (by kernel_rfl)) (fun _ _ _ h => h) (Or.inl ⟨by rfl, ?_⟩) ?_ ?_
  rotate_left
  · intro w'
    go_simp
    with_reducible rfl
  rotate_left
  · simp only [Act.put, List.setIfInBounds_toArray, List.set_cons_zero, List.set_cons_succ, i64_w, i32_w]
    rfl
  refine pure_ (i := 26) (N := some 40) (v := ?_) (a' := ?_) (bl_ [27, 74]) rfl rfl (any_of HT_.out (by kernel_rfl)) (fun _ _ _ h => h) (Or.inl ⟨by rfl, ?_⟩) ?_ ?_
  rotate_left
  · intro w'
    go_simp
    with_reducible rfl
  rotate_left
  · simp only [Act.put, List.setIfInBounds_toArray, List.set_cons_zero, List.set_cons_succ, i64_w, i32_w]
    rfl
  refine take_ (i := 27) (N := some 41) (v := ?_) (a' := ?_) (bl_ [28, 73]) rfl rfl (take_ofW HT_.out HW_.out (by kernel_rfl)) (fun _ _ _ h => h) (Or.inl ⟨by rfl, ?_⟩) hHeld ?_ ?_
  rotate_left
  · rintro w' ⟨s0, s1, s2, s3, s4, s5, s6, s7, s8, s9, s10, s11, s12, s13⟩
    go_simp
    with_reducible rfl
  rotate_left
  · simp only [Act.put, List.setIfInBounds_toArray, List.set_cons_zero, List.set_cons_succ, i64_w, i32_w]
    rfl
  refine pure_ (i := 28) (N := some 42) (v := ?_) (a' := ?_) (bl_ [29, 72]) rfl rfl (any_of HT_.out (by kernel_rfl)) (fun _ _ _ h => h) (Or.inl ⟨by rfl, ?_⟩) ?_ ?_
  rotate_left
  · intro w'
    go_simp
    with_reducible rfl
  rotate_left
  · simp only [Act.put, List.setIfInBounds_toArray, List.set_cons_zero, List.set_cons_succ, i64_w, i32_w]
    rfl
  refine pure_ (i := 29) (N := some 43) (v := ?_) (a' := ?_) (bl_ [30, 71]) rfl rfl (any_of HT_.out (by kernel_rfl)) (fun _ _ _ h => h) (Or.inl ⟨by rfl, ?_⟩) ?_ ?_
  rotate_left
  · intro w'
    go_simp
    with_reducible rfl
  rotate_left
  · simp only [Act.put, List.setIfInBounds_toArray, List.set_cons_zero, List.set_cons_succ, i64_w, i32_w]
    rfl
  refine pure_ (i := 30) (N := some 44) (v := ?_) (a' := ?_) (bl_ [31, 70]) rfl rfl (any_of HT_.out (by kernel_rfl)) (fun _ _ _ h => h) (Or.inl ⟨by rfl, ?_⟩) ?_ ?_
  rotate_left
  · intro w'
    go_simp
    with_reducible rfl
  rotate_left
  · simp only [Act.put, List.setIfInBounds_toArray, List.set_cons_zero, List.set_cons_succ, i64_w, i32_w]
    rfl
  refine pure_ (i := 31) (N := some 45) (v := ?_) (a' := ?_) (bl_ [32, 69]) rfl rfl (any_of HT_.out (by kernel_rfl)) (fun _ _ _ h => h) (Or.inl ⟨by rfl, ?_⟩) ?_ ?_
  rotate_left
  · intro w'
    go_simp
    with_reducible rfl
  rotate_left
  · simp only [Act.put, List.setIfInBounds_toArray, List.set_cons_zero, List.set_cons_succ, i64_w, i32_w]
    rfl
  refine one_ (i := 32) (N := some 46) (bl_ [33, 68]) rfl rfl (one_of HT_.out (by kernel_rfl)) (by decide) (fun K hK => ?_)
  refine goes_ Try.func74 (by kernel_rfl) rfl #[.slice (some ad411) t398.length co51] (by rfl) rfl rfl (by (try simp only [List.map_toArray, List.map_cons, List.map_nil]); first | done | rfl | (simp only [List.length_drop, List.length_take]; rfl)) ?_
  with_reducible refine (utf_Write.calls k _ _ t398 t412 _ ?side1 ?side2 A14.out).mono ?_
  (case side1 => repeat (first | exact (Kd.R_reads' HO400.out).2.2 | (with_reducible refine Kd.C_alloc ?_ _) | (with_reducible refine Kd.C_drewN ?_ _) | (with_reducible refine Kd.C_drew ?_) | exact Kd.C_drewN (Kd.R_reads' HO400.out).2.2 _ | exact Kd.C_drew (Kd.R_reads' HO400.out).2.2 | exact Kd.C_alloc (Kd.R_reads' HO400.out).2.2 _))
  (case side2 => exact (Kd.R_reads' HO400.out).2.1)
  rintro e w52 ⟨rfl, hb⟩
  have HS0_ := (hb.cell (World.block_lt_of_cell? _ _ (hHeld.1))).trans (hHeld.1)
  have HS1_ := (hb.cell (World.block_lt_of_cell? _ _ (hHeld.2.1))).trans (hHeld.2.1)
  have HS2_ := (hb.cell (World.block_lt_of_cell? _ _ (hHeld.2.2.1))).trans (hHeld.2.2.1)
  have HS3_ := (hb.cell (World.block_lt_of_cell? _ _ (hHeld.2.2.2.1))).trans (hHeld.2.2.2.1)
  have HS4_ := (hb.cell (World.block_lt_of_cell? _ _ (hHeld.2.2.2.2.1))).trans (hHeld.2.2.2.2.1)
  have HS5_ := (hb.cell (World.block_lt_of_cell? _ _ (hHeld.2.2.2.2.2.1))).trans (hHeld.2.2.2.2.2.1)
  have HS6_ := (hb.cell (World.block_lt_of_cell? _ _ (hHeld.2.2.2.2.2.2.1))).trans (hHeld.2.2.2.2.2.2.1)
  have HS7_ := (hb.cell (World.block_lt_of_cell? _ _ (hHeld.2.2.2.2.2.2.2.1))).trans (hHeld.2.2.2.2.2.2.2.1)
  have HS8_ := (hb.cell (World.block_lt_of_cell? _ _ (hHeld.2.2.2.2.2.2.2.2.1))).trans (hHeld.2.2.2.2.2.2.2.2.1)
  have HS9_ := (hb.cell (World.block_lt_of_cell? _ _ (hHeld.2.2.2.2.2.2.2.2.2.1))).trans (hHeld.2.2.2.2.2.2.2.2.2.1)
  have HS10_ := (hb.cell (World.block_lt_of_cell? _ _ (hHeld.2.2.2.2.2.2.2.2.2.2.1))).trans (hHeld.2.2.2.2.2.2.2.2.2.2.1)
  have HS11_ := (hb.cell (World.block_lt_of_cell? _ _ (hHeld.2.2.2.2.2.2.2.2.2.2.2.1))).trans (hHeld.2.2.2.2.2.2.2.2.2.2.2.1)
  have HS12_ := (hb.cell (World.block_lt_of_cell? _ _ (hHeld.2.2.2.2.2.2.2.2.2.2.2.2.1))).trans (hHeld.2.2.2.2.2.2.2.2.2.2.2.2.1)
  have HS13_ := (hb.cell (World.block_lt_of_cell? _ _ (hHeld.2.2.2.2.2.2.2.2.2.2.2.2.2))).trans (hHeld.2.2.2.2.2.2.2.2.2.2.2.2.2)
  refine ⟨_, rfl, ?_⟩
  have n0_ := Aside0.mk (Kd.R_below (by (with_reducible repeat (first | apply Kd.R_alloc | apply Kd.R_drewN | apply Kd.R_drew)); exact HO384.out) hb)
  have n1_ := Aside0.mk (Kd.R_below (by (with_reducible repeat (first | apply Kd.R_alloc | apply Kd.R_drewN | apply Kd.R_drew)); exact HO392.out) hb)
  have n2_ := Aside0.mk (Kd.R_below (by (with_reducible repeat (first | apply Kd.R_alloc | apply Kd.R_drewN | apply Kd.R_drew)); exact HO400.out) hb)
  have n3_ := Aside0.mk (Kd.R_below (by (with_reducible repeat (first | apply Kd.R_alloc | apply Kd.R_drewN | apply Kd.R_drew)); exact HO403.out) hb)
  have n4_ := Aside0.mk (IsS101.below (by repeat (first | (with_reducible first | exact HI381.out | apply IsS101.alloc | apply IsS101.drewN | apply IsS101.drew | apply IsS101.set_0 | apply IsS101.set_1 | apply IsS101.set_2 | apply IsS101.set_3 | apply IsS101.set_4) | exact HI381.out)) hb)
  have n5_ := Aside0.mk (below_step (by repeat (first | (with_reducible first | exact HB.out | apply below_alloc | apply pw_below_drewN | apply below_drew1 | refine below_set ?_ (IsS101.ge HI381.out)) | exact HB.out)) hb)
  clear HO384
  clear HO392
  clear HO400
  clear HO403
  clear HI381
  clear HB
  have HO384 := n0_
  have HO392 := n1_
  have HO400 := n2_
  have HO403 := n3_
  have HI381 := n4_
  have HB := n5_
  clear n0_ n1_ n2_ n3_ n4_ n5_
  (try clear hb)
  (try clear hb2)
  (try clear hk)
  (try clear hi)
  refine hK.out _ _ ⟨HS0_, HS1_, HS2_, HS3_, HS4_, HS5_, HS6_, HS7_, HS8_, HS9_, HS10_, HS11_, HS12_, HS13_⟩ (fun hHeld => ?_)
  clear hK K
  refine norm_ (a' := ?_) ?_ ?_
  rotate_left
  · show Act.put _ (some 46) _ = _
    simp only [Act.put, List.setIfInBounds_toArray, List.set_cons_zero, List.set_cons_succ, i64_w, i32_w]
    rfl
  refine pure_ (i := 33) (N := some 47) (v := ?_) (a' := ?_) (bl_ [34, 67]) rfl rfl (any_of HT_.out (by kernel_rfl)) (fun _ _ _ h => h) (Or.inl ⟨by rfl, ?_⟩) ?_ ?_
  rotate_left
  · intro w'
    go_simp
    with_reducible rfl
  rotate_left
  · simp only [Act.put, List.setIfInBounds_toArray, List.set_cons_zero, List.set_cons_succ, i64_w, i32_w]
    rfl
  refine pure_ (i := 34) (N := some 48) (v := ?_) (a' := ?_) (bl_ [35, 66]) rfl rfl (any_of HT_.out (by kernel_rfl)) (fun _ _ _ h => h) (Or.inl ⟨by rfl, ?_⟩) ?_ ?_
  rotate_left
  · intro w'
    go_simp
    with_reducible rfl
  rotate_left
  · simp only [Act.put, List.setIfInBounds_toArray, List.set_cons_zero, List.set_cons_succ, i64_w, i32_w]
    rfl
  refine pure_ (i := 35) (N := some 49) (v := ?_) (a' := ?_) (bl_ [36, 65]) rfl rfl (any_of HT_.out (by kernel_rfl)) (fun _ _ _ h => h) (Or.inl ⟨by rfl, ?_⟩) ?_ ?_
  rotate_left
  · intro w'
    go_simp
    with_reducible rfl
  rotate_left
  · simp only [Act.put, List.setIfInBounds_toArray, List.set_cons_zero, List.set_cons_succ, i64_w, i32_w]
    rfl
  refine one_ (i := 36) (N := some 50) (bl_ [37, 64]) rfl rfl (one_of HT_.out (by kernel_rfl)) (by decide) (fun K hK => ?_)
  refine goes_ Try.func66 (by kernel_rfl) rfl #[.int .i32 20013] (by rfl) rfl rfl (by (try simp only [List.map_toArray, List.map_cons, List.map_nil]); first | done | rfl | (simp only [List.length_drop, List.length_take]; rfl)) ?_
  with_reducible refine (width_Of.calls 20013 t413 _ A16.out).mono ?_
  rintro e w' ⟨rfl, ⟨nd, rfl⟩⟩
  refine ⟨_, rfl, ?_⟩
  refine hK.out _ _ ⟨hHeld.1, hHeld.2.1, hHeld.2.2.1, hHeld.2.2.2.1, hHeld.2.2.2.2.1, hHeld.2.2.2.2.2.1, hHeld.2.2.2.2.2.2.1, hHeld.2.2.2.2.2.2.2.1, hHeld.2.2.2.2.2.2.2.2.1, hHeld.2.2.2.2.2.2.2.2.2.1, hHeld.2.2.2.2.2.2.2.2.2.2.1, hHeld.2.2.2.2.2.2.2.2.2.2.2.1, hHeld.2.2.2.2.2.2.2.2.2.2.2.2.1, hHeld.2.2.2.2.2.2.2.2.2.2.2.2.2⟩ (fun hHeld => ?_)
  clear hK K
  refine norm_ (a' := ?_) ?_ ?_
  rotate_left
  · show Act.put _ (some 50) _ = _
    simp only [Act.put, List.setIfInBounds_toArray, List.set_cons_zero, List.set_cons_succ, i64_w, i32_w]
    rfl
  refine pure_ (i := 37) (N := some 51) (v := ?_) (a' := ?_) (bl_ [38, 63]) rfl rfl (any_of HT_.out (by kernel_rfl)) (fun _ _ _ h => h) (Or.inl ⟨by rfl, ?_⟩) ?_ ?_
  rotate_left
  · intro w'
    go_simp
    with_reducible rfl
  rotate_left
  · simp only [Act.put, List.setIfInBounds_toArray, List.set_cons_zero, List.set_cons_succ, i64_w, i32_w]
    rfl
  refine pure_ (i := 38) (N := some 52) (v := ?_) (a' := ?_) (bl_ [39, 62]) rfl rfl (any_of HT_.out (by kernel_rfl)) (fun _ _ _ h => h) (Or.inl ⟨by rfl, ?_⟩) ?_ ?_
  rotate_left
  · intro w'
    go_simp
    with_reducible rfl
  rotate_left
  · simp only [Act.put, List.setIfInBounds_toArray, List.set_cons_zero, List.set_cons_succ, i64_w, i32_w]
    rfl
  refine pure_ (i := 39) (N := some 53) (v := ?_) (a' := ?_) (bl_ [40, 61]) rfl rfl (any_of HT_.out (by kernel_rfl)) (fun _ _ _ h => h) (Or.inl ⟨by rfl, ?_⟩) ?_ ?_
  rotate_left
  · intro w'
    go_simp
    with_reducible rfl
  rotate_left
  · simp only [Act.put, List.setIfInBounds_toArray, List.set_cons_zero, List.set_cons_succ, i64_w, i32_w]
    rfl
  refine one_ (i := 40) (N := some 54) (bl_ [41, 60]) rfl rfl (one_of HT_.out (by kernel_rfl)) (by decide) (fun K hK => ?_)
  refine goes_ Try.func66 (by kernel_rfl) rfl #[.int .i32 97] (by rfl) rfl rfl (by (try simp only [List.map_toArray, List.map_cons, List.map_nil]); first | done | rfl | (simp only [List.length_drop, List.length_take]; rfl)) ?_
  with_reducible refine (width_Of.calls 97 t414 _ A18.out).mono ?_
  rintro e w' ⟨rfl, ⟨nd, rfl⟩⟩
  refine ⟨_, rfl, ?_⟩
  refine hK.out _ _ ⟨hHeld.1, hHeld.2.1, hHeld.2.2.1, hHeld.2.2.2.1, hHeld.2.2.2.2.1, hHeld.2.2.2.2.2.1, hHeld.2.2.2.2.2.2.1, hHeld.2.2.2.2.2.2.2.1, hHeld.2.2.2.2.2.2.2.2.1, hHeld.2.2.2.2.2.2.2.2.2.1, hHeld.2.2.2.2.2.2.2.2.2.2.1, hHeld.2.2.2.2.2.2.2.2.2.2.2.1, hHeld.2.2.2.2.2.2.2.2.2.2.2.2.1, hHeld.2.2.2.2.2.2.2.2.2.2.2.2.2⟩ (fun hHeld => ?_)
  clear hK K
  refine norm_ (a' := ?_) ?_ ?_
  rotate_left
  · show Act.put _ (some 54) _ = _
    simp only [Act.put, List.setIfInBounds_toArray, List.set_cons_zero, List.set_cons_succ, i64_w, i32_w]
    rfl
  refine pure_ (i := 41) (N := some 55) (v := ?_) (a' := ?_) (bl_ [42, 59]) rfl rfl (any_of HT_.out (by kernel_rfl)) (fun _ _ _ h => h) (Or.inl ⟨by rfl, ?_⟩) ?_ ?_
  rotate_left
  · intro w'
    go_simp
    with_reducible rfl
  rotate_left
  · simp only [Act.put, List.setIfInBounds_toArray, List.set_cons_zero, List.set_cons_succ, i64_w, i32_w]
    rfl
  refine pure_ (i := 42) (N := some 56) (v := ?_) (a' := ?_) (bl_ [43, 58]) rfl rfl (any_of HT_.out (by kernel_rfl)) (fun _ _ _ h => h) (Or.inl ⟨by rfl, ?_⟩) ?_ ?_
  rotate_left
  · intro w'
    go_simp
    with_reducible rfl
  rotate_left
  · simp only [Act.put, List.setIfInBounds_toArray, List.set_cons_zero, List.set_cons_succ, i64_w, i32_w]
    rfl
  refine pure_ (i := 43) (N := some 57) (v := ?_) (a' := ?_) (bl_ [44, 57]) rfl rfl (any_of HT_.out (by kernel_rfl)) (fun _ _ _ h => h) (Or.inl ⟨by rfl, ?_⟩) ?_ ?_
  rotate_left
  · intro w'
    go_simp
    with_reducible rfl
  rotate_left
  · simp only [Act.put, List.setIfInBounds_toArray, List.set_cons_zero, List.set_cons_succ, i64_w, i32_w]
    rfl
  refine one_ (i := 44) (N := some 58) (bl_ [45, 56]) rfl rfl (one_of HT_.out (by kernel_rfl)) (by decide) (fun K hK => ?_)
  refine goes_ Try.func66 (by kernel_rfl) rfl #[.int .i32 7] (by rfl) rfl rfl (by (try simp only [List.map_toArray, List.map_cons, List.map_nil]); first | done | rfl | (simp only [List.length_drop, List.length_take]; rfl)) ?_
  with_reducible refine (width_Of.calls 7 t415 _ A20.out).mono ?_
  rintro e w' ⟨rfl, ⟨nd, rfl⟩⟩
  refine ⟨_, rfl, ?_⟩
  refine hK.out _ _ ⟨hHeld.1, hHeld.2.1, hHeld.2.2.1, hHeld.2.2.2.1, hHeld.2.2.2.2.1, hHeld.2.2.2.2.2.1, hHeld.2.2.2.2.2.2.1, hHeld.2.2.2.2.2.2.2.1, hHeld.2.2.2.2.2.2.2.2.1, hHeld.2.2.2.2.2.2.2.2.2.1, hHeld.2.2.2.2.2.2.2.2.2.2.1, hHeld.2.2.2.2.2.2.2.2.2.2.2.1, hHeld.2.2.2.2.2.2.2.2.2.2.2.2.1, hHeld.2.2.2.2.2.2.2.2.2.2.2.2.2⟩ (fun hHeld => ?_)
  clear hK K
  refine norm_ (a' := ?_) ?_ ?_
  rotate_left
  · show Act.put _ (some 58) _ = _
    simp only [Act.put, List.setIfInBounds_toArray, List.set_cons_zero, List.set_cons_succ, i64_w, i32_w]
    rfl
  refine pure_ (i := 45) (N := some 59) (v := ?_) (a' := ?_) (bl_ [46, 55]) rfl rfl (any_of HT_.out (by kernel_rfl)) (fun _ _ _ h => h) (Or.inl ⟨by rfl, ?_⟩) ?_ ?_
  rotate_left
  · intro w'
    go_simp
    with_reducible rfl
  rotate_left
  · simp only [Act.put, List.setIfInBounds_toArray, List.set_cons_zero, List.set_cons_succ, i64_w, i32_w]
    rfl
  refine pure_ (i := 46) (N := some 60) (v := ?_) (a' := ?_) (bl_ [47, 54]) rfl rfl (any_of HT_.out (by kernel_rfl)) (fun _ _ _ h => h) (Or.inl ⟨by rfl, ?_⟩) ?_ ?_
  rotate_left
  · intro w'
    go_simp
    with_reducible rfl
  rotate_left
  · simp only [Act.put, List.setIfInBounds_toArray, List.set_cons_zero, List.set_cons_succ, i64_w, i32_w]
    rfl
  refine pure_ (i := 47) (N := some 61) (v := ?_) (a' := ?_) (bl_ [48, 53]) rfl rfl (any_of HT_.out (by kernel_rfl)) (fun _ _ _ h => h) (Or.inl ⟨by rfl, ?_⟩) ?_ ?_
  rotate_left
  · intro w'
    go_simp
    with_reducible rfl
  rotate_left
  · simp only [Act.put, List.setIfInBounds_toArray, List.set_cons_zero, List.set_cons_succ, i64_w, i32_w]
    rfl
  refine pure_ (i := 48) (N := some 62) (v := ?_) (a' := ?_) (bl_ [49, 52]) rfl rfl (any_of HT_.out (by kernel_rfl)) (fun _ _ _ h => h) (Or.inl ⟨by rfl, ?_⟩) ?_ ?_
  rotate_left
  · intro w'
    go_simp
    with_reducible rfl
  rotate_left
  · simp only [Act.put, List.setIfInBounds_toArray, List.set_cons_zero, List.set_cons_succ, i64_w, i32_w]
    rfl
  refine pure_ (i := 49) (N := some 63) (v := ?_) (a' := ?_) (bl_ [50, 51]) rfl rfl (any_of HT_.out (by kernel_rfl)) (fun _ _ _ h => h) (Or.inl ⟨by rfl, ?_⟩) ?_ ?_
  rotate_left
  · intro w'
    go_simp
    with_reducible rfl
  rotate_left
  · simp only [Act.put, List.setIfInBounds_toArray, List.set_cons_zero, List.set_cons_succ, i64_w, i32_w]
    rfl
  refine pure_ (i := 50) (N := some 64) (v := ?_) (a' := ?_) (bl_ [51, 50]) rfl rfl (any_of HT_.out (by kernel_rfl)) (fun _ _ _ h => h) (Or.inl ⟨by rfl, ?_⟩) ?_ ?_
  rotate_left
  · intro w'
    go_simp
    with_reducible rfl
  rotate_left
  · simp only [Act.put, List.setIfInBounds_toArray, List.set_cons_zero, List.set_cons_succ, i64_w, i32_w]
    rfl
  refine pure_ (i := 51) (N := some 65) (v := ?_) (a' := ?_) (bl_ [52, 49]) rfl rfl (any_of HT_.out (by kernel_rfl)) (fun _ _ _ h => h) (Or.inl ⟨by rfl, ?_⟩) ?_ ?_
  rotate_left
  · intro w'
    go_simp
    with_reducible rfl
  rotate_left
  · simp only [Act.put, List.setIfInBounds_toArray, List.set_cons_zero, List.set_cons_succ, i64_w, i32_w]
    rfl
  refine pure_ (i := 52) (N := some 66) (v := ?_) (a' := ?_) (bl_ [53, 48]) rfl rfl (any_of HT_.out (by kernel_rfl)) (fun _ _ _ h => h) (Or.inl ⟨by rfl, ?_⟩) ?_ ?_
  rotate_left
  · intro w'
    go_simp
    with_reducible rfl
  rotate_left
  · simp only [Act.put, List.setIfInBounds_toArray, List.set_cons_zero, List.set_cons_succ, i64_w, i32_w]
    rfl
  refine pure_ (i := 53) (N := some 67) (v := ?_) (a' := ?_) (bl_ [54, 47]) rfl rfl (any_of HT_.out (by kernel_rfl)) (fun _ _ _ h => h) (Or.inl ⟨by rfl, ?_⟩) ?_ ?_
  rotate_left
  · intro w'
    go_simp
    with_reducible rfl
  rotate_left
  · simp only [Act.put, List.setIfInBounds_toArray, List.set_cons_zero, List.set_cons_succ, i64_w, i32_w]
    rfl
  refine pure_ (i := 54) (N := some 68) (v := ?_) (a' := ?_) (bl_ [55, 46]) rfl rfl (any_of HT_.out (by kernel_rfl)) (fun _ _ _ h => h) (Or.inl ⟨by rfl, ?_⟩) ?_ ?_
  rotate_left
  · intro w'
    go_simp
    with_reducible rfl
  rotate_left
  · simp only [Act.put, List.setIfInBounds_toArray, List.set_cons_zero, List.set_cons_succ, i64_w, i32_w]
    rfl
  refine pure_ (i := 55) (N := some 69) (v := ?_) (a' := ?_) (bl_ [56, 45]) rfl rfl (any_of HT_.out (by kernel_rfl)) (fun _ _ _ h => h) (Or.inl ⟨by rfl, ?_⟩) ?_ ?_
  rotate_left
  · intro w'
    go_simp
    with_reducible rfl
  rotate_left
  · simp only [Act.put, List.setIfInBounds_toArray, List.set_cons_zero, List.set_cons_succ, i64_w, i32_w]
    rfl
  refine take_ (i := 56) (N := some 70) (v := ?_) (a' := ?_) (bl_ [57, 44]) rfl rfl (take_ofW HT_.out HW_.out (by kernel_rfl)) (fun _ _ _ h => h) (Or.inl ⟨by rfl, ?_⟩) hHeld ?_ ?_
  rotate_left
  · rintro w' ⟨s0, s1, s2, s3, s4, s5, s6, s7, s8, s9, s10, s11, s12, s13⟩
    go_simp
    with_reducible rfl
  rotate_left
  · simp only [Act.put, List.setIfInBounds_toArray, List.set_cons_zero, List.set_cons_succ, i64_w, i32_w]
    rfl
  refine pure_ (i := 57) (N := some 71) (v := ?_) (a' := ?_) (bl_ [58, 43]) rfl rfl (any_of HT_.out (by kernel_rfl)) (fun _ _ _ h => h) (Or.inl ⟨by rfl, ?_⟩) ?_ ?_
  rotate_left
  · intro w'
    go_simp
    with_reducible rfl
  rotate_left
  · simp only [Act.put, List.setIfInBounds_toArray, List.set_cons_zero, List.set_cons_succ, i64_w, i32_w]
    rfl
  refine pure_ (i := 58) (N := some 72) (v := ?_) (a' := ?_) (bl_ [59, 42]) rfl rfl (any_of HT_.out (by kernel_rfl)) (fun _ _ _ h => h) (Or.inl ⟨by rfl, ?_⟩) ?_ ?_
  rotate_left
  · intro w'
    go_simp
    with_reducible rfl
  rotate_left
  · simp only [Act.put, List.setIfInBounds_toArray, List.set_cons_zero, List.set_cons_succ, i64_w, i32_w]
    rfl
  refine pure_ (i := 59) (N := some 73) (v := ?_) (a' := ?_) (bl_ [60, 41]) rfl rfl (any_of HT_.out (by kernel_rfl)) (fun _ _ _ h => h) (Or.inl ⟨by rfl, ?_⟩) ?_ ?_
  rotate_left
  · intro w'
    go_simp
    with_reducible rfl
  rotate_left
  · simp only [Act.put, List.setIfInBounds_toArray, List.set_cons_zero, List.set_cons_succ, i64_w, i32_w]
    rfl
  refine pure_ (i := 60) (N := some 74) (v := ?_) (a' := ?_) (bl_ [61, 40]) rfl rfl (any_of HT_.out (by kernel_rfl)) (fun _ _ _ h => h) (Or.inl ⟨by rfl, ?_⟩) ?_ ?_
  rotate_left
  · intro w'
    go_simp
    with_reducible rfl
  rotate_left
  · simp only [Act.put, List.setIfInBounds_toArray, List.set_cons_zero, List.set_cons_succ, i64_w, i32_w]
    rfl
  refine pure_ (i := 61) (N := some 75) (v := ?_) (a' := ?_) (bl_ [62, 39]) rfl rfl (any_of HT_.out (by kernel_rfl)) (fun _ _ _ h => h) (Or.inl ⟨by rfl, ?_⟩) ?_ ?_
  rotate_left
  · intro w'
    go_simp
    with_reducible rfl
  rotate_left
  · simp only [Act.put, List.setIfInBounds_toArray, List.set_cons_zero, List.set_cons_succ, i64_w, i32_w]
    rfl
  refine pure_ (i := 62) (N := some 76) (v := ?_) (a' := ?_) (bl_ [63, 38]) rfl rfl (any_of HT_.out (by kernel_rfl)) (fun _ _ _ h => h) (Or.inl ⟨by rfl, ?_⟩) ?_ ?_
  rotate_left
  · intro w'
    go_simp
    with_reducible rfl
  rotate_left
  · simp only [Act.put, List.setIfInBounds_toArray, List.set_cons_zero, List.set_cons_succ, i64_w, i32_w]
    rfl
  refine take_ (i := 63) (N := some 77) (v := ?_) (a' := ?_) (bl_ [64, 37]) rfl rfl (take_ofW HT_.out HW_.out (by kernel_rfl)) (fun _ _ _ h => h) (Or.inl ⟨by rfl, ?_⟩) hHeld ?_ ?_
  rotate_left
  · rintro w' ⟨s0, s1, s2, s3, s4, s5, s6, s7, s8, s9, s10, s11, s12, s13⟩
    go_simp
    with_reducible rfl
  rotate_left
  · simp only [Act.put, List.setIfInBounds_toArray, List.set_cons_zero, List.set_cons_succ, i64_w, i32_w]
    rfl
  refine pure_ (i := 64) (N := some 78) (v := ?_) (a' := ?_) (bl_ [65, 36]) rfl rfl (any_of HT_.out (by kernel_rfl)) (fun _ _ _ h => h) (Or.inl ⟨by rfl, ?_⟩) ?_ ?_
  rotate_left
  · intro w'
    go_simp
    with_reducible rfl
  rotate_left
  · simp only [Act.put, List.setIfInBounds_toArray, List.set_cons_zero, List.set_cons_succ, i64_w, i32_w]
    rfl
  refine pure_ (i := 65) (N := some 79) (v := ?_) (a' := ?_) (bl_ [66, 35]) rfl rfl (any_of HT_.out (by kernel_rfl)) (fun _ _ _ h => h) (Or.inl ⟨by rfl, ?_⟩) ?_ ?_
  rotate_left
  · intro w'
    go_simp
    with_reducible rfl
  rotate_left
  · simp only [Act.put, List.setIfInBounds_toArray, List.set_cons_zero, List.set_cons_succ, i64_w, i32_w]
    rfl
  refine pure_ (i := 66) (N := some 80) (v := ?_) (a' := ?_) (bl_ [67, 34]) rfl rfl (any_of HT_.out (by kernel_rfl)) (fun _ _ _ h => h) (Or.inl ⟨by rfl, ?_⟩) ?_ ?_
  rotate_left
  · intro w'
    go_simp
    with_reducible rfl
  rotate_left
  · simp only [Act.put, List.setIfInBounds_toArray, List.set_cons_zero, List.set_cons_succ, i64_w, i32_w]
    rfl
  refine pure_ (i := 67) (N := some 81) (v := ?_) (a' := ?_) (bl_ [68, 33]) rfl rfl (any_of HT_.out (by kernel_rfl)) (fun _ _ _ h => h) (Or.inl ⟨by rfl, ?_⟩) ?_ ?_
  rotate_left
  · intro w'
    go_simp
    with_reducible rfl
  rotate_left
  · simp only [Act.put, List.setIfInBounds_toArray, List.set_cons_zero, List.set_cons_succ, i64_w, i32_w]
    rfl
  refine pure_ (i := 68) (N := some 82) (v := ?_) (a' := ?_) (bl_ [69, 32]) rfl rfl (any_of HT_.out (by kernel_rfl)) (fun _ _ _ h => h) (Or.inl ⟨by rfl, ?_⟩) ?_ ?_
  rotate_left
  · intro w'
    go_simp
    with_reducible rfl
  rotate_left
  · simp only [Act.put, List.setIfInBounds_toArray, List.set_cons_zero, List.set_cons_succ, i64_w, i32_w]
    rfl
  refine take_ (i := 69) (N := some 83) (v := ?_) (a' := ?_) (bl_ [70, 31]) rfl rfl (take_ofW HT_.out HW_.out (by kernel_rfl)) (fun _ _ _ h => h) (Or.inl ⟨by rfl, ?_⟩) hHeld ?_ ?_
  rotate_left
  · rintro w' ⟨s0, s1, s2, s3, s4, s5, s6, s7, s8, s9, s10, s11, s12, s13⟩
    go_simp
    with_reducible rfl
  rotate_left
  · simp only [Act.put, List.setIfInBounds_toArray, List.set_cons_zero, List.set_cons_succ, i64_w, i32_w]
    rfl
  refine one_ (i := 70) (N := some 84) (bl_ [71, 30]) rfl rfl (one_of HT_.out (by kernel_rfl)) (by decide) (fun K hK => ?_)
  refine goes_ Try.func53 (by kernel_rfl) rfl #[.agg #[.int .i32 ((rd_T45 t401 1).f0), .int .i64 ((rd_T45 t401 1).f1), .int .i64 ((rd_T45 t401 1).f2)]] (by rfl) rfl rfl (by (try simp only [List.map_toArray, List.map_cons, List.map_nil]); first | done | rfl | (simp only [List.length_drop, List.length_take]; rfl)) ?_
  with_reducible refine (cell_May.calls k ((rd_T45 t401 1).f0) ((rd_T45 t401 1).f1) ((rd_T45 t401 1).f2) true _ A27.out).mono ?_
  rintro e w54 ⟨rfl, hb⟩
  have HS0_ := (hb.cell (World.block_lt_of_cell? _ _ (hHeld.1))).trans (hHeld.1)
  have HS1_ := (hb.cell (World.block_lt_of_cell? _ _ (hHeld.2.1))).trans (hHeld.2.1)
  have HS2_ := (hb.cell (World.block_lt_of_cell? _ _ (hHeld.2.2.1))).trans (hHeld.2.2.1)
  have HS3_ := (hb.cell (World.block_lt_of_cell? _ _ (hHeld.2.2.2.1))).trans (hHeld.2.2.2.1)
  have HS4_ := (hb.cell (World.block_lt_of_cell? _ _ (hHeld.2.2.2.2.1))).trans (hHeld.2.2.2.2.1)
  have HS5_ := (hb.cell (World.block_lt_of_cell? _ _ (hHeld.2.2.2.2.2.1))).trans (hHeld.2.2.2.2.2.1)
  have HS6_ := (hb.cell (World.block_lt_of_cell? _ _ (hHeld.2.2.2.2.2.2.1))).trans (hHeld.2.2.2.2.2.2.1)
  have HS7_ := (hb.cell (World.block_lt_of_cell? _ _ (hHeld.2.2.2.2.2.2.2.1))).trans (hHeld.2.2.2.2.2.2.2.1)
  have HS8_ := (hb.cell (World.block_lt_of_cell? _ _ (hHeld.2.2.2.2.2.2.2.2.1))).trans (hHeld.2.2.2.2.2.2.2.2.1)
  have HS9_ := (hb.cell (World.block_lt_of_cell? _ _ (hHeld.2.2.2.2.2.2.2.2.2.1))).trans (hHeld.2.2.2.2.2.2.2.2.2.1)
  have HS10_ := (hb.cell (World.block_lt_of_cell? _ _ (hHeld.2.2.2.2.2.2.2.2.2.2.1))).trans (hHeld.2.2.2.2.2.2.2.2.2.2.1)
  have HS11_ := (hb.cell (World.block_lt_of_cell? _ _ (hHeld.2.2.2.2.2.2.2.2.2.2.2.1))).trans (hHeld.2.2.2.2.2.2.2.2.2.2.2.1)
  have HS12_ := (hb.cell (World.block_lt_of_cell? _ _ (hHeld.2.2.2.2.2.2.2.2.2.2.2.2.1))).trans (hHeld.2.2.2.2.2.2.2.2.2.2.2.2.1)
  have HS13_ := (hb.cell (World.block_lt_of_cell? _ _ (hHeld.2.2.2.2.2.2.2.2.2.2.2.2.2))).trans (hHeld.2.2.2.2.2.2.2.2.2.2.2.2.2)
  refine ⟨_, rfl, ?_⟩
  have n0_ := Aside0.mk (Kd.R_below (by (with_reducible repeat (first | apply Kd.R_alloc | apply Kd.R_drewN | apply Kd.R_drew)); exact HO384.out) hb)
  have n1_ := Aside0.mk (Kd.R_below (by (with_reducible repeat (first | apply Kd.R_alloc | apply Kd.R_drewN | apply Kd.R_drew)); exact HO392.out) hb)
  have n2_ := Aside0.mk (Kd.R_below (by (with_reducible repeat (first | apply Kd.R_alloc | apply Kd.R_drewN | apply Kd.R_drew)); exact HO400.out) hb)
  have n3_ := Aside0.mk (Kd.R_below (by (with_reducible repeat (first | apply Kd.R_alloc | apply Kd.R_drewN | apply Kd.R_drew)); exact HO403.out) hb)
  have n4_ := Aside0.mk (IsS101.below (by repeat (first | (with_reducible first | exact HI381.out | apply IsS101.alloc | apply IsS101.drewN | apply IsS101.drew | apply IsS101.set_0 | apply IsS101.set_1 | apply IsS101.set_2 | apply IsS101.set_3 | apply IsS101.set_4) | exact HI381.out)) hb)
  have n5_ := Aside0.mk (below_step (by repeat (first | (with_reducible first | exact HB.out | apply below_alloc | apply pw_below_drewN | apply below_drew1 | refine below_set ?_ (IsS101.ge HI381.out)) | exact HB.out)) hb)
  clear HO384
  clear HO392
  clear HO400
  clear HO403
  clear HI381
  clear HB
  have HO384 := n0_
  have HO392 := n1_
  have HO400 := n2_
  have HO403 := n3_
  have HI381 := n4_
  have HB := n5_
  clear n0_ n1_ n2_ n3_ n4_ n5_
  (try clear hb)
  (try clear hb2)
  (try clear hk)
  (try clear hi)
  refine hK.out _ _ ⟨HS0_, HS1_, HS2_, HS3_, HS4_, HS5_, HS6_, HS7_, HS8_, HS9_, HS10_, HS11_, HS12_, HS13_⟩ (fun hHeld => ?_)
  clear hK K
  refine norm_ (a' := ?_) ?_ ?_
  rotate_left
  · show Act.put _ (some 84) _ = _
    simp only [Act.put, List.setIfInBounds_toArray, List.set_cons_zero, List.set_cons_succ, i64_w, i32_w]
    rfl
  refine pure_ (i := 71) (N := some 85) (v := ?_) (a' := ?_) (bl_ [72, 29]) rfl rfl (any_of HT_.out (by kernel_rfl)) (fun _ _ _ h => h) (Or.inl ⟨by rfl, ?_⟩) ?_ ?_
  rotate_left
  · intro w'
    go_simp
    with_reducible rfl
  rotate_left
  · simp only [Act.put, List.setIfInBounds_toArray, List.set_cons_zero, List.set_cons_succ, i64_w, i32_w]
    rfl
  refine pure_ (i := 72) (N := some 86) (v := ?_) (a' := ?_) (bl_ [73, 28]) rfl rfl (any_of HT_.out (by kernel_rfl)) (fun _ _ _ h => h) (Or.inl ⟨by rfl, ?_⟩) ?_ ?_
  rotate_left
  · intro w'
    go_simp
    with_reducible rfl
  rotate_left
  · simp only [Act.put, List.setIfInBounds_toArray, List.set_cons_zero, List.set_cons_succ, i64_w, i32_w]
    rfl
  refine one_ (i := 73) (N := some 87) (bl_ [74, 27]) rfl rfl (one_of HT_.out (by kernel_rfl)) (by decide) (fun K hK => ?_)
  refine goes_ Try.func76 (by kernel_rfl) rfl #[] (by rfl) rfl rfl (by (try simp only [List.map_toArray, List.map_cons, List.map_nil]); first | done | rfl | (simp only [List.length_drop, List.length_take]; rfl)) ?_
  with_reducible refine (cell_Blank.calls  t420 t421 t422 _ A29.out).mono ?_
  rintro e w55 ⟨rfl, hb⟩
  have HS0_ := (hb.cell (World.block_lt_of_cell? _ _ (hHeld.1))).trans (hHeld.1)
  have HS1_ := (hb.cell (World.block_lt_of_cell? _ _ (hHeld.2.1))).trans (hHeld.2.1)
  have HS2_ := (hb.cell (World.block_lt_of_cell? _ _ (hHeld.2.2.1))).trans (hHeld.2.2.1)
  have HS3_ := (hb.cell (World.block_lt_of_cell? _ _ (hHeld.2.2.2.1))).trans (hHeld.2.2.2.1)
  have HS4_ := (hb.cell (World.block_lt_of_cell? _ _ (hHeld.2.2.2.2.1))).trans (hHeld.2.2.2.2.1)
  have HS5_ := (hb.cell (World.block_lt_of_cell? _ _ (hHeld.2.2.2.2.2.1))).trans (hHeld.2.2.2.2.2.1)
  have HS6_ := (hb.cell (World.block_lt_of_cell? _ _ (hHeld.2.2.2.2.2.2.1))).trans (hHeld.2.2.2.2.2.2.1)
  have HS7_ := (hb.cell (World.block_lt_of_cell? _ _ (hHeld.2.2.2.2.2.2.2.1))).trans (hHeld.2.2.2.2.2.2.2.1)
  have HS8_ := (hb.cell (World.block_lt_of_cell? _ _ (hHeld.2.2.2.2.2.2.2.2.1))).trans (hHeld.2.2.2.2.2.2.2.2.1)
  have HS9_ := (hb.cell (World.block_lt_of_cell? _ _ (hHeld.2.2.2.2.2.2.2.2.2.1))).trans (hHeld.2.2.2.2.2.2.2.2.2.1)
  have HS10_ := (hb.cell (World.block_lt_of_cell? _ _ (hHeld.2.2.2.2.2.2.2.2.2.2.1))).trans (hHeld.2.2.2.2.2.2.2.2.2.2.1)
  have HS11_ := (hb.cell (World.block_lt_of_cell? _ _ (hHeld.2.2.2.2.2.2.2.2.2.2.2.1))).trans (hHeld.2.2.2.2.2.2.2.2.2.2.2.1)
  have HS12_ := (hb.cell (World.block_lt_of_cell? _ _ (hHeld.2.2.2.2.2.2.2.2.2.2.2.2.1))).trans (hHeld.2.2.2.2.2.2.2.2.2.2.2.2.1)
  have HS13_ := (hb.cell (World.block_lt_of_cell? _ _ (hHeld.2.2.2.2.2.2.2.2.2.2.2.2.2))).trans (hHeld.2.2.2.2.2.2.2.2.2.2.2.2.2)
  refine ⟨_, rfl, ?_⟩
  have n0_ := Aside0.mk (Kd.R_below (by (with_reducible repeat (first | apply Kd.R_alloc | apply Kd.R_drewN | apply Kd.R_drew)); exact HO384.out) hb)
  have n1_ := Aside0.mk (Kd.R_below (by (with_reducible repeat (first | apply Kd.R_alloc | apply Kd.R_drewN | apply Kd.R_drew)); exact HO392.out) hb)
  have n2_ := Aside0.mk (Kd.R_below (by (with_reducible repeat (first | apply Kd.R_alloc | apply Kd.R_drewN | apply Kd.R_drew)); exact HO400.out) hb)
  have n3_ := Aside0.mk (Kd.R_below (by (with_reducible repeat (first | apply Kd.R_alloc | apply Kd.R_drewN | apply Kd.R_drew)); exact HO403.out) hb)
  have n4_ := Aside0.mk (IsS101.below (by repeat (first | (with_reducible first | exact HI381.out | apply IsS101.alloc | apply IsS101.drewN | apply IsS101.drew | apply IsS101.set_0 | apply IsS101.set_1 | apply IsS101.set_2 | apply IsS101.set_3 | apply IsS101.set_4) | exact HI381.out)) hb)
  have n5_ := Aside0.mk (below_step (by repeat (first | (with_reducible first | exact HB.out | apply below_alloc | apply pw_below_drewN | apply below_drew1 | refine below_set ?_ (IsS101.ge HI381.out)) | exact HB.out)) hb)
  clear HO384
  clear HO392
  clear HO400
  clear HO403
  clear HI381
  clear HB
  have HO384 := n0_
  have HO392 := n1_
  have HO400 := n2_
  have HO403 := n3_
  have HI381 := n4_
  have HB := n5_
  clear n0_ n1_ n2_ n3_ n4_ n5_
  (try clear hb)
  (try clear hb2)
  (try clear hk)
  (try clear hi)
  refine hK.out _ _ ⟨HS0_, HS1_, HS2_, HS3_, HS4_, HS5_, HS6_, HS7_, HS8_, HS9_, HS10_, HS11_, HS12_, HS13_⟩ (fun hHeld => ?_)
  clear hK K
  refine norm_ (a' := ?_) ?_ ?_
  rotate_left
  · show Act.put _ (some 87) _ = _
    simp only [Act.put, List.setIfInBounds_toArray, List.set_cons_zero, List.set_cons_succ, i64_w, i32_w]
    rfl
  refine one_ (i := 74) (N := some 88) (bl_ [75, 26]) rfl rfl (one_of HT_.out (by kernel_rfl)) (by decide) (fun K hK => ?_)
  refine goes_ Try.func75 (by kernel_rfl) rfl #[.agg #[.int .i32 t420, .int .i64 t421, .int .i64 t422]] (by rfl) rfl rfl (by (try simp only [List.map_toArray, List.map_cons, List.map_nil]); first | done | rfl | (simp only [List.length_drop, List.length_take]; rfl)) ?_
  with_reducible refine (cell_IsBlank.calls t420 t421 t422 true _ A30.out).mono ?_
  rintro e w56 ⟨rfl, hb⟩
  have HS0_ := (hb.cell (World.block_lt_of_cell? _ _ (hHeld.1))).trans (hHeld.1)
  have HS1_ := (hb.cell (World.block_lt_of_cell? _ _ (hHeld.2.1))).trans (hHeld.2.1)
  have HS2_ := (hb.cell (World.block_lt_of_cell? _ _ (hHeld.2.2.1))).trans (hHeld.2.2.1)
  have HS3_ := (hb.cell (World.block_lt_of_cell? _ _ (hHeld.2.2.2.1))).trans (hHeld.2.2.2.1)
  have HS4_ := (hb.cell (World.block_lt_of_cell? _ _ (hHeld.2.2.2.2.1))).trans (hHeld.2.2.2.2.1)
  have HS5_ := (hb.cell (World.block_lt_of_cell? _ _ (hHeld.2.2.2.2.2.1))).trans (hHeld.2.2.2.2.2.1)
  have HS6_ := (hb.cell (World.block_lt_of_cell? _ _ (hHeld.2.2.2.2.2.2.1))).trans (hHeld.2.2.2.2.2.2.1)
  have HS7_ := (hb.cell (World.block_lt_of_cell? _ _ (hHeld.2.2.2.2.2.2.2.1))).trans (hHeld.2.2.2.2.2.2.2.1)
  have HS8_ := (hb.cell (World.block_lt_of_cell? _ _ (hHeld.2.2.2.2.2.2.2.2.1))).trans (hHeld.2.2.2.2.2.2.2.2.1)
  have HS9_ := (hb.cell (World.block_lt_of_cell? _ _ (hHeld.2.2.2.2.2.2.2.2.2.1))).trans (hHeld.2.2.2.2.2.2.2.2.2.1)
  have HS10_ := (hb.cell (World.block_lt_of_cell? _ _ (hHeld.2.2.2.2.2.2.2.2.2.2.1))).trans (hHeld.2.2.2.2.2.2.2.2.2.2.1)
  have HS11_ := (hb.cell (World.block_lt_of_cell? _ _ (hHeld.2.2.2.2.2.2.2.2.2.2.2.1))).trans (hHeld.2.2.2.2.2.2.2.2.2.2.2.1)
  have HS12_ := (hb.cell (World.block_lt_of_cell? _ _ (hHeld.2.2.2.2.2.2.2.2.2.2.2.2.1))).trans (hHeld.2.2.2.2.2.2.2.2.2.2.2.2.1)
  have HS13_ := (hb.cell (World.block_lt_of_cell? _ _ (hHeld.2.2.2.2.2.2.2.2.2.2.2.2.2))).trans (hHeld.2.2.2.2.2.2.2.2.2.2.2.2.2)
  refine ⟨_, rfl, ?_⟩
  have n0_ := Aside0.mk (Kd.R_below (by (with_reducible repeat (first | apply Kd.R_alloc | apply Kd.R_drewN | apply Kd.R_drew)); exact HO384.out) hb)
  have n1_ := Aside0.mk (Kd.R_below (by (with_reducible repeat (first | apply Kd.R_alloc | apply Kd.R_drewN | apply Kd.R_drew)); exact HO392.out) hb)
  have n2_ := Aside0.mk (Kd.R_below (by (with_reducible repeat (first | apply Kd.R_alloc | apply Kd.R_drewN | apply Kd.R_drew)); exact HO400.out) hb)
  have n3_ := Aside0.mk (Kd.R_below (by (with_reducible repeat (first | apply Kd.R_alloc | apply Kd.R_drewN | apply Kd.R_drew)); exact HO403.out) hb)
  have n4_ := Aside0.mk (IsS101.below (by repeat (first | (with_reducible first | exact HI381.out | apply IsS101.alloc | apply IsS101.drewN | apply IsS101.drew | apply IsS101.set_0 | apply IsS101.set_1 | apply IsS101.set_2 | apply IsS101.set_3 | apply IsS101.set_4) | exact HI381.out)) hb)
  have n5_ := Aside0.mk (below_step (by repeat (first | (with_reducible first | exact HB.out | apply below_alloc | apply pw_below_drewN | apply below_drew1 | refine below_set ?_ (IsS101.ge HI381.out)) | exact HB.out)) hb)
  clear HO384
  clear HO392
  clear HO400
  clear HO403
  clear HI381
  clear HB
  have HO384 := n0_
  have HO392 := n1_
  have HO400 := n2_
  have HO403 := n3_
  have HI381 := n4_
  have HB := n5_
  clear n0_ n1_ n2_ n3_ n4_ n5_
  (try clear hb)
  (try clear hb2)
  (try clear hk)
  (try clear hi)
  refine hK.out _ _ ⟨HS0_, HS1_, HS2_, HS3_, HS4_, HS5_, HS6_, HS7_, HS8_, HS9_, HS10_, HS11_, HS12_, HS13_⟩ (fun hHeld => ?_)
  clear hK K
  refine norm_ (a' := ?_) ?_ ?_
  rotate_left
  · show Act.put _ (some 88) _ = _
    simp only [Act.put, List.setIfInBounds_toArray, List.set_cons_zero, List.set_cons_succ, i64_w, i32_w]
    rfl
  refine pure_ (i := 75) (N := some 89) (v := ?_) (a' := ?_) (bl_ [76, 25]) rfl rfl (any_of HT_.out (by kernel_rfl)) (fun _ _ _ h => h) (Or.inl ⟨by rfl, ?_⟩) ?_ ?_
  rotate_left
  · intro w'
    go_simp
    with_reducible rfl
  rotate_left
  · simp only [Act.put, List.setIfInBounds_toArray, List.set_cons_zero, List.set_cons_succ, i64_w, i32_w]
    rfl
  refine pure_ (i := 76) (N := some 90) (v := ?_) (a' := ?_) (bl_ [77, 24]) rfl rfl (any_of HT_.out (by kernel_rfl)) (fun _ _ _ h => h) (Or.inl ⟨by rfl, ?_⟩) ?_ ?_
  rotate_left
  · intro w'
    go_simp
    with_reducible rfl
  rotate_left
  · simp only [Act.put, List.setIfInBounds_toArray, List.set_cons_zero, List.set_cons_succ, i64_w, i32_w]
    rfl
  refine one_ (i := 77) (N := some 91) (bl_ [78, 23]) rfl rfl (one_of HT_.out (by kernel_rfl)) (by decide) (fun K hK => ?_)
  refine goes_ Try.func77 (by kernel_rfl) rfl #[] (by rfl) rfl rfl (by (try simp only [List.map_toArray, List.map_cons, List.map_nil]); first | done | rfl | (simp only [List.length_drop, List.length_take]; rfl)) ?_
  with_reducible refine (cell_Pad.calls  t424 t425 t426 _ A32.out).mono ?_
  rintro e w57 ⟨rfl, hb⟩
  have HS0_ := (hb.cell (World.block_lt_of_cell? _ _ (hHeld.1))).trans (hHeld.1)
  have HS1_ := (hb.cell (World.block_lt_of_cell? _ _ (hHeld.2.1))).trans (hHeld.2.1)
  have HS2_ := (hb.cell (World.block_lt_of_cell? _ _ (hHeld.2.2.1))).trans (hHeld.2.2.1)
  have HS3_ := (hb.cell (World.block_lt_of_cell? _ _ (hHeld.2.2.2.1))).trans (hHeld.2.2.2.1)
  have HS4_ := (hb.cell (World.block_lt_of_cell? _ _ (hHeld.2.2.2.2.1))).trans (hHeld.2.2.2.2.1)
  have HS5_ := (hb.cell (World.block_lt_of_cell? _ _ (hHeld.2.2.2.2.2.1))).trans (hHeld.2.2.2.2.2.1)
  have HS6_ := (hb.cell (World.block_lt_of_cell? _ _ (hHeld.2.2.2.2.2.2.1))).trans (hHeld.2.2.2.2.2.2.1)
  have HS7_ := (hb.cell (World.block_lt_of_cell? _ _ (hHeld.2.2.2.2.2.2.2.1))).trans (hHeld.2.2.2.2.2.2.2.1)
  have HS8_ := (hb.cell (World.block_lt_of_cell? _ _ (hHeld.2.2.2.2.2.2.2.2.1))).trans (hHeld.2.2.2.2.2.2.2.2.1)
  have HS9_ := (hb.cell (World.block_lt_of_cell? _ _ (hHeld.2.2.2.2.2.2.2.2.2.1))).trans (hHeld.2.2.2.2.2.2.2.2.2.1)
  have HS10_ := (hb.cell (World.block_lt_of_cell? _ _ (hHeld.2.2.2.2.2.2.2.2.2.2.1))).trans (hHeld.2.2.2.2.2.2.2.2.2.2.1)
  have HS11_ := (hb.cell (World.block_lt_of_cell? _ _ (hHeld.2.2.2.2.2.2.2.2.2.2.2.1))).trans (hHeld.2.2.2.2.2.2.2.2.2.2.2.1)
  have HS12_ := (hb.cell (World.block_lt_of_cell? _ _ (hHeld.2.2.2.2.2.2.2.2.2.2.2.2.1))).trans (hHeld.2.2.2.2.2.2.2.2.2.2.2.2.1)
  have HS13_ := (hb.cell (World.block_lt_of_cell? _ _ (hHeld.2.2.2.2.2.2.2.2.2.2.2.2.2))).trans (hHeld.2.2.2.2.2.2.2.2.2.2.2.2.2)
  refine ⟨_, rfl, ?_⟩
  have n0_ := Aside0.mk (Kd.R_below (by (with_reducible repeat (first | apply Kd.R_alloc | apply Kd.R_drewN | apply Kd.R_drew)); exact HO384.out) hb)
  have n1_ := Aside0.mk (Kd.R_below (by (with_reducible repeat (first | apply Kd.R_alloc | apply Kd.R_drewN | apply Kd.R_drew)); exact HO392.out) hb)
  have n2_ := Aside0.mk (Kd.R_below (by (with_reducible repeat (first | apply Kd.R_alloc | apply Kd.R_drewN | apply Kd.R_drew)); exact HO400.out) hb)
  have n3_ := Aside0.mk (Kd.R_below (by (with_reducible repeat (first | apply Kd.R_alloc | apply Kd.R_drewN | apply Kd.R_drew)); exact HO403.out) hb)
  have n4_ := Aside0.mk (IsS101.below (by repeat (first | (with_reducible first | exact HI381.out | apply IsS101.alloc | apply IsS101.drewN | apply IsS101.drew | apply IsS101.set_0 | apply IsS101.set_1 | apply IsS101.set_2 | apply IsS101.set_3 | apply IsS101.set_4) | exact HI381.out)) hb)
  have n5_ := Aside0.mk (below_step (by repeat (first | (with_reducible first | exact HB.out | apply below_alloc | apply pw_below_drewN | apply below_drew1 | refine below_set ?_ (IsS101.ge HI381.out)) | exact HB.out)) hb)
  clear HO384
  clear HO392
  clear HO400
  clear HO403
  clear HI381
  clear HB
  have HO384 := n0_
  have HO392 := n1_
  have HO400 := n2_
  have HO403 := n3_
  have HI381 := n4_
  have HB := n5_
  clear n0_ n1_ n2_ n3_ n4_ n5_
  (try clear hb)
  (try clear hb2)
  (try clear hk)
  (try clear hi)
  refine hK.out _ _ ⟨HS0_, HS1_, HS2_, HS3_, HS4_, HS5_, HS6_, HS7_, HS8_, HS9_, HS10_, HS11_, HS12_, HS13_⟩ (fun hHeld => ?_)
  clear hK K
  refine norm_ (a' := ?_) ?_ ?_
  rotate_left
  · show Act.put _ (some 91) _ = _
    simp only [Act.put, List.setIfInBounds_toArray, List.set_cons_zero, List.set_cons_succ, i64_w, i32_w]
    rfl
  refine one_ (i := 78) (N := some 92) (bl_ [79, 22]) rfl rfl (one_of HT_.out (by kernel_rfl)) (by decide) (fun K hK => ?_)
  refine goes_ Try.func65 (by kernel_rfl) rfl #[.agg #[.int .i32 t424, .int .i64 t425, .int .i64 t426]] (by rfl) rfl rfl (by (try simp only [List.map_toArray, List.map_cons, List.map_nil]); first | done | rfl | (simp only [List.length_drop, List.length_take]; rfl)) ?_
  with_reducible refine (cell_IsPad.calls t424 t425 t426 true _ A33.out).mono ?_
  rintro e w58 ⟨rfl, hb⟩
  have HS0_ := (hb.cell (World.block_lt_of_cell? _ _ (hHeld.1))).trans (hHeld.1)
  have HS1_ := (hb.cell (World.block_lt_of_cell? _ _ (hHeld.2.1))).trans (hHeld.2.1)
  have HS2_ := (hb.cell (World.block_lt_of_cell? _ _ (hHeld.2.2.1))).trans (hHeld.2.2.1)
  have HS3_ := (hb.cell (World.block_lt_of_cell? _ _ (hHeld.2.2.2.1))).trans (hHeld.2.2.2.1)
  have HS4_ := (hb.cell (World.block_lt_of_cell? _ _ (hHeld.2.2.2.2.1))).trans (hHeld.2.2.2.2.1)
  have HS5_ := (hb.cell (World.block_lt_of_cell? _ _ (hHeld.2.2.2.2.2.1))).trans (hHeld.2.2.2.2.2.1)
  have HS6_ := (hb.cell (World.block_lt_of_cell? _ _ (hHeld.2.2.2.2.2.2.1))).trans (hHeld.2.2.2.2.2.2.1)
  have HS7_ := (hb.cell (World.block_lt_of_cell? _ _ (hHeld.2.2.2.2.2.2.2.1))).trans (hHeld.2.2.2.2.2.2.2.1)
  have HS8_ := (hb.cell (World.block_lt_of_cell? _ _ (hHeld.2.2.2.2.2.2.2.2.1))).trans (hHeld.2.2.2.2.2.2.2.2.1)
  have HS9_ := (hb.cell (World.block_lt_of_cell? _ _ (hHeld.2.2.2.2.2.2.2.2.2.1))).trans (hHeld.2.2.2.2.2.2.2.2.2.1)
  have HS10_ := (hb.cell (World.block_lt_of_cell? _ _ (hHeld.2.2.2.2.2.2.2.2.2.2.1))).trans (hHeld.2.2.2.2.2.2.2.2.2.2.1)
  have HS11_ := (hb.cell (World.block_lt_of_cell? _ _ (hHeld.2.2.2.2.2.2.2.2.2.2.2.1))).trans (hHeld.2.2.2.2.2.2.2.2.2.2.2.1)
  have HS12_ := (hb.cell (World.block_lt_of_cell? _ _ (hHeld.2.2.2.2.2.2.2.2.2.2.2.2.1))).trans (hHeld.2.2.2.2.2.2.2.2.2.2.2.2.1)
  have HS13_ := (hb.cell (World.block_lt_of_cell? _ _ (hHeld.2.2.2.2.2.2.2.2.2.2.2.2.2))).trans (hHeld.2.2.2.2.2.2.2.2.2.2.2.2.2)
  refine ⟨_, rfl, ?_⟩
  have n0_ := Aside0.mk (Kd.R_below (by (with_reducible repeat (first | apply Kd.R_alloc | apply Kd.R_drewN | apply Kd.R_drew)); exact HO384.out) hb)
  have n1_ := Aside0.mk (Kd.R_below (by (with_reducible repeat (first | apply Kd.R_alloc | apply Kd.R_drewN | apply Kd.R_drew)); exact HO392.out) hb)
  have n2_ := Aside0.mk (Kd.R_below (by (with_reducible repeat (first | apply Kd.R_alloc | apply Kd.R_drewN | apply Kd.R_drew)); exact HO400.out) hb)
  have n3_ := Aside0.mk (Kd.R_below (by (with_reducible repeat (first | apply Kd.R_alloc | apply Kd.R_drewN | apply Kd.R_drew)); exact HO403.out) hb)
  have n4_ := Aside0.mk (IsS101.below (by repeat (first | (with_reducible first | exact HI381.out | apply IsS101.alloc | apply IsS101.drewN | apply IsS101.drew | apply IsS101.set_0 | apply IsS101.set_1 | apply IsS101.set_2 | apply IsS101.set_3 | apply IsS101.set_4) | exact HI381.out)) hb)
  have n5_ := Aside0.mk (below_step (by repeat (first | (with_reducible first | exact HB.out | apply below_alloc | apply pw_below_drewN | apply below_drew1 | refine below_set ?_ (IsS101.ge HI381.out)) | exact HB.out)) hb)
  clear HO384
  clear HO392
  clear HO400
  clear HO403
  clear HI381
  clear HB
  have HO384 := n0_
  have HO392 := n1_
  have HO400 := n2_
  have HO403 := n3_
  have HI381 := n4_
  have HB := n5_
  clear n0_ n1_ n2_ n3_ n4_ n5_
  (try clear hb)
  (try clear hb2)
  (try clear hk)
  (try clear hi)
  refine hK.out _ _ ⟨HS0_, HS1_, HS2_, HS3_, HS4_, HS5_, HS6_, HS7_, HS8_, HS9_, HS10_, HS11_, HS12_, HS13_⟩ (fun hHeld => ?_)
  clear hK K
  refine norm_ (a' := ?_) ?_ ?_
  rotate_left
  · show Act.put _ (some 92) _ = _
    simp only [Act.put, List.setIfInBounds_toArray, List.set_cons_zero, List.set_cons_succ, i64_w, i32_w]
    rfl
  refine pure_ (i := 79) (N := some 93) (v := ?_) (a' := ?_) (bl_ [80, 21]) rfl rfl (any_of HT_.out (by kernel_rfl)) (fun _ _ _ h => h) (Or.inl ⟨by rfl, ?_⟩) ?_ ?_
  rotate_left
  · intro w'
    go_simp
    with_reducible rfl
  rotate_left
  · simp only [Act.put, List.setIfInBounds_toArray, List.set_cons_zero, List.set_cons_succ, i64_w, i32_w]
    rfl
  refine pure_ (i := 80) (N := some 94) (v := ?_) (a' := ?_) (bl_ [81, 20]) rfl rfl (any_of HT_.out (by kernel_rfl)) (fun _ _ _ h => h) (Or.inl ⟨by rfl, ?_⟩) ?_ ?_
  rotate_left
  · intro w'
    go_simp
    with_reducible rfl
  rotate_left
  · simp only [Act.put, List.setIfInBounds_toArray, List.set_cons_zero, List.set_cons_succ, i64_w, i32_w]
    rfl
  refine pure_ (i := 81) (N := some 95) (v := ?_) (a' := ?_) (bl_ [82, 19]) rfl rfl (any_of HT_.out (by kernel_rfl)) (fun _ _ _ h => h) (Or.inl ⟨by rfl, ?_⟩) ?_ ?_
  rotate_left
  · intro w'
    go_simp
    with_reducible rfl
  rotate_left
  · simp only [Act.put, List.setIfInBounds_toArray, List.set_cons_zero, List.set_cons_succ, i64_w, i32_w]
    rfl
  refine one_ (i := 82) (N := some 96) (bl_ [83, 18]) rfl rfl (one_of HT_.out (by kernel_rfl)) (by decide) (fun K hK => ?_)
  refine goes_ Try.func78 (by kernel_rfl) rfl #[.slice (some ad416) t401.length co53] (by rfl) rfl rfl (by (try simp only [List.map_toArray, List.map_cons, List.map_nil]); first | done | rfl | (simp only [List.length_drop, List.length_take]; rfl)) ?_
  with_reducible refine (cell_Text.calls k _ _ t401 t428 _ ?side1 ?side2 A35.out).mono ?_
  (case side1 => repeat (first | exact (Kd.R_reads' HO403.out).2.2 | (with_reducible refine Kd.C_alloc ?_ _) | (with_reducible refine Kd.C_drewN ?_ _) | (with_reducible refine Kd.C_drew ?_) | exact Kd.C_drewN (Kd.R_reads' HO403.out).2.2 _ | exact Kd.C_drew (Kd.R_reads' HO403.out).2.2 | exact Kd.C_alloc (Kd.R_reads' HO403.out).2.2 _))
  (case side2 => exact (Kd.R_reads' HO403.out).2.1)
  rintro e w59 ⟨rfl, hb⟩
  have HS0_ := (hb.cell (World.block_lt_of_cell? _ _ (hHeld.1))).trans (hHeld.1)
  have HS1_ := (hb.cell (World.block_lt_of_cell? _ _ (hHeld.2.1))).trans (hHeld.2.1)
  have HS2_ := (hb.cell (World.block_lt_of_cell? _ _ (hHeld.2.2.1))).trans (hHeld.2.2.1)
  have HS3_ := (hb.cell (World.block_lt_of_cell? _ _ (hHeld.2.2.2.1))).trans (hHeld.2.2.2.1)
  have HS4_ := (hb.cell (World.block_lt_of_cell? _ _ (hHeld.2.2.2.2.1))).trans (hHeld.2.2.2.2.1)
  have HS5_ := (hb.cell (World.block_lt_of_cell? _ _ (hHeld.2.2.2.2.2.1))).trans (hHeld.2.2.2.2.2.1)
  have HS6_ := (hb.cell (World.block_lt_of_cell? _ _ (hHeld.2.2.2.2.2.2.1))).trans (hHeld.2.2.2.2.2.2.1)
  have HS7_ := (hb.cell (World.block_lt_of_cell? _ _ (hHeld.2.2.2.2.2.2.2.1))).trans (hHeld.2.2.2.2.2.2.2.1)
  have HS8_ := (hb.cell (World.block_lt_of_cell? _ _ (hHeld.2.2.2.2.2.2.2.2.1))).trans (hHeld.2.2.2.2.2.2.2.2.1)
  have HS9_ := (hb.cell (World.block_lt_of_cell? _ _ (hHeld.2.2.2.2.2.2.2.2.2.1))).trans (hHeld.2.2.2.2.2.2.2.2.2.1)
  have HS10_ := (hb.cell (World.block_lt_of_cell? _ _ (hHeld.2.2.2.2.2.2.2.2.2.2.1))).trans (hHeld.2.2.2.2.2.2.2.2.2.2.1)
  have HS11_ := (hb.cell (World.block_lt_of_cell? _ _ (hHeld.2.2.2.2.2.2.2.2.2.2.2.1))).trans (hHeld.2.2.2.2.2.2.2.2.2.2.2.1)
  have HS12_ := (hb.cell (World.block_lt_of_cell? _ _ (hHeld.2.2.2.2.2.2.2.2.2.2.2.2.1))).trans (hHeld.2.2.2.2.2.2.2.2.2.2.2.2.1)
  have HS13_ := (hb.cell (World.block_lt_of_cell? _ _ (hHeld.2.2.2.2.2.2.2.2.2.2.2.2.2))).trans (hHeld.2.2.2.2.2.2.2.2.2.2.2.2.2)
  refine ⟨_, rfl, ?_⟩
  have n0_ := Aside0.mk (Kd.R_below (by (with_reducible repeat (first | apply Kd.R_alloc | apply Kd.R_drewN | apply Kd.R_drew)); exact HO384.out) hb)
  have n1_ := Aside0.mk (Kd.R_below (by (with_reducible repeat (first | apply Kd.R_alloc | apply Kd.R_drewN | apply Kd.R_drew)); exact HO392.out) hb)
  have n2_ := Aside0.mk (Kd.R_below (by (with_reducible repeat (first | apply Kd.R_alloc | apply Kd.R_drewN | apply Kd.R_drew)); exact HO400.out) hb)
  have n3_ := Aside0.mk (Kd.R_below (by (with_reducible repeat (first | apply Kd.R_alloc | apply Kd.R_drewN | apply Kd.R_drew)); exact HO403.out) hb)
  have n4_ := Aside0.mk (IsS101.below (by repeat (first | (with_reducible first | exact HI381.out | apply IsS101.alloc | apply IsS101.drewN | apply IsS101.drew | apply IsS101.set_0 | apply IsS101.set_1 | apply IsS101.set_2 | apply IsS101.set_3 | apply IsS101.set_4) | exact HI381.out)) hb)
  have n5_ := Aside0.mk (below_step (by repeat (first | (with_reducible first | exact HB.out | apply below_alloc | apply pw_below_drewN | apply below_drew1 | refine below_set ?_ (IsS101.ge HI381.out)) | exact HB.out)) hb)
  clear HO384
  clear HO392
  clear HO400
  clear HO403
  clear HI381
  clear HB
  have HO384 := n0_
  have HO392 := n1_
  have HO400 := n2_
  have HO403 := n3_
  have HI381 := n4_
  have HB := n5_
  clear n0_ n1_ n2_ n3_ n4_ n5_
  (try clear hb)
  (try clear hb2)
  (try clear hk)
  (try clear hi)
  refine hK.out _ _ ⟨HS0_, HS1_, HS2_, HS3_, HS4_, HS5_, HS6_, HS7_, HS8_, HS9_, HS10_, HS11_, HS12_, HS13_⟩ (fun hHeld => ?_)
  clear hK K
  refine norm_ (a' := ?_) ?_ ?_
  rotate_left
  · show Act.put _ (some 96) _ = _
    simp only [Act.put, List.setIfInBounds_toArray, List.set_cons_zero, List.set_cons_succ, i64_w, i32_w]
    rfl
  refine pure_ (i := 83) (N := some 97) (v := ?_) (a' := ?_) (bl_ [84, 17]) rfl rfl (any_of HT_.out (by kernel_rfl)) (fun _ _ _ h => h) (Or.inl ⟨by rfl, ?_⟩) ?_ ?_
  rotate_left
  · intro w'
    go_simp
    with_reducible rfl
  rotate_left
  · simp only [Act.put, List.setIfInBounds_toArray, List.set_cons_zero, List.set_cons_succ, i64_w, i32_w]
    rfl
  refine pure_ (i := 84) (N := some 98) (v := ?_) (a' := ?_) (bl_ [85, 16]) rfl rfl (any_of HT_.out (by kernel_rfl)) (fun _ _ _ h => h) (Or.inl ⟨by rfl, ?_⟩) ?_ ?_
  rotate_left
  · intro w'
    go_simp
    with_reducible rfl
  rotate_left
  · simp only [Act.put, List.setIfInBounds_toArray, List.set_cons_zero, List.set_cons_succ, i64_w, i32_w]
    rfl
  refine pure_ (i := 85) (N := some 99) (v := ?_) (a' := ?_) (bl_ [86, 15]) rfl rfl (any_of HT_.out (by kernel_rfl)) (fun _ _ _ h => h) (Or.inl ⟨by rfl, ?_⟩) ?_ ?_
  rotate_left
  · intro w'
    go_simp
    with_reducible rfl
  rotate_left
  · simp only [Act.put, List.setIfInBounds_toArray, List.set_cons_zero, List.set_cons_succ, i64_w, i32_w]
    rfl
  refine pure_ (i := 86) (N := some 100) (v := ?_) (a' := ?_) (bl_ [87, 14]) rfl rfl (any_of HT_.out (by kernel_rfl)) (fun _ _ _ h => h) (Or.inl ⟨by rfl, ?_⟩) ?_ ?_
  rotate_left
  · intro w'
    go_simp
    with_reducible rfl
  rotate_left
  · simp only [Act.put, List.setIfInBounds_toArray, List.set_cons_zero, List.set_cons_succ, i64_w, i32_w]
    rfl
  refine pure_ (i := 87) (N := some 101) (v := ?_) (a' := ?_) (bl_ [88, 13]) rfl rfl (any_of HT_.out (by kernel_rfl)) (fun _ _ _ h => h) (Or.inl ⟨by rfl, ?_⟩) ?_ ?_
  rotate_left
  · intro w'
    go_simp
    with_reducible rfl
  rotate_left
  · simp only [Act.put, List.setIfInBounds_toArray, List.set_cons_zero, List.set_cons_succ, i64_w, i32_w]
    rfl
  refine take_ (i := 88) (N := some 102) (v := ?_) (a' := ?_) (bl_ [89, 12]) rfl rfl (take_ofW HT_.out HW_.out (by kernel_rfl)) (fun _ _ _ h => h) (Or.inl ⟨by rfl, ?_⟩) hHeld ?_ ?_
  rotate_left
  · rintro w' ⟨s0, s1, s2, s3, s4, s5, s6, s7, s8, s9, s10, s11, s12, s13⟩
    go_simp
    with_reducible rfl
  rotate_left
  · simp only [Act.put, List.setIfInBounds_toArray, List.set_cons_zero, List.set_cons_succ, i64_w, i32_w]
    rfl
  refine one_ (i := 89) (N := some 103) (bl_ [90, 11]) rfl rfl (one_of HT_.out (by kernel_rfl)) (by decide) (fun K hK => ?_)
  refine goes_ Try.func76 (by kernel_rfl) rfl #[] (by rfl) rfl rfl (by (try simp only [List.map_toArray, List.map_cons, List.map_nil]); first | done | rfl | (simp only [List.length_drop, List.length_take]; rfl)) ?_
  with_reducible refine (cell_Blank.calls  t430 t431 t432 _ A37.out).mono ?_
  rintro e w60 ⟨rfl, hb⟩
  have HS0_ := (hb.cell (World.block_lt_of_cell? _ _ (hHeld.1))).trans (hHeld.1)
  have HS1_ := (hb.cell (World.block_lt_of_cell? _ _ (hHeld.2.1))).trans (hHeld.2.1)
  have HS2_ := (hb.cell (World.block_lt_of_cell? _ _ (hHeld.2.2.1))).trans (hHeld.2.2.1)
  have HS3_ := (hb.cell (World.block_lt_of_cell? _ _ (hHeld.2.2.2.1))).trans (hHeld.2.2.2.1)
  have HS4_ := (hb.cell (World.block_lt_of_cell? _ _ (hHeld.2.2.2.2.1))).trans (hHeld.2.2.2.2.1)
  have HS5_ := (hb.cell (World.block_lt_of_cell? _ _ (hHeld.2.2.2.2.2.1))).trans (hHeld.2.2.2.2.2.1)
  have HS6_ := (hb.cell (World.block_lt_of_cell? _ _ (hHeld.2.2.2.2.2.2.1))).trans (hHeld.2.2.2.2.2.2.1)
  have HS7_ := (hb.cell (World.block_lt_of_cell? _ _ (hHeld.2.2.2.2.2.2.2.1))).trans (hHeld.2.2.2.2.2.2.2.1)
  have HS8_ := (hb.cell (World.block_lt_of_cell? _ _ (hHeld.2.2.2.2.2.2.2.2.1))).trans (hHeld.2.2.2.2.2.2.2.2.1)
  have HS9_ := (hb.cell (World.block_lt_of_cell? _ _ (hHeld.2.2.2.2.2.2.2.2.2.1))).trans (hHeld.2.2.2.2.2.2.2.2.2.1)
  have HS10_ := (hb.cell (World.block_lt_of_cell? _ _ (hHeld.2.2.2.2.2.2.2.2.2.2.1))).trans (hHeld.2.2.2.2.2.2.2.2.2.2.1)
  have HS11_ := (hb.cell (World.block_lt_of_cell? _ _ (hHeld.2.2.2.2.2.2.2.2.2.2.2.1))).trans (hHeld.2.2.2.2.2.2.2.2.2.2.2.1)
  have HS12_ := (hb.cell (World.block_lt_of_cell? _ _ (hHeld.2.2.2.2.2.2.2.2.2.2.2.2.1))).trans (hHeld.2.2.2.2.2.2.2.2.2.2.2.2.1)
  have HS13_ := (hb.cell (World.block_lt_of_cell? _ _ (hHeld.2.2.2.2.2.2.2.2.2.2.2.2.2))).trans (hHeld.2.2.2.2.2.2.2.2.2.2.2.2.2)
  refine ⟨_, rfl, ?_⟩
  have n0_ := Aside0.mk (Kd.R_below (by (with_reducible repeat (first | apply Kd.R_alloc | apply Kd.R_drewN | apply Kd.R_drew)); exact HO384.out) hb)
  have n1_ := Aside0.mk (Kd.R_below (by (with_reducible repeat (first | apply Kd.R_alloc | apply Kd.R_drewN | apply Kd.R_drew)); exact HO392.out) hb)
  have n2_ := Aside0.mk (Kd.R_below (by (with_reducible repeat (first | apply Kd.R_alloc | apply Kd.R_drewN | apply Kd.R_drew)); exact HO400.out) hb)
  have n3_ := Aside0.mk (Kd.R_below (by (with_reducible repeat (first | apply Kd.R_alloc | apply Kd.R_drewN | apply Kd.R_drew)); exact HO403.out) hb)
  have n4_ := Aside0.mk (IsS101.below (by repeat (first | (with_reducible first | exact HI381.out | apply IsS101.alloc | apply IsS101.drewN | apply IsS101.drew | apply IsS101.set_0 | apply IsS101.set_1 | apply IsS101.set_2 | apply IsS101.set_3 | apply IsS101.set_4) | exact HI381.out)) hb)
  have n5_ := Aside0.mk (below_step (by repeat (first | (with_reducible first | exact HB.out | apply below_alloc | apply pw_below_drewN | apply below_drew1 | refine below_set ?_ (IsS101.ge HI381.out)) | exact HB.out)) hb)
  clear HO384
  clear HO392
  clear HO400
  clear HO403
  clear HI381
  clear HB
  have HO384 := n0_
  have HO392 := n1_
  have HO400 := n2_
  have HO403 := n3_
  have HI381 := n4_
  have HB := n5_
  clear n0_ n1_ n2_ n3_ n4_ n5_
  (try clear hb)
  (try clear hb2)
  (try clear hk)
  (try clear hi)
  refine hK.out _ _ ⟨HS0_, HS1_, HS2_, HS3_, HS4_, HS5_, HS6_, HS7_, HS8_, HS9_, HS10_, HS11_, HS12_, HS13_⟩ (fun hHeld => ?_)
  clear hK K
  refine norm_ (a' := ?_) ?_ ?_
  rotate_left
  · show Act.put _ (some 103) _ = _
    simp only [Act.put, List.setIfInBounds_toArray, List.set_cons_zero, List.set_cons_succ, i64_w, i32_w]
    rfl
  refine one_ (i := 90) (N := some 104) (bl_ [91, 10]) rfl rfl (one_of HT_.out (by kernel_rfl)) (by decide) (fun K hK => ?_)
  refine Kd.R_lit_step k45 _ 45 ?hg (N := 104) ?hd (xs := ([(⟨(rd_T45 t401 0).f0, (rd_T45 t401 0).f1, (rd_T45 t401 0).f2⟩ : S45), (⟨t430, t431, t432⟩ : S45)] : List (S45))) (inner := [.int .i32 ((rd_T45 t401 0).f0), .int .i64 ((rd_T45 t401 0).f1), .int .i64 ((rd_T45 t401 0).f2), .int .i32 t430, .int .i64 t431, .int .i64 t432]) (ok := fun _ => True) (okp := fun _ => True) ?hr ?hp (fun _ hk => hk) trivial (Below.refl _ _) (Nat.le_refl _) (by simp) ?_; (case hd => rfl); (case hg => rfl); (case hr => first | (go_simp; done) | (go_simp; rfl)); (case hp => exact (Reps.c3 (show Kd.M k45 _ _ _ (⟨(rd_T45 t401 0).f0, (rd_T45 t401 0).f1, (rd_T45 t401 0).f2⟩ : S45) [.int .i32 ((rd_T45 t401 0).f0), .int .i64 ((rd_T45 t401 0).f1), .int .i64 ((rd_T45 t401 0).f2)] from (k45_mkM _ _ _ (⟨(rd_T45 t401 0).f0, (rd_T45 t401 0).f1, (rd_T45 t401 0).f2⟩ : S45) )) (Reps.c3 (show Kd.M k45 _ _ _ (⟨t430, t431, t432⟩ : S45) [.int .i32 t430, .int .i64 t431, .int .i64 t432] from (k45_mkM _ _ _ (⟨t430, t431, t432⟩ : S45) )) (Reps.none _ _))))
  intro v434 w61 ho62 hb hg_ hnew_
  have HS0_ := (hb.cell (World.block_lt_of_cell? _ _ (hHeld.1))).trans (hHeld.1)
  have HS1_ := (hb.cell (World.block_lt_of_cell? _ _ (hHeld.2.1))).trans (hHeld.2.1)
  have HS2_ := (hb.cell (World.block_lt_of_cell? _ _ (hHeld.2.2.1))).trans (hHeld.2.2.1)
  have HS3_ := (hb.cell (World.block_lt_of_cell? _ _ (hHeld.2.2.2.1))).trans (hHeld.2.2.2.1)
  have HS4_ := (hb.cell (World.block_lt_of_cell? _ _ (hHeld.2.2.2.2.1))).trans (hHeld.2.2.2.2.1)
  have HS5_ := (hb.cell (World.block_lt_of_cell? _ _ (hHeld.2.2.2.2.2.1))).trans (hHeld.2.2.2.2.2.1)
  have HS6_ := (hb.cell (World.block_lt_of_cell? _ _ (hHeld.2.2.2.2.2.2.1))).trans (hHeld.2.2.2.2.2.2.1)
  have HS7_ := (hb.cell (World.block_lt_of_cell? _ _ (hHeld.2.2.2.2.2.2.2.1))).trans (hHeld.2.2.2.2.2.2.2.1)
  have HS8_ := (hb.cell (World.block_lt_of_cell? _ _ (hHeld.2.2.2.2.2.2.2.2.1))).trans (hHeld.2.2.2.2.2.2.2.2.1)
  have HS9_ := (hb.cell (World.block_lt_of_cell? _ _ (hHeld.2.2.2.2.2.2.2.2.2.1))).trans (hHeld.2.2.2.2.2.2.2.2.2.1)
  have HS10_ := (hb.cell (World.block_lt_of_cell? _ _ (hHeld.2.2.2.2.2.2.2.2.2.2.1))).trans (hHeld.2.2.2.2.2.2.2.2.2.2.1)
  have HS11_ := (hb.cell (World.block_lt_of_cell? _ _ (hHeld.2.2.2.2.2.2.2.2.2.2.2.1))).trans (hHeld.2.2.2.2.2.2.2.2.2.2.2.1)
  have HS12_ := (hb.cell (World.block_lt_of_cell? _ _ (hHeld.2.2.2.2.2.2.2.2.2.2.2.2.1))).trans (hHeld.2.2.2.2.2.2.2.2.2.2.2.2.1)
  have HS13_ := (hb.cell (World.block_lt_of_cell? _ _ (hHeld.2.2.2.2.2.2.2.2.2.2.2.2.2))).trans (hHeld.2.2.2.2.2.2.2.2.2.2.2.2.2)
  clear hg_ hnew_
  (first | rw [← Ny433.out] at ho62 | (simp only [Int.reduceToNat] at ho62; rw [← Ny433.out] at ho62))
  have n0_ := Aside0.mk (Kd.R_below (by (with_reducible repeat (first | apply Kd.R_alloc | apply Kd.R_drewN | apply Kd.R_drew)); exact HO384.out) hb)
  have n1_ := Aside0.mk (Kd.R_below (by (with_reducible repeat (first | apply Kd.R_alloc | apply Kd.R_drewN | apply Kd.R_drew)); exact HO392.out) hb)
  have n2_ := Aside0.mk (Kd.R_below (by (with_reducible repeat (first | apply Kd.R_alloc | apply Kd.R_drewN | apply Kd.R_drew)); exact HO400.out) hb)
  have n3_ := Aside0.mk (Kd.R_elder' (by (with_reducible repeat (first | apply Kd.R_alloc | apply Kd.R_drewN | apply Kd.R_drew)); exact HO403.out) (Kd.R_base ho62) hb)
  have n4_ := Aside0.mk (Kd.R_lower (Kd.R_new' ho62 (Kd.R_lt (by (with_reducible repeat (first | apply Kd.R_alloc | apply Kd.R_drewN | apply Kd.R_drew)); exact HO403.out))) (below_size (by repeat (first | (with_reducible first | exact HB.out | apply below_alloc | apply pw_below_drewN | apply below_drew1 | refine below_set ?_ (IsS101.ge HI381.out)) | exact HB.out))))
  have n5_ := Aside0.mk (IsS101.below (by repeat (first | (with_reducible first | exact HI381.out | apply IsS101.alloc | apply IsS101.drewN | apply IsS101.drew | apply IsS101.set_0 | apply IsS101.set_1 | apply IsS101.set_2 | apply IsS101.set_3 | apply IsS101.set_4) | exact HI381.out)) hb)
  have n6_ := Aside0.mk (below_step (by repeat (first | (with_reducible first | exact HB.out | apply below_alloc | apply pw_below_drewN | apply below_drew1 | refine below_set ?_ (IsS101.ge HI381.out)) | exact HB.out)) hb)
  clear HO384
  clear HO392
  clear HO400
  clear HO403
  clear HI381
  clear HB
  have HO384 := n0_
  have HO392 := n1_
  have HO400 := n2_
  have HO403 := n3_
  have HO435 := n4_
  have HI381 := n5_
  have HB := n6_
  clear n0_ n1_ n2_ n3_ n4_ n5_ n6_
  clear hb ho62
  obtain ⟨Ao63, co63, eo63⟩ := Kd.R_slice HO435.out
  (first | subst eo63 | (injection eo63 with f1_ f2_ f3_; have f4_ := f1_.symm; have f5_ := f3_.symm; clear f1_ f2_ f3_; subst f4_; subst f5_))
  refine hK.out _ _ ⟨HS0_, HS1_, HS2_, HS3_, HS4_, HS5_, HS6_, HS7_, HS8_, HS9_, HS10_, HS11_, HS12_, HS13_⟩ (fun hHeld => ?_)
  clear hK K
  refine norm_ (a' := ?_) ?_ ?_
  rotate_left
  · show Act.put _ (some 104) _ = _
    simp only [Act.put, List.setIfInBounds_toArray, List.set_cons_zero, List.set_cons_succ, i64_w, i32_w]
    rfl
  refine one_ (i := 91) (N := some 105) (bl_ [92, 9]) rfl rfl (one_of HT_.out (by kernel_rfl)) (by decide) (fun K hK => ?_)
  refine goes_ Try.func79 (by kernel_rfl) rfl #[.slice Ao63 y433.length co63] (by rfl) rfl rfl (by (try simp only [List.map_toArray, List.map_cons, List.map_nil]); first | done | rfl | (simp only [List.length_drop, List.length_take]; rfl)) ?_
  with_reducible refine (cell_Trim.calls k _ _ y433 t436 _ ?side1 ?side2 A38.out).mono ?_
  (case side1 => repeat (first | exact (Kd.R_reads' HO435.out).2.2 | (with_reducible refine Kd.C_alloc ?_ _) | (with_reducible refine Kd.C_drewN ?_ _) | (with_reducible refine Kd.C_drew ?_) | exact Kd.C_drewN (Kd.R_reads' HO435.out).2.2 _ | exact Kd.C_drew (Kd.R_reads' HO435.out).2.2 | exact Kd.C_alloc (Kd.R_reads' HO435.out).2.2 _))
  (case side2 => exact (Kd.R_reads' HO435.out).2.1)
  rintro e w64 ⟨v437, rfl, ho0, hb⟩
  have HS0_ := (hb.cell (World.block_lt_of_cell? _ _ (hHeld.1))).trans (hHeld.1)
  have HS1_ := (hb.cell (World.block_lt_of_cell? _ _ (hHeld.2.1))).trans (hHeld.2.1)
  have HS2_ := (hb.cell (World.block_lt_of_cell? _ _ (hHeld.2.2.1))).trans (hHeld.2.2.1)
  have HS3_ := (hb.cell (World.block_lt_of_cell? _ _ (hHeld.2.2.2.1))).trans (hHeld.2.2.2.1)
  have HS4_ := (hb.cell (World.block_lt_of_cell? _ _ (hHeld.2.2.2.2.1))).trans (hHeld.2.2.2.2.1)
  have HS5_ := (hb.cell (World.block_lt_of_cell? _ _ (hHeld.2.2.2.2.2.1))).trans (hHeld.2.2.2.2.2.1)
  have HS6_ := (hb.cell (World.block_lt_of_cell? _ _ (hHeld.2.2.2.2.2.2.1))).trans (hHeld.2.2.2.2.2.2.1)
  have HS7_ := (hb.cell (World.block_lt_of_cell? _ _ (hHeld.2.2.2.2.2.2.2.1))).trans (hHeld.2.2.2.2.2.2.2.1)
  have HS8_ := (hb.cell (World.block_lt_of_cell? _ _ (hHeld.2.2.2.2.2.2.2.2.1))).trans (hHeld.2.2.2.2.2.2.2.2.1)
  have HS9_ := (hb.cell (World.block_lt_of_cell? _ _ (hHeld.2.2.2.2.2.2.2.2.2.1))).trans (hHeld.2.2.2.2.2.2.2.2.2.1)
  have HS10_ := (hb.cell (World.block_lt_of_cell? _ _ (hHeld.2.2.2.2.2.2.2.2.2.2.1))).trans (hHeld.2.2.2.2.2.2.2.2.2.2.1)
  have HS11_ := (hb.cell (World.block_lt_of_cell? _ _ (hHeld.2.2.2.2.2.2.2.2.2.2.2.1))).trans (hHeld.2.2.2.2.2.2.2.2.2.2.2.1)
  have HS12_ := (hb.cell (World.block_lt_of_cell? _ _ (hHeld.2.2.2.2.2.2.2.2.2.2.2.2.1))).trans (hHeld.2.2.2.2.2.2.2.2.2.2.2.2.1)
  have HS13_ := (hb.cell (World.block_lt_of_cell? _ _ (hHeld.2.2.2.2.2.2.2.2.2.2.2.2.2))).trans (hHeld.2.2.2.2.2.2.2.2.2.2.2.2.2)
  refine ⟨_, rfl, ?_⟩
  have n0_ := Aside0.mk (Kd.R_below (by (with_reducible repeat (first | apply Kd.R_alloc | apply Kd.R_drewN | apply Kd.R_drew)); exact HO384.out) hb)
  have n1_ := Aside0.mk (Kd.R_below (by (with_reducible repeat (first | apply Kd.R_alloc | apply Kd.R_drewN | apply Kd.R_drew)); exact HO392.out) hb)
  have n2_ := Aside0.mk (Kd.R_below (by (with_reducible repeat (first | apply Kd.R_alloc | apply Kd.R_drewN | apply Kd.R_drew)); exact HO400.out) hb)
  have n3_ := Aside0.mk (Kd.R_elder' (by (with_reducible repeat (first | apply Kd.R_alloc | apply Kd.R_drewN | apply Kd.R_drew)); exact HO403.out) (Kd.R_base ho0) hb)
  have n4_ := Aside0.mk (Kd.R_elder' (by (with_reducible repeat (first | apply Kd.R_alloc | apply Kd.R_drewN | apply Kd.R_drew)); exact HO435.out) (Kd.R_base ho0) hb)
  have n5_ := Aside0.mk (Kd.R_lower (Kd.R_new' (Kd.R_new' ho0 (Kd.R_lt (by (with_reducible repeat (first | apply Kd.R_alloc | apply Kd.R_drewN | apply Kd.R_drew)); exact HO403.out))) (Kd.R_lt (by (with_reducible repeat (first | apply Kd.R_alloc | apply Kd.R_drewN | apply Kd.R_drew)); exact HO435.out))) (below_size (by repeat (first | (with_reducible first | exact HB.out | apply below_alloc | apply pw_below_drewN | apply below_drew1 | refine below_set ?_ (IsS101.ge HI381.out)) | exact HB.out))))
  have n6_ := Aside0.mk (IsS101.below (by repeat (first | (with_reducible first | exact HI381.out | apply IsS101.alloc | apply IsS101.drewN | apply IsS101.drew | apply IsS101.set_0 | apply IsS101.set_1 | apply IsS101.set_2 | apply IsS101.set_3 | apply IsS101.set_4) | exact HI381.out)) hb)
  have n7_ := Aside0.mk (below_step (by repeat (first | (with_reducible first | exact HB.out | apply below_alloc | apply pw_below_drewN | apply below_drew1 | refine below_set ?_ (IsS101.ge HI381.out)) | exact HB.out)) hb)
  clear HO384
  clear HO392
  clear HO400
  clear HO403
  clear HO435
  clear HI381
  clear HB
  have HO384 := n0_
  have HO392 := n1_
  have HO400 := n2_
  have HO403 := n3_
  have HO435 := n4_
  have HO438 := n5_
  have HI381 := n6_
  have HB := n7_
  clear n0_ n1_ n2_ n3_ n4_ n5_ n6_ n7_
  (try clear hb)
  (try clear hb2)
  (try clear hk)
  (try clear hi)
  (try clear ho0)
  obtain ⟨Ao65, co65, eo65⟩ := Kd.R_slice HO438.out
  (first | subst eo65 | (injection eo65 with f1_ f2_ f3_; have f4_ := f1_.symm; have f5_ := f3_.symm; clear f1_ f2_ f3_; subst f4_; subst f5_))
  have q66 : (1 : Int) ≤ ((t401.length : Int) : Int) := of_decide_eq_true (by first | (with_reducible assumption) | assumption)
  obtain ⟨i066, hi066, _, hsz66, _⟩ := info_parts info45
  have hroom66 : t401.length ≤ co53 := (Kd.R_reads' HO403.out).2.1
  have hC66 : Kd.C k45 _ (some ad416) t401.length t401 := (Kd.R_reads' HO403.out).2.2
  have hcut66 := cut_to (P := Try.prog) 29 45 .i64 Try.underlying29 hi066 (some ad416) t401.length co53 1 (by omega) q66 hroom66
  have hr66 := Kd.C_take (m := 1) hC66 (by omega)
  have hy66 : y439.length = (1 : Int).toNat := (by rw [Ny439.out, List.length_take]; omega)
  rw [← Ny439.out] at hr66
  rw [← hy66] at hcut66
  have HR442 := Aside0.mk hr66
  have HC442 := Aside0.mk (show y439.length ≤ co53 from by omega)
  clear hr66 hC66 hroom66 hi066 hsz66
  have KY66 := Aside0.mk hy66
  clear hy66
  have KL66 := Aside0.mk (show 1 ≤ t401.length from by omega)
  replace q66 := eq_true q66
  refine hK.out _ _ ⟨HS0_, HS1_, HS2_, HS3_, HS4_, HS5_, HS6_, HS7_, HS8_, HS9_, HS10_, HS11_, HS12_, HS13_⟩ (fun hHeld => ?_)
  clear hK K
  refine norm_ (a' := ?_) ?_ ?_
  rotate_left
  · show Act.put _ (some 105) _ = _
    simp only [Act.put, List.setIfInBounds_toArray, List.set_cons_zero, List.set_cons_succ, i64_w, i32_w]
    rfl
  refine pure_ (i := 92) (N := some 106) (v := ?_) (a' := ?_) (bl_ [93, 8]) rfl rfl (any_of HT_.out (by kernel_rfl)) (fun _ _ _ h => h) (Or.inl ⟨by rfl, ?_⟩) ?_ ?_
  rotate_left
  · intro w'
    go_simp
    with_reducible rfl
  rotate_left
  · simp only [Act.put, List.setIfInBounds_toArray, List.set_cons_zero, List.set_cons_succ, i64_w, i32_w]
    rfl
  refine pure_ (i := 93) (N := some 107) (v := ?_) (a' := ?_) (bl_ [94, 7]) rfl rfl (any_of HT_.out (by kernel_rfl)) (fun _ _ _ h => h) (Or.inl ⟨by rfl, ?_⟩) ?_ ?_
  rotate_left
  · intro w'
    go_simp
    with_reducible rfl
  rotate_left
  · simp only [Act.put, List.setIfInBounds_toArray, List.set_cons_zero, List.set_cons_succ, i64_w, i32_w]
    rfl
  refine pure_ (i := 94) (N := some 108) (v := ?_) (a' := ?_) (bl_ [95, 6]) rfl rfl (any_of HT_.out (by kernel_rfl)) (fun _ _ _ h => h) (Or.inl ⟨by rfl, ?_⟩) ?_ ?_
  rotate_left
  · intro w'
    go_simp
    with_reducible rfl
  rotate_left
  · simp only [Act.put, List.setIfInBounds_toArray, List.set_cons_zero, List.set_cons_succ, i64_w, i32_w]
    rfl
  refine pure_ (i := 95) (N := some 109) (v := ?_) (a' := ?_) (bl_ [96, 5]) rfl rfl (any_of HT_.out (by kernel_rfl)) (fun _ _ _ h => h) (Or.inl ⟨by rfl, ?_⟩) ?_ ?_
  rotate_left
  · intro w'
    go_simp
    with_reducible rfl
  rotate_left
  · simp only [Act.put, List.setIfInBounds_toArray, List.set_cons_zero, List.set_cons_succ, i64_w, i32_w]
    rfl
  refine pure_ (i := 96) (N := some 110) (v := ?_) (a' := ?_) (bl_ [97, 4]) rfl rfl (any_of HT_.out (by kernel_rfl)) (fun _ _ _ h => h) (Or.inl ⟨by rfl, ?_⟩) ?_ ?_
  rotate_left
  · intro w'
    go_simp
    with_reducible rfl
  rotate_left
  · simp only [Act.put, List.setIfInBounds_toArray, List.set_cons_zero, List.set_cons_succ, i64_w, i32_w]
    rfl
  refine pure_ (i := 97) (N := some 111) (v := ?_) (a' := ?_) (bl_ [98, 3]) rfl rfl (any_of HT_.out (by kernel_rfl)) (fun _ _ _ h => h) (Or.inl ⟨by rfl, ?_⟩) ?_ ?_
  rotate_left
  · intro w'
    go_simp
    with_reducible rfl
  rotate_left
  · simp only [Act.put, List.setIfInBounds_toArray, List.set_cons_zero, List.set_cons_succ, i64_w, i32_w]
    rfl
  refine one_ (i := 98) (N := some 112) (bl_ [99, 2]) rfl rfl (one_of HT_.out (by kernel_rfl)) (by decide) (fun K hK => ?_)
  refine goes_ Try.func80 (by kernel_rfl) rfl #[.slice (some ad416) y439.length co53] (by rfl) rfl rfl (by (try simp only [List.map_toArray, List.map_cons, List.map_nil]); first | done | rfl | (simp only [List.length_drop, List.length_take]; rfl)) ?_
  with_reducible refine (cell_Line.calls k _ _ y439 t443 _ ?side1 ?side2 A41.out).mono ?_
  (case side1 => repeat (first | exact (by repeat (first | (with_reducible exact HR442.out) | (with_reducible refine Kd.C_alloc ?_ _) | (with_reducible refine Kd.C_drewN ?_ _) | (with_reducible refine Kd.C_drew ?_) | exact HR442.out)) | (with_reducible refine Kd.C_alloc ?_ _) | (with_reducible refine Kd.C_drewN ?_ _) | (with_reducible refine Kd.C_drew ?_) | exact Kd.C_drewN (by repeat (first | (with_reducible exact HR442.out) | (with_reducible refine Kd.C_alloc ?_ _) | (with_reducible refine Kd.C_drewN ?_ _) | (with_reducible refine Kd.C_drew ?_) | exact HR442.out)) _ | exact Kd.C_drew (by repeat (first | (with_reducible exact HR442.out) | (with_reducible refine Kd.C_alloc ?_ _) | (with_reducible refine Kd.C_drewN ?_ _) | (with_reducible refine Kd.C_drew ?_) | exact HR442.out)) | exact Kd.C_alloc (by repeat (first | (with_reducible exact HR442.out) | (with_reducible refine Kd.C_alloc ?_ _) | (with_reducible refine Kd.C_drewN ?_ _) | (with_reducible refine Kd.C_drew ?_) | exact HR442.out)) _))
  (case side2 => exact HC442.out)
  rintro e w67 ⟨rfl, hb⟩
  have HS0_ := (hb.cell (World.block_lt_of_cell? _ _ (hHeld.1))).trans (hHeld.1)
  have HS1_ := (hb.cell (World.block_lt_of_cell? _ _ (hHeld.2.1))).trans (hHeld.2.1)
  have HS2_ := (hb.cell (World.block_lt_of_cell? _ _ (hHeld.2.2.1))).trans (hHeld.2.2.1)
  have HS3_ := (hb.cell (World.block_lt_of_cell? _ _ (hHeld.2.2.2.1))).trans (hHeld.2.2.2.1)
  have HS4_ := (hb.cell (World.block_lt_of_cell? _ _ (hHeld.2.2.2.2.1))).trans (hHeld.2.2.2.2.1)
  have HS5_ := (hb.cell (World.block_lt_of_cell? _ _ (hHeld.2.2.2.2.2.1))).trans (hHeld.2.2.2.2.2.1)
  have HS6_ := (hb.cell (World.block_lt_of_cell? _ _ (hHeld.2.2.2.2.2.2.1))).trans (hHeld.2.2.2.2.2.2.1)
  have HS7_ := (hb.cell (World.block_lt_of_cell? _ _ (hHeld.2.2.2.2.2.2.2.1))).trans (hHeld.2.2.2.2.2.2.2.1)
  have HS8_ := (hb.cell (World.block_lt_of_cell? _ _ (hHeld.2.2.2.2.2.2.2.2.1))).trans (hHeld.2.2.2.2.2.2.2.2.1)
  have HS9_ := (hb.cell (World.block_lt_of_cell? _ _ (hHeld.2.2.2.2.2.2.2.2.2.1))).trans (hHeld.2.2.2.2.2.2.2.2.2.1)
  have HS10_ := (hb.cell (World.block_lt_of_cell? _ _ (hHeld.2.2.2.2.2.2.2.2.2.2.1))).trans (hHeld.2.2.2.2.2.2.2.2.2.2.1)
  have HS11_ := (hb.cell (World.block_lt_of_cell? _ _ (hHeld.2.2.2.2.2.2.2.2.2.2.2.1))).trans (hHeld.2.2.2.2.2.2.2.2.2.2.2.1)
  have HS12_ := (hb.cell (World.block_lt_of_cell? _ _ (hHeld.2.2.2.2.2.2.2.2.2.2.2.2.1))).trans (hHeld.2.2.2.2.2.2.2.2.2.2.2.2.1)
  have HS13_ := (hb.cell (World.block_lt_of_cell? _ _ (hHeld.2.2.2.2.2.2.2.2.2.2.2.2.2))).trans (hHeld.2.2.2.2.2.2.2.2.2.2.2.2.2)
  refine ⟨_, rfl, ?_⟩
  have n0_ := Aside0.mk (Kd.R_below (by (with_reducible repeat (first | apply Kd.R_alloc | apply Kd.R_drewN | apply Kd.R_drew)); exact HO384.out) hb)
  have n1_ := Aside0.mk (Kd.R_below (by (with_reducible repeat (first | apply Kd.R_alloc | apply Kd.R_drewN | apply Kd.R_drew)); exact HO392.out) hb)
  have n2_ := Aside0.mk (Kd.R_below (by (with_reducible repeat (first | apply Kd.R_alloc | apply Kd.R_drewN | apply Kd.R_drew)); exact HO400.out) hb)
  have n3_ := Aside0.mk (Kd.R_below (by (with_reducible repeat (first | apply Kd.R_alloc | apply Kd.R_drewN | apply Kd.R_drew)); exact HO403.out) hb)
  have n4_ := Aside0.mk (Kd.R_below (by (with_reducible repeat (first | apply Kd.R_alloc | apply Kd.R_drewN | apply Kd.R_drew)); exact HO435.out) hb)
  have n5_ := Aside0.mk (Kd.R_below (by (with_reducible repeat (first | apply Kd.R_alloc | apply Kd.R_drewN | apply Kd.R_drew)); exact HO438.out) hb)
  have n6_ := Aside0.mk (IsS101.below (by repeat (first | (with_reducible first | exact HI381.out | apply IsS101.alloc | apply IsS101.drewN | apply IsS101.drew | apply IsS101.set_0 | apply IsS101.set_1 | apply IsS101.set_2 | apply IsS101.set_3 | apply IsS101.set_4) | exact HI381.out)) hb)
  have n7_ := Aside0.mk (Kd.C_below (by repeat (first | (with_reducible exact HR442.out) | (with_reducible refine Kd.C_alloc ?_ _) | (with_reducible refine Kd.C_drewN ?_ _) | (with_reducible refine Kd.C_drew ?_) | exact HR442.out)) hb)
  have n8_ := Aside0.mk (below_step (by repeat (first | (with_reducible first | exact HB.out | apply below_alloc | apply pw_below_drewN | apply below_drew1 | refine below_set ?_ (IsS101.ge HI381.out)) | exact HB.out)) hb)
  clear HO384
  clear HO392
  clear HO400
  clear HO403
  clear HO435
  clear HO438
  clear HI381
  clear HR442
  clear HB
  have HO384 := n0_
  have HO392 := n1_
  have HO400 := n2_
  have HO403 := n3_
  have HO435 := n4_
  have HO438 := n5_
  have HI381 := n6_
  have HR442 := n7_
  have HB := n8_
  clear n0_ n1_ n2_ n3_ n4_ n5_ n6_ n7_ n8_
  (try clear hb)
  (try clear hb2)
  (try clear hk)
  (try clear hi)
  refine hK.out _ _ ⟨HS0_, HS1_, HS2_, HS3_, HS4_, HS5_, HS6_, HS7_, HS8_, HS9_, HS10_, HS11_, HS12_, HS13_⟩ (fun hHeld => ?_)
  clear hK K
  refine norm_ (a' := ?_) ?_ ?_
  rotate_left
  · show Act.put _ (some 112) _ = _
    simp only [Act.put, List.setIfInBounds_toArray, List.set_cons_zero, List.set_cons_succ, i64_w, i32_w]
    rfl
  refine pure_ (i := 99) (N := some 113) (v := ?_) (a' := ?_) (bl_ [100, 1]) rfl rfl (any_of HT_.out (by kernel_rfl)) (fun _ _ _ h => h) (Or.inl ⟨by rfl, ?_⟩) ?_ ?_
  rotate_left
  · intro w'
    go_simp
    with_reducible rfl
  rotate_left
  · simp only [Act.put, List.setIfInBounds_toArray, List.set_cons_zero, List.set_cons_succ, i64_w, i32_w]
    rfl
  refine pure_ (i := 100) (N := some 0) (v := ?_) (a' := ?_) (bl_ [101]) rfl rfl (any_of HT_.out (by kernel_rfl)) (fun _ _ _ h => h) (Or.inl ⟨by rfl, ?_⟩) ?_ ?_
  rotate_left
  · intro w'
    go_simp
    with_reducible rfl
  rotate_left
  · simp only [Act.put, List.setIfInBounds_toArray, List.set_cons_zero, List.set_cons_succ, i64_w, i32_w]
    rfl
  refine done_ (done_of HT_.out (by kernel_rfl)) ?_
  try go_wp2
  go_ret
  exact ⟨by first | rfl | (simp [errW_none, errW_some] <;> rfl) | (simp [*, errW_none, errW_some] <;> rfl), by repeat (first | (with_reducible first | exact HB.out | apply below_alloc | apply pw_below_drewN | apply below_drew1 | refine below_set ?_ (IsS101.ge HI381.out)) | exact HB.out)⟩
end Go.Proofs.Ytkigdcihhlkkdaa.P
