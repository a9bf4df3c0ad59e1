-- Laid by a program of this session (a changed copy of the kit's printer); Lean checks every line.
import Derived.Test.YtiagbfilffbljaaPFnMachsx0
import Derived.Test.YtiagbfilffbljaaPFnMachsx2
import Derived.Test.YtiagbfilffbljaaPFnMachsx3
import Derived.Test.YtiagbfilffbljaaPFnMachsx4
import Derived.Test.YtiagbfilffbljaaPFnMachsx5
import Derived.Test.YtiagbfilffbljaaPFnMachsx8
import Derived.Test.YtiagbfilffbljaaPFnMachsx10
namespace Go.Proofs.Ytiagbfilffbljaa.PFnMachs
open Go.RowKit Go.Proofs.YtiagbfilffbljaaW.PrintWords Go.Proofs.YtiagbfilffbljaaW.PrintLast Go.Proofs.YtiagbfilffbljaaW.PrintMore
attribute [local go_sem] max2_int min2_int max_two min_two max_three min_three max_four min_four   -- for this text's walks alone
set_option linter.unusedVariables false
set_option linter.unusedSimpArgs false

/-! ### laws_FnMachs: function 10 -/
mutual
def laws_FnMachs.j0 : Nat → Int → Bool → List Int → List Int → Bool → Bool → Bool → Bool → List Int → List Int → Int → List Int → List Int → Bool → Bool → Bool → Bool → List Int → List Int → Int → Option (Bool)
 | 0, _, _, _, _, _, _, _, _, _, _, _, _, _, _, _, _, _, _, _, _ => none
 | k + 1, x9, x87, x592000, x592001, x592002, x592003, x592004, x592005, x592006, x592007, x592008, x613000, x613001, x613002, x613003, x613004, x613005, x613006, x613007, x613008 => if x87 = true then (some false) else (laws_FnMachs.l0 k x9 0 x592000 x592001 x592002 x592003 x592004 x592005 x592006 x592007 x592008 x613000 x613001 x613002 x613003 x613004 x613005 x613006 x613007 x613008)
def laws_FnMachs.l0 : Nat → Int → Int → List Int → List Int → Bool → Bool → Bool → Bool → List Int → List Int → Int → List Int → List Int → Bool → Bool → Bool → Bool → List Int → List Int → Int → Option (Bool)
 | 0, _, _, _, _, _, _, _, _, _, _, _, _, _, _, _, _, _, _, _, _ => none
 | k + 1, x9, x14, x592000, x592001, x592002, x592003, x592004, x592005, x592006, x592007, x592008, x613000, x613001, x613002, x613003, x613004, x613005, x613006, x613007, x613008 => if x14 < 256 then (if x14 = (wrap64 (Int.tdiv x9 2)) then (laws_FnMachs.l0 k x9 (wrap64 (x14 + 1)) x592000 x592001 x592002 x592003 x592004 x592005 x592006 x592007 x592008 x613000 x613001 x613002 x613003 x613004 x613005 x613006 x613007 x613008) else (if 0 ≤ x14 then (if x14 < (x613000.length : Int) then (if x14 < (x592000.length : Int) then (if (rd x613000 x14) = (rd x592000 x14) then (laws_FnMachs.l0 k x9 (wrap64 (x14 + 1)) x592000 x592001 x592002 x592003 x592004 x592005 x592006 x592007 x592008 x613000 x613001 x613002 x613003 x613004 x613005 x613006 x613007 x613008) else (some false)) else (none)) else (none)) else (none))) else (some true)
end
def laws_FnMachs.f (k : Nat) (l0 : List Int) : Option (Bool) := (laws_big.f l0).bind fun t547 => (if t547 = true then (some true) else ((spec_DrawMachNew.f k l0).bind fun bt548 => ((impl_MachNew.f k bt548.1 bt548.2.1 bt548.2.2.1 bt548.2.2.2).bind fun bt556 => ((spec_DrawMach.f k l0).bind fun bt574 => ((laws_at.f l0 2).bind fun t592 => ((laws_at.f l0 3).bind fun t593 => ((impl_WriteW.f bt574.1 bt574.2.1 bt574.2.2.1 bt574.2.2.2.1 bt574.2.2.2.2.1 bt574.2.2.2.2.2.1 bt574.2.2.2.2.2.2.1 bt574.2.2.2.2.2.2.2.1 bt574.2.2.2.2.2.2.2.2 (wrap64 (2 * (Int.tmod t592 256))) (wrap64 (t593 * 300))).bind fun bt594 => ((impl_ReadW.f bt594.1 bt594.2.1 bt594.2.2.1 bt594.2.2.2.1 bt594.2.2.2.2.1 bt594.2.2.2.2.2.1 bt594.2.2.2.2.2.2.1 bt594.2.2.2.2.2.2.2.1 bt594.2.2.2.2.2.2.2.2.1 (wrap64 (2 * (Int.tmod t592 256)))).bind fun bt613 => ((spec_MachNew.f k bt548.1 bt548.2.1 bt548.2.2.1 bt548.2.2.2).bind fun bt615 => ((laws_sameMach.f k bt556.1 bt556.2.1 bt556.2.2.1 bt556.2.2.2.1 bt556.2.2.2.2.1 bt556.2.2.2.2.2.1 bt556.2.2.2.2.2.2.1 bt556.2.2.2.2.2.2.2.1 bt556.2.2.2.2.2.2.2.2 bt615.1 bt615.2.1 bt615.2.2.1 bt615.2.2.2.1 bt615.2.2.2.2.1 bt615.2.2.2.2.2.1 bt615.2.2.2.2.2.2.1 bt615.2.2.2.2.2.2.2.1 bt615.2.2.2.2.2.2.2.2).bind fun t632 => (if t632 = true then ((impl_MachOk.f k bt556.1 bt556.2.1 bt556.2.2.1 bt556.2.2.2.1 bt556.2.2.2.2.1 bt556.2.2.2.2.2.1 bt556.2.2.2.2.2.2.1 bt556.2.2.2.2.2.2.2.1 bt556.2.2.2.2.2.2.2.2).bind fun t633 => (if (t633 != (decide ((bt556.1.length : Int) > 0))) = true then (laws_FnMachs.j0 k (wrap64 (2 * (Int.tmod t592 256))) true bt574.1 bt574.2.1 bt574.2.2.1 bt574.2.2.2.1 bt574.2.2.2.2.1 bt574.2.2.2.2.2.1 bt574.2.2.2.2.2.2.1 bt574.2.2.2.2.2.2.2.1 bt574.2.2.2.2.2.2.2.2 bt594.1 bt594.2.1 bt594.2.2.1 bt594.2.2.2.1 bt594.2.2.2.2.1 bt594.2.2.2.2.2.1 bt594.2.2.2.2.2.2.1 bt594.2.2.2.2.2.2.2.1 bt594.2.2.2.2.2.2.2.2.1) else (if bt594.2.2.2.2.2.2.2.2.2 = true then (if bt613.2 = true then ((laws_at.f l0 3).bind fun t634 => ((impl_Wrap.f (wrap64 (t634 * 300))).bind fun t635 => (if bt613.1 = t635 then ((impl_MachOk.f k bt594.1 bt594.2.1 bt594.2.2.1 bt594.2.2.2.1 bt594.2.2.2.2.1 bt594.2.2.2.2.2.1 bt594.2.2.2.2.2.2.1 bt594.2.2.2.2.2.2.2.1 bt594.2.2.2.2.2.2.2.2.1).bind fun t636 => (laws_FnMachs.j0 k (wrap64 (2 * (Int.tmod t592 256))) (!t636) bt574.1 bt574.2.1 bt574.2.2.1 bt574.2.2.2.1 bt574.2.2.2.2.1 bt574.2.2.2.2.2.1 bt574.2.2.2.2.2.2.1 bt574.2.2.2.2.2.2.2.1 bt574.2.2.2.2.2.2.2.2 bt594.1 bt594.2.1 bt594.2.2.1 bt594.2.2.2.1 bt594.2.2.2.2.1 bt594.2.2.2.2.2.1 bt594.2.2.2.2.2.2.1 bt594.2.2.2.2.2.2.2.1 bt594.2.2.2.2.2.2.2.2.1)) else (laws_FnMachs.j0 k (wrap64 (2 * (Int.tmod t592 256))) true bt574.1 bt574.2.1 bt574.2.2.1 bt574.2.2.2.1 bt574.2.2.2.2.1 bt574.2.2.2.2.2.1 bt574.2.2.2.2.2.2.1 bt574.2.2.2.2.2.2.2.1 bt574.2.2.2.2.2.2.2.2 bt594.1 bt594.2.1 bt594.2.2.1 bt594.2.2.2.1 bt594.2.2.2.2.1 bt594.2.2.2.2.2.1 bt594.2.2.2.2.2.2.1 bt594.2.2.2.2.2.2.2.1 bt594.2.2.2.2.2.2.2.2.1)))) else (laws_FnMachs.j0 k (wrap64 (2 * (Int.tmod t592 256))) true bt574.1 bt574.2.1 bt574.2.2.1 bt574.2.2.2.1 bt574.2.2.2.2.1 bt574.2.2.2.2.2.1 bt574.2.2.2.2.2.2.1 bt574.2.2.2.2.2.2.2.1 bt574.2.2.2.2.2.2.2.2 bt594.1 bt594.2.1 bt594.2.2.1 bt594.2.2.2.1 bt594.2.2.2.2.1 bt594.2.2.2.2.2.1 bt594.2.2.2.2.2.2.1 bt594.2.2.2.2.2.2.2.1 bt594.2.2.2.2.2.2.2.2.1)) else (laws_FnMachs.j0 k (wrap64 (2 * (Int.tmod t592 256))) true bt574.1 bt574.2.1 bt574.2.2.1 bt574.2.2.2.1 bt574.2.2.2.2.1 bt574.2.2.2.2.2.1 bt574.2.2.2.2.2.2.1 bt574.2.2.2.2.2.2.2.1 bt574.2.2.2.2.2.2.2.2 bt594.1 bt594.2.1 bt594.2.2.1 bt594.2.2.2.1 bt594.2.2.2.2.1 bt594.2.2.2.2.2.1 bt594.2.2.2.2.2.2.1 bt594.2.2.2.2.2.2.2.1 bt594.2.2.2.2.2.2.2.2.1)))) else (laws_FnMachs.j0 k (wrap64 (2 * (Int.tmod t592 256))) true bt574.1 bt574.2.1 bt574.2.2.1 bt574.2.2.2.1 bt574.2.2.2.2.1 bt574.2.2.2.2.2.1 bt574.2.2.2.2.2.2.1 bt574.2.2.2.2.2.2.2.1 bt574.2.2.2.2.2.2.2.2 bt594.1 bt594.2.1 bt594.2.2.1 bt594.2.2.2.1 bt594.2.2.2.2.1 bt594.2.2.2.2.2.1 bt594.2.2.2.2.2.2.1 bt594.2.2.2.2.2.2.2.1 bt594.2.2.2.2.2.2.2.2.1))))))))))))
theorem laws_FnMachs.mono_l : ∀ k, (∀ y0 y1 y2 y3 y4 y5 y6 y7 y8 y9 y10 y11 y12 y13 y14 y15 y16 y17 y18 y19, LeO (laws_FnMachs.j0 k y0 y1 y2 y3 y4 y5 y6 y7 y8 y9 y10 y11 y12 y13 y14 y15 y16 y17 y18 y19) (laws_FnMachs.j0 (k + 1) y0 y1 y2 y3 y4 y5 y6 y7 y8 y9 y10 y11 y12 y13 y14 y15 y16 y17 y18 y19)) ∧ (∀ y0 y1 y2 y3 y4 y5 y6 y7 y8 y9 y10 y11 y12 y13 y14 y15 y16 y17 y18 y19, LeO (laws_FnMachs.l0 k y0 y1 y2 y3 y4 y5 y6 y7 y8 y9 y10 y11 y12 y13 y14 y15 y16 y17 y18 y19) (laws_FnMachs.l0 (k + 1) y0 y1 y2 y3 y4 y5 y6 y7 y8 y9 y10 y11 y12 y13 y14 y15 y16 y17 y18 y19))
 | 0 => ⟨fun _ _ _ _ _ _ _ _ _ _ _ _ _ _ _ _ _ _ _ _ r h => by simp [laws_FnMachs.j0] at h, fun _ _ _ _ _ _ _ _ _ _ _ _ _ _ _ _ _ _ _ _ r h => by simp [laws_FnMachs.l0] at h⟩
 | k + 1 => by
  obtain ⟨ih0, ih1⟩ := laws_FnMachs.mono_l k
  refine ⟨?_, ?_⟩
  ·intro y0 y1 y2 y3 y4 y5 y6 y7 y8 y9 y10 y11 y12 y13 y14 y15 y16 y17 y18 y19
   unfold laws_FnMachs.j0
   repeat' first
   | (with_reducible exact ih0 _ _ _ _ _ _ _ _ _ _ _ _ _ _ _ _ _ _ _ _)
   | (with_reducible exact ih1 _ _ _ _ _ _ _ _ _ _ _ _ _ _ _ _ _ _ _ _)
   | (with_reducible exact impl_MachNew.mono _ _ _ _ _)
   | (with_reducible exact impl_MachOk.mono _ _ _ _ _ _ _ _ _ _)
   | (with_reducible exact laws_sameMach.mono _ _ _ _ _ _ _ _ _ _ _ _ _ _ _ _ _ _ _)
   | (with_reducible exact spec_DrawMach.mono _ _)
   | (with_reducible exact spec_DrawMachNew.mono _ _)
   | (with_reducible exact spec_MachNew.mono _ _ _ _ _)
   | (with_reducible exact LeO.refl _)
   | (with_reducible exact LeO.none _)
   | (with_reducible refine LeO.ite ?_ ?_)
   | (with_reducible refine LeO.bind ?_ (fun _ => ?_))
   | exact ih0 _ _ _ _ _ _ _ _ _ _ _ _ _ _ _ _ _ _ _ _
   | exact ih1 _ _ _ _ _ _ _ _ _ _ _ _ _ _ _ _ _ _ _ _
   | exact impl_MachNew.mono _ _ _ _ _
   | exact impl_MachOk.mono _ _ _ _ _ _ _ _ _ _
   | exact laws_sameMach.mono _ _ _ _ _ _ _ _ _ _ _ _ _ _ _ _ _ _ _
   | exact spec_DrawMach.mono _ _
   | exact spec_DrawMachNew.mono _ _
   | exact spec_MachNew.mono _ _ _ _ _
   | exact LeO.none _
   | refine LeO.ite ?_ ?_
   | refine LeO.bind ?_ (fun _ => ?_)
  ·intro y0 y1 y2 y3 y4 y5 y6 y7 y8 y9 y10 y11 y12 y13 y14 y15 y16 y17 y18 y19
   unfold laws_FnMachs.l0
   repeat' first
   | (with_reducible exact ih0 _ _ _ _ _ _ _ _ _ _ _ _ _ _ _ _ _ _ _ _)
   | (with_reducible exact ih1 _ _ _ _ _ _ _ _ _ _ _ _ _ _ _ _ _ _ _ _)
   | (with_reducible exact impl_MachNew.mono _ _ _ _ _)
   | (with_reducible exact impl_MachOk.mono _ _ _ _ _ _ _ _ _ _)
   | (with_reducible exact laws_sameMach.mono _ _ _ _ _ _ _ _ _ _ _ _ _ _ _ _ _ _ _)
   | (with_reducible exact spec_DrawMach.mono _ _)
   | (with_reducible exact spec_DrawMachNew.mono _ _)
   | (with_reducible exact spec_MachNew.mono _ _ _ _ _)
   | (with_reducible exact LeO.refl _)
   | (with_reducible exact LeO.none _)
   | (with_reducible refine LeO.ite ?_ ?_)
   | (with_reducible refine LeO.bind ?_ (fun _ => ?_))
   | exact ih0 _ _ _ _ _ _ _ _ _ _ _ _ _ _ _ _ _ _ _ _
   | exact ih1 _ _ _ _ _ _ _ _ _ _ _ _ _ _ _ _ _ _ _ _
   | exact impl_MachNew.mono _ _ _ _ _
   | exact impl_MachOk.mono _ _ _ _ _ _ _ _ _ _
   | exact laws_sameMach.mono _ _ _ _ _ _ _ _ _ _ _ _ _ _ _ _ _ _ _
   | exact spec_DrawMach.mono _ _
   | exact spec_DrawMachNew.mono _ _
   | exact spec_MachNew.mono _ _ _ _ _
   | exact LeO.none _
   | refine LeO.ite ?_ ?_
   | refine LeO.bind ?_ (fun _ => ?_)
theorem laws_FnMachs.mono : ∀ a0 k, LeO (laws_FnMachs.f k a0) (laws_FnMachs.f (k + 1) a0) := by
 intro a0 k
 obtain ⟨ih0, ih1⟩ := laws_FnMachs.mono_l k
 unfold laws_FnMachs.f
 repeat' first
   | (with_reducible exact ih0 _ _ _ _ _ _ _ _ _ _ _ _ _ _ _ _ _ _ _ _)
   | (with_reducible exact ih1 _ _ _ _ _ _ _ _ _ _ _ _ _ _ _ _ _ _ _ _)
   | (with_reducible exact impl_MachNew.mono _ _ _ _ _)
   | (with_reducible exact impl_MachOk.mono _ _ _ _ _ _ _ _ _ _)
   | (with_reducible exact laws_sameMach.mono _ _ _ _ _ _ _ _ _ _ _ _ _ _ _ _ _ _ _)
   | (with_reducible exact spec_DrawMach.mono _ _)
   | (with_reducible exact spec_DrawMachNew.mono _ _)
   | (with_reducible exact spec_MachNew.mono _ _ _ _ _)
   | (with_reducible exact LeO.refl _)
   | (with_reducible exact LeO.none _)
   | (with_reducible refine LeO.ite ?_ ?_)
   | (with_reducible refine LeO.bind ?_ (fun _ => ?_))
   | exact ih0 _ _ _ _ _ _ _ _ _ _ _ _ _ _ _ _ _ _ _ _
   | exact ih1 _ _ _ _ _ _ _ _ _ _ _ _ _ _ _ _ _ _ _ _
   | exact impl_MachNew.mono _ _ _ _ _
   | exact impl_MachOk.mono _ _ _ _ _ _ _ _ _ _
   | exact laws_sameMach.mono _ _ _ _ _ _ _ _ _ _ _ _ _ _ _ _ _ _ _
   | exact spec_DrawMach.mono _ _
   | exact spec_DrawMachNew.mono _ _
   | exact spec_MachNew.mono _ _ _ _ _
   | exact LeO.none _
   | refine LeO.ite ?_ ?_
   | refine LeO.bind ?_ (fun _ => ?_)
def laws_FnMachs.T7 : Bool × List (List Nat × List Nat) := (true, [([], []), ([], []), ([], []), ([2], [2]), ([3], [3]), ([0, 1, 4, 3], [0, 1, 4]), ([5], [5]), ([6], [6]), ([6], [6]), ([], []), ([9, 7, 5, 0, 1, 2, 3, 4, 5, 6, 7, 9], [7, 9]), ([8, 10, 0, 1, 2, 3, 4, 5, 6, 7, 8, 9, 10], [8])])
def laws_FnMachs.B7 : List Nat := [0, 0, 0, 4, 12, 31, 63, 127, 127, 0, 767, 2047]
theorem laws_FnMachs.tab7 : rtab .any (opsOf Try.f10 7) = laws_FnMachs.T7 := by kernel_rfl
theorem laws_FnMachs.bits7 : waitsOk laws_FnMachs.T7.2 laws_FnMachs.B7 = true := by kernel_rfl
def laws_FnMachs.T9 : Bool × List (List Nat × List Nat) := (true, [([], []), ([], []), ([], []), ([], []), ([], []), ([1, 2, 3, 4], [1, 2, 3, 4]), ([0, 5, 5], [0, 5]), ([6], [6]), ([7, 6], [7]), ([8], [8]), ([9, 8, 8], [8, 9]), ([8], [8]), ([11, 8], [8, 11]), ([12, 8], [8, 12]), ([13, 8], [8, 13]), ([10, 14, 8], [8, 10, 14]), ([8, 15], [8, 15]), ([16, 10], [16]), ([17], [17]), ([18, 17], [17, 18]), ([17, 19], [17, 19]), ([20, 17], [20]), ([21], [21]), ([22, 21], [21, 22]), ([21, 23], [21, 23]), ([24, 21], [24]), ([25], [25]), ([25], [25]), ([27, 25, 25], [25, 27]), ([28, 25], [25, 28]), ([29, 28, 25], [25, 29]), ([26, 30, 25], [25, 26, 30]), ([25, 31], [25, 31]), ([32, 30], [32]), ([33], [33]), ([34, 33, 33], [33, 34]), ([35, 33], [33, 35]), ([33, 36], [33, 36])])
def laws_FnMachs.B9 : List Nat := [0, 0, 0, 0, 0, 30, 63, 127, 255, 511, 1023, 511, 2559, 6655, 14847, 32767, 65535, 131071, 262143, 524287, 1048575, 2097151, 4194303, 8388607, 16777215, 33554431, 67108863, 67108863, 201326591, 469762047, 1006632959, 2147483647, 4294967295, 8589934591, 17179869183, 34359738367, 68719476735, 137438953471]
theorem laws_FnMachs.tab9 : rtab .any (opsOf Try.f10 9) = laws_FnMachs.T9 := by kernel_rfl
theorem laws_FnMachs.bits9 : waitsOk laws_FnMachs.T9.2 laws_FnMachs.B9 = true := by kernel_rfl
def laws_FnMachs.T14 : Bool × List (List Nat × List Nat) := (true, [([], []), ([], []), ([1], [1]), ([0, 2], [0, 2]), ([3], [3]), ([4], [4]), ([5, 4], [4, 5]), ([4], [4]), ([6, 7, 4], [4, 6, 7]), ([8, 4], [4, 8]), ([4], [4]), ([10, 4], [4, 10]), ([4], [4]), ([11, 12, 4], [4, 11, 12]), ([13, 4], [4, 13]), ([9, 14, 4], [4, 9, 14]), ([4, 15], [4, 15])])
def laws_FnMachs.B14 : List Nat := [0, 0, 2, 7, 15, 31, 63, 31, 255, 511, 31, 1055, 31, 7199, 15391, 32767, 65535]
theorem laws_FnMachs.tab14 : rtab .any (opsOf Try.f10 14) = laws_FnMachs.T14 := by kernel_rfl
theorem laws_FnMachs.bits14 : waitsOk laws_FnMachs.T14.2 laws_FnMachs.B14 = true := by kernel_rfl
set_option maxHeartbeats 8000000 in
set_option maxRecDepth 100000 in
theorem laws_FnMachs.calls (k : Nat) (A0 : Option Addr) (c0 : Nat) (l0 : List Int) (r : Bool) (w : World) (hr0 : Kd.C (Kd.int .u8) w A0 l0.length l0) (hc0 : l0.length ≤ c0) (h : laws_FnMachs.f k l0 = some r) (hr_ : r = true) :
  Calls Try.prog 10 #[.slice A0 l0.length c0] w fun e w' => e = .returned (.bool r) ∧ Below w.heap.size w w' := by
 have hu28 := Try.underlying28
 have HR0 := A_ hr0
 have HC0 := A_ hc0
 clear hr0 hc0
 have HB := A_ (Below.refl w.heap.size w)
 have H : ((laws_big.f l0).bind fun t547 => (if t547 = true then (some true) else ((spec_DrawMachNew.f k l0).bind fun bt548 => ((impl_MachNew.f k bt548.1 bt548.2.1 bt548.2.2.1 bt548.2.2.2).bind fun bt556 => ((spec_DrawMach.f k l0).bind fun bt574 => ((laws_at.f l0 2).bind fun t592 => ((laws_at.f l0 3).bind fun t593 => ((impl_WriteW.f bt574.1 bt574.2.1 bt574.2.2.1 bt574.2.2.2.1 bt574.2.2.2.2.1 bt574.2.2.2.2.2.1 bt574.2.2.2.2.2.2.1 bt574.2.2.2.2.2.2.2.1 bt574.2.2.2.2.2.2.2.2 (wrap64 (2 * (Int.tmod t592 256))) (wrap64 (t593 * 300))).bind fun bt594 => ((impl_ReadW.f bt594.1 bt594.2.1 bt594.2.2.1 bt594.2.2.2.1 bt594.2.2.2.2.1 bt594.2.2.2.2.2.1 bt594.2.2.2.2.2.2.1 bt594.2.2.2.2.2.2.2.1 bt594.2.2.2.2.2.2.2.2.1 (wrap64 (2 * (Int.tmod t592 256)))).bind fun bt613 => ((spec_MachNew.f k bt548.1 bt548.2.1 bt548.2.2.1 bt548.2.2.2).bind fun bt615 => ((laws_sameMach.f k bt556.1 bt556.2.1 bt556.2.2.1 bt556.2.2.2.1 bt556.2.2.2.2.1 bt556.2.2.2.2.2.1 bt556.2.2.2.2.2.2.1 bt556.2.2.2.2.2.2.2.1 bt556.2.2.2.2.2.2.2.2 bt615.1 bt615.2.1 bt615.2.2.1 bt615.2.2.2.1 bt615.2.2.2.2.1 bt615.2.2.2.2.2.1 bt615.2.2.2.2.2.2.1 bt615.2.2.2.2.2.2.2.1 bt615.2.2.2.2.2.2.2.2).bind fun t632 => (if t632 = true then ((impl_MachOk.f k bt556.1 bt556.2.1 bt556.2.2.1 bt556.2.2.2.1 bt556.2.2.2.2.1 bt556.2.2.2.2.2.1 bt556.2.2.2.2.2.2.1 bt556.2.2.2.2.2.2.2.1 bt556.2.2.2.2.2.2.2.2).bind fun t633 => (if (t633 != (decide ((bt556.1.length : Int) > 0))) = true then (laws_FnMachs.j0 k (wrap64 (2 * (Int.tmod t592 256))) true bt574.1 bt574.2.1 bt574.2.2.1 bt574.2.2.2.1 bt574.2.2.2.2.1 bt574.2.2.2.2.2.1 bt574.2.2.2.2.2.2.1 bt574.2.2.2.2.2.2.2.1 bt574.2.2.2.2.2.2.2.2 bt594.1 bt594.2.1 bt594.2.2.1 bt594.2.2.2.1 bt594.2.2.2.2.1 bt594.2.2.2.2.2.1 bt594.2.2.2.2.2.2.1 bt594.2.2.2.2.2.2.2.1 bt594.2.2.2.2.2.2.2.2.1) else (if bt594.2.2.2.2.2.2.2.2.2 = true then (if bt613.2 = true then ((laws_at.f l0 3).bind fun t634 => ((impl_Wrap.f (wrap64 (t634 * 300))).bind fun t635 => (if bt613.1 = t635 then ((impl_MachOk.f k bt594.1 bt594.2.1 bt594.2.2.1 bt594.2.2.2.1 bt594.2.2.2.2.1 bt594.2.2.2.2.2.1 bt594.2.2.2.2.2.2.1 bt594.2.2.2.2.2.2.2.1 bt594.2.2.2.2.2.2.2.2.1).bind fun t636 => (laws_FnMachs.j0 k (wrap64 (2 * (Int.tmod t592 256))) (!t636) bt574.1 bt574.2.1 bt574.2.2.1 bt574.2.2.2.1 bt574.2.2.2.2.1 bt574.2.2.2.2.2.1 bt574.2.2.2.2.2.2.1 bt574.2.2.2.2.2.2.2.1 bt574.2.2.2.2.2.2.2.2 bt594.1 bt594.2.1 bt594.2.2.1 bt594.2.2.2.1 bt594.2.2.2.2.1 bt594.2.2.2.2.2.1 bt594.2.2.2.2.2.2.1 bt594.2.2.2.2.2.2.2.1 bt594.2.2.2.2.2.2.2.2.1)) else (laws_FnMachs.j0 k (wrap64 (2 * (Int.tmod t592 256))) true bt574.1 bt574.2.1 bt574.2.2.1 bt574.2.2.2.1 bt574.2.2.2.2.1 bt574.2.2.2.2.2.1 bt574.2.2.2.2.2.2.1 bt574.2.2.2.2.2.2.2.1 bt574.2.2.2.2.2.2.2.2 bt594.1 bt594.2.1 bt594.2.2.1 bt594.2.2.2.1 bt594.2.2.2.2.1 bt594.2.2.2.2.2.1 bt594.2.2.2.2.2.2.1 bt594.2.2.2.2.2.2.2.1 bt594.2.2.2.2.2.2.2.2.1)))) else (laws_FnMachs.j0 k (wrap64 (2 * (Int.tmod t592 256))) true bt574.1 bt574.2.1 bt574.2.2.1 bt574.2.2.2.1 bt574.2.2.2.2.1 bt574.2.2.2.2.2.1 bt574.2.2.2.2.2.2.1 bt574.2.2.2.2.2.2.2.1 bt574.2.2.2.2.2.2.2.2 bt594.1 bt594.2.1 bt594.2.2.1 bt594.2.2.2.1 bt594.2.2.2.2.1 bt594.2.2.2.2.2.1 bt594.2.2.2.2.2.2.1 bt594.2.2.2.2.2.2.2.1 bt594.2.2.2.2.2.2.2.2.1)) else (laws_FnMachs.j0 k (wrap64 (2 * (Int.tmod t592 256))) true bt574.1 bt574.2.1 bt574.2.2.1 bt574.2.2.2.1 bt574.2.2.2.2.1 bt574.2.2.2.2.2.1 bt574.2.2.2.2.2.2.1 bt574.2.2.2.2.2.2.2.1 bt574.2.2.2.2.2.2.2.2 bt594.1 bt594.2.1 bt594.2.2.1 bt594.2.2.2.1 bt594.2.2.2.2.1 bt594.2.2.2.2.2.1 bt594.2.2.2.2.2.2.1 bt594.2.2.2.2.2.2.2.1 bt594.2.2.2.2.2.2.2.2.1)))) else (laws_FnMachs.j0 k (wrap64 (2 * (Int.tmod t592 256))) true bt574.1 bt574.2.1 bt574.2.2.1 bt574.2.2.2.1 bt574.2.2.2.2.1 bt574.2.2.2.2.2.1 bt574.2.2.2.2.2.2.1 bt574.2.2.2.2.2.2.2.1 bt574.2.2.2.2.2.2.2.2 bt594.1 bt594.2.1 bt594.2.2.1 bt594.2.2.2.1 bt594.2.2.2.2.1 bt594.2.2.2.2.2.1 bt594.2.2.2.2.2.2.1 bt594.2.2.2.2.2.2.2.1 bt594.2.2.2.2.2.2.2.2.1))))))))))))) = some r := h
 clear h
 replace H := Option.bind_eq_some_iff.mp H
 obtain ⟨t547, A20, H⟩ := H
 try dsimp only at H
 have A2 := A_ A20
 clear A20
 by_cases c3 : t547 = true
 ·subst c3
  rw [if_pos rfl] at H
  obtain rfl := Option.some.inj H
  go_enter Try.func10, Try.ntmps10
  go_wp2_with (first | ((with_reducible refine gate_callee (f := 38) rfl ?_); refine gL_ (some 16) Try.func38 #[.slice A0 l0.length c0] ?_; (with_reducible refine (laws_big.calls _ _ l0 true _ ?side1 ?side2 A2.out).mono ?_); (case side1 => repeat (first | exact HR0.out | (with_reducible refine Kd.C_alloc ?_ _) | (with_reducible refine Kd.C_drewN ?_ _) | (with_reducible refine Kd.C_drew ?_))); (case side2 => exact HC0.out); rintro e w' ⟨rfl, ⟨nd, rfl⟩⟩; refine ⟨_, rfl, ?_⟩))
  go_ret
  exact rt_ (bw_ HB.out)
 ·replace c3 := Bool.eq_false_iff.mpr c3
  subst c3
  rw [if_neg (show ¬ (false = true) by decide)] at H
  replace H := Option.bind_eq_some_iff.mp H
  obtain ⟨⟨t548, t549, t550, t551⟩, A40, H⟩ := H
  try dsimp only at H
  have A4 := A_ A40
  clear A40
  replace H := Option.bind_eq_some_iff.mp H
  obtain ⟨⟨t556, t559, t562, t563, t564, t565, t566, t569, t572⟩, A50, H⟩ := H
  try dsimp only at H
  have A5 := A_ A50
  clear A50
  replace H := Option.bind_eq_some_iff.mp H
  obtain ⟨⟨t574, t577, t580, t581, t582, t583, t584, t587, t590⟩, A60, H⟩ := H
  try dsimp only at H
  have A6 := A_ A60
  clear A60
  replace H := Option.bind_eq_some_iff.mp H
  obtain ⟨t592, A70, H⟩ := H
  try dsimp only at H
  have A7 := A_ A70
  clear A70
  replace H := Option.bind_eq_some_iff.mp H
  obtain ⟨t593, A80, H⟩ := H
  try dsimp only at H
  have A8 := A_ A80
  clear A80
  replace H := Option.bind_eq_some_iff.mp H
  obtain ⟨⟨t594, t597, t600, t601, t602, t603, t604, t607, t610, t611⟩, A90, H⟩ := H
  try dsimp only at H
  have A9 := A_ A90
  clear A90
  replace H := Option.bind_eq_some_iff.mp H
  obtain ⟨⟨t613, t614⟩, A100, H⟩ := H
  try dsimp only at H
  have A10 := A_ A100
  clear A100
  have HC11 := A_ H
  clear H
  go_enter Try.func10, Try.ntmps10
  try go_wp2_with (first | ((with_reducible refine gate_callee (f := 38) rfl ?_); refine gL_ (some 16) Try.func38 #[.slice A0 l0.length c0] ?_; (with_reducible refine (laws_big.calls _ _ l0 false _ ?side1 ?side2 A2.out).mono ?_); (case side1 => repeat (first | exact HR0.out | (with_reducible refine Kd.C_alloc ?_ _) | (with_reducible refine Kd.C_drewN ?_ _) | (with_reducible refine Kd.C_drew ?_))); (case side2 => exact HC0.out); rintro e w' ⟨rfl, ⟨nd, rfl⟩⟩; refine ⟨_, rfl, ?_⟩) | ((with_reducible refine gate_callee (f := 39) rfl ?_); refine gL_ (some 19) Try.func39 #[.slice A0 l0.length c0] ?_; (with_reducible refine (spec_DrawMachNew.calls k _ _ l0 t548 t549 t550 t551 _ ?side1 ?side2 A4.out).mono ?_); (case side1 => repeat (first | exact HR0.out | (with_reducible refine Kd.C_alloc ?_ _) | (with_reducible refine Kd.C_drewN ?_ _) | (with_reducible refine Kd.C_drew ?_))); (case side2 => exact HC0.out); rintro e w12 ⟨v552, v554, rfl, ho0, ho1, hb⟩; refine ⟨_, rfl, ?_⟩; have HO553 := A_ (Kd.R_lower ho0 (below_size (bw_ HB.out))); have HO555 := A_ (Kd.R_lower ho1 (below_size (bw_ HB.out))); replace HB := A_ (below_step (bw_ HB.out) hb); (try clear hb); (try clear hb2); (try clear hk); (try clear hi); (try clear ho0); (try clear ho1); obtain ⟨Ao13, co13, eo13⟩ := Kd.R_slice HO553.out; subst eo13; obtain ⟨Ao14, co14, eo14⟩ := Kd.R_slice HO555.out; subst eo14) | ((with_reducible refine gate_callee (f := 29) rfl ?_); refine gL_ (some 28) Try.func29 #[.slice Ao13 t548.length co13, .int .i64 t549, .int .i64 t550, .slice Ao14 t551.length co14] ?_; (with_reducible refine (impl_MachNew.calls k _ _ t548 t549 t550 _ _ t551 t556 t559 t562 t563 t564 t565 t566 t569 t572 _ ?side1 ?side2 ?side3 ?side4 A5.out).mono ?_); (case side1 => repeat (first | exact (Kd.R_reads' HO553.out).2.2 | (with_reducible refine Kd.C_alloc ?_ _) | (with_reducible refine Kd.C_drewN ?_ _) | (with_reducible refine Kd.C_drew ?_))); (case side2 => exact (Kd.R_reads' HO553.out).2.1); (case side3 => repeat (first | exact (Kd.R_reads' HO555.out).2.2 | (with_reducible refine Kd.C_alloc ?_ _) | (with_reducible refine Kd.C_drewN ?_ _) | (with_reducible refine Kd.C_drew ?_))); (case side4 => exact (Kd.R_reads' HO555.out).2.1); rintro e w15 ⟨v557, v560, v567, v570, rfl, ho0, ho1, ho2, ho3, hb⟩; refine ⟨_, rfl, ?_⟩; have HO558 := A_ (Kd.R_lower (Kd.R_new' (Kd.R_new' ho0 (Kd.R_lt (kr_ HO553.out))) (Kd.R_lt (kr_ HO555.out))) (below_size (bw_ HB.out))); have HO561 := A_ (Kd.R_lower (Kd.R_new' (Kd.R_new' ho1 (Kd.R_lt (kr_ HO553.out))) (Kd.R_lt (kr_ HO555.out))) (below_size (bw_ HB.out))); have HO568 := A_ (Kd.R_lower (Kd.R_new' (Kd.R_new' ho2 (Kd.R_lt (kr_ HO553.out))) (Kd.R_lt (kr_ HO555.out))) (below_size (bw_ HB.out))); have HO571 := A_ (Kd.R_lower (Kd.R_new' (Kd.R_new' ho3 (Kd.R_lt (kr_ HO553.out))) (Kd.R_lt (kr_ HO555.out))) (below_size (bw_ HB.out))); replace HO553 := A_ (Kd.R_mono (Kd.R_told (Kd.R_told (Kd.R_told (Kd.R_told (Kd.R_old (kr_ HO553.out) hb) (Kd.R_base ho0)) (Kd.R_base ho1)) (Kd.R_base ho2)) (Kd.R_base ho3)) (fun _ h_ => h_.1)); replace HO555 := A_ (Kd.R_mono (Kd.R_told (Kd.R_told (Kd.R_told (Kd.R_told (Kd.R_old (kr_ HO555.out) hb) (Kd.R_base ho0)) (Kd.R_base ho1)) (Kd.R_base ho2)) (Kd.R_base ho3)) (fun _ h_ => h_.1)); replace HB := A_ (below_step (bw_ HB.out) hb); (try clear hb); (try clear hb2); (try clear hk); (try clear hi); (try clear ho0); (try clear ho1); (try clear ho2); (try clear ho3)) | ((with_reducible refine gate_dst (N := 7) rfl ?_); (try (refine gate_guard (by rfl) ?_; dsimp only)); refine box_event ?hg (N := 7) ?hd (cs := #[.slice none 0 0, .slice none 0 0, .bool false, .bool false, .bool false, .bool false, .slice none 0 0, .slice none 0 0, .int .i64 0]) (t := 28) ?hr ?_; (case hd => rfl); (case hg => rfl); (case hr => first | (go_simp; done) | (go_simp; rfl)); intro gb573 hg w16 hbox hb; have n0_ := A_ (Kd.R_below (kr_ HO553.out) hb); have n1_ := A_ (Kd.R_below (kr_ HO555.out) hb); have n2_ := A_ (Kd.R_below (kr_ HO558.out) hb); have n3_ := A_ (Kd.R_below (kr_ HO561.out) hb); have n4_ := A_ (Kd.R_below (kr_ HO568.out) hb); have n5_ := A_ (Kd.R_below (kr_ HO571.out) hb); have n6_ := A_ (below_step (bw_ HB.out) hb); have n7_ := A_ (hbox); have n8_ := A_ ((d8_ : w.heap.size ≤ gb573)); have n9_ := n8_; clear HO553; clear HO555; clear HO558; clear HO561; clear HO568; clear HO571; clear HB; have HO553 := n0_; have HO555 := n1_; have HO558 := n2_; have HO561 := n3_; have HO568 := n4_; have HO571 := n5_; have HB := n6_; have BK573 := n7_; have GW573 := n8_; have GE573 := n9_; have GI573 := GeI.mk GE573.out; clear n0_ n1_ n2_ n3_ n4_ n5_ n6_ n7_ n8_ n9_; clear hb hbox hg; obtain ⟨Ao17, co17, eo17⟩ := Kd.R_slice HO558.out; subst eo17; obtain ⟨y18_0, y18_1, y18_2, y18_3, y18_4, y18_5, y18_6, y18_7, y18_8, z18_0, z18_1, z18_2, z18_3, z18_4, z18_5, z18_6, z18_7, z18_8⟩ := cz9_ BK573.out; obtain ⟨Ao19, co19, eo19⟩ := Kd.R_slice HO561.out; subst eo19; obtain ⟨Ao20, co20, eo20⟩ := Kd.R_slice HO568.out; subst eo20; obtain ⟨Ao21, co21, eo21⟩ := Kd.R_slice HO571.out; subst eo21) | ((with_reducible refine gate_callee (f := 40) rfl ?_); refine gL_ (some 30) Try.func40 #[.slice A0 l0.length c0] ?_; (with_reducible refine (spec_DrawMach.calls k _ _ l0 t574 t577 t580 t581 t582 t583 t584 t587 t590 _ ?side1 ?side2 A6.out).mono ?_); (case side1 => exact Kd.C_below HR0.out (bw_ HB.out)); (case side2 => exact HC0.out); rintro e w22 ⟨v575, v578, v585, v588, rfl, ho0, ho1, ho2, ho3, hb⟩; refine ⟨_, rfl, ?_⟩; have HO576 := A_ (Kd.R_lower (Kd.R_new' (Kd.R_new' (Kd.R_new' (Kd.R_new' (Kd.R_new' (Kd.R_new' ho0 (Kd.R_lt (kr_ (Kd.R_mono (rf9_ (Kd.R_types HO553.out BK573.out (by decide)) (fun _ hk => hk.2)) (fun _ h_ => h_.1))))) (Kd.R_lt (kr_ (Kd.R_mono (rf9_ (Kd.R_types HO555.out BK573.out (by decide)) (fun _ hk => hk.2)) (fun _ h_ => h_.1))))) (Kd.R_lt (kr_ (Kd.R_mono (rf9_ (Kd.R_types HO558.out BK573.out (by decide)) (fun _ hk => hk.2)) (fun _ h_ => h_.1))))) (Kd.R_lt (kr_ (Kd.R_mono (rf9_ (Kd.R_types HO561.out BK573.out (by decide)) (fun _ hk => hk.2)) (fun _ h_ => h_.1))))) (Kd.R_lt (kr_ (Kd.R_mono (rf9_ (Kd.R_types HO568.out BK573.out (by decide)) (fun _ hk => hk.2)) (fun _ h_ => h_.1))))) (Kd.R_lt (kr_ (Kd.R_mono (rf9_ (Kd.R_types HO571.out BK573.out (by decide)) (fun _ hk => hk.2)) (fun _ h_ => h_.1))))) (below_size (bw_ HB.out))); have HO579 := A_ (Kd.R_lower (Kd.R_new' (Kd.R_new' (Kd.R_new' (Kd.R_new' (Kd.R_new' (Kd.R_new' ho1 (Kd.R_lt (kr_ (Kd.R_mono (rf9_ (Kd.R_types HO553.out BK573.out (by decide)) (fun _ hk => hk.2)) (fun _ h_ => h_.1))))) (Kd.R_lt (kr_ (Kd.R_mono (rf9_ (Kd.R_types HO555.out BK573.out (by decide)) (fun _ hk => hk.2)) (fun _ h_ => h_.1))))) (Kd.R_lt (kr_ (Kd.R_mono (rf9_ (Kd.R_types HO558.out BK573.out (by decide)) (fun _ hk => hk.2)) (fun _ h_ => h_.1))))) (Kd.R_lt (kr_ (Kd.R_mono (rf9_ (Kd.R_types HO561.out BK573.out (by decide)) (fun _ hk => hk.2)) (fun _ h_ => h_.1))))) (Kd.R_lt (kr_ (Kd.R_mono (rf9_ (Kd.R_types HO568.out BK573.out (by decide)) (fun _ hk => hk.2)) (fun _ h_ => h_.1))))) (Kd.R_lt (kr_ (Kd.R_mono (rf9_ (Kd.R_types HO571.out BK573.out (by decide)) (fun _ hk => hk.2)) (fun _ h_ => h_.1))))) (below_size (bw_ HB.out))); have HO586 := A_ (Kd.R_lower (Kd.R_new' (Kd.R_new' (Kd.R_new' (Kd.R_new' (Kd.R_new' (Kd.R_new' ho2 (Kd.R_lt (kr_ (Kd.R_mono (rf9_ (Kd.R_types HO553.out BK573.out (by decide)) (fun _ hk => hk.2)) (fun _ h_ => h_.1))))) (Kd.R_lt (kr_ (Kd.R_mono (rf9_ (Kd.R_types HO555.out BK573.out (by decide)) (fun _ hk => hk.2)) (fun _ h_ => h_.1))))) (Kd.R_lt (kr_ (Kd.R_mono (rf9_ (Kd.R_types HO558.out BK573.out (by decide)) (fun _ hk => hk.2)) (fun _ h_ => h_.1))))) (Kd.R_lt (kr_ (Kd.R_mono (rf9_ (Kd.R_types HO561.out BK573.out (by decide)) (fun _ hk => hk.2)) (fun _ h_ => h_.1))))) (Kd.R_lt (kr_ (Kd.R_mono (rf9_ (Kd.R_types HO568.out BK573.out (by decide)) (fun _ hk => hk.2)) (fun _ h_ => h_.1))))) (Kd.R_lt (kr_ (Kd.R_mono (rf9_ (Kd.R_types HO571.out BK573.out (by decide)) (fun _ hk => hk.2)) (fun _ h_ => h_.1))))) (below_size (bw_ HB.out))); have HO589 := A_ (Kd.R_lower (Kd.R_new' (Kd.R_new' (Kd.R_new' (Kd.R_new' (Kd.R_new' (Kd.R_new' ho3 (Kd.R_lt (kr_ (Kd.R_mono (rf9_ (Kd.R_types HO553.out BK573.out (by decide)) (fun _ hk => hk.2)) (fun _ h_ => h_.1))))) (Kd.R_lt (kr_ (Kd.R_mono (rf9_ (Kd.R_types HO555.out BK573.out (by decide)) (fun _ hk => hk.2)) (fun _ h_ => h_.1))))) (Kd.R_lt (kr_ (Kd.R_mono (rf9_ (Kd.R_types HO558.out BK573.out (by decide)) (fun _ hk => hk.2)) (fun _ h_ => h_.1))))) (Kd.R_lt (kr_ (Kd.R_mono (rf9_ (Kd.R_types HO561.out BK573.out (by decide)) (fun _ hk => hk.2)) (fun _ h_ => h_.1))))) (Kd.R_lt (kr_ (Kd.R_mono (rf9_ (Kd.R_types HO568.out BK573.out (by decide)) (fun _ hk => hk.2)) (fun _ h_ => h_.1))))) (Kd.R_lt (kr_ (Kd.R_mono (rf9_ (Kd.R_types HO571.out BK573.out (by decide)) (fun _ hk => hk.2)) (fun _ h_ => h_.1))))) (below_size (bw_ HB.out))); replace HO553 := A_ (Kd.R_mono (Kd.R_told (Kd.R_told (Kd.R_told (Kd.R_told (Kd.R_old (kr_ (Kd.R_mono (rf9_ (Kd.R_types HO553.out BK573.out (by decide)) (fun _ hk => hk.2)) (fun _ h_ => h_.1))) hb) (Kd.R_base ho0)) (Kd.R_base ho1)) (Kd.R_base ho2)) (Kd.R_base ho3)) (fun _ h_ => h_.1)); replace HO555 := A_ (Kd.R_mono (Kd.R_told (Kd.R_told (Kd.R_told (Kd.R_told (Kd.R_old (kr_ (Kd.R_mono (rf9_ (Kd.R_types HO555.out BK573.out (by decide)) (fun _ hk => hk.2)) (fun _ h_ => h_.1))) hb) (Kd.R_base ho0)) (Kd.R_base ho1)) (Kd.R_base ho2)) (Kd.R_base ho3)) (fun _ h_ => h_.1)); replace HO558 := A_ (Kd.R_mono (Kd.R_told (Kd.R_told (Kd.R_told (Kd.R_told (Kd.R_old (kr_ (Kd.R_mono (rf9_ (Kd.R_types HO558.out BK573.out (by decide)) (fun _ hk => hk.2)) (fun _ h_ => h_.1))) hb) (Kd.R_base ho0)) (Kd.R_base ho1)) (Kd.R_base ho2)) (Kd.R_base ho3)) (fun _ h_ => h_.1)); replace HO561 := A_ (Kd.R_mono (Kd.R_told (Kd.R_told (Kd.R_told (Kd.R_told (Kd.R_old (kr_ (Kd.R_mono (rf9_ (Kd.R_types HO561.out BK573.out (by decide)) (fun _ hk => hk.2)) (fun _ h_ => h_.1))) hb) (Kd.R_base ho0)) (Kd.R_base ho1)) (Kd.R_base ho2)) (Kd.R_base ho3)) (fun _ h_ => h_.1)); replace HO568 := A_ (Kd.R_mono (Kd.R_told (Kd.R_told (Kd.R_told (Kd.R_told (Kd.R_old (kr_ (Kd.R_mono (rf9_ (Kd.R_types HO568.out BK573.out (by decide)) (fun _ hk => hk.2)) (fun _ h_ => h_.1))) hb) (Kd.R_base ho0)) (Kd.R_base ho1)) (Kd.R_base ho2)) (Kd.R_base ho3)) (fun _ h_ => h_.1)); replace HO571 := A_ (Kd.R_mono (Kd.R_told (Kd.R_told (Kd.R_told (Kd.R_told (Kd.R_old (kr_ (Kd.R_mono (rf9_ (Kd.R_types HO571.out BK573.out (by decide)) (fun _ hk => hk.2)) (fun _ h_ => h_.1))) hb) (Kd.R_base ho0)) (Kd.R_base ho1)) (Kd.R_base ho2)) (Kd.R_base ho3)) (fun _ h_ => h_.1)); replace BK573 := A_ (blk_below (g := gb573) (o := .cells #[.slice Ao17 t556.length co17, .slice Ao19 t559.length co19, .bool t562, .bool t563, .bool t564, .bool t565, .slice Ao20 t566.length co20, .slice Ao21 t569.length co21, .int .i64 t572] 28 (0, 0)) (by exact bk_ (bp9_ (bk_ BK573.out))) hb); replace HB := A_ (below_step (bw_ HB.out) hb); (try clear hb); (try clear hb2); (try clear hk); (try clear hi); (try clear ho0); (try clear ho1); (try clear ho2); (try clear ho3)) | ((with_reducible refine gate_dst (N := 8) rfl ?_); (try (refine gate_guard (by rfl) ?_; dsimp only)); refine box_event ?hg (N := 8) ?hd (cs := #[.slice none 0 0, .slice none 0 0, .bool false, .bool false, .bool false, .bool false, .slice none 0 0, .slice none 0 0, .int .i64 0]) (t := 28) ?hr ?_; (case hd => rfl); (case hg => rfl); (case hr => first | (go_simp; done) | (go_simp; rfl)); intro gb591 hg w23 hbox hb; have n0_ := A_ (Kd.R_below (kr_ HO553.out) hb); have n1_ := A_ (Kd.R_below (kr_ HO555.out) hb); have n2_ := A_ (Kd.R_below (kr_ HO558.out) hb); have n3_ := A_ (Kd.R_below (kr_ HO561.out) hb); have n4_ := A_ (Kd.R_below (kr_ HO568.out) hb); have n5_ := A_ (Kd.R_below (kr_ HO571.out) hb); have n6_ := A_ (Kd.R_below (kr_ HO576.out) hb); have n7_ := A_ (Kd.R_below (kr_ HO579.out) hb); have n8_ := A_ (Kd.R_below (kr_ HO586.out) hb); have n9_ := A_ (Kd.R_below (kr_ HO589.out) hb); have n10_ := A_ (blk_below (bk_ BK573.out) hb); have n11_ := A_ (below_step (bw_ HB.out) hb); have n12_ := A_ (hbox); have n13_ := A_ ((d8_ : w.heap.size ≤ gb591)); have n14_ := n13_; have n15_ := A_ ((d22_ : gb573 ≠ gb591)); have n16_ := A_ n15_.out.symm; clear HO553; clear HO555; clear HO558; clear HO561; clear HO568; clear HO571; clear HO576; clear HO579; clear HO586; clear HO589; clear BK573; clear HB; have HO553 := n0_; have HO555 := n1_; have HO558 := n2_; have HO561 := n3_; have HO568 := n4_; have HO571 := n5_; have HO576 := n6_; have HO579 := n7_; have HO586 := n8_; have HO589 := n9_; have BK573 := n10_; have HB := n11_; have BK591 := n12_; have GW591 := n13_; have GE591 := n14_; have GI591 := GeI.mk GE591.out; have NB573_591 := n15_; have NB591_573 := n16_; clear n0_ n1_ n2_ n3_ n4_ n5_ n6_ n7_ n8_ n9_ n10_ n11_ n12_ n13_ n14_ n15_ n16_; clear hb hbox hg; obtain ⟨Ao24, co24, eo24⟩ := Kd.R_slice HO576.out; subst eo24; have hnb25 := NB591_573.out; have hnc25 := NB573_591.out; obtain ⟨y26_0, y26_1, y26_2, y26_3, y26_4, y26_5, y26_6, y26_7, y26_8, z26_0, z26_1, z26_2, z26_3, z26_4, z26_5, z26_6, z26_7, z26_8⟩ := cz9_ BK591.out; obtain ⟨Ao27, co27, eo27⟩ := Kd.R_slice HO579.out; subst eo27; obtain ⟨Ao28, co28, eo28⟩ := Kd.R_slice HO586.out; subst eo28; obtain ⟨Ao29, co29, eo29⟩ := Kd.R_slice HO589.out; subst eo29) | ((with_reducible refine gate_callee (f := 41) rfl ?_); refine gL_ (some 32) Try.func41 #[.slice A0 l0.length c0, .int .i64 2] ?_; (with_reducible refine (laws_at.calls _ _ l0 2 t592 _ ?side1 ?side2 A7.out).mono ?_); (case side1 => exact Kd.C_below HR0.out (bw_ HB.out)); (case side2 => exact HC0.out); rintro e w' ⟨rfl, ⟨nd, rfl⟩⟩; refine ⟨_, rfl, ?_⟩))
  obtain ⟨w30, hz_⟩ : ∃ z_, z_ = (((((((((w23.setCell ⟨gb591, 0, none⟩ (.slice Ao24 t574.length co24)).setCell ⟨gb591, 1, none⟩ (.slice Ao27 t577.length co27)).setCell ⟨gb591, 2, none⟩ (.bool t580)).setCell ⟨gb591, 3, none⟩ (.bool t581)).setCell ⟨gb591, 4, none⟩ (.bool t582)).setCell ⟨gb591, 5, none⟩ (.bool t583)).setCell ⟨gb591, 6, none⟩ (.slice Ao28 t584.length co28)).setCell ⟨gb591, 7, none⟩ (.slice Ao29 t587.length co29)).setCell ⟨gb591, 8, none⟩ (.int .i64 t590)) := ⟨_, rfl⟩
  have n0_ : Aside0 (Kd.R (Kd.int .i64) 3 w30 w.heap.size (fun k_ => some k_ ≠ (.slice Ao14 t551.length co14 : Value).ownBlock ∧ some k_ ≠ (.slice Ao17 t556.length co17 : Value).ownBlock ∧ some k_ ≠ (.slice Ao19 t559.length co19 : Value).ownBlock ∧ some k_ ≠ (.slice Ao20 t566.length co20 : Value).ownBlock ∧ some k_ ≠ (.slice Ao21 t569.length co21 : Value).ownBlock ∧ some k_ ≠ (.slice Ao24 t574.length co24 : Value).ownBlock ∧ some k_ ≠ (.slice Ao27 t577.length co27 : Value).ownBlock ∧ some k_ ≠ (.slice Ao28 t584.length co28 : Value).ownBlock ∧ some k_ ≠ (.slice Ao29 t587.length co29 : Value).ownBlock) (.slice Ao13 t548.length co13) t548) := ⟨by rw [hz_]; exact kr_ (Kd.R_mono (rf9_ (Kd.R_types HO553.out BK591.out (by decide)) (fun _ hk => hk.2)) (fun _ hk => (by simp only [hk, ne_eq, not_false_eq_true, and_self, and_true, true_and])))⟩
  have n1_ : Aside0 (Kd.R (Kd.int .i64) 3 w30 w.heap.size (fun k_ => some k_ ≠ (.slice Ao13 t548.length co13 : Value).ownBlock ∧ some k_ ≠ (.slice Ao17 t556.length co17 : Value).ownBlock ∧ some k_ ≠ (.slice Ao19 t559.length co19 : Value).ownBlock ∧ some k_ ≠ (.slice Ao20 t566.length co20 : Value).ownBlock ∧ some k_ ≠ (.slice Ao21 t569.length co21 : Value).ownBlock ∧ some k_ ≠ (.slice Ao24 t574.length co24 : Value).ownBlock ∧ some k_ ≠ (.slice Ao27 t577.length co27 : Value).ownBlock ∧ some k_ ≠ (.slice Ao28 t584.length co28 : Value).ownBlock ∧ some k_ ≠ (.slice Ao29 t587.length co29 : Value).ownBlock) (.slice Ao14 t551.length co14) t551) := ⟨by rw [hz_]; exact kr_ (Kd.R_mono (rf9_ (Kd.R_types HO555.out BK591.out (by decide)) (fun _ hk => hk.2)) (fun _ hk => (by simp only [hk, ne_eq, not_false_eq_true, and_self, and_true, true_and])))⟩
  have n2_ : Aside0 (Kd.R (Kd.int .i64) 3 w30 w.heap.size (fun k_ => some k_ ≠ (.slice Ao13 t548.length co13 : Value).ownBlock ∧ some k_ ≠ (.slice Ao14 t551.length co14 : Value).ownBlock ∧ some k_ ≠ (.slice Ao19 t559.length co19 : Value).ownBlock ∧ some k_ ≠ (.slice Ao20 t566.length co20 : Value).ownBlock ∧ some k_ ≠ (.slice Ao21 t569.length co21 : Value).ownBlock ∧ some k_ ≠ (.slice Ao24 t574.length co24 : Value).ownBlock ∧ some k_ ≠ (.slice Ao27 t577.length co27 : Value).ownBlock ∧ some k_ ≠ (.slice Ao28 t584.length co28 : Value).ownBlock ∧ some k_ ≠ (.slice Ao29 t587.length co29 : Value).ownBlock) (.slice Ao17 t556.length co17) t556) := ⟨by rw [hz_]; exact kr_ (Kd.R_mono (rf9_ (Kd.R_types HO558.out BK591.out (by decide)) (fun _ hk => hk.2)) (fun _ hk => (by simp only [hk, ne_eq, not_false_eq_true, and_self, and_true, true_and])))⟩
  have n3_ : Aside0 (Kd.R (Kd.int .i64) 3 w30 w.heap.size (fun k_ => some k_ ≠ (.slice Ao13 t548.length co13 : Value).ownBlock ∧ some k_ ≠ (.slice Ao14 t551.length co14 : Value).ownBlock ∧ some k_ ≠ (.slice Ao17 t556.length co17 : Value).ownBlock ∧ some k_ ≠ (.slice Ao20 t566.length co20 : Value).ownBlock ∧ some k_ ≠ (.slice Ao21 t569.length co21 : Value).ownBlock ∧ some k_ ≠ (.slice Ao24 t574.length co24 : Value).ownBlock ∧ some k_ ≠ (.slice Ao27 t577.length co27 : Value).ownBlock ∧ some k_ ≠ (.slice Ao28 t584.length co28 : Value).ownBlock ∧ some k_ ≠ (.slice Ao29 t587.length co29 : Value).ownBlock) (.slice Ao19 t559.length co19) t559) := ⟨by rw [hz_]; exact kr_ (Kd.R_mono (rf9_ (Kd.R_types HO561.out BK591.out (by decide)) (fun _ hk => hk.2)) (fun _ hk => (by simp only [hk, ne_eq, not_false_eq_true, and_self, and_true, true_and])))⟩
  have n4_ : Aside0 (Kd.R (Kd.int .i64) 3 w30 w.heap.size (fun k_ => some k_ ≠ (.slice Ao13 t548.length co13 : Value).ownBlock ∧ some k_ ≠ (.slice Ao14 t551.length co14 : Value).ownBlock ∧ some k_ ≠ (.slice Ao17 t556.length co17 : Value).ownBlock ∧ some k_ ≠ (.slice Ao19 t559.length co19 : Value).ownBlock ∧ some k_ ≠ (.slice Ao21 t569.length co21 : Value).ownBlock ∧ some k_ ≠ (.slice Ao24 t574.length co24 : Value).ownBlock ∧ some k_ ≠ (.slice Ao27 t577.length co27 : Value).ownBlock ∧ some k_ ≠ (.slice Ao28 t584.length co28 : Value).ownBlock ∧ some k_ ≠ (.slice Ao29 t587.length co29 : Value).ownBlock) (.slice Ao20 t566.length co20) t566) := ⟨by rw [hz_]; exact kr_ (Kd.R_mono (rf9_ (Kd.R_types HO568.out BK591.out (by decide)) (fun _ hk => hk.2)) (fun _ hk => (by simp only [hk, ne_eq, not_false_eq_true, and_self, and_true, true_and])))⟩
  have n5_ : Aside0 (Kd.R (Kd.int .i64) 3 w30 w.heap.size (fun k_ => some k_ ≠ (.slice Ao13 t548.length co13 : Value).ownBlock ∧ some k_ ≠ (.slice Ao14 t551.length co14 : Value).ownBlock ∧ some k_ ≠ (.slice Ao17 t556.length co17 : Value).ownBlock ∧ some k_ ≠ (.slice Ao19 t559.length co19 : Value).ownBlock ∧ some k_ ≠ (.slice Ao20 t566.length co20 : Value).ownBlock ∧ some k_ ≠ (.slice Ao24 t574.length co24 : Value).ownBlock ∧ some k_ ≠ (.slice Ao27 t577.length co27 : Value).ownBlock ∧ some k_ ≠ (.slice Ao28 t584.length co28 : Value).ownBlock ∧ some k_ ≠ (.slice Ao29 t587.length co29 : Value).ownBlock) (.slice Ao21 t569.length co21) t569) := ⟨by rw [hz_]; exact kr_ (Kd.R_mono (rf9_ (Kd.R_types HO571.out BK591.out (by decide)) (fun _ hk => hk.2)) (fun _ hk => (by simp only [hk, ne_eq, not_false_eq_true, and_self, and_true, true_and])))⟩
  have n6_ : Aside0 (Kd.R (Kd.int .i64) 3 w30 w.heap.size (fun k_ => some k_ ≠ (.slice Ao13 t548.length co13 : Value).ownBlock ∧ some k_ ≠ (.slice Ao14 t551.length co14 : Value).ownBlock ∧ some k_ ≠ (.slice Ao17 t556.length co17 : Value).ownBlock ∧ some k_ ≠ (.slice Ao19 t559.length co19 : Value).ownBlock ∧ some k_ ≠ (.slice Ao20 t566.length co20 : Value).ownBlock ∧ some k_ ≠ (.slice Ao21 t569.length co21 : Value).ownBlock ∧ some k_ ≠ (.slice Ao27 t577.length co27 : Value).ownBlock ∧ some k_ ≠ (.slice Ao28 t584.length co28 : Value).ownBlock ∧ some k_ ≠ (.slice Ao29 t587.length co29 : Value).ownBlock) (.slice Ao24 t574.length co24) t574) := ⟨by rw [hz_]; exact kr_ (Kd.R_mono (rf9_ (Kd.R_types HO576.out BK591.out (by decide)) (fun _ hk => hk.2)) (fun _ hk => (by simp only [hk, ne_eq, not_false_eq_true, and_self, and_true, true_and])))⟩
  have n7_ : Aside0 (Kd.R (Kd.int .i64) 3 w30 w.heap.size (fun k_ => some k_ ≠ (.slice Ao13 t548.length co13 : Value).ownBlock ∧ some k_ ≠ (.slice Ao14 t551.length co14 : Value).ownBlock ∧ some k_ ≠ (.slice Ao17 t556.length co17 : Value).ownBlock ∧ some k_ ≠ (.slice Ao19 t559.length co19 : Value).ownBlock ∧ some k_ ≠ (.slice Ao20 t566.length co20 : Value).ownBlock ∧ some k_ ≠ (.slice Ao21 t569.length co21 : Value).ownBlock ∧ some k_ ≠ (.slice Ao24 t574.length co24 : Value).ownBlock ∧ some k_ ≠ (.slice Ao28 t584.length co28 : Value).ownBlock ∧ some k_ ≠ (.slice Ao29 t587.length co29 : Value).ownBlock) (.slice Ao27 t577.length co27) t577) := ⟨by rw [hz_]; exact kr_ (Kd.R_mono (rf9_ (Kd.R_types HO579.out BK591.out (by decide)) (fun _ hk => hk.2)) (fun _ hk => (by simp only [hk, ne_eq, not_false_eq_true, and_self, and_true, true_and])))⟩
  have n8_ : Aside0 (Kd.R (Kd.int .i64) 3 w30 w.heap.size (fun k_ => some k_ ≠ (.slice Ao13 t548.length co13 : Value).ownBlock ∧ some k_ ≠ (.slice Ao14 t551.length co14 : Value).ownBlock ∧ some k_ ≠ (.slice Ao17 t556.length co17 : Value).ownBlock ∧ some k_ ≠ (.slice Ao19 t559.length co19 : Value).ownBlock ∧ some k_ ≠ (.slice Ao20 t566.length co20 : Value).ownBlock ∧ some k_ ≠ (.slice Ao21 t569.length co21 : Value).ownBlock ∧ some k_ ≠ (.slice Ao24 t574.length co24 : Value).ownBlock ∧ some k_ ≠ (.slice Ao27 t577.length co27 : Value).ownBlock ∧ some k_ ≠ (.slice Ao29 t587.length co29 : Value).ownBlock) (.slice Ao28 t584.length co28) t584) := ⟨by rw [hz_]; exact kr_ (Kd.R_mono (rf9_ (Kd.R_types HO586.out BK591.out (by decide)) (fun _ hk => hk.2)) (fun _ hk => (by simp only [hk, ne_eq, not_false_eq_true, and_self, and_true, true_and])))⟩
  have n9_ : Aside0 (Kd.R (Kd.int .i64) 3 w30 w.heap.size (fun k_ => some k_ ≠ (.slice Ao13 t548.length co13 : Value).ownBlock ∧ some k_ ≠ (.slice Ao14 t551.length co14 : Value).ownBlock ∧ some k_ ≠ (.slice Ao17 t556.length co17 : Value).ownBlock ∧ some k_ ≠ (.slice Ao19 t559.length co19 : Value).ownBlock ∧ some k_ ≠ (.slice Ao20 t566.length co20 : Value).ownBlock ∧ some k_ ≠ (.slice Ao21 t569.length co21 : Value).ownBlock ∧ some k_ ≠ (.slice Ao24 t574.length co24 : Value).ownBlock ∧ some k_ ≠ (.slice Ao27 t577.length co27 : Value).ownBlock ∧ some k_ ≠ (.slice Ao28 t584.length co28 : Value).ownBlock) (.slice Ao29 t587.length co29) t587) := ⟨by rw [hz_]; exact kr_ (Kd.R_mono (rf9_ (Kd.R_types HO589.out BK591.out (by decide)) (fun _ hk => hk.2)) (fun _ hk => (by simp only [hk, ne_eq, not_false_eq_true, and_self, and_true, true_and])))⟩
  have n10_ : Aside0 (w30.heap[gb573]? = some (.cells #[.slice Ao17 t556.length co17, .slice Ao19 t559.length co19, .bool t562, .bool t563, .bool t564, .bool t565, .slice Ao20 t566.length co20, .slice Ao21 t569.length co21, .int .i64 t572] 28 (0, 0))) := ⟨by rw [hz_]; refine bk_ ?_; refine blk_far ?_ NB573_591.out _; refine bk_ ?_; refine blk_far ?_ NB573_591.out _; refine bk_ ?_; refine blk_far ?_ NB573_591.out _; refine bk_ ?_; refine blk_far ?_ NB573_591.out _; refine bk_ ?_; refine blk_far ?_ NB573_591.out _; refine bk_ ?_; refine blk_far ?_ NB573_591.out _; refine bk_ ?_; refine blk_far ?_ NB573_591.out _; refine bk_ ?_; refine blk_far ?_ NB573_591.out _; refine bk_ ?_; refine blk_far ?_ NB573_591.out _; refine bk_ ?_; exact BK573.out⟩
  have n11_ : Aside0 (w30.heap[gb591]? = some (.cells #[.slice Ao24 t574.length co24, .slice Ao27 t577.length co27, .bool t580, .bool t581, .bool t582, .bool t583, .slice Ao28 t584.length co28, .slice Ao29 t587.length co29, .int .i64 t590] 28 (0, 0))) := ⟨by rw [hz_]; exact bk_ (bp9_ (bk_ BK591.out))⟩
  have n12_ : Aside0 (Below w.heap.size w w30) := ⟨by rw [hz_]; exact bw_ HB.out⟩
  (try clear HO553)
  (try clear HO555)
  (try clear HO558)
  (try clear HO561)
  (try clear HO568)
  (try clear HO571)
  (try clear HO576)
  (try clear HO579)
  (try clear HO586)
  (try clear HO589)
  (try clear BK573)
  (try clear BK591)
  (try clear HB)
  rw [← hz_]
  clear hz_
  have HO553 := n0_
  have HO555 := n1_
  have HO558 := n2_
  have HO561 := n3_
  have HO568 := n4_
  have HO571 := n5_
  have HO576 := n6_
  have HO579 := n7_
  have HO586 := n8_
  have HO589 := n9_
  have BK573 := n10_
  have BK591 := n11_
  have HB := n12_
  clear n0_ n1_ n2_ n3_ n4_ n5_ n6_ n7_ n8_ n9_ n10_ n11_ n12_
  (try (rw [drewN_self w30]; generalize hq_ : World.drewN w30 _ = w30; have n0_ := A_ (rq_ hq_ HO553.out); have n1_ := A_ (rq_ hq_ HO555.out); have n2_ := A_ (rq_ hq_ HO558.out); have n3_ := A_ (rq_ hq_ HO561.out); have n4_ := A_ (rq_ hq_ HO568.out); have n5_ := A_ (rq_ hq_ HO571.out); have n6_ := A_ (rq_ hq_ HO576.out); have n7_ := A_ (rq_ hq_ HO579.out); have n8_ := A_ (rq_ hq_ HO586.out); have n9_ := A_ (rq_ hq_ HO589.out); have n10_ := A_ (bq_ hq_ BK573.out); have n11_ := A_ (bq_ hq_ BK591.out); have n12_ := A_ (wq_ hq_ HB.out); clear HO553 HO555 HO558 HO561 HO568 HO571 HO576 HO579 HO586 HO589 BK573 BK591 HB hq_; have HO553 := n0_; have HO555 := n1_; have HO558 := n2_; have HO561 := n3_; have HO568 := n4_; have HO571 := n5_; have HO576 := n6_; have HO579 := n7_; have HO586 := n8_; have HO589 := n9_; have BK573 := n10_; have BK591 := n11_; have HB := n12_; clear n0_ n1_ n2_ n3_ n4_ n5_ n6_ n7_ n8_ n9_ n10_ n11_ n12_))
  replace HO553 := A_ (Kd.R_drew HO553.out)
  replace HO555 := A_ (Kd.R_drew HO555.out)
  replace HO558 := A_ (Kd.R_drew HO558.out)
  replace HO561 := A_ (Kd.R_drew HO561.out)
  replace HO568 := A_ (Kd.R_drew HO568.out)
  replace HO571 := A_ (Kd.R_drew HO571.out)
  replace HO576 := A_ (Kd.R_drew HO576.out)
  replace HO579 := A_ (Kd.R_drew HO579.out)
  replace HO586 := A_ (Kd.R_drew HO586.out)
  replace HO589 := A_ (Kd.R_drew HO589.out)
  replace BK573 := A_ (blk_drew BK573.out)
  replace BK591 := A_ (blk_drew BK591.out)
  replace HB := A_ (below_drew1 HB.out)
  refine start_ (n := 12) (S := fun w' => w'.cell? ⟨gb591, 0, none⟩ = some (.slice Ao24 t574.length co24) ∧ w'.cell? ⟨gb591, 1, none⟩ = some (.slice Ao27 t577.length co27) ∧ w'.cell? ⟨gb591, 2, none⟩ = some (.bool t580) ∧ w'.cell? ⟨gb591, 3, none⟩ = some (.bool t581) ∧ w'.cell? ⟨gb591, 4, none⟩ = some (.bool t582) ∧ w'.cell? ⟨gb591, 5, none⟩ = some (.bool t583) ∧ w'.cell? ⟨gb591, 6, none⟩ = some (.slice Ao28 t584.length co28) ∧ w'.cell? ⟨gb591, 7, none⟩ = some (.slice Ao29 t587.length co29) ∧ w'.cell? ⟨gb591, 8, none⟩ = some (.int .i64 t590)) (ds := []) #[false, false, false, false, false, false, false, false, false, false, false, false] (by kernel_rfl) rfl rfl ⟨(blk_cell BK591.out 0).trans rfl, (blk_cell BK591.out 1).trans rfl, (blk_cell BK591.out 2).trans rfl, (blk_cell BK591.out 3).trans rfl, (blk_cell BK591.out 4).trans rfl, (blk_cell BK591.out 5).trans rfl, (blk_cell BK591.out 6).trans rfl, (blk_cell BK591.out 7).trans rfl, (blk_cell BK591.out 8).trans rfl⟩ (fun hHeld => ?_); refine with_tabW laws_FnMachs.tab7 laws_FnMachs.bits7 (fun HT_ HW_ => ?_)
  generalize w30.drew = w31 at HO553 HO555 HO558 HO561 HO568 HO571 HO576 HO579 HO586 HO589 BK573 BK591 HB hHeld ⊢
  refine pu_ 1 (some 37) (bm_ 12 2) (any_of HT_.out (by kernel_rfl)) ?_
  refine pu_ 2 (some 38) (bm_ 12 6) (any_of HT_.out (by kernel_rfl)) ?_
  refine take_ (i := 0) (N := some 36) (v := ?_) (a' := ?_) (bm_ 12 7) rfl rfl (take_ofW HT_.out HW_.out (by kernel_rfl)) (fun _ _ _ h => h) (Or.inl ⟨by rfl, ?_⟩) hHeld ?_ ?_
  rotate_left
  ·rintro w' ⟨s0, s1, s2, s3, s4, s5, s6, s7, s8⟩
   go_simp
   with_reducible rfl
  rotate_left
  ·simp only [Act.put, List.setIfInBounds_toArray, List.set_cons_zero, List.set_cons_succ, i64_w, i32_w]
   rfl
  refine join_ (σ := Value × Value × Value × Value × Nat) 2 (bm_ 12 1023) (fun s_ => [(39, .int .i64 t593), (41, .tuple #[.agg #[s_.1, s_.2.1, .bool t600, .bool t601, .bool t602, .bool t603, s_.2.2.1, s_.2.2.2.1, .int .i64 t610], .bool t611]), (10, .pointer (some ⟨s_.2.2.2.2, 0, none⟩)), (40, .int .i64 (wrap64 (t593 * 300))), (35, .tuple #[.agg #[s_.1, s_.2.1, .bool t600, .bool t601, .bool t602, .bool t603, s_.2.2.1, s_.2.2.2.1, .int .i64 t610], .bool t611]), (42, .agg #[s_.1, s_.2.1, .bool t600, .bool t601, .bool t602, .bool t603, s_.2.2.1, s_.2.2.2.1, .int .i64 t610]), (43, .bool t611)]) (fun s_ w' => (w'.cell? ⟨gb591, 0, none⟩ = some (.slice Ao24 t574.length co24) ∧ w'.cell? ⟨gb591, 1, none⟩ = some (.slice Ao27 t577.length co27) ∧ w'.cell? ⟨gb591, 2, none⟩ = some (.bool t580) ∧ w'.cell? ⟨gb591, 3, none⟩ = some (.bool t581) ∧ w'.cell? ⟨gb591, 4, none⟩ = some (.bool t582) ∧ w'.cell? ⟨gb591, 5, none⟩ = some (.bool t583) ∧ w'.cell? ⟨gb591, 6, none⟩ = some (.slice Ao28 t584.length co28) ∧ w'.cell? ⟨gb591, 7, none⟩ = some (.slice Ao29 t587.length co29) ∧ w'.cell? ⟨gb591, 8, none⟩ = some (.int .i64 t590)) ∧ (Kd.R (Kd.int .i64) 3 w' w.heap.size (fun k_ => some k_ ≠ (.slice Ao14 t551.length co14 : Value).ownBlock ∧ some k_ ≠ (.slice Ao17 t556.length co17 : Value).ownBlock ∧ some k_ ≠ (.slice Ao19 t559.length co19 : Value).ownBlock ∧ some k_ ≠ (.slice Ao20 t566.length co20 : Value).ownBlock ∧ some k_ ≠ (.slice Ao21 t569.length co21 : Value).ownBlock ∧ some k_ ≠ (.slice Ao24 t574.length co24 : Value).ownBlock ∧ some k_ ≠ (.slice Ao27 t577.length co27 : Value).ownBlock ∧ some k_ ≠ (.slice Ao28 t584.length co28 : Value).ownBlock ∧ some k_ ≠ (.slice Ao29 t587.length co29 : Value).ownBlock ∧ some k_ ≠ (s_.1 : Value).ownBlock ∧ some k_ ≠ (s_.2.1 : Value).ownBlock ∧ some k_ ≠ (s_.2.2.1 : Value).ownBlock ∧ some k_ ≠ (s_.2.2.2.1 : Value).ownBlock) (.slice Ao13 t548.length co13) t548) ∧ (Kd.R (Kd.int .i64) 3 w' w.heap.size (fun k_ => some k_ ≠ (.slice Ao13 t548.length co13 : Value).ownBlock ∧ some k_ ≠ (.slice Ao17 t556.length co17 : Value).ownBlock ∧ some k_ ≠ (.slice Ao19 t559.length co19 : Value).ownBlock ∧ some k_ ≠ (.slice Ao20 t566.length co20 : Value).ownBlock ∧ some k_ ≠ (.slice Ao21 t569.length co21 : Value).ownBlock ∧ some k_ ≠ (.slice Ao24 t574.length co24 : Value).ownBlock ∧ some k_ ≠ (.slice Ao27 t577.length co27 : Value).ownBlock ∧ some k_ ≠ (.slice Ao28 t584.length co28 : Value).ownBlock ∧ some k_ ≠ (.slice Ao29 t587.length co29 : Value).ownBlock ∧ some k_ ≠ (s_.1 : Value).ownBlock ∧ some k_ ≠ (s_.2.1 : Value).ownBlock ∧ some k_ ≠ (s_.2.2.1 : Value).ownBlock ∧ some k_ ≠ (s_.2.2.2.1 : Value).ownBlock) (.slice Ao14 t551.length co14) t551) ∧ (Kd.R (Kd.int .i64) 3 w' w.heap.size (fun k_ => some k_ ≠ (.slice Ao13 t548.length co13 : Value).ownBlock ∧ some k_ ≠ (.slice Ao14 t551.length co14 : Value).ownBlock ∧ some k_ ≠ (.slice Ao19 t559.length co19 : Value).ownBlock ∧ some k_ ≠ (.slice Ao20 t566.length co20 : Value).ownBlock ∧ some k_ ≠ (.slice Ao21 t569.length co21 : Value).ownBlock ∧ some k_ ≠ (.slice Ao24 t574.length co24 : Value).ownBlock ∧ some k_ ≠ (.slice Ao27 t577.length co27 : Value).ownBlock ∧ some k_ ≠ (.slice Ao28 t584.length co28 : Value).ownBlock ∧ some k_ ≠ (.slice Ao29 t587.length co29 : Value).ownBlock ∧ some k_ ≠ (s_.1 : Value).ownBlock ∧ some k_ ≠ (s_.2.1 : Value).ownBlock ∧ some k_ ≠ (s_.2.2.1 : Value).ownBlock ∧ some k_ ≠ (s_.2.2.2.1 : Value).ownBlock) (.slice Ao17 t556.length co17) t556) ∧ (Kd.R (Kd.int .i64) 3 w' w.heap.size (fun k_ => some k_ ≠ (.slice Ao13 t548.length co13 : Value).ownBlock ∧ some k_ ≠ (.slice Ao14 t551.length co14 : Value).ownBlock ∧ some k_ ≠ (.slice Ao17 t556.length co17 : Value).ownBlock ∧ some k_ ≠ (.slice Ao20 t566.length co20 : Value).ownBlock ∧ some k_ ≠ (.slice Ao21 t569.length co21 : Value).ownBlock ∧ some k_ ≠ (.slice Ao24 t574.length co24 : Value).ownBlock ∧ some k_ ≠ (.slice Ao27 t577.length co27 : Value).ownBlock ∧ some k_ ≠ (.slice Ao28 t584.length co28 : Value).ownBlock ∧ some k_ ≠ (.slice Ao29 t587.length co29 : Value).ownBlock ∧ some k_ ≠ (s_.1 : Value).ownBlock ∧ some k_ ≠ (s_.2.1 : Value).ownBlock ∧ some k_ ≠ (s_.2.2.1 : Value).ownBlock ∧ some k_ ≠ (s_.2.2.2.1 : Value).ownBlock) (.slice Ao19 t559.length co19) t559) ∧ (Kd.R (Kd.int .i64) 3 w' w.heap.size (fun k_ => some k_ ≠ (.slice Ao13 t548.length co13 : Value).ownBlock ∧ some k_ ≠ (.slice Ao14 t551.length co14 : Value).ownBlock ∧ some k_ ≠ (.slice Ao17 t556.length co17 : Value).ownBlock ∧ some k_ ≠ (.slice Ao19 t559.length co19 : Value).ownBlock ∧ some k_ ≠ (.slice Ao21 t569.length co21 : Value).ownBlock ∧ some k_ ≠ (.slice Ao24 t574.length co24 : Value).ownBlock ∧ some k_ ≠ (.slice Ao27 t577.length co27 : Value).ownBlock ∧ some k_ ≠ (.slice Ao28 t584.length co28 : Value).ownBlock ∧ some k_ ≠ (.slice Ao29 t587.length co29 : Value).ownBlock ∧ some k_ ≠ (s_.1 : Value).ownBlock ∧ some k_ ≠ (s_.2.1 : Value).ownBlock ∧ some k_ ≠ (s_.2.2.1 : Value).ownBlock ∧ some k_ ≠ (s_.2.2.2.1 : Value).ownBlock) (.slice Ao20 t566.length co20) t566) ∧ (Kd.R (Kd.int .i64) 3 w' w.heap.size (fun k_ => some k_ ≠ (.slice Ao13 t548.length co13 : Value).ownBlock ∧ some k_ ≠ (.slice Ao14 t551.length co14 : Value).ownBlock ∧ some k_ ≠ (.slice Ao17 t556.length co17 : Value).ownBlock ∧ some k_ ≠ (.slice Ao19 t559.length co19 : Value).ownBlock ∧ some k_ ≠ (.slice Ao20 t566.length co20 : Value).ownBlock ∧ some k_ ≠ (.slice Ao24 t574.length co24 : Value).ownBlock ∧ some k_ ≠ (.slice Ao27 t577.length co27 : Value).ownBlock ∧ some k_ ≠ (.slice Ao28 t584.length co28 : Value).ownBlock ∧ some k_ ≠ (.slice Ao29 t587.length co29 : Value).ownBlock ∧ some k_ ≠ (s_.1 : Value).ownBlock ∧ some k_ ≠ (s_.2.1 : Value).ownBlock ∧ some k_ ≠ (s_.2.2.1 : Value).ownBlock ∧ some k_ ≠ (s_.2.2.2.1 : Value).ownBlock) (.slice Ao21 t569.length co21) t569) ∧ (Kd.R (Kd.int .i64) 3 w' w.heap.size (fun k_ => some k_ ≠ (.slice Ao13 t548.length co13 : Value).ownBlock ∧ some k_ ≠ (.slice Ao14 t551.length co14 : Value).ownBlock ∧ some k_ ≠ (.slice Ao17 t556.length co17 : Value).ownBlock ∧ some k_ ≠ (.slice Ao19 t559.length co19 : Value).ownBlock ∧ some k_ ≠ (.slice Ao20 t566.length co20 : Value).ownBlock ∧ some k_ ≠ (.slice Ao21 t569.length co21 : Value).ownBlock ∧ some k_ ≠ (.slice Ao27 t577.length co27 : Value).ownBlock ∧ some k_ ≠ (.slice Ao28 t584.length co28 : Value).ownBlock ∧ some k_ ≠ (.slice Ao29 t587.length co29 : Value).ownBlock ∧ some k_ ≠ (s_.1 : Value).ownBlock ∧ some k_ ≠ (s_.2.1 : Value).ownBlock ∧ some k_ ≠ (s_.2.2.1 : Value).ownBlock ∧ some k_ ≠ (s_.2.2.2.1 : Value).ownBlock) (.slice Ao24 t574.length co24) t574) ∧ (Kd.R (Kd.int .i64) 3 w' w.heap.size (fun k_ => some k_ ≠ (.slice Ao13 t548.length co13 : Value).ownBlock ∧ some k_ ≠ (.slice Ao14 t551.length co14 : Value).ownBlock ∧ some k_ ≠ (.slice Ao17 t556.length co17 : Value).ownBlock ∧ some k_ ≠ (.slice Ao19 t559.length co19 : Value).ownBlock ∧ some k_ ≠ (.slice Ao20 t566.length co20 : Value).ownBlock ∧ some k_ ≠ (.slice Ao21 t569.length co21 : Value).ownBlock ∧ some k_ ≠ (.slice Ao24 t574.length co24 : Value).ownBlock ∧ some k_ ≠ (.slice Ao28 t584.length co28 : Value).ownBlock ∧ some k_ ≠ (.slice Ao29 t587.length co29 : Value).ownBlock ∧ some k_ ≠ (s_.1 : Value).ownBlock ∧ some k_ ≠ (s_.2.1 : Value).ownBlock ∧ some k_ ≠ (s_.2.2.1 : Value).ownBlock ∧ some k_ ≠ (s_.2.2.2.1 : Value).ownBlock) (.slice Ao27 t577.length co27) t577) ∧ (Kd.R (Kd.int .i64) 3 w' w.heap.size (fun k_ => some k_ ≠ (.slice Ao13 t548.length co13 : Value).ownBlock ∧ some k_ ≠ (.slice Ao14 t551.length co14 : Value).ownBlock ∧ some k_ ≠ (.slice Ao17 t556.length co17 : Value).ownBlock ∧ some k_ ≠ (.slice Ao19 t559.length co19 : Value).ownBlock ∧ some k_ ≠ (.slice Ao20 t566.length co20 : Value).ownBlock ∧ some k_ ≠ (.slice Ao21 t569.length co21 : Value).ownBlock ∧ some k_ ≠ (.slice Ao24 t574.length co24 : Value).ownBlock ∧ some k_ ≠ (.slice Ao27 t577.length co27 : Value).ownBlock ∧ some k_ ≠ (.slice Ao29 t587.length co29 : Value).ownBlock ∧ some k_ ≠ (s_.1 : Value).ownBlock ∧ some k_ ≠ (s_.2.1 : Value).ownBlock ∧ some k_ ≠ (s_.2.2.1 : Value).ownBlock ∧ some k_ ≠ (s_.2.2.2.1 : Value).ownBlock) (.slice Ao28 t584.length co28) t584) ∧ (Kd.R (Kd.int .i64) 3 w' w.heap.size (fun k_ => some k_ ≠ (.slice Ao13 t548.length co13 : Value).ownBlock ∧ some k_ ≠ (.slice Ao14 t551.length co14 : Value).ownBlock ∧ some k_ ≠ (.slice Ao17 t556.length co17 : Value).ownBlock ∧ some k_ ≠ (.slice Ao19 t559.length co19 : Value).ownBlock ∧ some k_ ≠ (.slice Ao20 t566.length co20 : Value).ownBlock ∧ some k_ ≠ (.slice Ao21 t569.length co21 : Value).ownBlock ∧ some k_ ≠ (.slice Ao24 t574.length co24 : Value).ownBlock ∧ some k_ ≠ (.slice Ao27 t577.length co27 : Value).ownBlock ∧ some k_ ≠ (.slice Ao28 t584.length co28 : Value).ownBlock ∧ some k_ ≠ (s_.1 : Value).ownBlock ∧ some k_ ≠ (s_.2.1 : Value).ownBlock ∧ some k_ ≠ (s_.2.2.1 : Value).ownBlock ∧ some k_ ≠ (s_.2.2.2.1 : Value).ownBlock) (.slice Ao29 t587.length co29) t587) ∧ (Kd.R (Kd.int .i64) 3 w' w.heap.size (fun k_ => some k_ ≠ (.slice Ao13 t548.length co13 : Value).ownBlock ∧ some k_ ≠ (.slice Ao14 t551.length co14 : Value).ownBlock ∧ some k_ ≠ (.slice Ao17 t556.length co17 : Value).ownBlock ∧ some k_ ≠ (.slice Ao19 t559.length co19 : Value).ownBlock ∧ some k_ ≠ (.slice Ao20 t566.length co20 : Value).ownBlock ∧ some k_ ≠ (.slice Ao21 t569.length co21 : Value).ownBlock ∧ some k_ ≠ (.slice Ao24 t574.length co24 : Value).ownBlock ∧ some k_ ≠ (.slice Ao27 t577.length co27 : Value).ownBlock ∧ some k_ ≠ (.slice Ao28 t584.length co28 : Value).ownBlock ∧ some k_ ≠ (.slice Ao29 t587.length co29 : Value).ownBlock ∧ some k_ ≠ (s_.2.1 : Value).ownBlock ∧ some k_ ≠ (s_.2.2.1 : Value).ownBlock ∧ some k_ ≠ (s_.2.2.2.1 : Value).ownBlock) s_.1 t594) ∧ (Kd.R (Kd.int .i64) 3 w' w.heap.size (fun k_ => some k_ ≠ (.slice Ao13 t548.length co13 : Value).ownBlock ∧ some k_ ≠ (.slice Ao14 t551.length co14 : Value).ownBlock ∧ some k_ ≠ (.slice Ao17 t556.length co17 : Value).ownBlock ∧ some k_ ≠ (.slice Ao19 t559.length co19 : Value).ownBlock ∧ some k_ ≠ (.slice Ao20 t566.length co20 : Value).ownBlock ∧ some k_ ≠ (.slice Ao21 t569.length co21 : Value).ownBlock ∧ some k_ ≠ (.slice Ao24 t574.length co24 : Value).ownBlock ∧ some k_ ≠ (.slice Ao27 t577.length co27 : Value).ownBlock ∧ some k_ ≠ (.slice Ao28 t584.length co28 : Value).ownBlock ∧ some k_ ≠ (.slice Ao29 t587.length co29 : Value).ownBlock ∧ some k_ ≠ (s_.1 : Value).ownBlock ∧ some k_ ≠ (s_.2.2.1 : Value).ownBlock ∧ some k_ ≠ (s_.2.2.2.1 : Value).ownBlock) s_.2.1 t597) ∧ (Kd.R (Kd.int .i64) 3 w' w.heap.size (fun k_ => some k_ ≠ (.slice Ao13 t548.length co13 : Value).ownBlock ∧ some k_ ≠ (.slice Ao14 t551.length co14 : Value).ownBlock ∧ some k_ ≠ (.slice Ao17 t556.length co17 : Value).ownBlock ∧ some k_ ≠ (.slice Ao19 t559.length co19 : Value).ownBlock ∧ some k_ ≠ (.slice Ao20 t566.length co20 : Value).ownBlock ∧ some k_ ≠ (.slice Ao21 t569.length co21 : Value).ownBlock ∧ some k_ ≠ (.slice Ao24 t574.length co24 : Value).ownBlock ∧ some k_ ≠ (.slice Ao27 t577.length co27 : Value).ownBlock ∧ some k_ ≠ (.slice Ao28 t584.length co28 : Value).ownBlock ∧ some k_ ≠ (.slice Ao29 t587.length co29 : Value).ownBlock ∧ some k_ ≠ (s_.1 : Value).ownBlock ∧ some k_ ≠ (s_.2.1 : Value).ownBlock ∧ some k_ ≠ (s_.2.2.2.1 : Value).ownBlock) s_.2.2.1 t604) ∧ (Kd.R (Kd.int .i64) 3 w' w.heap.size (fun k_ => some k_ ≠ (.slice Ao13 t548.length co13 : Value).ownBlock ∧ some k_ ≠ (.slice Ao14 t551.length co14 : Value).ownBlock ∧ some k_ ≠ (.slice Ao17 t556.length co17 : Value).ownBlock ∧ some k_ ≠ (.slice Ao19 t559.length co19 : Value).ownBlock ∧ some k_ ≠ (.slice Ao20 t566.length co20 : Value).ownBlock ∧ some k_ ≠ (.slice Ao21 t569.length co21 : Value).ownBlock ∧ some k_ ≠ (.slice Ao24 t574.length co24 : Value).ownBlock ∧ some k_ ≠ (.slice Ao27 t577.length co27 : Value).ownBlock ∧ some k_ ≠ (.slice Ao28 t584.length co28 : Value).ownBlock ∧ some k_ ≠ (.slice Ao29 t587.length co29 : Value).ownBlock ∧ some k_ ≠ (s_.1 : Value).ownBlock ∧ some k_ ≠ (s_.2.1 : Value).ownBlock ∧ some k_ ≠ (s_.2.2.1 : Value).ownBlock) s_.2.2.2.1 t607) ∧ (w'.heap[gb573]? = some (.cells #[.slice Ao17 t556.length co17, .slice Ao19 t559.length co19, .bool t562, .bool t563, .bool t564, .bool t565, .slice Ao20 t566.length co20, .slice Ao21 t569.length co21, .int .i64 t572] 28 (0, 0))) ∧ (w'.heap[gb591]? = some (.cells #[.slice Ao24 t574.length co24, .slice Ao27 t577.length co27, .bool t580, .bool t581, .bool t582, .bool t583, .slice Ao28 t584.length co28, .slice Ao29 t587.length co29, .int .i64 t590] 28 (0, 0))) ∧ (w'.heap[s_.2.2.2.2]? = some (.cells #[.slice none 0 0, .slice none 0 0, .bool false, .bool false, .bool false, .bool false, .slice none 0 0, .slice none 0 0, .int .i64 0] 28 (0, 0))) ∧ (w.heap.size ≤ s_.2.2.2.2) ∧ (w.heap.size ≤ s_.2.2.2.2) ∧ (gb573 ≠ s_.2.2.2.2) ∧ (s_.2.2.2.2 ≠ gb573) ∧ (gb591 ≠ s_.2.2.2.2) ∧ (s_.2.2.2.2 ≠ gb591) ∧ (Below w.heap.size w w')) ?_ ?_
  rotate_left
  ·intro hCont
   refine two_ (i := 3) (j := 9) (Ni := some 39) (Nj := some 10) (bm_ 12 15) (bm_ 12 519) rfl rfl rfl rfl (two_of HT_.out (by kernel_rfl)) (by decide) (by decide) (fun K hK => ?_) (fun K hK => ?_)
   ·skip
    refine goes_ Try.func41 (by kernel_rfl) rfl #[.slice A0 l0.length c0, .int .i64 3] (by rfl) rfl rfl d0_ ?_
    with_reducible refine (laws_at.calls _ _ l0 3 t593 _ ?side1 ?side2 A8.out).mono ?_
    (case side1 => repeat (first | exact (Kd.C_below HR0.out HB.out) | (with_reducible refine Kd.C_alloc ?_ _) | (with_reducible refine Kd.C_drewN ?_ _) | (with_reducible refine Kd.C_drew ?_)))
    (case side2 => exact HC0.out)
    rintro e w' ⟨rfl, ⟨nd, rfl⟩⟩
    refine ⟨_, rfl, ?_⟩
    refine hK.out _ _ ⟨(blk_cell BK591.out 0).trans rfl, (blk_cell BK591.out 1).trans rfl, (blk_cell BK591.out 2).trans rfl, (blk_cell BK591.out 3).trans rfl, (blk_cell BK591.out 4).trans rfl, (blk_cell BK591.out 5).trans rfl, (blk_cell BK591.out 6).trans rfl, (blk_cell BK591.out 7).trans rfl, (blk_cell BK591.out 8).trans rfl⟩ (fun hHeld => ?_)
    clear hK K
    refine norm_ (a' := ?_) ?_ ?_
    rotate_left
    ·show Act.put _ (some 39) _ = _
     simp only [Act.put, List.setIfInBounds_toArray, List.set_cons_zero, List.set_cons_succ, i64_w, i32_w]
     rfl
    refine pu_ 4 (some 40) (bm_ 12 31) (any_of HT_.out (by kernel_rfl)) ?_
    refine two_ (i := 5) (j := 9) (Ni := some 41) (Nj := some 10) (bm_ 12 63) (bm_ 12 543) rfl rfl rfl rfl (two_of HT_.out (by kernel_rfl)) (by decide) (by decide) (fun K hK => ?_) (fun K hK => ?_)
    ·skip
     refine goes_ Try.func35 (by kernel_rfl) rfl #[.agg #[.slice Ao24 t574.length co24, .slice Ao27 t577.length co27, .bool t580, .bool t581, .bool t582, .bool t583, .slice Ao28 t584.length co28, .slice Ao29 t587.length co29, .int .i64 t590], .int .i64 (wrap64 (2 * (Int.tmod t592 256))), .int .i64 (wrap64 (t593 * 300))] (by rfl) rfl rfl d0_ ?_
     with_reducible refine (impl_WriteW.calls _ _ t574 _ _ t577 t580 t581 t582 t583 _ _ t584 _ _ t587 t590 (wrap64 (2 * (Int.tmod t592 256))) (wrap64 (t593 * 300)) t594 t597 t600 t601 t602 t603 t604 t607 t610 t611 _ ?side1 ?side2 ?side3 ?side4 ?side5 ?side6 ?side7 ?side8 A9.out).mono ?_
     (case side1 => repeat (first | exact (Kd.R_reads' HO576.out).2.2 | (with_reducible refine Kd.C_alloc ?_ _) | (with_reducible refine Kd.C_drewN ?_ _) | (with_reducible refine Kd.C_drew ?_)))
     (case side2 => exact (Kd.R_reads' HO576.out).2.1)
     (case side3 => repeat (first | exact (Kd.R_reads' HO579.out).2.2 | (with_reducible refine Kd.C_alloc ?_ _) | (with_reducible refine Kd.C_drewN ?_ _) | (with_reducible refine Kd.C_drew ?_)))
     (case side4 => exact (Kd.R_reads' HO579.out).2.1)
     (case side5 => repeat (first | exact (Kd.R_reads' HO586.out).2.2 | (with_reducible refine Kd.C_alloc ?_ _) | (with_reducible refine Kd.C_drewN ?_ _) | (with_reducible refine Kd.C_drew ?_)))
     (case side6 => exact (Kd.R_reads' HO586.out).2.1)
     (case side7 => repeat (first | exact (Kd.R_reads' HO589.out).2.2 | (with_reducible refine Kd.C_alloc ?_ _) | (with_reducible refine Kd.C_drewN ?_ _) | (with_reducible refine Kd.C_drew ?_)))
     (case side8 => exact (Kd.R_reads' HO589.out).2.1)
     rintro e w32 ⟨v595, v598, v605, v608, rfl, ho0, ho1, ho2, ho3, hb⟩
     refine ⟨_, rfl, ?_⟩
     have HO596 := A_ (Kd.R_lower (Kd.R_new' (Kd.R_new' (Kd.R_new' (Kd.R_new' (Kd.R_new' (Kd.R_new' (Kd.R_new' (Kd.R_new' (Kd.R_new' (Kd.R_new' ho0 (Kd.R_lt (kr_ HO553.out))) (Kd.R_lt (kr_ HO555.out))) (Kd.R_lt (kr_ HO558.out))) (Kd.R_lt (kr_ HO561.out))) (Kd.R_lt (kr_ HO568.out))) (Kd.R_lt (kr_ HO571.out))) (Kd.R_lt (kr_ HO576.out))) (Kd.R_lt (kr_ HO579.out))) (Kd.R_lt (kr_ HO586.out))) (Kd.R_lt (kr_ HO589.out))) (below_size (bw_ HB.out)))
     have HO599 := A_ (Kd.R_lower (Kd.R_new' (Kd.R_new' (Kd.R_new' (Kd.R_new' (Kd.R_new' (Kd.R_new' (Kd.R_new' (Kd.R_new' (Kd.R_new' (Kd.R_new' ho1 (Kd.R_lt (kr_ HO553.out))) (Kd.R_lt (kr_ HO555.out))) (Kd.R_lt (kr_ HO558.out))) (Kd.R_lt (kr_ HO561.out))) (Kd.R_lt (kr_ HO568.out))) (Kd.R_lt (kr_ HO571.out))) (Kd.R_lt (kr_ HO576.out))) (Kd.R_lt (kr_ HO579.out))) (Kd.R_lt (kr_ HO586.out))) (Kd.R_lt (kr_ HO589.out))) (below_size (bw_ HB.out)))
     have HO606 := A_ (Kd.R_lower (Kd.R_new' (Kd.R_new' (Kd.R_new' (Kd.R_new' (Kd.R_new' (Kd.R_new' (Kd.R_new' (Kd.R_new' (Kd.R_new' (Kd.R_new' ho2 (Kd.R_lt (kr_ HO553.out))) (Kd.R_lt (kr_ HO555.out))) (Kd.R_lt (kr_ HO558.out))) (Kd.R_lt (kr_ HO561.out))) (Kd.R_lt (kr_ HO568.out))) (Kd.R_lt (kr_ HO571.out))) (Kd.R_lt (kr_ HO576.out))) (Kd.R_lt (kr_ HO579.out))) (Kd.R_lt (kr_ HO586.out))) (Kd.R_lt (kr_ HO589.out))) (below_size (bw_ HB.out)))
     have HO609 := A_ (Kd.R_lower (Kd.R_new' (Kd.R_new' (Kd.R_new' (Kd.R_new' (Kd.R_new' (Kd.R_new' (Kd.R_new' (Kd.R_new' (Kd.R_new' (Kd.R_new' ho3 (Kd.R_lt (kr_ HO553.out))) (Kd.R_lt (kr_ HO555.out))) (Kd.R_lt (kr_ HO558.out))) (Kd.R_lt (kr_ HO561.out))) (Kd.R_lt (kr_ HO568.out))) (Kd.R_lt (kr_ HO571.out))) (Kd.R_lt (kr_ HO576.out))) (Kd.R_lt (kr_ HO579.out))) (Kd.R_lt (kr_ HO586.out))) (Kd.R_lt (kr_ HO589.out))) (below_size (bw_ HB.out)))
     replace HO553 := A_ (Kd.R_mono (Kd.R_told (Kd.R_told (Kd.R_told (Kd.R_told (Kd.R_old (kr_ HO553.out) hb) (Kd.R_base ho0)) (Kd.R_base ho1)) (Kd.R_base ho2)) (Kd.R_base ho3)) (fun _ h_ => h_.1))
     replace HO555 := A_ (Kd.R_mono (Kd.R_told (Kd.R_told (Kd.R_told (Kd.R_told (Kd.R_old (kr_ HO555.out) hb) (Kd.R_base ho0)) (Kd.R_base ho1)) (Kd.R_base ho2)) (Kd.R_base ho3)) (fun _ h_ => h_.1))
     replace HO558 := A_ (Kd.R_mono (Kd.R_told (Kd.R_told (Kd.R_told (Kd.R_told (Kd.R_old (kr_ HO558.out) hb) (Kd.R_base ho0)) (Kd.R_base ho1)) (Kd.R_base ho2)) (Kd.R_base ho3)) (fun _ h_ => h_.1))
     replace HO561 := A_ (Kd.R_mono (Kd.R_told (Kd.R_told (Kd.R_told (Kd.R_told (Kd.R_old (kr_ HO561.out) hb) (Kd.R_base ho0)) (Kd.R_base ho1)) (Kd.R_base ho2)) (Kd.R_base ho3)) (fun _ h_ => h_.1))
     replace HO568 := A_ (Kd.R_mono (Kd.R_told (Kd.R_told (Kd.R_told (Kd.R_told (Kd.R_old (kr_ HO568.out) hb) (Kd.R_base ho0)) (Kd.R_base ho1)) (Kd.R_base ho2)) (Kd.R_base ho3)) (fun _ h_ => h_.1))
     replace HO571 := A_ (Kd.R_mono (Kd.R_told (Kd.R_told (Kd.R_told (Kd.R_told (Kd.R_old (kr_ HO571.out) hb) (Kd.R_base ho0)) (Kd.R_base ho1)) (Kd.R_base ho2)) (Kd.R_base ho3)) (fun _ h_ => h_.1))
     replace HO576 := A_ (Kd.R_mono (Kd.R_told (Kd.R_told (Kd.R_told (Kd.R_told (Kd.R_old (kr_ HO576.out) hb) (Kd.R_base ho0)) (Kd.R_base ho1)) (Kd.R_base ho2)) (Kd.R_base ho3)) (fun _ h_ => h_.1))
     replace HO579 := A_ (Kd.R_mono (Kd.R_told (Kd.R_told (Kd.R_told (Kd.R_told (Kd.R_old (kr_ HO579.out) hb) (Kd.R_base ho0)) (Kd.R_base ho1)) (Kd.R_base ho2)) (Kd.R_base ho3)) (fun _ h_ => h_.1))
     replace HO586 := A_ (Kd.R_mono (Kd.R_told (Kd.R_told (Kd.R_told (Kd.R_told (Kd.R_old (kr_ HO586.out) hb) (Kd.R_base ho0)) (Kd.R_base ho1)) (Kd.R_base ho2)) (Kd.R_base ho3)) (fun _ h_ => h_.1))
     replace HO589 := A_ (Kd.R_mono (Kd.R_told (Kd.R_told (Kd.R_told (Kd.R_told (Kd.R_old (kr_ HO589.out) hb) (Kd.R_base ho0)) (Kd.R_base ho1)) (Kd.R_base ho2)) (Kd.R_base ho3)) (fun _ h_ => h_.1))
     replace BK573 := A_ (blk_below (bk_ BK573.out) hb)
     replace BK591 := A_ (blk_below (bk_ BK591.out) hb)
     replace HB := A_ (below_step (bw_ HB.out) hb)
     (try clear hb)
     (try clear hb2)
     (try clear hk)
     (try clear hi)
     (try clear ho0)
     (try clear ho1)
     (try clear ho2)
     (try clear ho3)
     refine hK.out _ _ ⟨(blk_cell BK591.out 0).trans rfl, (blk_cell BK591.out 1).trans rfl, (blk_cell BK591.out 2).trans rfl, (blk_cell BK591.out 3).trans rfl, (blk_cell BK591.out 4).trans rfl, (blk_cell BK591.out 5).trans rfl, (blk_cell BK591.out 6).trans rfl, (blk_cell BK591.out 7).trans rfl, (blk_cell BK591.out 8).trans rfl⟩ (fun hHeld => ?_)
     clear hK K
     refine norm_ (a' := ?_) ?_ ?_
     rotate_left
     ·show Act.put _ (some 41) _ = _
      simp only [Act.put, List.setIfInBounds_toArray, List.set_cons_zero, List.set_cons_succ, i64_w, i32_w]
      rfl
     refine pu_ 6 (some 35) (bm_ 12 127) (any_of HT_.out (by kernel_rfl)) ?_
     refine pu_ 7 (some 42) (bm_ 12 255) (any_of HT_.out (by kernel_rfl)) ?_
     refine pu_ 8 (some 43) (bm_ 12 511) (any_of HT_.out (by kernel_rfl)) ?_
     refine one_ (i := 9) (N := some 10) (bm_ 12 1023) rfl rfl (one_of HT_.out (by kernel_rfl)) (by decide) (fun K hK => ?_)
     refine box_step ?hg (N := 10) ?hd (cs := #[.slice none 0 0, .slice none 0 0, .bool false, .bool false, .bool false, .bool false, .slice none 0 0, .slice none 0 0, .int .i64 0]) (t := 28) ?hr ?_; (case hd => rfl); (case hg => rfl); (case hr => first | (go_simp; done) | (go_simp; rfl))
     intro gb612 hg w33 hbox hb
     replace HO553 := A_ (Kd.R_below (kr_ HO553.out) hb)
     replace HO555 := A_ (Kd.R_below (kr_ HO555.out) hb)
     replace HO558 := A_ (Kd.R_below (kr_ HO558.out) hb)
     replace HO561 := A_ (Kd.R_below (kr_ HO561.out) hb)
     replace HO568 := A_ (Kd.R_below (kr_ HO568.out) hb)
     replace HO571 := A_ (Kd.R_below (kr_ HO571.out) hb)
     replace HO576 := A_ (Kd.R_below (kr_ HO576.out) hb)
     replace HO579 := A_ (Kd.R_below (kr_ HO579.out) hb)
     replace HO586 := A_ (Kd.R_below (kr_ HO586.out) hb)
     replace HO589 := A_ (Kd.R_below (kr_ HO589.out) hb)
     replace HO596 := A_ (Kd.R_below (kr_ HO596.out) hb)
     replace HO599 := A_ (Kd.R_below (kr_ HO599.out) hb)
     replace HO606 := A_ (Kd.R_below (kr_ HO606.out) hb)
     replace HO609 := A_ (Kd.R_below (kr_ HO609.out) hb)
     have BK612 := A_ (hbox)
     have GW612 := A_ ((d8_ : w.heap.size ≤ gb612))
     have GE612 := A_ ((d8_ : w.heap.size ≤ gb612))
     replace HB := A_ (below_step (bw_ HB.out) hb)
     have NB573_612 := A_ ((d22_ : gb573 ≠ gb612))
     have NB612_573 := A_ ((by rw [hg]; exact Nat.ne_of_gt (blk_lt (bk_ BK573.out)) : gb612 ≠ gb573))
     replace BK573 := A_ (blk_below (bk_ BK573.out) hb)
     have NB591_612 := A_ ((by rw [hg]; exact Nat.ne_of_lt (blk_lt (bk_ BK591.out)) : gb591 ≠ gb612))
     have NB612_591 := A_ ((by rw [hg]; exact Nat.ne_of_gt (blk_lt (bk_ BK591.out)) : gb612 ≠ gb591))
     replace BK591 := A_ (blk_below (bk_ BK591.out) hb)
     have GI612 := GeI.mk GE612.out
     clear hb hbox hg
     refine hK.out _ _ ⟨(blk_cell BK591.out 0).trans rfl, (blk_cell BK591.out 1).trans rfl, (blk_cell BK591.out 2).trans rfl, (blk_cell BK591.out 3).trans rfl, (blk_cell BK591.out 4).trans rfl, (blk_cell BK591.out 5).trans rfl, (blk_cell BK591.out 6).trans rfl, (blk_cell BK591.out 7).trans rfl, (blk_cell BK591.out 8).trans rfl⟩ (fun hHeld => ?_)
     clear hK K
     refine norm_ (a' := ?_) ?_ ?_
     rotate_left
     ·show Act.put _ (some 10) _ = _
      simp only [Act.put, List.setIfInBounds_toArray, List.set_cons_zero, List.set_cons_succ, i64_w, i32_w]
      rfl
     exact norm_ d20_ (hCont (v595, v598, v605, v608, gb612) _ ⟨hHeld, (kr_ (Kd.R_mono HO553.out (fun _ hk => (by simp only [hk, ne_eq, not_false_eq_true, and_self, and_true, true_and])))), (kr_ (Kd.R_mono HO555.out (fun _ hk => (by simp only [hk, ne_eq, not_false_eq_true, and_self, and_true, true_and])))), (kr_ (Kd.R_mono HO558.out (fun _ hk => (by simp only [hk, ne_eq, not_false_eq_true, and_self, and_true, true_and])))), (kr_ (Kd.R_mono HO561.out (fun _ hk => (by simp only [hk, ne_eq, not_false_eq_true, and_self, and_true, true_and])))), (kr_ (Kd.R_mono HO568.out (fun _ hk => (by simp only [hk, ne_eq, not_false_eq_true, and_self, and_true, true_and])))), (kr_ (Kd.R_mono HO571.out (fun _ hk => (by simp only [hk, ne_eq, not_false_eq_true, and_self, and_true, true_and])))), (kr_ (Kd.R_mono HO576.out (fun _ hk => (by simp only [hk, ne_eq, not_false_eq_true, and_self, and_true, true_and])))), (kr_ (Kd.R_mono HO579.out (fun _ hk => (by simp only [hk, ne_eq, not_false_eq_true, and_self, and_true, true_and])))), (kr_ (Kd.R_mono HO586.out (fun _ hk => (by simp only [hk, ne_eq, not_false_eq_true, and_self, and_true, true_and])))), (kr_ (Kd.R_mono HO589.out (fun _ hk => (by simp only [hk, ne_eq, not_false_eq_true, and_self, and_true, true_and])))), (kr_ (Kd.R_mono HO596.out (fun _ hk => (by simp only [hk, ne_eq, not_false_eq_true, and_self, and_true, true_and])))), (kr_ (Kd.R_mono HO599.out (fun _ hk => (by simp only [hk, ne_eq, not_false_eq_true, and_self, and_true, true_and])))), (kr_ (Kd.R_mono HO606.out (fun _ hk => (by simp only [hk, ne_eq, not_false_eq_true, and_self, and_true, true_and])))), (kr_ (Kd.R_mono HO609.out (fun _ hk => (by simp only [hk, ne_eq, not_false_eq_true, and_self, and_true, true_and])))), (bk_ BK573.out), (bk_ BK591.out), (bk_ BK612.out), GW612.out, GE612.out, NB573_612.out, NB612_573.out, NB591_612.out, NB612_591.out, (bw_ HB.out)⟩)
    ·skip
     refine box_step ?hg (N := 10) ?hd (cs := #[.slice none 0 0, .slice none 0 0, .bool false, .bool false, .bool false, .bool false, .slice none 0 0, .slice none 0 0, .int .i64 0]) (t := 28) ?hr ?_; (case hd => rfl); (case hg => rfl); (case hr => first | (go_simp; done) | (go_simp; rfl))
     intro gb612 hg w32 hbox hb
     replace HO553 := A_ (Kd.R_below (kr_ HO553.out) hb)
     replace HO555 := A_ (Kd.R_below (kr_ HO555.out) hb)
     replace HO558 := A_ (Kd.R_below (kr_ HO558.out) hb)
     replace HO561 := A_ (Kd.R_below (kr_ HO561.out) hb)
     replace HO568 := A_ (Kd.R_below (kr_ HO568.out) hb)
     replace HO571 := A_ (Kd.R_below (kr_ HO571.out) hb)
     replace HO576 := A_ (Kd.R_below (kr_ HO576.out) hb)
     replace HO579 := A_ (Kd.R_below (kr_ HO579.out) hb)
     replace HO586 := A_ (Kd.R_below (kr_ HO586.out) hb)
     replace HO589 := A_ (Kd.R_below (kr_ HO589.out) hb)
     have BK612 := A_ (hbox)
     have GW612 := A_ ((d8_ : w.heap.size ≤ gb612))
     have GE612 := A_ ((d8_ : w.heap.size ≤ gb612))
     replace HB := A_ (below_step (bw_ HB.out) hb)
     have NB573_612 := A_ ((d22_ : gb573 ≠ gb612))
     have NB612_573 := A_ ((by rw [hg]; exact Nat.ne_of_gt (blk_lt (bk_ BK573.out)) : gb612 ≠ gb573))
     replace BK573 := A_ (blk_below (bk_ BK573.out) hb)
     have NB591_612 := A_ ((by rw [hg]; exact Nat.ne_of_lt (blk_lt (bk_ BK591.out)) : gb591 ≠ gb612))
     have NB612_591 := A_ ((by rw [hg]; exact Nat.ne_of_gt (blk_lt (bk_ BK591.out)) : gb612 ≠ gb591))
     replace BK591 := A_ (blk_below (bk_ BK591.out) hb)
     have GI612 := GeI.mk GE612.out
     clear hb hbox hg
     refine hK.out _ _ ⟨(blk_cell BK591.out 0).trans rfl, (blk_cell BK591.out 1).trans rfl, (blk_cell BK591.out 2).trans rfl, (blk_cell BK591.out 3).trans rfl, (blk_cell BK591.out 4).trans rfl, (blk_cell BK591.out 5).trans rfl, (blk_cell BK591.out 6).trans rfl, (blk_cell BK591.out 7).trans rfl, (blk_cell BK591.out 8).trans rfl⟩ (fun hHeld => ?_)
     clear hK K
     refine norm_ (a' := ?_) ?_ ?_
     rotate_left
     ·show Act.put _ (some 10) _ = _
      simp only [Act.put, List.setIfInBounds_toArray, List.set_cons_zero, List.set_cons_succ, i64_w, i32_w]
      rfl
     refine one_ (i := 5) (N := some 41) (bm_ 12 575) rfl rfl (one_of HT_.out (by kernel_rfl)) (by decide) (fun K hK => ?_)
     refine goes_ Try.func35 (by kernel_rfl) rfl #[.agg #[.slice Ao24 t574.length co24, .slice Ao27 t577.length co27, .bool t580, .bool t581, .bool t582, .bool t583, .slice Ao28 t584.length co28, .slice Ao29 t587.length co29, .int .i64 t590], .int .i64 (wrap64 (2 * (Int.tmod t592 256))), .int .i64 (wrap64 (t593 * 300))] (by rfl) rfl rfl d0_ ?_
     with_reducible refine (impl_WriteW.calls _ _ t574 _ _ t577 t580 t581 t582 t583 _ _ t584 _ _ t587 t590 (wrap64 (2 * (Int.tmod t592 256))) (wrap64 (t593 * 300)) t594 t597 t600 t601 t602 t603 t604 t607 t610 t611 _ ?side1 ?side2 ?side3 ?side4 ?side5 ?side6 ?side7 ?side8 A9.out).mono ?_
     (case side1 => repeat (first | exact (Kd.R_reads' HO576.out).2.2 | (with_reducible refine Kd.C_alloc ?_ _) | (with_reducible refine Kd.C_drewN ?_ _) | (with_reducible refine Kd.C_drew ?_)))
     (case side2 => exact (Kd.R_reads' HO576.out).2.1)
     (case side3 => repeat (first | exact (Kd.R_reads' HO579.out).2.2 | (with_reducible refine Kd.C_alloc ?_ _) | (with_reducible refine Kd.C_drewN ?_ _) | (with_reducible refine Kd.C_drew ?_)))
     (case side4 => exact (Kd.R_reads' HO579.out).2.1)
     (case side5 => repeat (first | exact (Kd.R_reads' HO586.out).2.2 | (with_reducible refine Kd.C_alloc ?_ _) | (with_reducible refine Kd.C_drewN ?_ _) | (with_reducible refine Kd.C_drew ?_)))
     (case side6 => exact (Kd.R_reads' HO586.out).2.1)
     (case side7 => repeat (first | exact (Kd.R_reads' HO589.out).2.2 | (with_reducible refine Kd.C_alloc ?_ _) | (with_reducible refine Kd.C_drewN ?_ _) | (with_reducible refine Kd.C_drew ?_)))
     (case side8 => exact (Kd.R_reads' HO589.out).2.1)
     rintro e w33 ⟨v595, v598, v605, v608, rfl, ho0, ho1, ho2, ho3, hb⟩
     refine ⟨_, rfl, ?_⟩
     have HO596 := A_ (Kd.R_lower (Kd.R_new' (Kd.R_new' (Kd.R_new' (Kd.R_new' (Kd.R_new' (Kd.R_new' (Kd.R_new' (Kd.R_new' (Kd.R_new' (Kd.R_new' ho0 (Kd.R_lt (kr_ HO553.out))) (Kd.R_lt (kr_ HO555.out))) (Kd.R_lt (kr_ HO558.out))) (Kd.R_lt (kr_ HO561.out))) (Kd.R_lt (kr_ HO568.out))) (Kd.R_lt (kr_ HO571.out))) (Kd.R_lt (kr_ HO576.out))) (Kd.R_lt (kr_ HO579.out))) (Kd.R_lt (kr_ HO586.out))) (Kd.R_lt (kr_ HO589.out))) (below_size (bw_ HB.out)))
     have HO599 := A_ (Kd.R_lower (Kd.R_new' (Kd.R_new' (Kd.R_new' (Kd.R_new' (Kd.R_new' (Kd.R_new' (Kd.R_new' (Kd.R_new' (Kd.R_new' (Kd.R_new' ho1 (Kd.R_lt (kr_ HO553.out))) (Kd.R_lt (kr_ HO555.out))) (Kd.R_lt (kr_ HO558.out))) (Kd.R_lt (kr_ HO561.out))) (Kd.R_lt (kr_ HO568.out))) (Kd.R_lt (kr_ HO571.out))) (Kd.R_lt (kr_ HO576.out))) (Kd.R_lt (kr_ HO579.out))) (Kd.R_lt (kr_ HO586.out))) (Kd.R_lt (kr_ HO589.out))) (below_size (bw_ HB.out)))
     have HO606 := A_ (Kd.R_lower (Kd.R_new' (Kd.R_new' (Kd.R_new' (Kd.R_new' (Kd.R_new' (Kd.R_new' (Kd.R_new' (Kd.R_new' (Kd.R_new' (Kd.R_new' ho2 (Kd.R_lt (kr_ HO553.out))) (Kd.R_lt (kr_ HO555.out))) (Kd.R_lt (kr_ HO558.out))) (Kd.R_lt (kr_ HO561.out))) (Kd.R_lt (kr_ HO568.out))) (Kd.R_lt (kr_ HO571.out))) (Kd.R_lt (kr_ HO576.out))) (Kd.R_lt (kr_ HO579.out))) (Kd.R_lt (kr_ HO586.out))) (Kd.R_lt (kr_ HO589.out))) (below_size (bw_ HB.out)))
     have HO609 := A_ (Kd.R_lower (Kd.R_new' (Kd.R_new' (Kd.R_new' (Kd.R_new' (Kd.R_new' (Kd.R_new' (Kd.R_new' (Kd.R_new' (Kd.R_new' (Kd.R_new' ho3 (Kd.R_lt (kr_ HO553.out))) (Kd.R_lt (kr_ HO555.out))) (Kd.R_lt (kr_ HO558.out))) (Kd.R_lt (kr_ HO561.out))) (Kd.R_lt (kr_ HO568.out))) (Kd.R_lt (kr_ HO571.out))) (Kd.R_lt (kr_ HO576.out))) (Kd.R_lt (kr_ HO579.out))) (Kd.R_lt (kr_ HO586.out))) (Kd.R_lt (kr_ HO589.out))) (below_size (bw_ HB.out)))
     replace HO553 := A_ (Kd.R_mono (Kd.R_told (Kd.R_told (Kd.R_told (Kd.R_told (Kd.R_old (kr_ HO553.out) hb) (Kd.R_base ho0)) (Kd.R_base ho1)) (Kd.R_base ho2)) (Kd.R_base ho3)) (fun _ h_ => h_.1))
     replace HO555 := A_ (Kd.R_mono (Kd.R_told (Kd.R_told (Kd.R_told (Kd.R_told (Kd.R_old (kr_ HO555.out) hb) (Kd.R_base ho0)) (Kd.R_base ho1)) (Kd.R_base ho2)) (Kd.R_base ho3)) (fun _ h_ => h_.1))
     replace HO558 := A_ (Kd.R_mono (Kd.R_told (Kd.R_told (Kd.R_told (Kd.R_told (Kd.R_old (kr_ HO558.out) hb) (Kd.R_base ho0)) (Kd.R_base ho1)) (Kd.R_base ho2)) (Kd.R_base ho3)) (fun _ h_ => h_.1))
     replace HO561 := A_ (Kd.R_mono (Kd.R_told (Kd.R_told (Kd.R_told (Kd.R_told (Kd.R_old (kr_ HO561.out) hb) (Kd.R_base ho0)) (Kd.R_base ho1)) (Kd.R_base ho2)) (Kd.R_base ho3)) (fun _ h_ => h_.1))
     replace HO568 := A_ (Kd.R_mono (Kd.R_told (Kd.R_told (Kd.R_told (Kd.R_told (Kd.R_old (kr_ HO568.out) hb) (Kd.R_base ho0)) (Kd.R_base ho1)) (Kd.R_base ho2)) (Kd.R_base ho3)) (fun _ h_ => h_.1))
     replace HO571 := A_ (Kd.R_mono (Kd.R_told (Kd.R_told (Kd.R_told (Kd.R_told (Kd.R_old (kr_ HO571.out) hb) (Kd.R_base ho0)) (Kd.R_base ho1)) (Kd.R_base ho2)) (Kd.R_base ho3)) (fun _ h_ => h_.1))
     replace HO576 := A_ (Kd.R_mono (Kd.R_told (Kd.R_told (Kd.R_told (Kd.R_told (Kd.R_old (kr_ HO576.out) hb) (Kd.R_base ho0)) (Kd.R_base ho1)) (Kd.R_base ho2)) (Kd.R_base ho3)) (fun _ h_ => h_.1))
     replace HO579 := A_ (Kd.R_mono (Kd.R_told (Kd.R_told (Kd.R_told (Kd.R_told (Kd.R_old (kr_ HO579.out) hb) (Kd.R_base ho0)) (Kd.R_base ho1)) (Kd.R_base ho2)) (Kd.R_base ho3)) (fun _ h_ => h_.1))
     replace HO586 := A_ (Kd.R_mono (Kd.R_told (Kd.R_told (Kd.R_told (Kd.R_told (Kd.R_old (kr_ HO586.out) hb) (Kd.R_base ho0)) (Kd.R_base ho1)) (Kd.R_base ho2)) (Kd.R_base ho3)) (fun _ h_ => h_.1))
     replace HO589 := A_ (Kd.R_mono (Kd.R_told (Kd.R_told (Kd.R_told (Kd.R_told (Kd.R_old (kr_ HO589.out) hb) (Kd.R_base ho0)) (Kd.R_base ho1)) (Kd.R_base ho2)) (Kd.R_base ho3)) (fun _ h_ => h_.1))
     replace BK573 := A_ (blk_below (bk_ BK573.out) hb)
     replace BK591 := A_ (blk_below (bk_ BK591.out) hb)
     replace BK612 := A_ (blk_below (bk_ BK612.out) hb)
     replace HB := A_ (below_step (bw_ HB.out) hb)
     (try clear hb)
     (try clear hb2)
     (try clear hk)
     (try clear hi)
     (try clear ho0)
     (try clear ho1)
     (try clear ho2)
     (try clear ho3)
     refine hK.out _ _ ⟨(blk_cell BK591.out 0).trans rfl, (blk_cell BK591.out 1).trans rfl, (blk_cell BK591.out 2).trans rfl, (blk_cell BK591.out 3).trans rfl, (blk_cell BK591.out 4).trans rfl, (blk_cell BK591.out 5).trans rfl, (blk_cell BK591.out 6).trans rfl, (blk_cell BK591.out 7).trans rfl, (blk_cell BK591.out 8).trans rfl⟩ (fun hHeld => ?_)
     clear hK K
     refine norm_ (a' := ?_) ?_ ?_
     rotate_left
     ·show Act.put _ (some 41) _ = _
      simp only [Act.put, List.setIfInBounds_toArray, List.set_cons_zero, List.set_cons_succ, i64_w, i32_w]
      rfl
     refine pu_ 6 (some 35) (bm_ 12 639) (any_of HT_.out (by kernel_rfl)) ?_
     refine pu_ 7 (some 42) (bm_ 12 767) (any_of HT_.out (by kernel_rfl)) ?_
     refine pu_ 8 (some 43) (bm_ 12 1023) (any_of HT_.out (by kernel_rfl)) ?_
     exact norm_ d20_ (hCont (v595, v598, v605, v608, gb612) _ ⟨hHeld, (kr_ (Kd.R_mono HO553.out (fun _ hk => (by simp only [hk, ne_eq, not_false_eq_true, and_self, and_true, true_and])))), (kr_ (Kd.R_mono HO555.out (fun _ hk => (by simp only [hk, ne_eq, not_false_eq_true, and_self, and_true, true_and])))), (kr_ (Kd.R_mono HO558.out (fun _ hk => (by simp only [hk, ne_eq, not_false_eq_true, and_self, and_true, true_and])))), (kr_ (Kd.R_mono HO561.out (fun _ hk => (by simp only [hk, ne_eq, not_false_eq_true, and_self, and_true, true_and])))), (kr_ (Kd.R_mono HO568.out (fun _ hk => (by simp only [hk, ne_eq, not_false_eq_true, and_self, and_true, true_and])))), (kr_ (Kd.R_mono HO571.out (fun _ hk => (by simp only [hk, ne_eq, not_false_eq_true, and_self, and_true, true_and])))), (kr_ (Kd.R_mono HO576.out (fun _ hk => (by simp only [hk, ne_eq, not_false_eq_true, and_self, and_true, true_and])))), (kr_ (Kd.R_mono HO579.out (fun _ hk => (by simp only [hk, ne_eq, not_false_eq_true, and_self, and_true, true_and])))), (kr_ (Kd.R_mono HO586.out (fun _ hk => (by simp only [hk, ne_eq, not_false_eq_true, and_self, and_true, true_and])))), (kr_ (Kd.R_mono HO589.out (fun _ hk => (by simp only [hk, ne_eq, not_false_eq_true, and_self, and_true, true_and])))), (kr_ (Kd.R_mono HO596.out (fun _ hk => (by simp only [hk, ne_eq, not_false_eq_true, and_self, and_true, true_and])))), (kr_ (Kd.R_mono HO599.out (fun _ hk => (by simp only [hk, ne_eq, not_false_eq_true, and_self, and_true, true_and])))), (kr_ (Kd.R_mono HO606.out (fun _ hk => (by simp only [hk, ne_eq, not_false_eq_true, and_self, and_true, true_and])))), (kr_ (Kd.R_mono HO609.out (fun _ hk => (by simp only [hk, ne_eq, not_false_eq_true, and_self, and_true, true_and])))), (bk_ BK573.out), (bk_ BK591.out), (bk_ BK612.out), GW612.out, GE612.out, NB573_612.out, NB612_573.out, NB591_612.out, NB612_591.out, (bw_ HB.out)⟩)
   ·skip
    refine box_step ?hg (N := 10) ?hd (cs := #[.slice none 0 0, .slice none 0 0, .bool false, .bool false, .bool false, .bool false, .slice none 0 0, .slice none 0 0, .int .i64 0]) (t := 28) ?hr ?_; (case hd => rfl); (case hg => rfl); (case hr => first | (go_simp; done) | (go_simp; rfl))
    intro gb612 hg w32 hbox hb
    replace HO553 := A_ (Kd.R_below (kr_ HO553.out) hb)
    replace HO555 := A_ (Kd.R_below (kr_ HO555.out) hb)
    replace HO558 := A_ (Kd.R_below (kr_ HO558.out) hb)
    replace HO561 := A_ (Kd.R_below (kr_ HO561.out) hb)
    replace HO568 := A_ (Kd.R_below (kr_ HO568.out) hb)
    replace HO571 := A_ (Kd.R_below (kr_ HO571.out) hb)
    replace HO576 := A_ (Kd.R_below (kr_ HO576.out) hb)
    replace HO579 := A_ (Kd.R_below (kr_ HO579.out) hb)
    replace HO586 := A_ (Kd.R_below (kr_ HO586.out) hb)
    replace HO589 := A_ (Kd.R_below (kr_ HO589.out) hb)
    have BK612 := A_ (hbox)
    have GW612 := A_ ((d8_ : w.heap.size ≤ gb612))
    have GE612 := A_ ((d8_ : w.heap.size ≤ gb612))
    replace HB := A_ (below_step (bw_ HB.out) hb)
    have NB573_612 := A_ ((d22_ : gb573 ≠ gb612))
    have NB612_573 := A_ ((by rw [hg]; exact Nat.ne_of_gt (blk_lt (bk_ BK573.out)) : gb612 ≠ gb573))
    replace BK573 := A_ (blk_below (bk_ BK573.out) hb)
    have NB591_612 := A_ ((by rw [hg]; exact Nat.ne_of_lt (blk_lt (bk_ BK591.out)) : gb591 ≠ gb612))
    have NB612_591 := A_ ((by rw [hg]; exact Nat.ne_of_gt (blk_lt (bk_ BK591.out)) : gb612 ≠ gb591))
    replace BK591 := A_ (blk_below (bk_ BK591.out) hb)
    have GI612 := GeI.mk GE612.out
    clear hb hbox hg
    refine hK.out _ _ ⟨(blk_cell BK591.out 0).trans rfl, (blk_cell BK591.out 1).trans rfl, (blk_cell BK591.out 2).trans rfl, (blk_cell BK591.out 3).trans rfl, (blk_cell BK591.out 4).trans rfl, (blk_cell BK591.out 5).trans rfl, (blk_cell BK591.out 6).trans rfl, (blk_cell BK591.out 7).trans rfl, (blk_cell BK591.out 8).trans rfl⟩ (fun hHeld => ?_)
    clear hK K
    refine norm_ (a' := ?_) ?_ ?_
    rotate_left
    ·show Act.put _ (some 10) _ = _
     simp only [Act.put, List.setIfInBounds_toArray, List.set_cons_zero, List.set_cons_succ, i64_w, i32_w]
     rfl
    refine one_ (i := 3) (N := some 39) (bm_ 12 527) rfl rfl (one_of HT_.out (by kernel_rfl)) (by decide) (fun K hK => ?_)
    refine goes_ Try.func41 (by kernel_rfl) rfl #[.slice A0 l0.length c0, .int .i64 3] (by rfl) rfl rfl d0_ ?_
    with_reducible refine (laws_at.calls _ _ l0 3 t593 _ ?side1 ?side2 A8.out).mono ?_
    (case side1 => repeat (first | exact (Kd.C_below HR0.out HB.out) | (with_reducible refine Kd.C_alloc ?_ _) | (with_reducible refine Kd.C_drewN ?_ _) | (with_reducible refine Kd.C_drew ?_)))
    (case side2 => exact HC0.out)
    rintro e w' ⟨rfl, ⟨nd, rfl⟩⟩
    refine ⟨_, rfl, ?_⟩
    refine hK.out _ _ ⟨(blk_cell BK591.out 0).trans rfl, (blk_cell BK591.out 1).trans rfl, (blk_cell BK591.out 2).trans rfl, (blk_cell BK591.out 3).trans rfl, (blk_cell BK591.out 4).trans rfl, (blk_cell BK591.out 5).trans rfl, (blk_cell BK591.out 6).trans rfl, (blk_cell BK591.out 7).trans rfl, (blk_cell BK591.out 8).trans rfl⟩ (fun hHeld => ?_)
    clear hK K
    refine norm_ (a' := ?_) ?_ ?_
    rotate_left
    ·show Act.put _ (some 39) _ = _
     simp only [Act.put, List.setIfInBounds_toArray, List.set_cons_zero, List.set_cons_succ, i64_w, i32_w]
     rfl
    refine pu_ 4 (some 40) (bm_ 12 543) (any_of HT_.out (by kernel_rfl)) ?_
    refine one_ (i := 5) (N := some 41) (bm_ 12 575) rfl rfl (one_of HT_.out (by kernel_rfl)) (by decide) (fun K hK => ?_)
    refine goes_ Try.func35 (by kernel_rfl) rfl #[.agg #[.slice Ao24 t574.length co24, .slice Ao27 t577.length co27, .bool t580, .bool t581, .bool t582, .bool t583, .slice Ao28 t584.length co28, .slice Ao29 t587.length co29, .int .i64 t590], .int .i64 (wrap64 (2 * (Int.tmod t592 256))), .int .i64 (wrap64 (t593 * 300))] (by rfl) rfl rfl d0_ ?_
    with_reducible refine (impl_WriteW.calls _ _ t574 _ _ t577 t580 t581 t582 t583 _ _ t584 _ _ t587 t590 (wrap64 (2 * (Int.tmod t592 256))) (wrap64 (t593 * 300)) t594 t597 t600 t601 t602 t603 t604 t607 t610 t611 _ ?side1 ?side2 ?side3 ?side4 ?side5 ?side6 ?side7 ?side8 A9.out).mono ?_
    (case side1 => repeat (first | exact (Kd.R_reads' HO576.out).2.2 | (with_reducible refine Kd.C_alloc ?_ _) | (with_reducible refine Kd.C_drewN ?_ _) | (with_reducible refine Kd.C_drew ?_)))
    (case side2 => exact (Kd.R_reads' HO576.out).2.1)
    (case side3 => repeat (first | exact (Kd.R_reads' HO579.out).2.2 | (with_reducible refine Kd.C_alloc ?_ _) | (with_reducible refine Kd.C_drewN ?_ _) | (with_reducible refine Kd.C_drew ?_)))
    (case side4 => exact (Kd.R_reads' HO579.out).2.1)
    (case side5 => repeat (first | exact (Kd.R_reads' HO586.out).2.2 | (with_reducible refine Kd.C_alloc ?_ _) | (with_reducible refine Kd.C_drewN ?_ _) | (with_reducible refine Kd.C_drew ?_)))
    (case side6 => exact (Kd.R_reads' HO586.out).2.1)
    (case side7 => repeat (first | exact (Kd.R_reads' HO589.out).2.2 | (with_reducible refine Kd.C_alloc ?_ _) | (with_reducible refine Kd.C_drewN ?_ _) | (with_reducible refine Kd.C_drew ?_)))
    (case side8 => exact (Kd.R_reads' HO589.out).2.1)
    rintro e w33 ⟨v595, v598, v605, v608, rfl, ho0, ho1, ho2, ho3, hb⟩
    refine ⟨_, rfl, ?_⟩
    have HO596 := A_ (Kd.R_lower (Kd.R_new' (Kd.R_new' (Kd.R_new' (Kd.R_new' (Kd.R_new' (Kd.R_new' (Kd.R_new' (Kd.R_new' (Kd.R_new' (Kd.R_new' ho0 (Kd.R_lt (kr_ HO553.out))) (Kd.R_lt (kr_ HO555.out))) (Kd.R_lt (kr_ HO558.out))) (Kd.R_lt (kr_ HO561.out))) (Kd.R_lt (kr_ HO568.out))) (Kd.R_lt (kr_ HO571.out))) (Kd.R_lt (kr_ HO576.out))) (Kd.R_lt (kr_ HO579.out))) (Kd.R_lt (kr_ HO586.out))) (Kd.R_lt (kr_ HO589.out))) (below_size (bw_ HB.out)))
    have HO599 := A_ (Kd.R_lower (Kd.R_new' (Kd.R_new' (Kd.R_new' (Kd.R_new' (Kd.R_new' (Kd.R_new' (Kd.R_new' (Kd.R_new' (Kd.R_new' (Kd.R_new' ho1 (Kd.R_lt (kr_ HO553.out))) (Kd.R_lt (kr_ HO555.out))) (Kd.R_lt (kr_ HO558.out))) (Kd.R_lt (kr_ HO561.out))) (Kd.R_lt (kr_ HO568.out))) (Kd.R_lt (kr_ HO571.out))) (Kd.R_lt (kr_ HO576.out))) (Kd.R_lt (kr_ HO579.out))) (Kd.R_lt (kr_ HO586.out))) (Kd.R_lt (kr_ HO589.out))) (below_size (bw_ HB.out)))
    have HO606 := A_ (Kd.R_lower (Kd.R_new' (Kd.R_new' (Kd.R_new' (Kd.R_new' (Kd.R_new' (Kd.R_new' (Kd.R_new' (Kd.R_new' (Kd.R_new' (Kd.R_new' ho2 (Kd.R_lt (kr_ HO553.out))) (Kd.R_lt (kr_ HO555.out))) (Kd.R_lt (kr_ HO558.out))) (Kd.R_lt (kr_ HO561.out))) (Kd.R_lt (kr_ HO568.out))) (Kd.R_lt (kr_ HO571.out))) (Kd.R_lt (kr_ HO576.out))) (Kd.R_lt (kr_ HO579.out))) (Kd.R_lt (kr_ HO586.out))) (Kd.R_lt (kr_ HO589.out))) (below_size (bw_ HB.out)))
    have HO609 := A_ (Kd.R_lower (Kd.R_new' (Kd.R_new' (Kd.R_new' (Kd.R_new' (Kd.R_new' (Kd.R_new' (Kd.R_new' (Kd.R_new' (Kd.R_new' (Kd.R_new' ho3 (Kd.R_lt (kr_ HO553.out))) (Kd.R_lt (kr_ HO555.out))) (Kd.R_lt (kr_ HO558.out))) (Kd.R_lt (kr_ HO561.out))) (Kd.R_lt (kr_ HO568.out))) (Kd.R_lt (kr_ HO571.out))) (Kd.R_lt (kr_ HO576.out))) (Kd.R_lt (kr_ HO579.out))) (Kd.R_lt (kr_ HO586.out))) (Kd.R_lt (kr_ HO589.out))) (below_size (bw_ HB.out)))
    replace HO553 := A_ (Kd.R_mono (Kd.R_told (Kd.R_told (Kd.R_told (Kd.R_told (Kd.R_old (kr_ HO553.out) hb) (Kd.R_base ho0)) (Kd.R_base ho1)) (Kd.R_base ho2)) (Kd.R_base ho3)) (fun _ h_ => h_.1))
    replace HO555 := A_ (Kd.R_mono (Kd.R_told (Kd.R_told (Kd.R_told (Kd.R_told (Kd.R_old (kr_ HO555.out) hb) (Kd.R_base ho0)) (Kd.R_base ho1)) (Kd.R_base ho2)) (Kd.R_base ho3)) (fun _ h_ => h_.1))
    replace HO558 := A_ (Kd.R_mono (Kd.R_told (Kd.R_told (Kd.R_told (Kd.R_told (Kd.R_old (kr_ HO558.out) hb) (Kd.R_base ho0)) (Kd.R_base ho1)) (Kd.R_base ho2)) (Kd.R_base ho3)) (fun _ h_ => h_.1))
    replace HO561 := A_ (Kd.R_mono (Kd.R_told (Kd.R_told (Kd.R_told (Kd.R_told (Kd.R_old (kr_ HO561.out) hb) (Kd.R_base ho0)) (Kd.R_base ho1)) (Kd.R_base ho2)) (Kd.R_base ho3)) (fun _ h_ => h_.1))
    replace HO568 := A_ (Kd.R_mono (Kd.R_told (Kd.R_told (Kd.R_told (Kd.R_told (Kd.R_old (kr_ HO568.out) hb) (Kd.R_base ho0)) (Kd.R_base ho1)) (Kd.R_base ho2)) (Kd.R_base ho3)) (fun _ h_ => h_.1))
    replace HO571 := A_ (Kd.R_mono (Kd.R_told (Kd.R_told (Kd.R_told (Kd.R_told (Kd.R_old (kr_ HO571.out) hb) (Kd.R_base ho0)) (Kd.R_base ho1)) (Kd.R_base ho2)) (Kd.R_base ho3)) (fun _ h_ => h_.1))
    replace HO576 := A_ (Kd.R_mono (Kd.R_told (Kd.R_told (Kd.R_told (Kd.R_told (Kd.R_old (kr_ HO576.out) hb) (Kd.R_base ho0)) (Kd.R_base ho1)) (Kd.R_base ho2)) (Kd.R_base ho3)) (fun _ h_ => h_.1))
    replace HO579 := A_ (Kd.R_mono (Kd.R_told (Kd.R_told (Kd.R_told (Kd.R_told (Kd.R_old (kr_ HO579.out) hb) (Kd.R_base ho0)) (Kd.R_base ho1)) (Kd.R_base ho2)) (Kd.R_base ho3)) (fun _ h_ => h_.1))
    replace HO586 := A_ (Kd.R_mono (Kd.R_told (Kd.R_told (Kd.R_told (Kd.R_told (Kd.R_old (kr_ HO586.out) hb) (Kd.R_base ho0)) (Kd.R_base ho1)) (Kd.R_base ho2)) (Kd.R_base ho3)) (fun _ h_ => h_.1))
    replace HO589 := A_ (Kd.R_mono (Kd.R_told (Kd.R_told (Kd.R_told (Kd.R_told (Kd.R_old (kr_ HO589.out) hb) (Kd.R_base ho0)) (Kd.R_base ho1)) (Kd.R_base ho2)) (Kd.R_base ho3)) (fun _ h_ => h_.1))
    replace BK573 := A_ (blk_below (bk_ BK573.out) hb)
    replace BK591 := A_ (blk_below (bk_ BK591.out) hb)
    replace BK612 := A_ (blk_below (bk_ BK612.out) hb)
    replace HB := A_ (below_step (bw_ HB.out) hb)
    (try clear hb)
    (try clear hb2)
    (try clear hk)
    (try clear hi)
    (try clear ho0)
    (try clear ho1)
    (try clear ho2)
    (try clear ho3)
    refine hK.out _ _ ⟨(blk_cell BK591.out 0).trans rfl, (blk_cell BK591.out 1).trans rfl, (blk_cell BK591.out 2).trans rfl, (blk_cell BK591.out 3).trans rfl, (blk_cell BK591.out 4).trans rfl, (blk_cell BK591.out 5).trans rfl, (blk_cell BK591.out 6).trans rfl, (blk_cell BK591.out 7).trans rfl, (blk_cell BK591.out 8).trans rfl⟩ (fun hHeld => ?_)
    clear hK K
    refine norm_ (a' := ?_) ?_ ?_
    rotate_left
    ·show Act.put _ (some 41) _ = _
     simp only [Act.put, List.setIfInBounds_toArray, List.set_cons_zero, List.set_cons_succ, i64_w, i32_w]
     rfl
    refine pu_ 6 (some 35) (bm_ 12 639) (any_of HT_.out (by kernel_rfl)) ?_
    refine pu_ 7 (some 42) (bm_ 12 767) (any_of HT_.out (by kernel_rfl)) ?_
    refine pu_ 8 (some 43) (bm_ 12 1023) (any_of HT_.out (by kernel_rfl)) ?_
    exact norm_ d20_ (hCont (v595, v598, v605, v608, gb612) _ ⟨hHeld, (kr_ (Kd.R_mono HO553.out (fun _ hk => (by simp only [hk, ne_eq, not_false_eq_true, and_self, and_true, true_and])))), (kr_ (Kd.R_mono HO555.out (fun _ hk => (by simp only [hk, ne_eq, not_false_eq_true, and_self, and_true, true_and])))), (kr_ (Kd.R_mono HO558.out (fun _ hk => (by simp only [hk, ne_eq, not_false_eq_true, and_self, and_true, true_and])))), (kr_ (Kd.R_mono HO561.out (fun _ hk => (by simp only [hk, ne_eq, not_false_eq_true, and_self, and_true, true_and])))), (kr_ (Kd.R_mono HO568.out (fun _ hk => (by simp only [hk, ne_eq, not_false_eq_true, and_self, and_true, true_and])))), (kr_ (Kd.R_mono HO571.out (fun _ hk => (by simp only [hk, ne_eq, not_false_eq_true, and_self, and_true, true_and])))), (kr_ (Kd.R_mono HO576.out (fun _ hk => (by simp only [hk, ne_eq, not_false_eq_true, and_self, and_true, true_and])))), (kr_ (Kd.R_mono HO579.out (fun _ hk => (by simp only [hk, ne_eq, not_false_eq_true, and_self, and_true, true_and])))), (kr_ (Kd.R_mono HO586.out (fun _ hk => (by simp only [hk, ne_eq, not_false_eq_true, and_self, and_true, true_and])))), (kr_ (Kd.R_mono HO589.out (fun _ hk => (by simp only [hk, ne_eq, not_false_eq_true, and_self, and_true, true_and])))), (kr_ (Kd.R_mono HO596.out (fun _ hk => (by simp only [hk, ne_eq, not_false_eq_true, and_self, and_true, true_and])))), (kr_ (Kd.R_mono HO599.out (fun _ hk => (by simp only [hk, ne_eq, not_false_eq_true, and_self, and_true, true_and])))), (kr_ (Kd.R_mono HO606.out (fun _ hk => (by simp only [hk, ne_eq, not_false_eq_true, and_self, and_true, true_and])))), (kr_ (Kd.R_mono HO609.out (fun _ hk => (by simp only [hk, ne_eq, not_false_eq_true, and_self, and_true, true_and])))), (bk_ BK573.out), (bk_ BK591.out), (bk_ BK612.out), GW612.out, GE612.out, NB573_612.out, NB612_573.out, NB591_612.out, NB612_591.out, (bw_ HB.out)⟩)
  rintro ⟨v595, v598, v605, v608, gb612⟩ w34 ⟨hS_, h0_, h1_, h2_, h3_, h4_, h5_, h6_, h7_, h8_, h9_, h10_, h11_, h12_, h13_, h14_, h15_, h16_, h17_, h18_, h19_, h20_, h21_, h22_, h23_⟩
  have n0_ : Aside0 (Kd.R (Kd.int .i64) 3 w34 w.heap.size (fun k_ => some k_ ≠ (.slice Ao14 t551.length co14 : Value).ownBlock ∧ some k_ ≠ (.slice Ao17 t556.length co17 : Value).ownBlock ∧ some k_ ≠ (.slice Ao19 t559.length co19 : Value).ownBlock ∧ some k_ ≠ (.slice Ao20 t566.length co20 : Value).ownBlock ∧ some k_ ≠ (.slice Ao21 t569.length co21 : Value).ownBlock ∧ some k_ ≠ (.slice Ao24 t574.length co24 : Value).ownBlock ∧ some k_ ≠ (.slice Ao27 t577.length co27 : Value).ownBlock ∧ some k_ ≠ (.slice Ao28 t584.length co28 : Value).ownBlock ∧ some k_ ≠ (.slice Ao29 t587.length co29 : Value).ownBlock ∧ some k_ ≠ (v595 : Value).ownBlock ∧ some k_ ≠ (v598 : Value).ownBlock ∧ some k_ ≠ (v605 : Value).ownBlock ∧ some k_ ≠ (v608 : Value).ownBlock) (.slice Ao13 t548.length co13) t548) := ⟨h0_⟩
  have n1_ : Aside0 (Kd.R (Kd.int .i64) 3 w34 w.heap.size (fun k_ => some k_ ≠ (.slice Ao13 t548.length co13 : Value).ownBlock ∧ some k_ ≠ (.slice Ao17 t556.length co17 : Value).ownBlock ∧ some k_ ≠ (.slice Ao19 t559.length co19 : Value).ownBlock ∧ some k_ ≠ (.slice Ao20 t566.length co20 : Value).ownBlock ∧ some k_ ≠ (.slice Ao21 t569.length co21 : Value).ownBlock ∧ some k_ ≠ (.slice Ao24 t574.length co24 : Value).ownBlock ∧ some k_ ≠ (.slice Ao27 t577.length co27 : Value).ownBlock ∧ some k_ ≠ (.slice Ao28 t584.length co28 : Value).ownBlock ∧ some k_ ≠ (.slice Ao29 t587.length co29 : Value).ownBlock ∧ some k_ ≠ (v595 : Value).ownBlock ∧ some k_ ≠ (v598 : Value).ownBlock ∧ some k_ ≠ (v605 : Value).ownBlock ∧ some k_ ≠ (v608 : Value).ownBlock) (.slice Ao14 t551.length co14) t551) := ⟨h1_⟩
  have n2_ : Aside0 (Kd.R (Kd.int .i64) 3 w34 w.heap.size (fun k_ => some k_ ≠ (.slice Ao13 t548.length co13 : Value).ownBlock ∧ some k_ ≠ (.slice Ao14 t551.length co14 : Value).ownBlock ∧ some k_ ≠ (.slice Ao19 t559.length co19 : Value).ownBlock ∧ some k_ ≠ (.slice Ao20 t566.length co20 : Value).ownBlock ∧ some k_ ≠ (.slice Ao21 t569.length co21 : Value).ownBlock ∧ some k_ ≠ (.slice Ao24 t574.length co24 : Value).ownBlock ∧ some k_ ≠ (.slice Ao27 t577.length co27 : Value).ownBlock ∧ some k_ ≠ (.slice Ao28 t584.length co28 : Value).ownBlock ∧ some k_ ≠ (.slice Ao29 t587.length co29 : Value).ownBlock ∧ some k_ ≠ (v595 : Value).ownBlock ∧ some k_ ≠ (v598 : Value).ownBlock ∧ some k_ ≠ (v605 : Value).ownBlock ∧ some k_ ≠ (v608 : Value).ownBlock) (.slice Ao17 t556.length co17) t556) := ⟨h2_⟩
  have n3_ : Aside0 (Kd.R (Kd.int .i64) 3 w34 w.heap.size (fun k_ => some k_ ≠ (.slice Ao13 t548.length co13 : Value).ownBlock ∧ some k_ ≠ (.slice Ao14 t551.length co14 : Value).ownBlock ∧ some k_ ≠ (.slice Ao17 t556.length co17 : Value).ownBlock ∧ some k_ ≠ (.slice Ao20 t566.length co20 : Value).ownBlock ∧ some k_ ≠ (.slice Ao21 t569.length co21 : Value).ownBlock ∧ some k_ ≠ (.slice Ao24 t574.length co24 : Value).ownBlock ∧ some k_ ≠ (.slice Ao27 t577.length co27 : Value).ownBlock ∧ some k_ ≠ (.slice Ao28 t584.length co28 : Value).ownBlock ∧ some k_ ≠ (.slice Ao29 t587.length co29 : Value).ownBlock ∧ some k_ ≠ (v595 : Value).ownBlock ∧ some k_ ≠ (v598 : Value).ownBlock ∧ some k_ ≠ (v605 : Value).ownBlock ∧ some k_ ≠ (v608 : Value).ownBlock) (.slice Ao19 t559.length co19) t559) := ⟨h3_⟩
  have n4_ : Aside0 (Kd.R (Kd.int .i64) 3 w34 w.heap.size (fun k_ => some k_ ≠ (.slice Ao13 t548.length co13 : Value).ownBlock ∧ some k_ ≠ (.slice Ao14 t551.length co14 : Value).ownBlock ∧ some k_ ≠ (.slice Ao17 t556.length co17 : Value).ownBlock ∧ some k_ ≠ (.slice Ao19 t559.length co19 : Value).ownBlock ∧ some k_ ≠ (.slice Ao21 t569.length co21 : Value).ownBlock ∧ some k_ ≠ (.slice Ao24 t574.length co24 : Value).ownBlock ∧ some k_ ≠ (.slice Ao27 t577.length co27 : Value).ownBlock ∧ some k_ ≠ (.slice Ao28 t584.length co28 : Value).ownBlock ∧ some k_ ≠ (.slice Ao29 t587.length co29 : Value).ownBlock ∧ some k_ ≠ (v595 : Value).ownBlock ∧ some k_ ≠ (v598 : Value).ownBlock ∧ some k_ ≠ (v605 : Value).ownBlock ∧ some k_ ≠ (v608 : Value).ownBlock) (.slice Ao20 t566.length co20) t566) := ⟨h4_⟩
  have n5_ : Aside0 (Kd.R (Kd.int .i64) 3 w34 w.heap.size (fun k_ => some k_ ≠ (.slice Ao13 t548.length co13 : Value).ownBlock ∧ some k_ ≠ (.slice Ao14 t551.length co14 : Value).ownBlock ∧ some k_ ≠ (.slice Ao17 t556.length co17 : Value).ownBlock ∧ some k_ ≠ (.slice Ao19 t559.length co19 : Value).ownBlock ∧ some k_ ≠ (.slice Ao20 t566.length co20 : Value).ownBlock ∧ some k_ ≠ (.slice Ao24 t574.length co24 : Value).ownBlock ∧ some k_ ≠ (.slice Ao27 t577.length co27 : Value).ownBlock ∧ some k_ ≠ (.slice Ao28 t584.length co28 : Value).ownBlock ∧ some k_ ≠ (.slice Ao29 t587.length co29 : Value).ownBlock ∧ some k_ ≠ (v595 : Value).ownBlock ∧ some k_ ≠ (v598 : Value).ownBlock ∧ some k_ ≠ (v605 : Value).ownBlock ∧ some k_ ≠ (v608 : Value).ownBlock) (.slice Ao21 t569.length co21) t569) := ⟨h5_⟩
  have n6_ : Aside0 (Kd.R (Kd.int .i64) 3 w34 w.heap.size (fun k_ => some k_ ≠ (.slice Ao13 t548.length co13 : Value).ownBlock ∧ some k_ ≠ (.slice Ao14 t551.length co14 : Value).ownBlock ∧ some k_ ≠ (.slice Ao17 t556.length co17 : Value).ownBlock ∧ some k_ ≠ (.slice Ao19 t559.length co19 : Value).ownBlock ∧ some k_ ≠ (.slice Ao20 t566.length co20 : Value).ownBlock ∧ some k_ ≠ (.slice Ao21 t569.length co21 : Value).ownBlock ∧ some k_ ≠ (.slice Ao27 t577.length co27 : Value).ownBlock ∧ some k_ ≠ (.slice Ao28 t584.length co28 : Value).ownBlock ∧ some k_ ≠ (.slice Ao29 t587.length co29 : Value).ownBlock ∧ some k_ ≠ (v595 : Value).ownBlock ∧ some k_ ≠ (v598 : Value).ownBlock ∧ some k_ ≠ (v605 : Value).ownBlock ∧ some k_ ≠ (v608 : Value).ownBlock) (.slice Ao24 t574.length co24) t574) := ⟨h6_⟩
  have n7_ : Aside0 (Kd.R (Kd.int .i64) 3 w34 w.heap.size (fun k_ => some k_ ≠ (.slice Ao13 t548.length co13 : Value).ownBlock ∧ some k_ ≠ (.slice Ao14 t551.length co14 : Value).ownBlock ∧ some k_ ≠ (.slice Ao17 t556.length co17 : Value).ownBlock ∧ some k_ ≠ (.slice Ao19 t559.length co19 : Value).ownBlock ∧ some k_ ≠ (.slice Ao20 t566.length co20 : Value).ownBlock ∧ some k_ ≠ (.slice Ao21 t569.length co21 : Value).ownBlock ∧ some k_ ≠ (.slice Ao24 t574.length co24 : Value).ownBlock ∧ some k_ ≠ (.slice Ao28 t584.length co28 : Value).ownBlock ∧ some k_ ≠ (.slice Ao29 t587.length co29 : Value).ownBlock ∧ some k_ ≠ (v595 : Value).ownBlock ∧ some k_ ≠ (v598 : Value).ownBlock ∧ some k_ ≠ (v605 : Value).ownBlock ∧ some k_ ≠ (v608 : Value).ownBlock) (.slice Ao27 t577.length co27) t577) := ⟨h7_⟩
  have n8_ : Aside0 (Kd.R (Kd.int .i64) 3 w34 w.heap.size (fun k_ => some k_ ≠ (.slice Ao13 t548.length co13 : Value).ownBlock ∧ some k_ ≠ (.slice Ao14 t551.length co14 : Value).ownBlock ∧ some k_ ≠ (.slice Ao17 t556.length co17 : Value).ownBlock ∧ some k_ ≠ (.slice Ao19 t559.length co19 : Value).ownBlock ∧ some k_ ≠ (.slice Ao20 t566.length co20 : Value).ownBlock ∧ some k_ ≠ (.slice Ao21 t569.length co21 : Value).ownBlock ∧ some k_ ≠ (.slice Ao24 t574.length co24 : Value).ownBlock ∧ some k_ ≠ (.slice Ao27 t577.length co27 : Value).ownBlock ∧ some k_ ≠ (.slice Ao29 t587.length co29 : Value).ownBlock ∧ some k_ ≠ (v595 : Value).ownBlock ∧ some k_ ≠ (v598 : Value).ownBlock ∧ some k_ ≠ (v605 : Value).ownBlock ∧ some k_ ≠ (v608 : Value).ownBlock) (.slice Ao28 t584.length co28) t584) := ⟨h8_⟩
  have n9_ : Aside0 (Kd.R (Kd.int .i64) 3 w34 w.heap.size (fun k_ => some k_ ≠ (.slice Ao13 t548.length co13 : Value).ownBlock ∧ some k_ ≠ (.slice Ao14 t551.length co14 : Value).ownBlock ∧ some k_ ≠ (.slice Ao17 t556.length co17 : Value).ownBlock ∧ some k_ ≠ (.slice Ao19 t559.length co19 : Value).ownBlock ∧ some k_ ≠ (.slice Ao20 t566.length co20 : Value).ownBlock ∧ some k_ ≠ (.slice Ao21 t569.length co21 : Value).ownBlock ∧ some k_ ≠ (.slice Ao24 t574.length co24 : Value).ownBlock ∧ some k_ ≠ (.slice Ao27 t577.length co27 : Value).ownBlock ∧ some k_ ≠ (.slice Ao28 t584.length co28 : Value).ownBlock ∧ some k_ ≠ (v595 : Value).ownBlock ∧ some k_ ≠ (v598 : Value).ownBlock ∧ some k_ ≠ (v605 : Value).ownBlock ∧ some k_ ≠ (v608 : Value).ownBlock) (.slice Ao29 t587.length co29) t587) := ⟨h9_⟩
  have n10_ : Aside0 (Kd.R (Kd.int .i64) 3 w34 w.heap.size (fun k_ => some k_ ≠ (.slice Ao13 t548.length co13 : Value).ownBlock ∧ some k_ ≠ (.slice Ao14 t551.length co14 : Value).ownBlock ∧ some k_ ≠ (.slice Ao17 t556.length co17 : Value).ownBlock ∧ some k_ ≠ (.slice Ao19 t559.length co19 : Value).ownBlock ∧ some k_ ≠ (.slice Ao20 t566.length co20 : Value).ownBlock ∧ some k_ ≠ (.slice Ao21 t569.length co21 : Value).ownBlock ∧ some k_ ≠ (.slice Ao24 t574.length co24 : Value).ownBlock ∧ some k_ ≠ (.slice Ao27 t577.length co27 : Value).ownBlock ∧ some k_ ≠ (.slice Ao28 t584.length co28 : Value).ownBlock ∧ some k_ ≠ (.slice Ao29 t587.length co29 : Value).ownBlock ∧ some k_ ≠ (v598 : Value).ownBlock ∧ some k_ ≠ (v605 : Value).ownBlock ∧ some k_ ≠ (v608 : Value).ownBlock) v595 t594) := ⟨h10_⟩
  have n11_ : Aside0 (Kd.R (Kd.int .i64) 3 w34 w.heap.size (fun k_ => some k_ ≠ (.slice Ao13 t548.length co13 : Value).ownBlock ∧ some k_ ≠ (.slice Ao14 t551.length co14 : Value).ownBlock ∧ some k_ ≠ (.slice Ao17 t556.length co17 : Value).ownBlock ∧ some k_ ≠ (.slice Ao19 t559.length co19 : Value).ownBlock ∧ some k_ ≠ (.slice Ao20 t566.length co20 : Value).ownBlock ∧ some k_ ≠ (.slice Ao21 t569.length co21 : Value).ownBlock ∧ some k_ ≠ (.slice Ao24 t574.length co24 : Value).ownBlock ∧ some k_ ≠ (.slice Ao27 t577.length co27 : Value).ownBlock ∧ some k_ ≠ (.slice Ao28 t584.length co28 : Value).ownBlock ∧ some k_ ≠ (.slice Ao29 t587.length co29 : Value).ownBlock ∧ some k_ ≠ (v595 : Value).ownBlock ∧ some k_ ≠ (v605 : Value).ownBlock ∧ some k_ ≠ (v608 : Value).ownBlock) v598 t597) := ⟨h11_⟩
  have n12_ : Aside0 (Kd.R (Kd.int .i64) 3 w34 w.heap.size (fun k_ => some k_ ≠ (.slice Ao13 t548.length co13 : Value).ownBlock ∧ some k_ ≠ (.slice Ao14 t551.length co14 : Value).ownBlock ∧ some k_ ≠ (.slice Ao17 t556.length co17 : Value).ownBlock ∧ some k_ ≠ (.slice Ao19 t559.length co19 : Value).ownBlock ∧ some k_ ≠ (.slice Ao20 t566.length co20 : Value).ownBlock ∧ some k_ ≠ (.slice Ao21 t569.length co21 : Value).ownBlock ∧ some k_ ≠ (.slice Ao24 t574.length co24 : Value).ownBlock ∧ some k_ ≠ (.slice Ao27 t577.length co27 : Value).ownBlock ∧ some k_ ≠ (.slice Ao28 t584.length co28 : Value).ownBlock ∧ some k_ ≠ (.slice Ao29 t587.length co29 : Value).ownBlock ∧ some k_ ≠ (v595 : Value).ownBlock ∧ some k_ ≠ (v598 : Value).ownBlock ∧ some k_ ≠ (v608 : Value).ownBlock) v605 t604) := ⟨h12_⟩
  have n13_ : Aside0 (Kd.R (Kd.int .i64) 3 w34 w.heap.size (fun k_ => some k_ ≠ (.slice Ao13 t548.length co13 : Value).ownBlock ∧ some k_ ≠ (.slice Ao14 t551.length co14 : Value).ownBlock ∧ some k_ ≠ (.slice Ao17 t556.length co17 : Value).ownBlock ∧ some k_ ≠ (.slice Ao19 t559.length co19 : Value).ownBlock ∧ some k_ ≠ (.slice Ao20 t566.length co20 : Value).ownBlock ∧ some k_ ≠ (.slice Ao21 t569.length co21 : Value).ownBlock ∧ some k_ ≠ (.slice Ao24 t574.length co24 : Value).ownBlock ∧ some k_ ≠ (.slice Ao27 t577.length co27 : Value).ownBlock ∧ some k_ ≠ (.slice Ao28 t584.length co28 : Value).ownBlock ∧ some k_ ≠ (.slice Ao29 t587.length co29 : Value).ownBlock ∧ some k_ ≠ (v595 : Value).ownBlock ∧ some k_ ≠ (v598 : Value).ownBlock ∧ some k_ ≠ (v605 : Value).ownBlock) v608 t607) := ⟨h13_⟩
  have n14_ : Aside0 (w34.heap[gb573]? = some (.cells #[.slice Ao17 t556.length co17, .slice Ao19 t559.length co19, .bool t562, .bool t563, .bool t564, .bool t565, .slice Ao20 t566.length co20, .slice Ao21 t569.length co21, .int .i64 t572] 28 (0, 0))) := ⟨h14_⟩
  have n15_ : Aside0 (w34.heap[gb591]? = some (.cells #[.slice Ao24 t574.length co24, .slice Ao27 t577.length co27, .bool t580, .bool t581, .bool t582, .bool t583, .slice Ao28 t584.length co28, .slice Ao29 t587.length co29, .int .i64 t590] 28 (0, 0))) := ⟨h15_⟩
  have n16_ : Aside0 (w34.heap[gb612]? = some (.cells #[.slice none 0 0, .slice none 0 0, .bool false, .bool false, .bool false, .bool false, .slice none 0 0, .slice none 0 0, .int .i64 0] 28 (0, 0))) := ⟨h16_⟩
  have n17_ : Aside0 (w.heap.size ≤ gb612) := ⟨h17_⟩
  have n18_ : Aside0 (w.heap.size ≤ gb612) := ⟨h18_⟩
  have n19_ : Aside0 (gb573 ≠ gb612) := ⟨h19_⟩
  have n20_ : Aside0 (gb612 ≠ gb573) := ⟨h20_⟩
  have n21_ : Aside0 (gb591 ≠ gb612) := ⟨h21_⟩
  have n22_ : Aside0 (gb612 ≠ gb591) := ⟨h22_⟩
  have n23_ : Aside0 (Below w.heap.size w w34) := ⟨h23_⟩
  clear HO553
  clear HO555
  clear HO558
  clear HO561
  clear HO568
  clear HO571
  clear HO576
  clear HO579
  clear HO586
  clear HO589
  clear BK573
  clear BK591
  clear HB
  clear h0_ h1_ h2_ h3_ h4_ h5_ h6_ h7_ h8_ h9_ h10_ h11_ h12_ h13_ h14_ h15_ h16_ h17_ h18_ h19_ h20_ h21_ h22_ h23_
  have HO553 := n0_
  have HO555 := n1_
  have HO558 := n2_
  have HO561 := n3_
  have HO568 := n4_
  have HO571 := n5_
  have HO576 := n6_
  have HO579 := n7_
  have HO586 := n8_
  have HO589 := n9_
  have HO596 := n10_
  have HO599 := n11_
  have HO606 := n12_
  have HO609 := n13_
  have BK573 := n14_
  have BK591 := n15_
  have BK612 := n16_
  have GW612 := n17_
  have GE612 := n18_
  have GI612 := GeI.mk GE612.out
  have NB573_612 := n19_
  have NB612_573 := n20_
  have NB591_612 := n21_
  have NB612_591 := n22_
  have HB := n23_
  clear n0_ n1_ n2_ n3_ n4_ n5_ n6_ n7_ n8_ n9_ n10_ n11_ n12_ n13_ n14_ n15_ n16_ n17_ n18_ n19_ n20_ n21_ n22_ n23_
  have hHeld : w34.cell? ⟨gb591, 0, none⟩ = some (.slice Ao24 t574.length co24) ∧ w34.cell? ⟨gb591, 1, none⟩ = some (.slice Ao27 t577.length co27) ∧ w34.cell? ⟨gb591, 2, none⟩ = some (.bool t580) ∧ w34.cell? ⟨gb591, 3, none⟩ = some (.bool t581) ∧ w34.cell? ⟨gb591, 4, none⟩ = some (.bool t582) ∧ w34.cell? ⟨gb591, 5, none⟩ = some (.bool t583) ∧ w34.cell? ⟨gb591, 6, none⟩ = some (.slice Ao28 t584.length co28) ∧ w34.cell? ⟨gb591, 7, none⟩ = some (.slice Ao29 t587.length co29) ∧ w34.cell? ⟨gb591, 8, none⟩ = some (.int .i64 t590) := hS_
  obtain ⟨Ao35, co35, eo35⟩ := Kd.R_slice HO596.out
  (first | subst eo35 | (injection eo35 with f1_ f2_ f3_; have f4_ := f1_.symm; have f5_ := f3_.symm; clear f1_ f2_ f3_; subst f4_; subst f5_))
  obtain ⟨Ao37, co37, eo37⟩ := Kd.R_slice HO599.out
  (first | subst eo37 | (injection eo37 with f1_ f2_ f3_; have f4_ := f1_.symm; have f5_ := f3_.symm; clear f1_ f2_ f3_; subst f4_; subst f5_))
  obtain ⟨Ao43, co43, eo43⟩ := Kd.R_slice HO606.out
  (first | subst eo43 | (injection eo43 with f1_ f2_ f3_; have f4_ := f1_.symm; have f5_ := f3_.symm; clear f1_ f2_ f3_; subst f4_; subst f5_))
  obtain ⟨Ao45, co45, eo45⟩ := Kd.R_slice HO609.out
  (first | subst eo45 | (injection eo45 with f1_ f2_ f3_; have f4_ := f1_.symm; have f5_ := f3_.symm; clear f1_ f2_ f3_; subst f4_; subst f5_))
  refine norm_ (a' := ?_) ?_ ?_
  rotate_left
  ·simp only [putAll, Act.put, List.setIfInBounds_toArray, List.set_cons_zero, List.set_cons_succ]
   rfl
  refine one_ (i := 10) (N := none) (bm_ 12 2047) rfl rfl (one_of HT_.out (by kernel_rfl)) (by decide) (fun K hK => ?_)
  have hs36 : w34.cell? ⟨gb612, 0, none⟩ = some (.slice none 0 0) := (blk_cell BK612.out 0).trans rfl
  have hfs36 := blk_frozen BK612.out 0
  have hns36_0 := NB573_612.out
  have hns36_1 := NB591_612.out
  have hms36_0 := NB612_573.out
  have hms36_1 := NB612_591.out
  have hs38 : w34.cell? ⟨gb612, 1, none⟩ = some (.slice none 0 0) := (blk_cell BK612.out 1).trans rfl
  have hfs38 := blk_frozen BK612.out 1
  have hns38_0 := NB573_612.out
  have hns38_1 := NB591_612.out
  have hms38_0 := NB612_573.out
  have hms38_1 := NB612_591.out
  have hs39 : w34.cell? ⟨gb612, 2, none⟩ = some (.bool false) := (blk_cell BK612.out 2).trans rfl
  have hfs39 := blk_frozen BK612.out 2
  have hns39_0 := NB573_612.out
  have hns39_1 := NB591_612.out
  have hms39_0 := NB612_573.out
  have hms39_1 := NB612_591.out
  have hs40 : w34.cell? ⟨gb612, 3, none⟩ = some (.bool false) := (blk_cell BK612.out 3).trans rfl
  have hfs40 := blk_frozen BK612.out 3
  have hns40_0 := NB573_612.out
  have hns40_1 := NB591_612.out
  have hms40_0 := NB612_573.out
  have hms40_1 := NB612_591.out
  have hs41 : w34.cell? ⟨gb612, 4, none⟩ = some (.bool false) := (blk_cell BK612.out 4).trans rfl
  have hfs41 := blk_frozen BK612.out 4
  have hns41_0 := NB573_612.out
  have hns41_1 := NB591_612.out
  have hms41_0 := NB612_573.out
  have hms41_1 := NB612_591.out
  have hs42 : w34.cell? ⟨gb612, 5, none⟩ = some (.bool false) := (blk_cell BK612.out 5).trans rfl
  have hfs42 := blk_frozen BK612.out 5
  have hns42_0 := NB573_612.out
  have hns42_1 := NB591_612.out
  have hms42_0 := NB612_573.out
  have hms42_1 := NB612_591.out
  have hs44 : w34.cell? ⟨gb612, 6, none⟩ = some (.slice none 0 0) := (blk_cell BK612.out 6).trans rfl
  have hfs44 := blk_frozen BK612.out 6
  have hns44_0 := NB573_612.out
  have hns44_1 := NB591_612.out
  have hms44_0 := NB612_573.out
  have hms44_1 := NB612_591.out
  have hs46 : w34.cell? ⟨gb612, 7, none⟩ = some (.slice none 0 0) := (blk_cell BK612.out 7).trans rfl
  have hfs46 := blk_frozen BK612.out 7
  have hns46_0 := NB573_612.out
  have hns46_1 := NB591_612.out
  have hms46_0 := NB612_573.out
  have hms46_1 := NB612_591.out
  have hs47 : w34.cell? ⟨gb612, 8, none⟩ = some (.int .i64 0) := (blk_cell BK612.out 8).trans rfl
  have hfs47 := blk_frozen BK612.out 8
  have hns47_0 := NB573_612.out
  have hns47_1 := NB591_612.out
  have hms47_0 := NB612_573.out
  have hms47_1 := NB612_591.out
  refine skip_ (w1 := ?_) (by rfl) rfl ?_ ?_
  rotate_left
  ·go_simp
   rfl
  refine hK.out _ _ ⟨((cell_far (p := ⟨gb612, _, none⟩) NB591_612.out _).trans (((cell_far (p := ⟨gb612, _, none⟩) NB591_612.out _).trans (((cell_far (p := ⟨gb612, _, none⟩) NB591_612.out _).trans (((cell_far (p := ⟨gb612, _, none⟩) NB591_612.out _).trans (((cell_far (p := ⟨gb612, _, none⟩) NB591_612.out _).trans (((cell_far (p := ⟨gb612, _, none⟩) NB591_612.out _).trans (((cell_far (p := ⟨gb612, _, none⟩) NB591_612.out _).trans (((cell_far (p := ⟨gb612, _, none⟩) NB591_612.out _).trans (((cell_far (p := ⟨gb612, _, none⟩) NB591_612.out _).trans (hHeld.1)))))))))))))))))), ((cell_far (p := ⟨gb612, _, none⟩) NB591_612.out _).trans (((cell_far (p := ⟨gb612, _, none⟩) NB591_612.out _).trans (((cell_far (p := ⟨gb612, _, none⟩) NB591_612.out _).trans (((cell_far (p := ⟨gb612, _, none⟩) NB591_612.out _).trans (((cell_far (p := ⟨gb612, _, none⟩) NB591_612.out _).trans (((cell_far (p := ⟨gb612, _, none⟩) NB591_612.out _).trans (((cell_far (p := ⟨gb612, _, none⟩) NB591_612.out _).trans (((cell_far (p := ⟨gb612, _, none⟩) NB591_612.out _).trans (((cell_far (p := ⟨gb612, _, none⟩) NB591_612.out _).trans (hHeld.2.1)))))))))))))))))), ((cell_far (p := ⟨gb612, _, none⟩) NB591_612.out _).trans (((cell_far (p := ⟨gb612, _, none⟩) NB591_612.out _).trans (((cell_far (p := ⟨gb612, _, none⟩) NB591_612.out _).trans (((cell_far (p := ⟨gb612, _, none⟩) NB591_612.out _).trans (((cell_far (p := ⟨gb612, _, none⟩) NB591_612.out _).trans (((cell_far (p := ⟨gb612, _, none⟩) NB591_612.out _).trans (((cell_far (p := ⟨gb612, _, none⟩) NB591_612.out _).trans (((cell_far (p := ⟨gb612, _, none⟩) NB591_612.out _).trans (((cell_far (p := ⟨gb612, _, none⟩) NB591_612.out _).trans (hHeld.2.2.1)))))))))))))))))), ((cell_far (p := ⟨gb612, _, none⟩) NB591_612.out _).trans (((cell_far (p := ⟨gb612, _, none⟩) NB591_612.out _).trans (((cell_far (p := ⟨gb612, _, none⟩) NB591_612.out _).trans (((cell_far (p := ⟨gb612, _, none⟩) NB591_612.out _).trans (((cell_far (p := ⟨gb612, _, none⟩) NB591_612.out _).trans (((cell_far (p := ⟨gb612, _, none⟩) NB591_612.out _).trans (((cell_far (p := ⟨gb612, _, none⟩) NB591_612.out _).trans (((cell_far (p := ⟨gb612, _, none⟩) NB591_612.out _).trans (((cell_far (p := ⟨gb612, _, none⟩) NB591_612.out _).trans (hHeld.2.2.2.1)))))))))))))))))), ((cell_far (p := ⟨gb612, _, none⟩) NB591_612.out _).trans (((cell_far (p := ⟨gb612, _, none⟩) NB591_612.out _).trans (((cell_far (p := ⟨gb612, _, none⟩) NB591_612.out _).trans (((cell_far (p := ⟨gb612, _, none⟩) NB591_612.out _).trans (((cell_far (p := ⟨gb612, _, none⟩) NB591_612.out _).trans (((cell_far (p := ⟨gb612, _, none⟩) NB591_612.out _).trans (((cell_far (p := ⟨gb612, _, none⟩) NB591_612.out _).trans (((cell_far (p := ⟨gb612, _, none⟩) NB591_612.out _).trans (((cell_far (p := ⟨gb612, _, none⟩) NB591_612.out _).trans (hHeld.2.2.2.2.1)))))))))))))))))), ((cell_far (p := ⟨gb612, _, none⟩) NB591_612.out _).trans (((cell_far (p := ⟨gb612, _, none⟩) NB591_612.out _).trans (((cell_far (p := ⟨gb612, _, none⟩) NB591_612.out _).trans (((cell_far (p := ⟨gb612, _, none⟩) NB591_612.out _).trans (((cell_far (p := ⟨gb612, _, none⟩) NB591_612.out _).trans (((cell_far (p := ⟨gb612, _, none⟩) NB591_612.out _).trans (((cell_far (p := ⟨gb612, _, none⟩) NB591_612.out _).trans (((cell_far (p := ⟨gb612, _, none⟩) NB591_612.out _).trans (((cell_far (p := ⟨gb612, _, none⟩) NB591_612.out _).trans (hHeld.2.2.2.2.2.1)))))))))))))))))), ((cell_far (p := ⟨gb612, _, none⟩) NB591_612.out _).trans (((cell_far (p := ⟨gb612, _, none⟩) NB591_612.out _).trans (((cell_far (p := ⟨gb612, _, none⟩) NB591_612.out _).trans (((cell_far (p := ⟨gb612, _, none⟩) NB591_612.out _).trans (((cell_far (p := ⟨gb612, _, none⟩) NB591_612.out _).trans (((cell_far (p := ⟨gb612, _, none⟩) NB591_612.out _).trans (((cell_far (p := ⟨gb612, _, none⟩) NB591_612.out _).trans (((cell_far (p := ⟨gb612, _, none⟩) NB591_612.out _).trans (((cell_far (p := ⟨gb612, _, none⟩) NB591_612.out _).trans (hHeld.2.2.2.2.2.2.1)))))))))))))))))), ((cell_far (p := ⟨gb612, _, none⟩) NB591_612.out _).trans (((cell_far (p := ⟨gb612, _, none⟩) NB591_612.out _).trans (((cell_far (p := ⟨gb612, _, none⟩) NB591_612.out _).trans (((cell_far (p := ⟨gb612, _, none⟩) NB591_612.out _).trans (((cell_far (p := ⟨gb612, _, none⟩) NB591_612.out _).trans (((cell_far (p := ⟨gb612, _, none⟩) NB591_612.out _).trans (((cell_far (p := ⟨gb612, _, none⟩) NB591_612.out _).trans (((cell_far (p := ⟨gb612, _, none⟩) NB591_612.out _).trans (((cell_far (p := ⟨gb612, _, none⟩) NB591_612.out _).trans (hHeld.2.2.2.2.2.2.2.1)))))))))))))))))), ((cell_far (p := ⟨gb612, _, none⟩) NB591_612.out _).trans (((cell_far (p := ⟨gb612, _, none⟩) NB591_612.out _).trans (((cell_far (p := ⟨gb612, _, none⟩) NB591_612.out _).trans (((cell_far (p := ⟨gb612, _, none⟩) NB591_612.out _).trans (((cell_far (p := ⟨gb612, _, none⟩) NB591_612.out _).trans (((cell_far (p := ⟨gb612, _, none⟩) NB591_612.out _).trans (((cell_far (p := ⟨gb612, _, none⟩) NB591_612.out _).trans (((cell_far (p := ⟨gb612, _, none⟩) NB591_612.out _).trans (((cell_far (p := ⟨gb612, _, none⟩) NB591_612.out _).trans (hHeld.2.2.2.2.2.2.2.2))))))))))))))))))⟩ (fun hHeld => ?_)
  clear hK K
  refine pu_ 11 (some 11) (bm_ 12 4095) (any_of HT_.out (by kernel_rfl)) ?_
  refine done_ (done_of HT_.out (by kernel_rfl)) ?_
  have hnb48 := NB612_573.out
  have hnc48 := NB573_612.out
  have hnb49 := NB612_591.out
  have hnc49 := NB591_612.out
  obtain ⟨y50_0, y50_1, y50_2, y50_3, y50_4, y50_5, y50_6, y50_7, y50_8, z50_0, z50_1, z50_2, z50_3, z50_4, z50_5, z50_6, z50_7, z50_8⟩ := cz9_ BK612.out
  go_upto_region 9 with (first | ((with_reducible refine gate_callee (f := 18) rfl ?_); refine gL_ (some 47) Try.func18 #[.agg #[.slice Ao35 t594.length co35, .slice Ao37 t597.length co37, .bool t600, .bool t601, .bool t602, .bool t603, .slice Ao43 t604.length co43, .slice Ao45 t607.length co45, .int .i64 t610], .int .i64 (wrap64 (2 * (Int.tmod t592 256)))] ?_; (with_reducible refine (impl_ReadW.calls _ _ t594 _ _ t597 t600 t601 t602 t603 _ _ t604 _ _ t607 t610 (wrap64 (2 * (Int.tmod t592 256))) t613 t614 _ ?side1 ?side2 ?side3 ?side4 ?side5 ?side6 ?side7 ?side8 A10.out).mono ?_); (case side1 => refine (Kd.R_reads' (e := 3) (base := w.heap.size) (ok := fun k_ => (some k_ ≠ (.slice Ao13 t548.length co13 : Value).ownBlock ∧ (some k_ ≠ (.slice Ao14 t551.length co14 : Value).ownBlock ∧ (some k_ ≠ (.slice Ao17 t556.length co17 : Value).ownBlock ∧ (some k_ ≠ (.slice Ao19 t559.length co19 : Value).ownBlock ∧ (some k_ ≠ (.slice Ao20 t566.length co20 : Value).ownBlock ∧ (some k_ ≠ (.slice Ao21 t569.length co21 : Value).ownBlock ∧ (some k_ ≠ (.slice Ao24 t574.length co24 : Value).ownBlock ∧ (some k_ ≠ (.slice Ao27 t577.length co27 : Value).ownBlock ∧ (some k_ ≠ (.slice Ao28 t584.length co28 : Value).ownBlock ∧ (some k_ ≠ (.slice Ao29 t587.length co29 : Value).ownBlock ∧ (some k_ ≠ (.slice Ao37 t597.length co37 : Value).ownBlock ∧ (some k_ ≠ (.slice Ao43 t604.length co43 : Value).ownBlock ∧ some k_ ≠ (.slice Ao45 t607.length co45 : Value).ownBlock))))))))))))) (n := t594.length) (c := co35) ?_).2.2; exact (kr_ (Kd.R_mono (rf9_ (Kd.R_types HO596.out BK612.out (by decide)) (fun _ hk => hk.2)) (fun _ h_ => h_.1)))); (case side2 => exact (Kd.R_reads' HO596.out).2.1); (case side3 => refine (Kd.R_reads' (e := 3) (base := w.heap.size) (ok := fun k_ => (some k_ ≠ (.slice Ao13 t548.length co13 : Value).ownBlock ∧ (some k_ ≠ (.slice Ao14 t551.length co14 : Value).ownBlock ∧ (some k_ ≠ (.slice Ao17 t556.length co17 : Value).ownBlock ∧ (some k_ ≠ (.slice Ao19 t559.length co19 : Value).ownBlock ∧ (some k_ ≠ (.slice Ao20 t566.length co20 : Value).ownBlock ∧ (some k_ ≠ (.slice Ao21 t569.length co21 : Value).ownBlock ∧ (some k_ ≠ (.slice Ao24 t574.length co24 : Value).ownBlock ∧ (some k_ ≠ (.slice Ao27 t577.length co27 : Value).ownBlock ∧ (some k_ ≠ (.slice Ao28 t584.length co28 : Value).ownBlock ∧ (some k_ ≠ (.slice Ao29 t587.length co29 : Value).ownBlock ∧ (some k_ ≠ (.slice Ao35 t594.length co35 : Value).ownBlock ∧ (some k_ ≠ (.slice Ao43 t604.length co43 : Value).ownBlock ∧ some k_ ≠ (.slice Ao45 t607.length co45 : Value).ownBlock))))))))))))) (n := t597.length) (c := co37) ?_).2.2; exact (kr_ (Kd.R_mono (rf9_ (Kd.R_types HO599.out BK612.out (by decide)) (fun _ hk => hk.2)) (fun _ h_ => h_.1)))); (case side4 => exact (Kd.R_reads' HO599.out).2.1); (case side5 => refine (Kd.R_reads' (e := 3) (base := w.heap.size) (ok := fun k_ => (some k_ ≠ (.slice Ao13 t548.length co13 : Value).ownBlock ∧ (some k_ ≠ (.slice Ao14 t551.length co14 : Value).ownBlock ∧ (some k_ ≠ (.slice Ao17 t556.length co17 : Value).ownBlock ∧ (some k_ ≠ (.slice Ao19 t559.length co19 : Value).ownBlock ∧ (some k_ ≠ (.slice Ao20 t566.length co20 : Value).ownBlock ∧ (some k_ ≠ (.slice Ao21 t569.length co21 : Value).ownBlock ∧ (some k_ ≠ (.slice Ao24 t574.length co24 : Value).ownBlock ∧ (some k_ ≠ (.slice Ao27 t577.length co27 : Value).ownBlock ∧ (some k_ ≠ (.slice Ao28 t584.length co28 : Value).ownBlock ∧ (some k_ ≠ (.slice Ao29 t587.length co29 : Value).ownBlock ∧ (some k_ ≠ (.slice Ao35 t594.length co35 : Value).ownBlock ∧ (some k_ ≠ (.slice Ao37 t597.length co37 : Value).ownBlock ∧ some k_ ≠ (.slice Ao45 t607.length co45 : Value).ownBlock))))))))))))) (n := t604.length) (c := co43) ?_).2.2; exact (kr_ (Kd.R_mono (rf9_ (Kd.R_types HO606.out BK612.out (by decide)) (fun _ hk => hk.2)) (fun _ h_ => h_.1)))); (case side6 => exact (Kd.R_reads' HO606.out).2.1); (case side7 => refine (Kd.R_reads' (e := 3) (base := w.heap.size) (ok := fun k_ => (some k_ ≠ (.slice Ao13 t548.length co13 : Value).ownBlock ∧ (some k_ ≠ (.slice Ao14 t551.length co14 : Value).ownBlock ∧ (some k_ ≠ (.slice Ao17 t556.length co17 : Value).ownBlock ∧ (some k_ ≠ (.slice Ao19 t559.length co19 : Value).ownBlock ∧ (some k_ ≠ (.slice Ao20 t566.length co20 : Value).ownBlock ∧ (some k_ ≠ (.slice Ao21 t569.length co21 : Value).ownBlock ∧ (some k_ ≠ (.slice Ao24 t574.length co24 : Value).ownBlock ∧ (some k_ ≠ (.slice Ao27 t577.length co27 : Value).ownBlock ∧ (some k_ ≠ (.slice Ao28 t584.length co28 : Value).ownBlock ∧ (some k_ ≠ (.slice Ao29 t587.length co29 : Value).ownBlock ∧ (some k_ ≠ (.slice Ao35 t594.length co35 : Value).ownBlock ∧ (some k_ ≠ (.slice Ao37 t597.length co37 : Value).ownBlock ∧ some k_ ≠ (.slice Ao43 t604.length co43 : Value).ownBlock))))))))))))) (n := t607.length) (c := co45) ?_).2.2; exact (kr_ (Kd.R_mono (rf9_ (Kd.R_types HO609.out BK612.out (by decide)) (fun _ hk => hk.2)) (fun _ h_ => h_.1)))); (case side8 => exact (Kd.R_reads' HO609.out).2.1); rintro e w51 ⟨rfl, hb⟩; refine ⟨_, rfl, ?_⟩; replace HO553 := A_ (Kd.R_below (kr_ (Kd.R_mono (rf9_ (Kd.R_types HO553.out BK612.out (by decide)) (fun _ hk => hk.2)) (fun _ h_ => h_.1))) hb); replace HO555 := A_ (Kd.R_below (kr_ (Kd.R_mono (rf9_ (Kd.R_types HO555.out BK612.out (by decide)) (fun _ hk => hk.2)) (fun _ h_ => h_.1))) hb); replace HO558 := A_ (Kd.R_below (kr_ (Kd.R_mono (rf9_ (Kd.R_types HO558.out BK612.out (by decide)) (fun _ hk => hk.2)) (fun _ h_ => h_.1))) hb); replace HO561 := A_ (Kd.R_below (kr_ (Kd.R_mono (rf9_ (Kd.R_types HO561.out BK612.out (by decide)) (fun _ hk => hk.2)) (fun _ h_ => h_.1))) hb); replace HO568 := A_ (Kd.R_below (kr_ (Kd.R_mono (rf9_ (Kd.R_types HO568.out BK612.out (by decide)) (fun _ hk => hk.2)) (fun _ h_ => h_.1))) hb); replace HO571 := A_ (Kd.R_below (kr_ (Kd.R_mono (rf9_ (Kd.R_types HO571.out BK612.out (by decide)) (fun _ hk => hk.2)) (fun _ h_ => h_.1))) hb); replace HO576 := A_ (Kd.R_below (kr_ (Kd.R_mono (rf9_ (Kd.R_types HO576.out BK612.out (by decide)) (fun _ hk => hk.2)) (fun _ h_ => h_.1))) hb); replace HO579 := A_ (Kd.R_below (kr_ (Kd.R_mono (rf9_ (Kd.R_types HO579.out BK612.out (by decide)) (fun _ hk => hk.2)) (fun _ h_ => h_.1))) hb); replace HO586 := A_ (Kd.R_below (kr_ (Kd.R_mono (rf9_ (Kd.R_types HO586.out BK612.out (by decide)) (fun _ hk => hk.2)) (fun _ h_ => h_.1))) hb); replace HO589 := A_ (Kd.R_below (kr_ (Kd.R_mono (rf9_ (Kd.R_types HO589.out BK612.out (by decide)) (fun _ hk => hk.2)) (fun _ h_ => h_.1))) hb); replace HO596 := A_ (Kd.R_below (kr_ (Kd.R_mono (rf9_ (Kd.R_types HO596.out BK612.out (by decide)) (fun _ hk => hk.2)) (fun _ h_ => h_.1))) hb); replace HO599 := A_ (Kd.R_below (kr_ (Kd.R_mono (rf9_ (Kd.R_types HO599.out BK612.out (by decide)) (fun _ hk => hk.2)) (fun _ h_ => h_.1))) hb); replace HO606 := A_ (Kd.R_below (kr_ (Kd.R_mono (rf9_ (Kd.R_types HO606.out BK612.out (by decide)) (fun _ hk => hk.2)) (fun _ h_ => h_.1))) hb); replace HO609 := A_ (Kd.R_below (kr_ (Kd.R_mono (rf9_ (Kd.R_types HO609.out BK612.out (by decide)) (fun _ hk => hk.2)) (fun _ h_ => h_.1))) hb); replace BK573 := A_ (blk_below (g := gb573) (o := .cells #[.slice Ao17 t556.length co17, .slice Ao19 t559.length co19, .bool t562, .bool t563, .bool t564, .bool t565, .slice Ao20 t566.length co20, .slice Ao21 t569.length co21, .int .i64 t572] 28 (0, 0)) (by refine bk_ ?_; refine blk_far ?_ NB573_612.out _; refine bk_ ?_; refine blk_far ?_ NB573_612.out _; refine bk_ ?_; refine blk_far ?_ NB573_612.out _; refine bk_ ?_; refine blk_far ?_ NB573_612.out _; refine bk_ ?_; refine blk_far ?_ NB573_612.out _; refine bk_ ?_; refine blk_far ?_ NB573_612.out _; refine bk_ ?_; refine blk_far ?_ NB573_612.out _; refine bk_ ?_; refine blk_far ?_ NB573_612.out _; refine bk_ ?_; refine blk_far ?_ NB573_612.out _; refine bk_ ?_; exact BK573.out) hb); replace BK591 := A_ (blk_below (g := gb591) (o := .cells #[.slice Ao24 t574.length co24, .slice Ao27 t577.length co27, .bool t580, .bool t581, .bool t582, .bool t583, .slice Ao28 t584.length co28, .slice Ao29 t587.length co29, .int .i64 t590] 28 (0, 0)) (by refine bk_ ?_; refine blk_far ?_ NB591_612.out _; refine bk_ ?_; refine blk_far ?_ NB591_612.out _; refine bk_ ?_; refine blk_far ?_ NB591_612.out _; refine bk_ ?_; refine blk_far ?_ NB591_612.out _; refine bk_ ?_; refine blk_far ?_ NB591_612.out _; refine bk_ ?_; refine blk_far ?_ NB591_612.out _; refine bk_ ?_; refine blk_far ?_ NB591_612.out _; refine bk_ ?_; refine blk_far ?_ NB591_612.out _; refine bk_ ?_; refine blk_far ?_ NB591_612.out _; refine bk_ ?_; exact BK591.out) hb); replace BK612 := A_ (blk_below (g := gb612) (o := .cells #[.slice Ao35 t594.length co35, .slice Ao37 t597.length co37, .bool t600, .bool t601, .bool t602, .bool t603, .slice Ao43 t604.length co43, .slice Ao45 t607.length co45, .int .i64 t610] 28 (0, 0)) (by exact bk_ (bp9_ (bk_ BK612.out))) hb); replace HB := A_ (below_step (bw_ HB.out) hb); (try clear hb); (try clear hb2); (try clear hk); (try clear hi)))
  (try simp only [Act.put, List.setIfInBounds_toArray, List.set_cons_zero, List.set_cons_succ])
  go_cut [87] (fun v87 wc => ∃ (kq : Nat) (x87_10 : Bool), v87 = .bool x87_10 ∧ Aside0 (laws_FnMachs.j0 kq (wrap64 (2 * (Int.tmod t592 256))) x87_10 t574 t577 t580 t581 t582 t583 t584 t587 t590 t594 t597 t600 t601 t602 t603 t604 t607 t610 = some r) ∧ Aside0 (kq ≤ k) ∧ Aside0 (Kd.R (Kd.int .i64) 3 wc w.heap.size (fun k_ => some k_ ≠ ((.slice Ao19 t559.length co19) : Value).ownBlock ∧ some k_ ≠ ((.slice Ao20 t566.length co20) : Value).ownBlock ∧ some k_ ≠ ((.slice Ao21 t569.length co21) : Value).ownBlock ∧ some k_ ≠ ((.slice Ao24 t574.length co24) : Value).ownBlock ∧ some k_ ≠ ((.slice Ao27 t577.length co27) : Value).ownBlock ∧ some k_ ≠ ((.slice Ao28 t584.length co28) : Value).ownBlock ∧ some k_ ≠ ((.slice Ao29 t587.length co29) : Value).ownBlock ∧ some k_ ≠ ((.slice Ao35 t594.length co35) : Value).ownBlock ∧ some k_ ≠ ((.slice Ao37 t597.length co37) : Value).ownBlock ∧ some k_ ≠ ((.slice Ao43 t604.length co43) : Value).ownBlock ∧ some k_ ≠ ((.slice Ao45 t607.length co45) : Value).ownBlock) (.slice Ao17 t556.length co17) t556) ∧ Aside0 (Kd.R (Kd.int .i64) 3 wc w.heap.size (fun k_ => some k_ ≠ ((.slice Ao17 t556.length co17) : Value).ownBlock ∧ some k_ ≠ ((.slice Ao20 t566.length co20) : Value).ownBlock ∧ some k_ ≠ ((.slice Ao21 t569.length co21) : Value).ownBlock ∧ some k_ ≠ ((.slice Ao24 t574.length co24) : Value).ownBlock ∧ some k_ ≠ ((.slice Ao27 t577.length co27) : Value).ownBlock ∧ some k_ ≠ ((.slice Ao28 t584.length co28) : Value).ownBlock ∧ some k_ ≠ ((.slice Ao29 t587.length co29) : Value).ownBlock ∧ some k_ ≠ ((.slice Ao35 t594.length co35) : Value).ownBlock ∧ some k_ ≠ ((.slice Ao37 t597.length co37) : Value).ownBlock ∧ some k_ ≠ ((.slice Ao43 t604.length co43) : Value).ownBlock ∧ some k_ ≠ ((.slice Ao45 t607.length co45) : Value).ownBlock) (.slice Ao19 t559.length co19) t559) ∧ Aside0 (Kd.R (Kd.int .i64) 3 wc w.heap.size (fun k_ => some k_ ≠ ((.slice Ao17 t556.length co17) : Value).ownBlock ∧ some k_ ≠ ((.slice Ao19 t559.length co19) : Value).ownBlock ∧ some k_ ≠ ((.slice Ao21 t569.length co21) : Value).ownBlock ∧ some k_ ≠ ((.slice Ao24 t574.length co24) : Value).ownBlock ∧ some k_ ≠ ((.slice Ao27 t577.length co27) : Value).ownBlock ∧ some k_ ≠ ((.slice Ao28 t584.length co28) : Value).ownBlock ∧ some k_ ≠ ((.slice Ao29 t587.length co29) : Value).ownBlock ∧ some k_ ≠ ((.slice Ao35 t594.length co35) : Value).ownBlock ∧ some k_ ≠ ((.slice Ao37 t597.length co37) : Value).ownBlock ∧ some k_ ≠ ((.slice Ao43 t604.length co43) : Value).ownBlock ∧ some k_ ≠ ((.slice Ao45 t607.length co45) : Value).ownBlock) (.slice Ao20 t566.length co20) t566) ∧ Aside0 (Kd.R (Kd.int .i64) 3 wc w.heap.size (fun k_ => some k_ ≠ ((.slice Ao17 t556.length co17) : Value).ownBlock ∧ some k_ ≠ ((.slice Ao19 t559.length co19) : Value).ownBlock ∧ some k_ ≠ ((.slice Ao20 t566.length co20) : Value).ownBlock ∧ some k_ ≠ ((.slice Ao24 t574.length co24) : Value).ownBlock ∧ some k_ ≠ ((.slice Ao27 t577.length co27) : Value).ownBlock ∧ some k_ ≠ ((.slice Ao28 t584.length co28) : Value).ownBlock ∧ some k_ ≠ ((.slice Ao29 t587.length co29) : Value).ownBlock ∧ some k_ ≠ ((.slice Ao35 t594.length co35) : Value).ownBlock ∧ some k_ ≠ ((.slice Ao37 t597.length co37) : Value).ownBlock ∧ some k_ ≠ ((.slice Ao43 t604.length co43) : Value).ownBlock ∧ some k_ ≠ ((.slice Ao45 t607.length co45) : Value).ownBlock) (.slice Ao21 t569.length co21) t569) ∧ Aside0 (Kd.R (Kd.int .i64) 3 wc w.heap.size (fun k_ => some k_ ≠ ((.slice Ao17 t556.length co17) : Value).ownBlock ∧ some k_ ≠ ((.slice Ao19 t559.length co19) : Value).ownBlock ∧ some k_ ≠ ((.slice Ao20 t566.length co20) : Value).ownBlock ∧ some k_ ≠ ((.slice Ao21 t569.length co21) : Value).ownBlock ∧ some k_ ≠ ((.slice Ao27 t577.length co27) : Value).ownBlock ∧ some k_ ≠ ((.slice Ao28 t584.length co28) : Value).ownBlock ∧ some k_ ≠ ((.slice Ao29 t587.length co29) : Value).ownBlock ∧ some k_ ≠ ((.slice Ao35 t594.length co35) : Value).ownBlock ∧ some k_ ≠ ((.slice Ao37 t597.length co37) : Value).ownBlock ∧ some k_ ≠ ((.slice Ao43 t604.length co43) : Value).ownBlock ∧ some k_ ≠ ((.slice Ao45 t607.length co45) : Value).ownBlock) (.slice Ao24 t574.length co24) t574) ∧ Aside0 (Kd.R (Kd.int .i64) 3 wc w.heap.size (fun k_ => some k_ ≠ ((.slice Ao17 t556.length co17) : Value).ownBlock ∧ some k_ ≠ ((.slice Ao19 t559.length co19) : Value).ownBlock ∧ some k_ ≠ ((.slice Ao20 t566.length co20) : Value).ownBlock ∧ some k_ ≠ ((.slice Ao21 t569.length co21) : Value).ownBlock ∧ some k_ ≠ ((.slice Ao24 t574.length co24) : Value).ownBlock ∧ some k_ ≠ ((.slice Ao28 t584.length co28) : Value).ownBlock ∧ some k_ ≠ ((.slice Ao29 t587.length co29) : Value).ownBlock ∧ some k_ ≠ ((.slice Ao35 t594.length co35) : Value).ownBlock ∧ some k_ ≠ ((.slice Ao37 t597.length co37) : Value).ownBlock ∧ some k_ ≠ ((.slice Ao43 t604.length co43) : Value).ownBlock ∧ some k_ ≠ ((.slice Ao45 t607.length co45) : Value).ownBlock) (.slice Ao27 t577.length co27) t577) ∧ Aside0 (Kd.R (Kd.int .i64) 3 wc w.heap.size (fun k_ => some k_ ≠ ((.slice Ao17 t556.length co17) : Value).ownBlock ∧ some k_ ≠ ((.slice Ao19 t559.length co19) : Value).ownBlock ∧ some k_ ≠ ((.slice Ao20 t566.length co20) : Value).ownBlock ∧ some k_ ≠ ((.slice Ao21 t569.length co21) : Value).ownBlock ∧ some k_ ≠ ((.slice Ao24 t574.length co24) : Value).ownBlock ∧ some k_ ≠ ((.slice Ao27 t577.length co27) : Value).ownBlock ∧ some k_ ≠ ((.slice Ao29 t587.length co29) : Value).ownBlock ∧ some k_ ≠ ((.slice Ao35 t594.length co35) : Value).ownBlock ∧ some k_ ≠ ((.slice Ao37 t597.length co37) : Value).ownBlock ∧ some k_ ≠ ((.slice Ao43 t604.length co43) : Value).ownBlock ∧ some k_ ≠ ((.slice Ao45 t607.length co45) : Value).ownBlock) (.slice Ao28 t584.length co28) t584) ∧ Aside0 (Kd.R (Kd.int .i64) 3 wc w.heap.size (fun k_ => some k_ ≠ ((.slice Ao17 t556.length co17) : Value).ownBlock ∧ some k_ ≠ ((.slice Ao19 t559.length co19) : Value).ownBlock ∧ some k_ ≠ ((.slice Ao20 t566.length co20) : Value).ownBlock ∧ some k_ ≠ ((.slice Ao21 t569.length co21) : Value).ownBlock ∧ some k_ ≠ ((.slice Ao24 t574.length co24) : Value).ownBlock ∧ some k_ ≠ ((.slice Ao27 t577.length co27) : Value).ownBlock ∧ some k_ ≠ ((.slice Ao28 t584.length co28) : Value).ownBlock ∧ some k_ ≠ ((.slice Ao35 t594.length co35) : Value).ownBlock ∧ some k_ ≠ ((.slice Ao37 t597.length co37) : Value).ownBlock ∧ some k_ ≠ ((.slice Ao43 t604.length co43) : Value).ownBlock ∧ some k_ ≠ ((.slice Ao45 t607.length co45) : Value).ownBlock) (.slice Ao29 t587.length co29) t587) ∧ Aside0 (Kd.R (Kd.int .i64) 3 wc w.heap.size (fun k_ => some k_ ≠ ((.slice Ao17 t556.length co17) : Value).ownBlock ∧ some k_ ≠ ((.slice Ao19 t559.length co19) : Value).ownBlock ∧ some k_ ≠ ((.slice Ao20 t566.length co20) : Value).ownBlock ∧ some k_ ≠ ((.slice Ao21 t569.length co21) : Value).ownBlock ∧ some k_ ≠ ((.slice Ao24 t574.length co24) : Value).ownBlock ∧ some k_ ≠ ((.slice Ao27 t577.length co27) : Value).ownBlock ∧ some k_ ≠ ((.slice Ao28 t584.length co28) : Value).ownBlock ∧ some k_ ≠ ((.slice Ao29 t587.length co29) : Value).ownBlock ∧ some k_ ≠ ((.slice Ao37 t597.length co37) : Value).ownBlock ∧ some k_ ≠ ((.slice Ao43 t604.length co43) : Value).ownBlock ∧ some k_ ≠ ((.slice Ao45 t607.length co45) : Value).ownBlock) (.slice Ao35 t594.length co35) t594) ∧ Aside0 (Kd.R (Kd.int .i64) 3 wc w.heap.size (fun k_ => some k_ ≠ ((.slice Ao17 t556.length co17) : Value).ownBlock ∧ some k_ ≠ ((.slice Ao19 t559.length co19) : Value).ownBlock ∧ some k_ ≠ ((.slice Ao20 t566.length co20) : Value).ownBlock ∧ some k_ ≠ ((.slice Ao21 t569.length co21) : Value).ownBlock ∧ some k_ ≠ ((.slice Ao24 t574.length co24) : Value).ownBlock ∧ some k_ ≠ ((.slice Ao27 t577.length co27) : Value).ownBlock ∧ some k_ ≠ ((.slice Ao28 t584.length co28) : Value).ownBlock ∧ some k_ ≠ ((.slice Ao29 t587.length co29) : Value).ownBlock ∧ some k_ ≠ ((.slice Ao35 t594.length co35) : Value).ownBlock ∧ some k_ ≠ ((.slice Ao43 t604.length co43) : Value).ownBlock ∧ some k_ ≠ ((.slice Ao45 t607.length co45) : Value).ownBlock) (.slice Ao37 t597.length co37) t597) ∧ Aside0 (Kd.R (Kd.int .i64) 3 wc w.heap.size (fun k_ => some k_ ≠ ((.slice Ao17 t556.length co17) : Value).ownBlock ∧ some k_ ≠ ((.slice Ao19 t559.length co19) : Value).ownBlock ∧ some k_ ≠ ((.slice Ao20 t566.length co20) : Value).ownBlock ∧ some k_ ≠ ((.slice Ao21 t569.length co21) : Value).ownBlock ∧ some k_ ≠ ((.slice Ao24 t574.length co24) : Value).ownBlock ∧ some k_ ≠ ((.slice Ao27 t577.length co27) : Value).ownBlock ∧ some k_ ≠ ((.slice Ao28 t584.length co28) : Value).ownBlock ∧ some k_ ≠ ((.slice Ao29 t587.length co29) : Value).ownBlock ∧ some k_ ≠ ((.slice Ao35 t594.length co35) : Value).ownBlock ∧ some k_ ≠ ((.slice Ao37 t597.length co37) : Value).ownBlock ∧ some k_ ≠ ((.slice Ao45 t607.length co45) : Value).ownBlock) (.slice Ao43 t604.length co43) t604) ∧ Aside0 (Kd.R (Kd.int .i64) 3 wc w.heap.size (fun k_ => some k_ ≠ ((.slice Ao17 t556.length co17) : Value).ownBlock ∧ some k_ ≠ ((.slice Ao19 t559.length co19) : Value).ownBlock ∧ some k_ ≠ ((.slice Ao20 t566.length co20) : Value).ownBlock ∧ some k_ ≠ ((.slice Ao21 t569.length co21) : Value).ownBlock ∧ some k_ ≠ ((.slice Ao24 t574.length co24) : Value).ownBlock ∧ some k_ ≠ ((.slice Ao27 t577.length co27) : Value).ownBlock ∧ some k_ ≠ ((.slice Ao28 t584.length co28) : Value).ownBlock ∧ some k_ ≠ ((.slice Ao29 t587.length co29) : Value).ownBlock ∧ some k_ ≠ ((.slice Ao35 t594.length co35) : Value).ownBlock ∧ some k_ ≠ ((.slice Ao37 t597.length co37) : Value).ownBlock ∧ some k_ ≠ ((.slice Ao43 t604.length co43) : Value).ownBlock) (.slice Ao45 t607.length co45) t607) ∧ Aside0 (wc.heap[gb573]? = some (.cells #[(.slice Ao17 t556.length co17), (.slice Ao19 t559.length co19), .bool t562, .bool t563, .bool t564, .bool t565, (.slice Ao20 t566.length co20), (.slice Ao21 t569.length co21), .int .i64 t572] 28 (0, 0))) ∧ Aside0 (wc.heap[gb591]? = some (.cells #[(.slice Ao24 t574.length co24), (.slice Ao27 t577.length co27), .bool t580, .bool t581, .bool t582, .bool t583, (.slice Ao28 t584.length co28), (.slice Ao29 t587.length co29), .int .i64 t590] 28 (0, 0))) ∧ Aside0 (wc.heap[gb612]? = some (.cells #[(.slice Ao35 t594.length co35), (.slice Ao37 t597.length co37), .bool t600, .bool t601, .bool t602, .bool t603, (.slice Ao43 t604.length co43), (.slice Ao45 t607.length co45), .int .i64 t610] 28 (0, 0))) ∧ Aside0 (Below w.heap.size w wc))
  case first =>
   have H := HC11.out
   clear HC11
   replace H := Option.bind_eq_some_iff.mp H
   obtain ⟨⟨t615, t618, t621, t622, t623, t624, t625, t628, t631⟩, A520, H⟩ := H
   try dsimp only at H
   have A52 := A_ A520
   clear A520
   replace H := Option.bind_eq_some_iff.mp H
   obtain ⟨t632, A530, H⟩ := H
   try dsimp only at H
   have A53 := A_ A530
   clear A530
   by_cases c54 : t632 = true
   ·subst c54
    rw [if_pos rfl] at H
    replace H := Option.bind_eq_some_iff.mp H
    obtain ⟨t633, A550, H⟩ := H
    try dsimp only at H
    have A55 := A_ A550
    clear A550
    by_cases c56 : (t633 != (decide ((t556.length : Int) > 0))) = true
    ·rw [if_pos c56] at H
     have c56b0 : (t633 != (decide ((t556.length : Int) > 0))) = true := c56
     have c56b8 : (t633 != (decide (0 < (t556.length : Int)))) = true := c56b0
     have c56b9 : (t633 != (decide (0 < t556.length))) = true := by simpa using c56b0
     have c56b10 : (!(t633 == (decide (0 < t556.length)))) = true := c56b9
     (try (have c56b1 : decide (t633 = (decide ((t556.length : Int) > 0))) = false := by simpa using c56))
     (try (have c56b2 : (t633 == (decide ((t556.length : Int) > 0))) = false := by simpa using c56))
     (try (have c56b3 : ¬ (t633 = (decide ((t556.length : Int) > 0))) := by simpa using c56))
     clear c56
     (first | rw [c56b0] | (simp only [i64_w, i32_w]; rw [c56b0]) | skip)
     subst hr_
     exact absurd H (by cases k <;> simp [laws_FnMachs.j0])
    ·rw [if_neg c56] at H
     have c56b0 : (t633 != (decide ((t556.length : Int) > 0))) = false := by simpa using c56
     have c56b8 : (t633 != (decide (0 < (t556.length : Int)))) = false := c56b0
     have c56b9 : (t633 != (decide (0 < t556.length))) = false := by simpa using c56b0
     have c56b10 : (!(t633 == (decide (0 < t556.length)))) = false := c56b9
     (try (have c56b1 : decide (t633 = (decide ((t556.length : Int) > 0))) = true := by simpa using c56))
     (try (have c56b2 : (t633 == (decide ((t556.length : Int) > 0))) = true := by simpa using c56))
     clear c56
     (first | rw [c56b0] | (simp only [i64_w, i32_w]; rw [c56b0]) | skip)
     by_cases c65 : t611 = true
     ·subst c65
      rw [if_pos rfl] at H
      by_cases c66 : t614 = true
      ·subst c66
       rw [if_pos rfl] at H
       replace H := Option.bind_eq_some_iff.mp H
       obtain ⟨t634, A670, H⟩ := H
       try dsimp only at H
       have A67 := A_ A670
       clear A670
       replace H := Option.bind_eq_some_iff.mp H
       obtain ⟨t635, A680, H⟩ := H
       try dsimp only at H
       have A68 := A_ A680
       clear A680
       by_cases c69 : t613 = t635
       ·rw [if_pos c69] at H
        have c69b0 := beq_iff_eq.mpr c69
        have c69b1 := bne_eq_false_iff_eq.mpr c69
        clear c69
        replace H := Option.bind_eq_some_iff.mp H
        obtain ⟨t636, A700, H⟩ := H
        try dsimp only at H
        have A70 := A_ A700
        clear A700
        have H' := A_ H
        clear H
        try go_wp2
        replace HO553 := A_ (Kd.R_drew HO553.out)
        replace HO555 := A_ (Kd.R_drew HO555.out)
        replace HO558 := A_ (Kd.R_drew HO558.out)
        replace HO561 := A_ (Kd.R_drew HO561.out)
        replace HO568 := A_ (Kd.R_drew HO568.out)
        replace HO571 := A_ (Kd.R_drew HO571.out)
        replace HO576 := A_ (Kd.R_drew HO576.out)
        replace HO579 := A_ (Kd.R_drew HO579.out)
        replace HO586 := A_ (Kd.R_drew HO586.out)
        replace HO589 := A_ (Kd.R_drew HO589.out)
        replace HO596 := A_ (Kd.R_drew HO596.out)
        replace HO599 := A_ (Kd.R_drew HO599.out)
        replace HO606 := A_ (Kd.R_drew HO606.out)
        replace HO609 := A_ (Kd.R_drew HO609.out)
        replace BK573 := A_ (blk_drew BK573.out)
        replace BK591 := A_ (blk_drew BK591.out)
        replace BK612 := A_ (blk_drew BK612.out)
        replace HB := A_ (below_drew1 HB.out)
        refine start_ (n := 38) (S := fun w' => w'.cell? ⟨gb573, 0, none⟩ = some (.slice Ao17 t556.length co17) ∧ w'.cell? ⟨gb573, 1, none⟩ = some (.slice Ao19 t559.length co19) ∧ w'.cell? ⟨gb573, 2, none⟩ = some (.bool t562) ∧ w'.cell? ⟨gb573, 3, none⟩ = some (.bool t563) ∧ w'.cell? ⟨gb573, 4, none⟩ = some (.bool t564) ∧ w'.cell? ⟨gb573, 5, none⟩ = some (.bool t565) ∧ w'.cell? ⟨gb573, 6, none⟩ = some (.slice Ao20 t566.length co20) ∧ w'.cell? ⟨gb573, 7, none⟩ = some (.slice Ao21 t569.length co21) ∧ w'.cell? ⟨gb573, 8, none⟩ = some (.int .i64 t572) ∧ w'.cell? ⟨gb612, 0, none⟩ = some (.slice Ao35 t594.length co35) ∧ w'.cell? ⟨gb612, 1, none⟩ = some (.slice Ao37 t597.length co37) ∧ w'.cell? ⟨gb612, 2, none⟩ = some (.bool t600) ∧ w'.cell? ⟨gb612, 3, none⟩ = some (.bool t601) ∧ w'.cell? ⟨gb612, 4, none⟩ = some (.bool t602) ∧ w'.cell? ⟨gb612, 5, none⟩ = some (.bool t603) ∧ w'.cell? ⟨gb612, 6, none⟩ = some (.slice Ao43 t604.length co43) ∧ w'.cell? ⟨gb612, 7, none⟩ = some (.slice Ao45 t607.length co45) ∧ w'.cell? ⟨gb612, 8, none⟩ = some (.int .i64 t610)) (ds := []) #[false, false, false, false, false, false, false, false, false, false, false, false, false, false, false, false, false, false, false, false, false, false, false, false, false, false, false, false, false, false, false, false, false, false, false, false, false, false] (by kernel_rfl) rfl rfl ⟨(blk_cell BK573.out 0).trans rfl, (blk_cell BK573.out 1).trans rfl, (blk_cell BK573.out 2).trans rfl, (blk_cell BK573.out 3).trans rfl, (blk_cell BK573.out 4).trans rfl, (blk_cell BK573.out 5).trans rfl, (blk_cell BK573.out 6).trans rfl, (blk_cell BK573.out 7).trans rfl, (blk_cell BK573.out 8).trans rfl, (blk_cell BK612.out 0).trans rfl, (blk_cell BK612.out 1).trans rfl, (blk_cell BK612.out 2).trans rfl, (blk_cell BK612.out 3).trans rfl, (blk_cell BK612.out 4).trans rfl, (blk_cell BK612.out 5).trans rfl, (blk_cell BK612.out 6).trans rfl, (blk_cell BK612.out 7).trans rfl, (blk_cell BK612.out 8).trans rfl⟩ (fun hHeld => ?_); refine with_tabW laws_FnMachs.tab9 laws_FnMachs.bits9 (fun HT_ HW_ => ?_)
        generalize w51.drew = w71 at HO553 HO555 HO558 HO561 HO568 HO571 HO576 HO579 HO586 HO589 HO596 HO599 HO606 HO609 BK573 BK591 BK612 HB hHeld ⊢
        refine pu_ 1 (some 51) (bm_ 38 2) (any_of HT_.out (by kernel_rfl)) ?_
        refine pu_ 2 (some 52) (bm_ 38 6) (any_of HT_.out (by kernel_rfl)) ?_
        refine pu_ 3 (some 53) (bm_ 38 14) (any_of HT_.out (by kernel_rfl)) ?_
        refine pu_ 4 (some 54) (bm_ 38 30) (any_of HT_.out (by kernel_rfl)) ?_
        refine take_ (i := 0) (N := some 50) (v := ?_) (a' := ?_) (bm_ 38 31) rfl rfl (take_ofW HT_.out HW_.out (by kernel_rfl)) (fun _ _ _ h => h) (Or.inl ⟨by rfl, ?_⟩) hHeld ?_ ?_
        rotate_left
        ·rintro w' ⟨s0, s1, s2, s3, s4, s5, s6, s7, s8, s9, s10, s11, s12, s13, s14, s15, s16, s17⟩
         go_simp
         with_reducible rfl
        rotate_left
        ·simp only [Act.put, List.setIfInBounds_toArray, List.set_cons_zero, List.set_cons_succ, i64_w, i32_w]
         rfl
        refine one_ (i := 5) (N := some 55) (bm_ 38 63) rfl rfl (one_of HT_.out (by kernel_rfl)) (by decide) (fun K hK => ?_)
        refine goes_ Try.func27 (by kernel_rfl) rfl #[.slice Ao13 t548.length co13, .int .i64 t549, .int .i64 t550, .slice Ao14 t551.length co14] (by rfl) rfl rfl d0_ ?_
        with_reducible refine (spec_MachNew.calls k _ _ t548 t549 t550 _ _ t551 t615 t618 t621 t622 t623 t624 t625 t628 t631 _ ?side1 ?side2 ?side3 ?side4 A52.out).mono ?_
        (case side1 => repeat (first | exact (Kd.R_reads' HO553.out).2.2 | (with_reducible refine Kd.C_alloc ?_ _) | (with_reducible refine Kd.C_drewN ?_ _) | (with_reducible refine Kd.C_drew ?_)))
        (case side2 => exact (Kd.R_reads' HO553.out).2.1)
        (case side3 => repeat (first | exact (Kd.R_reads' HO555.out).2.2 | (with_reducible refine Kd.C_alloc ?_ _) | (with_reducible refine Kd.C_drewN ?_ _) | (with_reducible refine Kd.C_drew ?_)))
        (case side4 => exact (Kd.R_reads' HO555.out).2.1)
        rintro e w72 ⟨v616, v619, v626, v629, rfl, ho0, ho1, ho2, ho3, hb⟩
        refine ⟨_, rfl, ?_⟩
        have HO617 := A_ (Kd.R_lower (Kd.R_new' (Kd.R_new' (Kd.R_new' (Kd.R_new' (Kd.R_new' (Kd.R_new' (Kd.R_new' (Kd.R_new' (Kd.R_new' (Kd.R_new' (Kd.R_new' (Kd.R_new' (Kd.R_new' (Kd.R_new' ho0 (Kd.R_lt (kr_ HO553.out))) (Kd.R_lt (kr_ HO555.out))) (Kd.R_lt (kr_ HO558.out))) (Kd.R_lt (kr_ HO561.out))) (Kd.R_lt (kr_ HO568.out))) (Kd.R_lt (kr_ HO571.out))) (Kd.R_lt (kr_ HO576.out))) (Kd.R_lt (kr_ HO579.out))) (Kd.R_lt (kr_ HO586.out))) (Kd.R_lt (kr_ HO589.out))) (Kd.R_lt (kr_ HO596.out))) (Kd.R_lt (kr_ HO599.out))) (Kd.R_lt (kr_ HO606.out))) (Kd.R_lt (kr_ HO609.out))) (below_size (bw_ HB.out)))
        have HO620 := A_ (Kd.R_lower (Kd.R_new' (Kd.R_new' (Kd.R_new' (Kd.R_new' (Kd.R_new' (Kd.R_new' (Kd.R_new' (Kd.R_new' (Kd.R_new' (Kd.R_new' (Kd.R_new' (Kd.R_new' (Kd.R_new' (Kd.R_new' ho1 (Kd.R_lt (kr_ HO553.out))) (Kd.R_lt (kr_ HO555.out))) (Kd.R_lt (kr_ HO558.out))) (Kd.R_lt (kr_ HO561.out))) (Kd.R_lt (kr_ HO568.out))) (Kd.R_lt (kr_ HO571.out))) (Kd.R_lt (kr_ HO576.out))) (Kd.R_lt (kr_ HO579.out))) (Kd.R_lt (kr_ HO586.out))) (Kd.R_lt (kr_ HO589.out))) (Kd.R_lt (kr_ HO596.out))) (Kd.R_lt (kr_ HO599.out))) (Kd.R_lt (kr_ HO606.out))) (Kd.R_lt (kr_ HO609.out))) (below_size (bw_ HB.out)))
        have HO627 := A_ (Kd.R_lower (Kd.R_new' (Kd.R_new' (Kd.R_new' (Kd.R_new' (Kd.R_new' (Kd.R_new' (Kd.R_new' (Kd.R_new' (Kd.R_new' (Kd.R_new' (Kd.R_new' (Kd.R_new' (Kd.R_new' (Kd.R_new' ho2 (Kd.R_lt (kr_ HO553.out))) (Kd.R_lt (kr_ HO555.out))) (Kd.R_lt (kr_ HO558.out))) (Kd.R_lt (kr_ HO561.out))) (Kd.R_lt (kr_ HO568.out))) (Kd.R_lt (kr_ HO571.out))) (Kd.R_lt (kr_ HO576.out))) (Kd.R_lt (kr_ HO579.out))) (Kd.R_lt (kr_ HO586.out))) (Kd.R_lt (kr_ HO589.out))) (Kd.R_lt (kr_ HO596.out))) (Kd.R_lt (kr_ HO599.out))) (Kd.R_lt (kr_ HO606.out))) (Kd.R_lt (kr_ HO609.out))) (below_size (bw_ HB.out)))
        have HO630 := A_ (Kd.R_lower (Kd.R_new' (Kd.R_new' (Kd.R_new' (Kd.R_new' (Kd.R_new' (Kd.R_new' (Kd.R_new' (Kd.R_new' (Kd.R_new' (Kd.R_new' (Kd.R_new' (Kd.R_new' (Kd.R_new' (Kd.R_new' ho3 (Kd.R_lt (kr_ HO553.out))) (Kd.R_lt (kr_ HO555.out))) (Kd.R_lt (kr_ HO558.out))) (Kd.R_lt (kr_ HO561.out))) (Kd.R_lt (kr_ HO568.out))) (Kd.R_lt (kr_ HO571.out))) (Kd.R_lt (kr_ HO576.out))) (Kd.R_lt (kr_ HO579.out))) (Kd.R_lt (kr_ HO586.out))) (Kd.R_lt (kr_ HO589.out))) (Kd.R_lt (kr_ HO596.out))) (Kd.R_lt (kr_ HO599.out))) (Kd.R_lt (kr_ HO606.out))) (Kd.R_lt (kr_ HO609.out))) (below_size (bw_ HB.out)))
        replace HO553 := A_ (Kd.R_mono (Kd.R_told (Kd.R_told (Kd.R_told (Kd.R_told (Kd.R_old (kr_ HO553.out) hb) (Kd.R_base ho0)) (Kd.R_base ho1)) (Kd.R_base ho2)) (Kd.R_base ho3)) (fun _ h_ => h_.1))
        replace HO555 := A_ (Kd.R_mono (Kd.R_told (Kd.R_told (Kd.R_told (Kd.R_told (Kd.R_old (kr_ HO555.out) hb) (Kd.R_base ho0)) (Kd.R_base ho1)) (Kd.R_base ho2)) (Kd.R_base ho3)) (fun _ h_ => h_.1))
        replace HO558 := A_ (Kd.R_mono (Kd.R_told (Kd.R_told (Kd.R_told (Kd.R_told (Kd.R_old (kr_ HO558.out) hb) (Kd.R_base ho0)) (Kd.R_base ho1)) (Kd.R_base ho2)) (Kd.R_base ho3)) (fun _ h_ => h_.1))
        replace HO561 := A_ (Kd.R_mono (Kd.R_told (Kd.R_told (Kd.R_told (Kd.R_told (Kd.R_old (kr_ HO561.out) hb) (Kd.R_base ho0)) (Kd.R_base ho1)) (Kd.R_base ho2)) (Kd.R_base ho3)) (fun _ h_ => h_.1))
        replace HO568 := A_ (Kd.R_mono (Kd.R_told (Kd.R_told (Kd.R_told (Kd.R_told (Kd.R_old (kr_ HO568.out) hb) (Kd.R_base ho0)) (Kd.R_base ho1)) (Kd.R_base ho2)) (Kd.R_base ho3)) (fun _ h_ => h_.1))
        replace HO571 := A_ (Kd.R_mono (Kd.R_told (Kd.R_told (Kd.R_told (Kd.R_told (Kd.R_old (kr_ HO571.out) hb) (Kd.R_base ho0)) (Kd.R_base ho1)) (Kd.R_base ho2)) (Kd.R_base ho3)) (fun _ h_ => h_.1))
        replace HO576 := A_ (Kd.R_mono (Kd.R_told (Kd.R_told (Kd.R_told (Kd.R_told (Kd.R_old (kr_ HO576.out) hb) (Kd.R_base ho0)) (Kd.R_base ho1)) (Kd.R_base ho2)) (Kd.R_base ho3)) (fun _ h_ => h_.1))
        replace HO579 := A_ (Kd.R_mono (Kd.R_told (Kd.R_told (Kd.R_told (Kd.R_told (Kd.R_old (kr_ HO579.out) hb) (Kd.R_base ho0)) (Kd.R_base ho1)) (Kd.R_base ho2)) (Kd.R_base ho3)) (fun _ h_ => h_.1))
        replace HO586 := A_ (Kd.R_mono (Kd.R_told (Kd.R_told (Kd.R_told (Kd.R_told (Kd.R_old (kr_ HO586.out) hb) (Kd.R_base ho0)) (Kd.R_base ho1)) (Kd.R_base ho2)) (Kd.R_base ho3)) (fun _ h_ => h_.1))
        replace HO589 := A_ (Kd.R_mono (Kd.R_told (Kd.R_told (Kd.R_told (Kd.R_told (Kd.R_old (kr_ HO589.out) hb) (Kd.R_base ho0)) (Kd.R_base ho1)) (Kd.R_base ho2)) (Kd.R_base ho3)) (fun _ h_ => h_.1))
        replace HO596 := A_ (Kd.R_mono (Kd.R_told (Kd.R_told (Kd.R_told (Kd.R_told (Kd.R_old (kr_ HO596.out) hb) (Kd.R_base ho0)) (Kd.R_base ho1)) (Kd.R_base ho2)) (Kd.R_base ho3)) (fun _ h_ => h_.1))
        replace HO599 := A_ (Kd.R_mono (Kd.R_told (Kd.R_told (Kd.R_told (Kd.R_told (Kd.R_old (kr_ HO599.out) hb) (Kd.R_base ho0)) (Kd.R_base ho1)) (Kd.R_base ho2)) (Kd.R_base ho3)) (fun _ h_ => h_.1))
        replace HO606 := A_ (Kd.R_mono (Kd.R_told (Kd.R_told (Kd.R_told (Kd.R_told (Kd.R_old (kr_ HO606.out) hb) (Kd.R_base ho0)) (Kd.R_base ho1)) (Kd.R_base ho2)) (Kd.R_base ho3)) (fun _ h_ => h_.1))
        replace HO609 := A_ (Kd.R_mono (Kd.R_told (Kd.R_told (Kd.R_told (Kd.R_told (Kd.R_old (kr_ HO609.out) hb) (Kd.R_base ho0)) (Kd.R_base ho1)) (Kd.R_base ho2)) (Kd.R_base ho3)) (fun _ h_ => h_.1))
        replace BK573 := A_ (blk_below (bk_ BK573.out) hb)
        replace BK591 := A_ (blk_below (bk_ BK591.out) hb)
        replace BK612 := A_ (blk_below (bk_ BK612.out) hb)
        replace HB := A_ (below_step (bw_ HB.out) hb)
        (try clear hb)
        (try clear hb2)
        (try clear hk)
        (try clear hi)
        (try clear ho0)
        (try clear ho1)
        (try clear ho2)
        (try clear ho3)
        obtain ⟨Ao73, co73, eo73⟩ := Kd.R_slice HO617.out
        (first | subst eo73 | (injection eo73 with f1_ f2_ f3_; have f4_ := f1_.symm; have f5_ := f3_.symm; clear f1_ f2_ f3_; subst f4_; subst f5_))
        obtain ⟨Ao74, co74, eo74⟩ := Kd.R_slice HO620.out
        (first | subst eo74 | (injection eo74 with f1_ f2_ f3_; have f4_ := f1_.symm; have f5_ := f3_.symm; clear f1_ f2_ f3_; subst f4_; subst f5_))
        obtain ⟨Ao75, co75, eo75⟩ := Kd.R_slice HO627.out
        (first | subst eo75 | (injection eo75 with f1_ f2_ f3_; have f4_ := f1_.symm; have f5_ := f3_.symm; clear f1_ f2_ f3_; subst f4_; subst f5_))
        obtain ⟨Ao76, co76, eo76⟩ := Kd.R_slice HO630.out
        (first | subst eo76 | (injection eo76 with f1_ f2_ f3_; have f4_ := f1_.symm; have f5_ := f3_.symm; clear f1_ f2_ f3_; subst f4_; subst f5_))
        refine hK.out _ _ ⟨(blk_cell BK573.out 0).trans rfl, (blk_cell BK573.out 1).trans rfl, (blk_cell BK573.out 2).trans rfl, (blk_cell BK573.out 3).trans rfl, (blk_cell BK573.out 4).trans rfl, (blk_cell BK573.out 5).trans rfl, (blk_cell BK573.out 6).trans rfl, (blk_cell BK573.out 7).trans rfl, (blk_cell BK573.out 8).trans rfl, (blk_cell BK612.out 0).trans rfl, (blk_cell BK612.out 1).trans rfl, (blk_cell BK612.out 2).trans rfl, (blk_cell BK612.out 3).trans rfl, (blk_cell BK612.out 4).trans rfl, (blk_cell BK612.out 5).trans rfl, (blk_cell BK612.out 6).trans rfl, (blk_cell BK612.out 7).trans rfl, (blk_cell BK612.out 8).trans rfl⟩ (fun hHeld => ?_)
        clear hK K
        refine norm_ (a' := ?_) ?_ ?_
        rotate_left
        ·show Act.put _ (some 55) _ = _
         simp only [Act.put, List.setIfInBounds_toArray, List.set_cons_zero, List.set_cons_succ, i64_w, i32_w]
         rfl
        refine one_ (i := 6) (N := some 56) (bm_ 38 127) rfl rfl (one_of HT_.out (by kernel_rfl)) (by decide) (fun K hK => ?_)
        refine goes_ Try.func42 (by kernel_rfl) rfl #[.agg #[.slice Ao17 t556.length co17, .slice Ao19 t559.length co19, .bool t562, .bool t563, .bool t564, .bool t565, .slice Ao20 t566.length co20, .slice Ao21 t569.length co21, .int .i64 t572], .agg #[.slice Ao73 t615.length co73, .slice Ao74 t618.length co74, .bool t621, .bool t622, .bool t623, .bool t624, .slice Ao75 t625.length co75, .slice Ao76 t628.length co76, .int .i64 t631]] (by rfl) rfl rfl d0_ ?_
        with_reducible refine (laws_sameMach.calls k _ _ t556 _ _ t559 t562 t563 t564 t565 _ _ t566 _ _ t569 t572 _ _ t615 _ _ t618 t621 t622 t623 t624 _ _ t625 _ _ t628 t631 true _ ?side1 ?side2 ?side3 ?side4 ?side5 ?side6 ?side7 ?side8 ?side9 ?side10 ?side11 ?side12 ?side13 ?side14 ?side15 ?side16 A53.out).mono ?_
        (case side1 => repeat (first | exact (Kd.R_reads' HO558.out).2.2 | (with_reducible refine Kd.C_alloc ?_ _) | (with_reducible refine Kd.C_drewN ?_ _) | (with_reducible refine Kd.C_drew ?_)))
        (case side2 => exact (Kd.R_reads' HO558.out).2.1)
        (case side3 => repeat (first | exact (Kd.R_reads' HO561.out).2.2 | (with_reducible refine Kd.C_alloc ?_ _) | (with_reducible refine Kd.C_drewN ?_ _) | (with_reducible refine Kd.C_drew ?_)))
        (case side4 => exact (Kd.R_reads' HO561.out).2.1)
        (case side5 => repeat (first | exact (Kd.R_reads' HO568.out).2.2 | (with_reducible refine Kd.C_alloc ?_ _) | (with_reducible refine Kd.C_drewN ?_ _) | (with_reducible refine Kd.C_drew ?_)))
        (case side6 => exact (Kd.R_reads' HO568.out).2.1)
        (case side7 => repeat (first | exact (Kd.R_reads' HO571.out).2.2 | (with_reducible refine Kd.C_alloc ?_ _) | (with_reducible refine Kd.C_drewN ?_ _) | (with_reducible refine Kd.C_drew ?_)))
        (case side8 => exact (Kd.R_reads' HO571.out).2.1)
        (case side9 => repeat (first | exact (Kd.R_reads' HO617.out).2.2 | (with_reducible refine Kd.C_alloc ?_ _) | (with_reducible refine Kd.C_drewN ?_ _) | (with_reducible refine Kd.C_drew ?_)))
        (case side10 => exact (Kd.R_reads' HO617.out).2.1)
        (case side11 => repeat (first | exact (Kd.R_reads' HO620.out).2.2 | (with_reducible refine Kd.C_alloc ?_ _) | (with_reducible refine Kd.C_drewN ?_ _) | (with_reducible refine Kd.C_drew ?_)))
        (case side12 => exact (Kd.R_reads' HO620.out).2.1)
        (case side13 => repeat (first | exact (Kd.R_reads' HO627.out).2.2 | (with_reducible refine Kd.C_alloc ?_ _) | (with_reducible refine Kd.C_drewN ?_ _) | (with_reducible refine Kd.C_drew ?_)))
        (case side14 => exact (Kd.R_reads' HO627.out).2.1)
        (case side15 => repeat (first | exact (Kd.R_reads' HO630.out).2.2 | (with_reducible refine Kd.C_alloc ?_ _) | (with_reducible refine Kd.C_drewN ?_ _) | (with_reducible refine Kd.C_drew ?_)))
        (case side16 => exact (Kd.R_reads' HO630.out).2.1)
        rintro e w77 ⟨rfl, hb⟩
        refine ⟨_, rfl, ?_⟩
        replace HO553 := A_ (Kd.R_below (kr_ HO553.out) hb)
        replace HO555 := A_ (Kd.R_below (kr_ HO555.out) hb)
        replace HO558 := A_ (Kd.R_below (kr_ HO558.out) hb)
        replace HO561 := A_ (Kd.R_below (kr_ HO561.out) hb)
        replace HO568 := A_ (Kd.R_below (kr_ HO568.out) hb)
        replace HO571 := A_ (Kd.R_below (kr_ HO571.out) hb)
        replace HO576 := A_ (Kd.R_below (kr_ HO576.out) hb)
        replace HO579 := A_ (Kd.R_below (kr_ HO579.out) hb)
        replace HO586 := A_ (Kd.R_below (kr_ HO586.out) hb)
        replace HO589 := A_ (Kd.R_below (kr_ HO589.out) hb)
        replace HO596 := A_ (Kd.R_below (kr_ HO596.out) hb)
        replace HO599 := A_ (Kd.R_below (kr_ HO599.out) hb)
        replace HO606 := A_ (Kd.R_below (kr_ HO606.out) hb)
        replace HO609 := A_ (Kd.R_below (kr_ HO609.out) hb)
        replace HO617 := A_ (Kd.R_below (kr_ HO617.out) hb)
        replace HO620 := A_ (Kd.R_below (kr_ HO620.out) hb)
        replace HO627 := A_ (Kd.R_below (kr_ HO627.out) hb)
        replace HO630 := A_ (Kd.R_below (kr_ HO630.out) hb)
        replace BK573 := A_ (blk_below (bk_ BK573.out) hb)
        replace BK591 := A_ (blk_below (bk_ BK591.out) hb)
        replace BK612 := A_ (blk_below (bk_ BK612.out) hb)
        replace HB := A_ (below_step (bw_ HB.out) hb)
        (try clear hb)
        (try clear hb2)
        (try clear hk)
        (try clear hi)
        refine hK.out _ _ ⟨(blk_cell BK573.out 0).trans rfl, (blk_cell BK573.out 1).trans rfl, (blk_cell BK573.out 2).trans rfl, (blk_cell BK573.out 3).trans rfl, (blk_cell BK573.out 4).trans rfl, (blk_cell BK573.out 5).trans rfl, (blk_cell BK573.out 6).trans rfl, (blk_cell BK573.out 7).trans rfl, (blk_cell BK573.out 8).trans rfl, (blk_cell BK612.out 0).trans rfl, (blk_cell BK612.out 1).trans rfl, (blk_cell BK612.out 2).trans rfl, (blk_cell BK612.out 3).trans rfl, (blk_cell BK612.out 4).trans rfl, (blk_cell BK612.out 5).trans rfl, (blk_cell BK612.out 6).trans rfl, (blk_cell BK612.out 7).trans rfl, (blk_cell BK612.out 8).trans rfl⟩ (fun hHeld => ?_)
        clear hK K
        refine norm_ (a' := ?_) ?_ ?_
        rotate_left
        ·show Act.put _ (some 56) _ = _
         simp only [Act.put, List.setIfInBounds_toArray, List.set_cons_zero, List.set_cons_succ, i64_w, i32_w]
         rfl
        refine pu_ 7 (some 57) (bm_ 38 255) (any_of HT_.out (by kernel_rfl)) ?_
        refine pu_ 8 (some 58) (bm_ 38 511) (any_of HT_.out (by kernel_rfl)) ?_
        refine pu_ 11 (some 61) (bm_ 38 2559) (any_of HT_.out (by kernel_rfl)) ?_
        refine take_ (i := 9) (N := some 59) (v := ?_) (a' := ?_) (bm_ 38 3071) rfl rfl (take_ofW HT_.out HW_.out (by kernel_rfl)) (fun _ _ _ h => h) (Or.inl ⟨by rfl, ?_⟩) hHeld ?_ ?_
        rotate_left
        ·rintro w' ⟨s0, s1, s2, s3, s4, s5, s6, s7, s8, s9, s10, s11, s12, s13, s14, s15, s16, s17⟩
         go_simp
         with_reducible rfl
        rotate_left
        ·simp only [Act.put, List.setIfInBounds_toArray, List.set_cons_zero, List.set_cons_succ, i64_w, i32_w]
         rfl
        refine take_ (i := 12) (N := some 62) (v := ?_) (a' := ?_) (bm_ 38 7167) rfl rfl (take_ofW HT_.out HW_.out (by kernel_rfl)) (fun _ _ _ h => h) (Or.inl ⟨by rfl, ?_⟩) hHeld ?_ ?_
        rotate_left
        ·rintro w' ⟨s0, s1, s2, s3, s4, s5, s6, s7, s8, s9, s10, s11, s12, s13, s14, s15, s16, s17⟩
         go_simp
         with_reducible rfl
        rotate_left
        ·simp only [Act.put, List.setIfInBounds_toArray, List.set_cons_zero, List.set_cons_succ, i64_w, i32_w]
         rfl
        refine pu_ 13 (some 63) (bm_ 38 15359) (any_of HT_.out (by kernel_rfl)) ?_
        refine pu_ 14 (some 64) (bm_ 38 31743) (any_of HT_.out (by kernel_rfl)) ?_
        refine one_ (i := 10) (N := some 60) (bm_ 38 32767) rfl rfl (one_of HT_.out (by kernel_rfl)) (by decide) (fun K hK => ?_)
        refine goes_ Try.func23 (by kernel_rfl) rfl #[.agg #[.slice Ao17 t556.length co17, .slice Ao19 t559.length co19, .bool t562, .bool t563, .bool t564, .bool t565, .slice Ao20 t566.length co20, .slice Ao21 t569.length co21, .int .i64 t572]] (by rfl) rfl rfl d0_ ?_
        with_reducible refine (impl_MachOk.calls k _ _ t556 _ _ t559 t562 t563 t564 t565 _ _ t566 _ _ t569 t572 t633 _ ?side1 ?side2 ?side3 ?side4 ?side5 ?side6 ?side7 ?side8 A55.out).mono ?_
        (case side1 => repeat (first | exact (Kd.R_reads' HO558.out).2.2 | (with_reducible refine Kd.C_alloc ?_ _) | (with_reducible refine Kd.C_drewN ?_ _) | (with_reducible refine Kd.C_drew ?_)))
        (case side2 => exact (Kd.R_reads' HO558.out).2.1)
        (case side3 => repeat (first | exact (Kd.R_reads' HO561.out).2.2 | (with_reducible refine Kd.C_alloc ?_ _) | (with_reducible refine Kd.C_drewN ?_ _) | (with_reducible refine Kd.C_drew ?_)))
        (case side4 => exact (Kd.R_reads' HO561.out).2.1)
        (case side5 => repeat (first | exact (Kd.R_reads' HO568.out).2.2 | (with_reducible refine Kd.C_alloc ?_ _) | (with_reducible refine Kd.C_drewN ?_ _) | (with_reducible refine Kd.C_drew ?_)))
        (case side6 => exact (Kd.R_reads' HO568.out).2.1)
        (case side7 => repeat (first | exact (Kd.R_reads' HO571.out).2.2 | (with_reducible refine Kd.C_alloc ?_ _) | (with_reducible refine Kd.C_drewN ?_ _) | (with_reducible refine Kd.C_drew ?_)))
        (case side8 => exact (Kd.R_reads' HO571.out).2.1)
        rintro e w78 ⟨rfl, hb⟩
        refine ⟨_, rfl, ?_⟩
        replace HO553 := A_ (Kd.R_below (kr_ HO553.out) hb)
        replace HO555 := A_ (Kd.R_below (kr_ HO555.out) hb)
        replace HO558 := A_ (Kd.R_below (kr_ HO558.out) hb)
        replace HO561 := A_ (Kd.R_below (kr_ HO561.out) hb)
        replace HO568 := A_ (Kd.R_below (kr_ HO568.out) hb)
        replace HO571 := A_ (Kd.R_below (kr_ HO571.out) hb)
        replace HO576 := A_ (Kd.R_below (kr_ HO576.out) hb)
        replace HO579 := A_ (Kd.R_below (kr_ HO579.out) hb)
        replace HO586 := A_ (Kd.R_below (kr_ HO586.out) hb)
        replace HO589 := A_ (Kd.R_below (kr_ HO589.out) hb)
        replace HO596 := A_ (Kd.R_below (kr_ HO596.out) hb)
        replace HO599 := A_ (Kd.R_below (kr_ HO599.out) hb)
        replace HO606 := A_ (Kd.R_below (kr_ HO606.out) hb)
        replace HO609 := A_ (Kd.R_below (kr_ HO609.out) hb)
        replace HO617 := A_ (Kd.R_below (kr_ HO617.out) hb)
        replace HO620 := A_ (Kd.R_below (kr_ HO620.out) hb)
        replace HO627 := A_ (Kd.R_below (kr_ HO627.out) hb)
        replace HO630 := A_ (Kd.R_below (kr_ HO630.out) hb)
        replace BK573 := A_ (blk_below (bk_ BK573.out) hb)
        replace BK591 := A_ (blk_below (bk_ BK591.out) hb)
        replace BK612 := A_ (blk_below (bk_ BK612.out) hb)
        replace HB := A_ (below_step (bw_ HB.out) hb)
        (try clear hb)
        (try clear hb2)
        (try clear hk)
        (try clear hi)
        refine hK.out _ _ ⟨(blk_cell BK573.out 0).trans rfl, (blk_cell BK573.out 1).trans rfl, (blk_cell BK573.out 2).trans rfl, (blk_cell BK573.out 3).trans rfl, (blk_cell BK573.out 4).trans rfl, (blk_cell BK573.out 5).trans rfl, (blk_cell BK573.out 6).trans rfl, (blk_cell BK573.out 7).trans rfl, (blk_cell BK573.out 8).trans rfl, (blk_cell BK612.out 0).trans rfl, (blk_cell BK612.out 1).trans rfl, (blk_cell BK612.out 2).trans rfl, (blk_cell BK612.out 3).trans rfl, (blk_cell BK612.out 4).trans rfl, (blk_cell BK612.out 5).trans rfl, (blk_cell BK612.out 6).trans rfl, (blk_cell BK612.out 7).trans rfl, (blk_cell BK612.out 8).trans rfl⟩ (fun hHeld => ?_)
        clear hK K
        refine norm_ (a' := ?_) ?_ ?_
        rotate_left
        ·show Act.put _ (some 60) _ = _
         simp only [Act.put, List.setIfInBounds_toArray, List.set_cons_zero, List.set_cons_succ, i64_w, i32_w]
         rfl
        refine pu_ 15 (some 65) (bm_ 38 65535) (any_of HT_.out (by kernel_rfl)) ?_
        refine pu_ 16 (some 66) (bm_ 38 131071) (any_of HT_.out (by kernel_rfl)) ?_
        refine pu_ 17 (some 67) (bm_ 38 262143) (any_of HT_.out (by kernel_rfl)) ?_
        refine pu_ 18 (some 68) (bm_ 38 524287) (any_of HT_.out (by kernel_rfl)) ?_
        refine pu_ 19 (some 69) (bm_ 38 1048575) (any_of HT_.out (by kernel_rfl)) ?_
        refine pu_ 20 (some 70) (bm_ 38 2097151) (any_of HT_.out (by kernel_rfl)) ?_
        refine pu_ 21 (some 71) (bm_ 38 4194303) (any_of HT_.out (by kernel_rfl)) ?_
        refine pu_ 22 (some 72) (bm_ 38 8388607) (any_of HT_.out (by kernel_rfl)) ?_
        refine pu_ 23 (some 73) (bm_ 38 16777215) (any_of HT_.out (by kernel_rfl)) ?_
        refine pu_ 24 (some 74) (bm_ 38 33554431) (any_of HT_.out (by kernel_rfl)) ?_
        refine pu_ 25 (some 75) (bm_ 38 67108863) (any_of HT_.out (by kernel_rfl)) ?_
        refine pu_ 26 (some 76) (bm_ 38 134217727) (any_of HT_.out (by kernel_rfl)) ?_
        refine pu_ 27 (some 77) (bm_ 38 268435455) (any_of HT_.out (by kernel_rfl)) ?_
        refine one_ (i := 28) (N := some 78) (bm_ 38 536870911) rfl rfl (one_of HT_.out (by kernel_rfl)) (by decide) (fun K hK => ?_)
        refine goes_ Try.func41 (by kernel_rfl) rfl #[.slice A0 l0.length c0, .int .i64 3] (by rfl) rfl rfl d0_ ?_
        with_reducible refine (laws_at.calls _ _ l0 3 t634 _ ?side1 ?side2 A67.out).mono ?_
        (case side1 => repeat (first | exact (Kd.C_below HR0.out HB.out) | (with_reducible refine Kd.C_alloc ?_ _) | (with_reducible refine Kd.C_drewN ?_ _) | (with_reducible refine Kd.C_drew ?_)))
        (case side2 => exact HC0.out)
        rintro e w' ⟨rfl, ⟨nd, rfl⟩⟩
        refine ⟨_, rfl, ?_⟩
        refine hK.out _ _ ⟨(blk_cell BK573.out 0).trans rfl, (blk_cell BK573.out 1).trans rfl, (blk_cell BK573.out 2).trans rfl, (blk_cell BK573.out 3).trans rfl, (blk_cell BK573.out 4).trans rfl, (blk_cell BK573.out 5).trans rfl, (blk_cell BK573.out 6).trans rfl, (blk_cell BK573.out 7).trans rfl, (blk_cell BK573.out 8).trans rfl, (blk_cell BK612.out 0).trans rfl, (blk_cell BK612.out 1).trans rfl, (blk_cell BK612.out 2).trans rfl, (blk_cell BK612.out 3).trans rfl, (blk_cell BK612.out 4).trans rfl, (blk_cell BK612.out 5).trans rfl, (blk_cell BK612.out 6).trans rfl, (blk_cell BK612.out 7).trans rfl, (blk_cell BK612.out 8).trans rfl⟩ (fun hHeld => ?_)
        clear hK K
        refine norm_ (a' := ?_) ?_ ?_
        rotate_left
        ·show Act.put _ (some 78) _ = _
         simp only [Act.put, List.setIfInBounds_toArray, List.set_cons_zero, List.set_cons_succ, i64_w, i32_w]
         rfl
        refine pu_ 29 (some 79) (bm_ 38 1073741823) (any_of HT_.out (by kernel_rfl)) ?_
        refine one_ (i := 30) (N := some 80) (bm_ 38 2147483647) rfl rfl (one_of HT_.out (by kernel_rfl)) (by decide) (fun K hK => ?_)
        refine goes_ Try.func43 (by kernel_rfl) rfl #[.int .i64 (wrap64 (t634 * 300))] (by rfl) rfl rfl d0_ ?_
        with_reducible refine (impl_Wrap.calls (wrap64 (t634 * 300)) t635 _ A68.out).mono ?_
        rintro e w' ⟨rfl, ⟨nd, rfl⟩⟩
        refine ⟨_, rfl, ?_⟩
        refine hK.out _ _ ⟨(blk_cell BK573.out 0).trans rfl, (blk_cell BK573.out 1).trans rfl, (blk_cell BK573.out 2).trans rfl, (blk_cell BK573.out 3).trans rfl, (blk_cell BK573.out 4).trans rfl, (blk_cell BK573.out 5).trans rfl, (blk_cell BK573.out 6).trans rfl, (blk_cell BK573.out 7).trans rfl, (blk_cell BK573.out 8).trans rfl, (blk_cell BK612.out 0).trans rfl, (blk_cell BK612.out 1).trans rfl, (blk_cell BK612.out 2).trans rfl, (blk_cell BK612.out 3).trans rfl, (blk_cell BK612.out 4).trans rfl, (blk_cell BK612.out 5).trans rfl, (blk_cell BK612.out 6).trans rfl, (blk_cell BK612.out 7).trans rfl, (blk_cell BK612.out 8).trans rfl⟩ (fun hHeld => ?_)
        clear hK K
        refine norm_ (a' := ?_) ?_ ?_
        rotate_left
        ·show Act.put _ (some 80) _ = _
         simp only [Act.put, List.setIfInBounds_toArray, List.set_cons_zero, List.set_cons_succ, i64_w, i32_w]
         rfl
        refine pu_ 31 (some 81) (bm_ 38 4294967295) (any_of HT_.out (by kernel_rfl)) ?_
        refine pu_ 32 (some 82) (bm_ 38 8589934591) (any_of HT_.out (by kernel_rfl)) ?_
        refine pu_ 33 (some 83) (bm_ 38 17179869183) (any_of HT_.out (by kernel_rfl)) ?_
        refine take_ (i := 34) (N := some 84) (v := ?_) (a' := ?_) (bm_ 38 34359738367) rfl rfl (take_ofW HT_.out HW_.out (by kernel_rfl)) (fun _ _ _ h => h) (Or.inl ⟨by rfl, ?_⟩) hHeld ?_ ?_
        rotate_left
        ·rintro w' ⟨s0, s1, s2, s3, s4, s5, s6, s7, s8, s9, s10, s11, s12, s13, s14, s15, s16, s17⟩
         go_simp
         with_reducible rfl
        rotate_left
        ·simp only [Act.put, List.setIfInBounds_toArray, List.set_cons_zero, List.set_cons_succ, i64_w, i32_w]
         rfl
        refine one_ (i := 35) (N := some 85) (bm_ 38 68719476735) rfl rfl (one_of HT_.out (by kernel_rfl)) (by decide) (fun K hK => ?_)
        refine goes_ Try.func23 (by kernel_rfl) rfl #[.agg #[.slice Ao35 t594.length co35, .slice Ao37 t597.length co37, .bool t600, .bool t601, .bool t602, .bool t603, .slice Ao43 t604.length co43, .slice Ao45 t607.length co45, .int .i64 t610]] (by rfl) rfl rfl d0_ ?_
        with_reducible refine (impl_MachOk.calls k _ _ t594 _ _ t597 t600 t601 t602 t603 _ _ t604 _ _ t607 t610 t636 _ ?side1 ?side2 ?side3 ?side4 ?side5 ?side6 ?side7 ?side8 A70.out).mono ?_
        (case side1 => repeat (first | exact (Kd.R_reads' HO596.out).2.2 | (with_reducible refine Kd.C_alloc ?_ _) | (with_reducible refine Kd.C_drewN ?_ _) | (with_reducible refine Kd.C_drew ?_)))
        (case side2 => exact (Kd.R_reads' HO596.out).2.1)
        (case side3 => repeat (first | exact (Kd.R_reads' HO599.out).2.2 | (with_reducible refine Kd.C_alloc ?_ _) | (with_reducible refine Kd.C_drewN ?_ _) | (with_reducible refine Kd.C_drew ?_)))
        (case side4 => exact (Kd.R_reads' HO599.out).2.1)
        (case side5 => repeat (first | exact (Kd.R_reads' HO606.out).2.2 | (with_reducible refine Kd.C_alloc ?_ _) | (with_reducible refine Kd.C_drewN ?_ _) | (with_reducible refine Kd.C_drew ?_)))
        (case side6 => exact (Kd.R_reads' HO606.out).2.1)
        (case side7 => repeat (first | exact (Kd.R_reads' HO609.out).2.2 | (with_reducible refine Kd.C_alloc ?_ _) | (with_reducible refine Kd.C_drewN ?_ _) | (with_reducible refine Kd.C_drew ?_)))
        (case side8 => exact (Kd.R_reads' HO609.out).2.1)
        rintro e w79 ⟨rfl, hb⟩
        refine ⟨_, rfl, ?_⟩
        replace HO553 := A_ (Kd.R_below (kr_ HO553.out) hb)
        replace HO555 := A_ (Kd.R_below (kr_ HO555.out) hb)
        replace HO558 := A_ (Kd.R_below (kr_ HO558.out) hb)
        replace HO561 := A_ (Kd.R_below (kr_ HO561.out) hb)
        replace HO568 := A_ (Kd.R_below (kr_ HO568.out) hb)
        replace HO571 := A_ (Kd.R_below (kr_ HO571.out) hb)
        replace HO576 := A_ (Kd.R_below (kr_ HO576.out) hb)
        replace HO579 := A_ (Kd.R_below (kr_ HO579.out) hb)
        replace HO586 := A_ (Kd.R_below (kr_ HO586.out) hb)
        replace HO589 := A_ (Kd.R_below (kr_ HO589.out) hb)
        replace HO596 := A_ (Kd.R_below (kr_ HO596.out) hb)
        replace HO599 := A_ (Kd.R_below (kr_ HO599.out) hb)
        replace HO606 := A_ (Kd.R_below (kr_ HO606.out) hb)
        replace HO609 := A_ (Kd.R_below (kr_ HO609.out) hb)
        replace HO617 := A_ (Kd.R_below (kr_ HO617.out) hb)
        replace HO620 := A_ (Kd.R_below (kr_ HO620.out) hb)
        replace HO627 := A_ (Kd.R_below (kr_ HO627.out) hb)
        replace HO630 := A_ (Kd.R_below (kr_ HO630.out) hb)
        replace BK573 := A_ (blk_below (bk_ BK573.out) hb)
        replace BK591 := A_ (blk_below (bk_ BK591.out) hb)
        replace BK612 := A_ (blk_below (bk_ BK612.out) hb)
        replace HB := A_ (below_step (bw_ HB.out) hb)
        (try clear hb)
        (try clear hb2)
        (try clear hk)
        (try clear hi)
        refine hK.out _ _ ⟨(blk_cell BK573.out 0).trans rfl, (blk_cell BK573.out 1).trans rfl, (blk_cell BK573.out 2).trans rfl, (blk_cell BK573.out 3).trans rfl, (blk_cell BK573.out 4).trans rfl, (blk_cell BK573.out 5).trans rfl, (blk_cell BK573.out 6).trans rfl, (blk_cell BK573.out 7).trans rfl, (blk_cell BK573.out 8).trans rfl, (blk_cell BK612.out 0).trans rfl, (blk_cell BK612.out 1).trans rfl, (blk_cell BK612.out 2).trans rfl, (blk_cell BK612.out 3).trans rfl, (blk_cell BK612.out 4).trans rfl, (blk_cell BK612.out 5).trans rfl, (blk_cell BK612.out 6).trans rfl, (blk_cell BK612.out 7).trans rfl, (blk_cell BK612.out 8).trans rfl⟩ (fun hHeld => ?_)
        clear hK K
        refine norm_ (a' := ?_) ?_ ?_
        rotate_left
        ·show Act.put _ (some 85) _ = _
         simp only [Act.put, List.setIfInBounds_toArray, List.set_cons_zero, List.set_cons_succ, i64_w, i32_w]
         rfl
        refine pu_ 36 (some 86) (bm_ 38 137438953471) (any_of HT_.out (by kernel_rfl)) ?_
        refine pu_ 37 (some 87) (bm_ 38 274877906943) (any_of HT_.out (by kernel_rfl)) ?_
        refine done_ (done_of HT_.out (by kernel_rfl)) ?_
        try go_wp2
        go_meet
        case rel => exact ⟨_, (!t636), d3_, H', ⟨by first | omega | exact Nat.le_refl _⟩, ⟨kr_ (Kd.R_mono HO558.out (fun _ hk => (by simp only [hk, ne_eq, not_false_eq_true, and_self, and_true, true_and])))⟩, ⟨kr_ (Kd.R_mono HO561.out (fun _ hk => (by simp only [hk, ne_eq, not_false_eq_true, and_self, and_true, true_and])))⟩, ⟨kr_ (Kd.R_mono HO568.out (fun _ hk => (by simp only [hk, ne_eq, not_false_eq_true, and_self, and_true, true_and])))⟩, ⟨kr_ (Kd.R_mono HO571.out (fun _ hk => (by simp only [hk, ne_eq, not_false_eq_true, and_self, and_true, true_and])))⟩, ⟨kr_ (Kd.R_mono HO576.out (fun _ hk => (by simp only [hk, ne_eq, not_false_eq_true, and_self, and_true, true_and])))⟩, ⟨kr_ (Kd.R_mono HO579.out (fun _ hk => (by simp only [hk, ne_eq, not_false_eq_true, and_self, and_true, true_and])))⟩, ⟨kr_ (Kd.R_mono HO586.out (fun _ hk => (by simp only [hk, ne_eq, not_false_eq_true, and_self, and_true, true_and])))⟩, ⟨kr_ (Kd.R_mono HO589.out (fun _ hk => (by simp only [hk, ne_eq, not_false_eq_true, and_self, and_true, true_and])))⟩, ⟨kr_ (Kd.R_mono HO596.out (fun _ hk => (by simp only [hk, ne_eq, not_false_eq_true, and_self, and_true, true_and])))⟩, ⟨kr_ (Kd.R_mono HO599.out (fun _ hk => (by simp only [hk, ne_eq, not_false_eq_true, and_self, and_true, true_and])))⟩, ⟨kr_ (Kd.R_mono HO606.out (fun _ hk => (by simp only [hk, ne_eq, not_false_eq_true, and_self, and_true, true_and])))⟩, ⟨kr_ (Kd.R_mono HO609.out (fun _ hk => (by simp only [hk, ne_eq, not_false_eq_true, and_self, and_true, true_and])))⟩, ⟨by refine bk_ ?_; exact BK573.out⟩, ⟨by refine bk_ ?_; exact BK591.out⟩, ⟨by refine bk_ ?_; exact BK612.out⟩, ⟨bw_ HB.out⟩⟩
       ·rw [if_neg c69] at H
        have c69b0 := beq_eq_false_iff_ne.mpr c69
        have c69b1 := bne_iff_ne.mpr c69
        subst hr_
        exact absurd H (by cases k <;> simp [laws_FnMachs.j0])
      ·replace c66 := Bool.eq_false_iff.mpr c66
       subst c66
       rw [if_neg (show ¬ (false = true) by decide)] at H
       subst hr_
       exact absurd H (by cases k <;> simp [laws_FnMachs.j0])
     ·replace c65 := Bool.eq_false_iff.mpr c65
      subst c65
      rw [if_neg (show ¬ (false = true) by decide)] at H
      subst hr_
      exact absurd H (by cases k <;> simp [laws_FnMachs.j0])
   ·replace c54 := Bool.eq_false_iff.mpr c54
    subst c54
    rw [if_neg (show ¬ (false = true) by decide)] at H
    subst hr_
    exact absurd H (by cases k <;> simp [laws_FnMachs.j0])
  case rest =>
   clear HC11
   try clear c2
   try clear p2
   try clear c4
   try clear c5
   try clear p6
   try clear c27
   try clear c42
   try clear c54
   try clear p64
   obtain ⟨kq, x87_10, rfl, HA, HJ10, HO_574000, HO_574001, HO_574006, HO_574007, HO_592000, HO_592001, HO_592006, HO_592007, HO_613000, HO_613001, HO_613006, HO_613007, BK573, BK591, BK612, HB⟩ := hcut
   cases kq with
   | zero => exact absurd HA.out (by simp [laws_FnMachs.j0])
   | succ kj10 =>
    have H := HA.out
    clear HA
    simp only [laws_FnMachs.j0] at H
    by_cases c111 : x87_10 = true
    ·subst c111
     rw [if_pos rfl] at H
     subst hr_
     exact absurd H (by simp)
    ·replace c111 := Bool.eq_false_iff.mpr c111
     subst c111
     rw [if_neg (show ¬ (false = true) by decide)] at H
     have H' := A_ H
     clear H
     go_wp2
     go_loopg [14] kj10 (fun kq v14 w' => ∃ (x14_2 : Int), v14 = .int .i64 x14_2 ∧ Aside0 (laws_FnMachs.l0 kq (wrap64 (2 * (Int.tmod t592 256))) x14_2 t574 t577 t580 t581 t582 t583 t584 t587 t590 t594 t597 t600 t601 t602 t603 t604 t607 t610 = some r) ∧ Aside0 (kq ≤ kj10) ∧ Aside0 (Kd.R (Kd.int .i64) 3 w' w.heap.size (fun k_ => some k_ ≠ ((.slice Ao19 t559.length co19) : Value).ownBlock ∧ some k_ ≠ ((.slice Ao20 t566.length co20) : Value).ownBlock ∧ some k_ ≠ ((.slice Ao21 t569.length co21) : Value).ownBlock ∧ some k_ ≠ ((.slice Ao24 t574.length co24) : Value).ownBlock ∧ some k_ ≠ ((.slice Ao27 t577.length co27) : Value).ownBlock ∧ some k_ ≠ ((.slice Ao28 t584.length co28) : Value).ownBlock ∧ some k_ ≠ ((.slice Ao29 t587.length co29) : Value).ownBlock ∧ some k_ ≠ ((.slice Ao35 t594.length co35) : Value).ownBlock ∧ some k_ ≠ ((.slice Ao37 t597.length co37) : Value).ownBlock ∧ some k_ ≠ ((.slice Ao43 t604.length co43) : Value).ownBlock ∧ some k_ ≠ ((.slice Ao45 t607.length co45) : Value).ownBlock) (.slice Ao17 t556.length co17) t556) ∧ Aside0 (Kd.R (Kd.int .i64) 3 w' w.heap.size (fun k_ => some k_ ≠ ((.slice Ao17 t556.length co17) : Value).ownBlock ∧ some k_ ≠ ((.slice Ao20 t566.length co20) : Value).ownBlock ∧ some k_ ≠ ((.slice Ao21 t569.length co21) : Value).ownBlock ∧ some k_ ≠ ((.slice Ao24 t574.length co24) : Value).ownBlock ∧ some k_ ≠ ((.slice Ao27 t577.length co27) : Value).ownBlock ∧ some k_ ≠ ((.slice Ao28 t584.length co28) : Value).ownBlock ∧ some k_ ≠ ((.slice Ao29 t587.length co29) : Value).ownBlock ∧ some k_ ≠ ((.slice Ao35 t594.length co35) : Value).ownBlock ∧ some k_ ≠ ((.slice Ao37 t597.length co37) : Value).ownBlock ∧ some k_ ≠ ((.slice Ao43 t604.length co43) : Value).ownBlock ∧ some k_ ≠ ((.slice Ao45 t607.length co45) : Value).ownBlock) (.slice Ao19 t559.length co19) t559) ∧ Aside0 (Kd.R (Kd.int .i64) 3 w' w.heap.size (fun k_ => some k_ ≠ ((.slice Ao17 t556.length co17) : Value).ownBlock ∧ some k_ ≠ ((.slice Ao19 t559.length co19) : Value).ownBlock ∧ some k_ ≠ ((.slice Ao21 t569.length co21) : Value).ownBlock ∧ some k_ ≠ ((.slice Ao24 t574.length co24) : Value).ownBlock ∧ some k_ ≠ ((.slice Ao27 t577.length co27) : Value).ownBlock ∧ some k_ ≠ ((.slice Ao28 t584.length co28) : Value).ownBlock ∧ some k_ ≠ ((.slice Ao29 t587.length co29) : Value).ownBlock ∧ some k_ ≠ ((.slice Ao35 t594.length co35) : Value).ownBlock ∧ some k_ ≠ ((.slice Ao37 t597.length co37) : Value).ownBlock ∧ some k_ ≠ ((.slice Ao43 t604.length co43) : Value).ownBlock ∧ some k_ ≠ ((.slice Ao45 t607.length co45) : Value).ownBlock) (.slice Ao20 t566.length co20) t566) ∧ Aside0 (Kd.R (Kd.int .i64) 3 w' w.heap.size (fun k_ => some k_ ≠ ((.slice Ao17 t556.length co17) : Value).ownBlock ∧ some k_ ≠ ((.slice Ao19 t559.length co19) : Value).ownBlock ∧ some k_ ≠ ((.slice Ao20 t566.length co20) : Value).ownBlock ∧ some k_ ≠ ((.slice Ao24 t574.length co24) : Value).ownBlock ∧ some k_ ≠ ((.slice Ao27 t577.length co27) : Value).ownBlock ∧ some k_ ≠ ((.slice Ao28 t584.length co28) : Value).ownBlock ∧ some k_ ≠ ((.slice Ao29 t587.length co29) : Value).ownBlock ∧ some k_ ≠ ((.slice Ao35 t594.length co35) : Value).ownBlock ∧ some k_ ≠ ((.slice Ao37 t597.length co37) : Value).ownBlock ∧ some k_ ≠ ((.slice Ao43 t604.length co43) : Value).ownBlock ∧ some k_ ≠ ((.slice Ao45 t607.length co45) : Value).ownBlock) (.slice Ao21 t569.length co21) t569) ∧ Aside0 (Kd.R (Kd.int .i64) 3 w' w.heap.size (fun k_ => some k_ ≠ ((.slice Ao17 t556.length co17) : Value).ownBlock ∧ some k_ ≠ ((.slice Ao19 t559.length co19) : Value).ownBlock ∧ some k_ ≠ ((.slice Ao20 t566.length co20) : Value).ownBlock ∧ some k_ ≠ ((.slice Ao21 t569.length co21) : Value).ownBlock ∧ some k_ ≠ ((.slice Ao27 t577.length co27) : Value).ownBlock ∧ some k_ ≠ ((.slice Ao28 t584.length co28) : Value).ownBlock ∧ some k_ ≠ ((.slice Ao29 t587.length co29) : Value).ownBlock ∧ some k_ ≠ ((.slice Ao35 t594.length co35) : Value).ownBlock ∧ some k_ ≠ ((.slice Ao37 t597.length co37) : Value).ownBlock ∧ some k_ ≠ ((.slice Ao43 t604.length co43) : Value).ownBlock ∧ some k_ ≠ ((.slice Ao45 t607.length co45) : Value).ownBlock) (.slice Ao24 t574.length co24) t574) ∧ Aside0 (Kd.R (Kd.int .i64) 3 w' w.heap.size (fun k_ => some k_ ≠ ((.slice Ao17 t556.length co17) : Value).ownBlock ∧ some k_ ≠ ((.slice Ao19 t559.length co19) : Value).ownBlock ∧ some k_ ≠ ((.slice Ao20 t566.length co20) : Value).ownBlock ∧ some k_ ≠ ((.slice Ao21 t569.length co21) : Value).ownBlock ∧ some k_ ≠ ((.slice Ao24 t574.length co24) : Value).ownBlock ∧ some k_ ≠ ((.slice Ao28 t584.length co28) : Value).ownBlock ∧ some k_ ≠ ((.slice Ao29 t587.length co29) : Value).ownBlock ∧ some k_ ≠ ((.slice Ao35 t594.length co35) : Value).ownBlock ∧ some k_ ≠ ((.slice Ao37 t597.length co37) : Value).ownBlock ∧ some k_ ≠ ((.slice Ao43 t604.length co43) : Value).ownBlock ∧ some k_ ≠ ((.slice Ao45 t607.length co45) : Value).ownBlock) (.slice Ao27 t577.length co27) t577) ∧ Aside0 (Kd.R (Kd.int .i64) 3 w' w.heap.size (fun k_ => some k_ ≠ ((.slice Ao17 t556.length co17) : Value).ownBlock ∧ some k_ ≠ ((.slice Ao19 t559.length co19) : Value).ownBlock ∧ some k_ ≠ ((.slice Ao20 t566.length co20) : Value).ownBlock ∧ some k_ ≠ ((.slice Ao21 t569.length co21) : Value).ownBlock ∧ some k_ ≠ ((.slice Ao24 t574.length co24) : Value).ownBlock ∧ some k_ ≠ ((.slice Ao27 t577.length co27) : Value).ownBlock ∧ some k_ ≠ ((.slice Ao29 t587.length co29) : Value).ownBlock ∧ some k_ ≠ ((.slice Ao35 t594.length co35) : Value).ownBlock ∧ some k_ ≠ ((.slice Ao37 t597.length co37) : Value).ownBlock ∧ some k_ ≠ ((.slice Ao43 t604.length co43) : Value).ownBlock ∧ some k_ ≠ ((.slice Ao45 t607.length co45) : Value).ownBlock) (.slice Ao28 t584.length co28) t584) ∧ Aside0 (Kd.R (Kd.int .i64) 3 w' w.heap.size (fun k_ => some k_ ≠ ((.slice Ao17 t556.length co17) : Value).ownBlock ∧ some k_ ≠ ((.slice Ao19 t559.length co19) : Value).ownBlock ∧ some k_ ≠ ((.slice Ao20 t566.length co20) : Value).ownBlock ∧ some k_ ≠ ((.slice Ao21 t569.length co21) : Value).ownBlock ∧ some k_ ≠ ((.slice Ao24 t574.length co24) : Value).ownBlock ∧ some k_ ≠ ((.slice Ao27 t577.length co27) : Value).ownBlock ∧ some k_ ≠ ((.slice Ao28 t584.length co28) : Value).ownBlock ∧ some k_ ≠ ((.slice Ao35 t594.length co35) : Value).ownBlock ∧ some k_ ≠ ((.slice Ao37 t597.length co37) : Value).ownBlock ∧ some k_ ≠ ((.slice Ao43 t604.length co43) : Value).ownBlock ∧ some k_ ≠ ((.slice Ao45 t607.length co45) : Value).ownBlock) (.slice Ao29 t587.length co29) t587) ∧ Aside0 (Kd.R (Kd.int .i64) 3 w' w.heap.size (fun k_ => some k_ ≠ ((.slice Ao17 t556.length co17) : Value).ownBlock ∧ some k_ ≠ ((.slice Ao19 t559.length co19) : Value).ownBlock ∧ some k_ ≠ ((.slice Ao20 t566.length co20) : Value).ownBlock ∧ some k_ ≠ ((.slice Ao21 t569.length co21) : Value).ownBlock ∧ some k_ ≠ ((.slice Ao24 t574.length co24) : Value).ownBlock ∧ some k_ ≠ ((.slice Ao27 t577.length co27) : Value).ownBlock ∧ some k_ ≠ ((.slice Ao28 t584.length co28) : Value).ownBlock ∧ some k_ ≠ ((.slice Ao29 t587.length co29) : Value).ownBlock ∧ some k_ ≠ ((.slice Ao37 t597.length co37) : Value).ownBlock ∧ some k_ ≠ ((.slice Ao43 t604.length co43) : Value).ownBlock ∧ some k_ ≠ ((.slice Ao45 t607.length co45) : Value).ownBlock) (.slice Ao35 t594.length co35) t594) ∧ Aside0 (Kd.R (Kd.int .i64) 3 w' w.heap.size (fun k_ => some k_ ≠ ((.slice Ao17 t556.length co17) : Value).ownBlock ∧ some k_ ≠ ((.slice Ao19 t559.length co19) : Value).ownBlock ∧ some k_ ≠ ((.slice Ao20 t566.length co20) : Value).ownBlock ∧ some k_ ≠ ((.slice Ao21 t569.length co21) : Value).ownBlock ∧ some k_ ≠ ((.slice Ao24 t574.length co24) : Value).ownBlock ∧ some k_ ≠ ((.slice Ao27 t577.length co27) : Value).ownBlock ∧ some k_ ≠ ((.slice Ao28 t584.length co28) : Value).ownBlock ∧ some k_ ≠ ((.slice Ao29 t587.length co29) : Value).ownBlock ∧ some k_ ≠ ((.slice Ao35 t594.length co35) : Value).ownBlock ∧ some k_ ≠ ((.slice Ao43 t604.length co43) : Value).ownBlock ∧ some k_ ≠ ((.slice Ao45 t607.length co45) : Value).ownBlock) (.slice Ao37 t597.length co37) t597) ∧ Aside0 (Kd.R (Kd.int .i64) 3 w' w.heap.size (fun k_ => some k_ ≠ ((.slice Ao17 t556.length co17) : Value).ownBlock ∧ some k_ ≠ ((.slice Ao19 t559.length co19) : Value).ownBlock ∧ some k_ ≠ ((.slice Ao20 t566.length co20) : Value).ownBlock ∧ some k_ ≠ ((.slice Ao21 t569.length co21) : Value).ownBlock ∧ some k_ ≠ ((.slice Ao24 t574.length co24) : Value).ownBlock ∧ some k_ ≠ ((.slice Ao27 t577.length co27) : Value).ownBlock ∧ some k_ ≠ ((.slice Ao28 t584.length co28) : Value).ownBlock ∧ some k_ ≠ ((.slice Ao29 t587.length co29) : Value).ownBlock ∧ some k_ ≠ ((.slice Ao35 t594.length co35) : Value).ownBlock ∧ some k_ ≠ ((.slice Ao37 t597.length co37) : Value).ownBlock ∧ some k_ ≠ ((.slice Ao45 t607.length co45) : Value).ownBlock) (.slice Ao43 t604.length co43) t604) ∧ Aside0 (Kd.R (Kd.int .i64) 3 w' w.heap.size (fun k_ => some k_ ≠ ((.slice Ao17 t556.length co17) : Value).ownBlock ∧ some k_ ≠ ((.slice Ao19 t559.length co19) : Value).ownBlock ∧ some k_ ≠ ((.slice Ao20 t566.length co20) : Value).ownBlock ∧ some k_ ≠ ((.slice Ao21 t569.length co21) : Value).ownBlock ∧ some k_ ≠ ((.slice Ao24 t574.length co24) : Value).ownBlock ∧ some k_ ≠ ((.slice Ao27 t577.length co27) : Value).ownBlock ∧ some k_ ≠ ((.slice Ao28 t584.length co28) : Value).ownBlock ∧ some k_ ≠ ((.slice Ao29 t587.length co29) : Value).ownBlock ∧ some k_ ≠ ((.slice Ao35 t594.length co35) : Value).ownBlock ∧ some k_ ≠ ((.slice Ao37 t597.length co37) : Value).ownBlock ∧ some k_ ≠ ((.slice Ao43 t604.length co43) : Value).ownBlock) (.slice Ao45 t607.length co45) t607) ∧ Aside0 (w'.heap[gb573]? = some (.cells #[(.slice Ao17 t556.length co17), (.slice Ao19 t559.length co19), .bool t562, .bool t563, .bool t564, .bool t565, (.slice Ao20 t566.length co20), (.slice Ao21 t569.length co21), .int .i64 t572] 28 (0, 0))) ∧ Aside0 (w'.heap[gb591]? = some (.cells #[(.slice Ao24 t574.length co24), (.slice Ao27 t577.length co27), .bool t580, .bool t581, .bool t582, .bool t583, (.slice Ao28 t584.length co28), (.slice Ao29 t587.length co29), .int .i64 t590] 28 (0, 0))) ∧ Aside0 (w'.heap[gb612]? = some (.cells #[(.slice Ao35 t594.length co35), (.slice Ao37 t597.length co37), .bool t600, .bool t601, .bool t602, .bool t603, (.slice Ao43 t604.length co43), (.slice Ao45 t607.length co45), .int .i64 t610] 28 (0, 0))) ∧ Aside0 (Below w.heap.size w w'))
     case atStart => exact ⟨(0), d3_, H', ⟨Nat.le_refl _⟩, ⟨kr_ HO_574000.out⟩, ⟨kr_ HO_574001.out⟩, ⟨kr_ HO_574006.out⟩, ⟨kr_ HO_574007.out⟩, ⟨kr_ HO_592000.out⟩, ⟨kr_ HO_592001.out⟩, ⟨kr_ HO_592006.out⟩, ⟨kr_ HO_592007.out⟩, ⟨kr_ HO_613000.out⟩, ⟨kr_ HO_613001.out⟩, ⟨kr_ HO_613006.out⟩, ⟨kr_ HO_613007.out⟩, ⟨by refine bk_ ?_; exact BK573.out⟩, ⟨by refine bk_ ?_; exact BK591.out⟩, ⟨by refine bk_ ?_; exact BK612.out⟩, ⟨bw_ HB.out⟩⟩
     case round =>
      clear H'
      try clear c1
      try clear c2
      try clear p2
      try clear c4
      try clear c5
      try clear p6
      try clear c11
      try clear c27
      try clear c42
      try clear c54
      try clear p64
      try clear c111
      try clear p2
      try clear p6
      try clear p64
      obtain ⟨x14_2, rfl, HA, HK2, HO_574000, HO_574001, HO_574006, HO_574007, HO_592000, HO_592001, HO_592006, HO_592007, HO_613000, HO_613001, HO_613006, HO_613007, BK573, BK591, BK612, HB⟩ := hrel
      cases gk with
      | zero => exact absurd HA.out (by simp [laws_FnMachs.l0])
      | succ k2 =>
       have H := HA.out
       clear HA
       simp only [laws_FnMachs.l0] at H
       by_cases c112 : x14_2 < 256
       ·rw [if_pos c112] at H
        have c112b0 := decide_eq_true c112
        clear c112
        by_cases c113 : x14_2 = (wrap64 (Int.tdiv (wrap64 (2 * (Int.tmod t592 256))) 2))
        ·rw [if_pos c113] at H
         have c113b0 := beq_iff_eq.mpr c113
         have c113b1 := bne_eq_false_iff_eq.mpr c113
         clear c113
         have H' := A_ H
         clear H
         try go_wp2
         replace HO_574000 := A_ (Kd.R_drew HO_574000.out)
         replace HO_574001 := A_ (Kd.R_drew HO_574001.out)
         replace HO_574006 := A_ (Kd.R_drew HO_574006.out)
         replace HO_574007 := A_ (Kd.R_drew HO_574007.out)
         replace HO_592000 := A_ (Kd.R_drew HO_592000.out)
         replace HO_592001 := A_ (Kd.R_drew HO_592001.out)
         replace HO_592006 := A_ (Kd.R_drew HO_592006.out)
         replace HO_592007 := A_ (Kd.R_drew HO_592007.out)
         replace HO_613000 := A_ (Kd.R_drew HO_613000.out)
         replace HO_613001 := A_ (Kd.R_drew HO_613001.out)
         replace HO_613006 := A_ (Kd.R_drew HO_613006.out)
         replace HO_613007 := A_ (Kd.R_drew HO_613007.out)
         replace BK573 := A_ (blk_drew BK573.out)
         replace BK591 := A_ (blk_drew BK591.out)
         replace BK612 := A_ (blk_drew BK612.out)
         replace HB := A_ (below_drew1 HB.out)
         refine start_ (n := 17) (S := fun w' => True) (ds := []) #[false, false, false, false, false, false, false, false, false, false, false, false, false, false, false, false, false] (by kernel_rfl) rfl rfl trivial (fun hHeld => ?_); refine with_tabW laws_FnMachs.tab14 laws_FnMachs.bits14 (fun HT_ HW_ => ?_)
         generalize wr.drew = w114 at HO_574000 HO_574001 HO_574006 HO_574007 HO_592000 HO_592001 HO_592006 HO_592007 HO_613000 HO_613001 HO_613006 HO_613007 BK573 BK591 BK612 HB hHeld ⊢
         refine pu_ 0 (some 92) (bm_ 17 1) (any_of HT_.out (by kernel_rfl)) ?_
         refine pu_ 1 (some 93) (bm_ 17 3) (any_of HT_.out (by kernel_rfl)) ?_
         refine pu_ 2 (some 94) (bm_ 17 7) (any_of HT_.out (by kernel_rfl)) ?_
         refine pu_ 3 (some 95) (bm_ 17 15) (any_of HT_.out (by kernel_rfl)) ?_
         refine pu_ 4 (some 96) (bm_ 17 31) (any_of HT_.out (by kernel_rfl)) ?_
         refine pure_ (i := 5) (N := some 97) (v := undef) (a' := ?_) (bm_ 17 63) rfl rfl (any_of HT_.out (by kernel_rfl)) (fun _ _ _ h => h) (Or.inr ⟨by rfl, rfl⟩) ?_ ?_
         rotate_left
         ·simp only [Act.put, List.setIfInBounds_toArray, List.set_cons_zero, List.set_cons_succ, i64_w, i32_w]
          rfl
         refine pure_ (i := 6) (N := some 98) (v := undef) (a' := ?_) (bm_ 17 127) rfl rfl (any_of HT_.out (by kernel_rfl)) (fun _ _ _ h => h) (Or.inr ⟨by rfl, rfl⟩) ?_ ?_
         rotate_left
         ·simp only [Act.put, List.setIfInBounds_toArray, List.set_cons_zero, List.set_cons_succ, i64_w, i32_w]
          rfl
         refine pure_ (i := 7) (N := some 99) (v := undef) (a' := ?_) (bm_ 17 255) rfl rfl (any_of HT_.out (by kernel_rfl)) (fun _ _ _ h => h) (Or.inr ⟨by rfl, rfl⟩) ?_ ?_
         rotate_left
         ·simp only [Act.put, List.setIfInBounds_toArray, List.set_cons_zero, List.set_cons_succ, i64_w, i32_w]
          rfl
         refine pure_ (i := 8) (N := some 100) (v := undef) (a' := ?_) (bm_ 17 511) rfl rfl (any_of HT_.out (by kernel_rfl)) (fun _ _ _ h => h) (Or.inr ⟨by rfl, rfl⟩) ?_ ?_
         rotate_left
         ·simp only [Act.put, List.setIfInBounds_toArray, List.set_cons_zero, List.set_cons_succ, i64_w, i32_w]
          rfl
         refine pure_ (i := 9) (N := some 101) (v := undef) (a' := ?_) (bm_ 17 1023) rfl rfl (any_of HT_.out (by kernel_rfl)) (fun _ _ _ h => h) (Or.inr ⟨by rfl, rfl⟩) ?_ ?_
         rotate_left
         ·simp only [Act.put, List.setIfInBounds_toArray, List.set_cons_zero, List.set_cons_succ, i64_w, i32_w]
          rfl
         refine pure_ (i := 10) (N := some 102) (v := undef) (a' := ?_) (bm_ 17 2047) rfl rfl (any_of HT_.out (by kernel_rfl)) (fun _ _ _ h => h) (Or.inr ⟨by rfl, rfl⟩) ?_ ?_
         rotate_left
         ·simp only [Act.put, List.setIfInBounds_toArray, List.set_cons_zero, List.set_cons_succ, i64_w, i32_w]
          rfl
         refine pure_ (i := 11) (N := some 103) (v := undef) (a' := ?_) (bm_ 17 4095) rfl rfl (any_of HT_.out (by kernel_rfl)) (fun _ _ _ h => h) (Or.inr ⟨by rfl, rfl⟩) ?_ ?_
         rotate_left
         ·simp only [Act.put, List.setIfInBounds_toArray, List.set_cons_zero, List.set_cons_succ, i64_w, i32_w]
          rfl
         refine pure_ (i := 12) (N := some 104) (v := undef) (a' := ?_) (bm_ 17 8191) rfl rfl (any_of HT_.out (by kernel_rfl)) (fun _ _ _ h => h) (Or.inr ⟨by rfl, rfl⟩) ?_ ?_
         rotate_left
         ·simp only [Act.put, List.setIfInBounds_toArray, List.set_cons_zero, List.set_cons_succ, i64_w, i32_w]
          rfl
         refine pure_ (i := 13) (N := some 105) (v := undef) (a' := ?_) (bm_ 17 16383) rfl rfl (any_of HT_.out (by kernel_rfl)) (fun _ _ _ h => h) (Or.inr ⟨by rfl, rfl⟩) ?_ ?_
         rotate_left
         ·simp only [Act.put, List.setIfInBounds_toArray, List.set_cons_zero, List.set_cons_succ, i64_w, i32_w]
          rfl
         refine pure_ (i := 14) (N := some 106) (v := undef) (a' := ?_) (bm_ 17 32767) rfl rfl (any_of HT_.out (by kernel_rfl)) (fun _ _ _ h => h) (Or.inr ⟨by rfl, rfl⟩) ?_ ?_
         rotate_left
         ·simp only [Act.put, List.setIfInBounds_toArray, List.set_cons_zero, List.set_cons_succ, i64_w, i32_w]
          rfl
         refine pure_ (i := 15) (N := some 107) (v := undef) (a' := ?_) (bm_ 17 65535) rfl rfl (any_of HT_.out (by kernel_rfl)) (fun _ _ _ h => h) (Or.inr ⟨by rfl, rfl⟩) ?_ ?_
         rotate_left
         ·simp only [Act.put, List.setIfInBounds_toArray, List.set_cons_zero, List.set_cons_succ, i64_w, i32_w]
          rfl
         refine pu_ 16 (some 108) (bm_ 17 131071) (any_of HT_.out (by kernel_rfl)) ?_
         refine done_ (done_of HT_.out (by kernel_rfl)) ?_
         try go_wp2
         go_roundg k2
         case measure => have := HJ10.out; have := HK2.out; omega
         case rel => exact ⟨(wrap64 (x14_2 + 1)), d3_, H', ⟨by have := HJ10.out; have := HK2.out; omega⟩, ⟨kr_ HO_574000.out⟩, ⟨kr_ HO_574001.out⟩, ⟨kr_ HO_574006.out⟩, ⟨kr_ HO_574007.out⟩, ⟨kr_ HO_592000.out⟩, ⟨kr_ HO_592001.out⟩, ⟨kr_ HO_592006.out⟩, ⟨kr_ HO_592007.out⟩, ⟨kr_ HO_613000.out⟩, ⟨kr_ HO_613001.out⟩, ⟨kr_ HO_613006.out⟩, ⟨kr_ HO_613007.out⟩, ⟨by refine bk_ ?_; exact BK573.out⟩, ⟨by refine bk_ ?_; exact BK591.out⟩, ⟨by refine bk_ ?_; exact BK612.out⟩, ⟨bw_ HB.out⟩⟩
        ·rw [if_neg c113] at H
         have c113b0 := beq_eq_false_iff_ne.mpr c113
         have c113b1 := bne_iff_ne.mpr c113
         by_cases c115 : 0 ≤ x14_2
         ·rw [if_pos c115] at H
          have c115b0 := decide_eq_true c115
          clear c115
          by_cases c116 : x14_2 < (t594.length : Int)
          ·rw [if_pos c116] at H
           have c116b0 := decide_eq_true c116
           clear c116
           by_cases c117 : x14_2 < (t574.length : Int)
           ·rw [if_pos c117] at H
            have c117b0 := decide_eq_true c117
            clear c117
            by_cases c118 : (rd t594 x14_2) = (rd t574 x14_2)
            ·rw [if_pos c118] at H
             have c118b0 := beq_iff_eq.mpr c118
             have c118b1 := bne_eq_false_iff_eq.mpr c118
             clear c118
             have H' := A_ H
             clear H
             try go_wp2
             replace HO_574000 := A_ (Kd.R_drew HO_574000.out)
             replace HO_574001 := A_ (Kd.R_drew HO_574001.out)
             replace HO_574006 := A_ (Kd.R_drew HO_574006.out)
             replace HO_574007 := A_ (Kd.R_drew HO_574007.out)
             replace HO_592000 := A_ (Kd.R_drew HO_592000.out)
             replace HO_592001 := A_ (Kd.R_drew HO_592001.out)
             replace HO_592006 := A_ (Kd.R_drew HO_592006.out)
             replace HO_592007 := A_ (Kd.R_drew HO_592007.out)
             replace HO_613000 := A_ (Kd.R_drew HO_613000.out)
             replace HO_613001 := A_ (Kd.R_drew HO_613001.out)
             replace HO_613006 := A_ (Kd.R_drew HO_613006.out)
             replace HO_613007 := A_ (Kd.R_drew HO_613007.out)
             replace BK573 := A_ (blk_drew BK573.out)
             replace BK591 := A_ (blk_drew BK591.out)
             replace BK612 := A_ (blk_drew BK612.out)
             replace HB := A_ (below_drew1 HB.out)
             have p637 : 0 ≤ (x14_2 : Int) := of_decide_eq_true d5_
             have q637 : x14_2 < (t594.length : Int) := of_decide_eq_true d5_
             obtain ⟨ad637, e637, hx637_0⟩ := Kd.at_int (Kd.R_reads' HO_613000.out).2.2 x14_2 p637 q637
             cases e637
             replace p637 := eq_true p637
             replace q637 := eq_true q637
             have p638 : 0 ≤ (x14_2 : Int) := of_decide_eq_true d5_
             have q638 : x14_2 < (t574.length : Int) := of_decide_eq_true d5_
             obtain ⟨ad638, e638, hx638_0⟩ := Kd.at_int (Kd.R_reads' HO_592000.out).2.2 x14_2 p638 q638
             cases e638
             replace p638 := eq_true p638
             replace q638 := eq_true q638
             refine start_ (n := 17) (S := fun w' => w'.cell? ⟨gb612, 0, none⟩ = some (.slice (some ad637) t594.length co35) ∧ w'.cell? ⟨gb612, 1, none⟩ = some (.slice Ao37 t597.length co37) ∧ w'.cell? ⟨gb612, 2, none⟩ = some (.bool t600) ∧ w'.cell? ⟨gb612, 3, none⟩ = some (.bool t601) ∧ w'.cell? ⟨gb612, 4, none⟩ = some (.bool t602) ∧ w'.cell? ⟨gb612, 5, none⟩ = some (.bool t603) ∧ w'.cell? ⟨gb612, 6, none⟩ = some (.slice Ao43 t604.length co43) ∧ w'.cell? ⟨gb612, 7, none⟩ = some (.slice Ao45 t607.length co45) ∧ w'.cell? ⟨gb612, 8, none⟩ = some (.int .i64 t610) ∧ w'.cell? ⟨gb591, 0, none⟩ = some (.slice (some ad638) t574.length co24) ∧ w'.cell? ⟨gb591, 1, none⟩ = some (.slice Ao27 t577.length co27) ∧ w'.cell? ⟨gb591, 2, none⟩ = some (.bool t580) ∧ w'.cell? ⟨gb591, 3, none⟩ = some (.bool t581) ∧ w'.cell? ⟨gb591, 4, none⟩ = some (.bool t582) ∧ w'.cell? ⟨gb591, 5, none⟩ = some (.bool t583) ∧ w'.cell? ⟨gb591, 6, none⟩ = some (.slice Ao28 t584.length co28) ∧ w'.cell? ⟨gb591, 7, none⟩ = some (.slice Ao29 t587.length co29) ∧ w'.cell? ⟨gb591, 8, none⟩ = some (.int .i64 t590) ∧ w'.cell? (ad637.add (x14_2).toNat) = some (.int .i64 (rd t594 x14_2)) ∧ w'.cell? (ad638.add (x14_2).toNat) = some (.int .i64 (rd t574 x14_2))) (ds := []) #[false, false, false, false, false, false, false, false, false, false, false, false, false, false, false, false, false] (by kernel_rfl) rfl rfl ⟨(blk_cell BK612.out 0).trans rfl, (blk_cell BK612.out 1).trans rfl, (blk_cell BK612.out 2).trans rfl, (blk_cell BK612.out 3).trans rfl, (blk_cell BK612.out 4).trans rfl, (blk_cell BK612.out 5).trans rfl, (blk_cell BK612.out 6).trans rfl, (blk_cell BK612.out 7).trans rfl, (blk_cell BK612.out 8).trans rfl, (blk_cell BK591.out 0).trans rfl, (blk_cell BK591.out 1).trans rfl, (blk_cell BK591.out 2).trans rfl, (blk_cell BK591.out 3).trans rfl, (blk_cell BK591.out 4).trans rfl, (blk_cell BK591.out 5).trans rfl, (blk_cell BK591.out 6).trans rfl, (blk_cell BK591.out 7).trans rfl, (blk_cell BK591.out 8).trans rfl, hx637_0, hx638_0⟩ (fun hHeld => ?_); refine with_tabW laws_FnMachs.tab14 laws_FnMachs.bits14 (fun HT_ HW_ => ?_)
             generalize wr.drew = w119 at HO_574000 HO_574001 HO_574006 HO_574007 HO_592000 HO_592001 HO_592006 HO_592007 HO_613000 HO_613001 HO_613006 HO_613007 BK573 BK591 BK612 HB hx637_0 hx638_0 hHeld ⊢
             refine pu_ 0 (some 92) (bm_ 17 1) (any_of HT_.out (by kernel_rfl)) ?_
             refine pu_ 1 (some 93) (bm_ 17 3) (any_of HT_.out (by kernel_rfl)) ?_
             refine pu_ 2 (some 94) (bm_ 17 7) (any_of HT_.out (by kernel_rfl)) ?_
             refine pu_ 3 (some 95) (bm_ 17 15) (any_of HT_.out (by kernel_rfl)) ?_
             refine pu_ 4 (some 96) (bm_ 17 31) (any_of HT_.out (by kernel_rfl)) ?_
             refine pu_ 5 (some 97) (bm_ 17 63) (any_of HT_.out (by kernel_rfl)) ?_
             refine pu_ 7 (some 99) (bm_ 17 191) (any_of HT_.out (by kernel_rfl)) ?_
             refine pu_ 10 (some 102) (bm_ 17 1215) (any_of HT_.out (by kernel_rfl)) ?_
             refine pu_ 12 (some 104) (bm_ 17 5311) (any_of HT_.out (by kernel_rfl)) ?_
             refine take_ (i := 6) (N := some 98) (v := ?_) (a' := ?_) (bm_ 17 5375) rfl rfl (take_ofW HT_.out HW_.out (by kernel_rfl)) (fun _ _ _ h => h) (Or.inl ⟨by rfl, ?_⟩) hHeld ?_ ?_
             rotate_left
             ·rintro w' ⟨s0, s1, s2, s3, s4, s5, s6, s7, s8, s9, s10, s11, s12, s13, s14, s15, s16, s17, s18, s19⟩
              go_simp
              with_reducible rfl
             rotate_left
             ·simp only [Act.put, List.setIfInBounds_toArray, List.set_cons_zero, List.set_cons_succ, i64_w, i32_w]
              rfl
             refine pu_ 8 (some 100) (bm_ 17 5631) (any_of HT_.out (by kernel_rfl)) ?_
             refine take_ (i := 9) (N := some 101) (v := ?_) (a' := ?_) (bm_ 17 6143) rfl rfl (take_ofW HT_.out HW_.out (by kernel_rfl)) (fun _ _ _ h => h) (Or.inl ⟨by rfl, ?_⟩) hHeld ?_ ?_
             rotate_left
             ·rintro w' ⟨s0, s1, s2, s3, s4, s5, s6, s7, s8, s9, s10, s11, s12, s13, s14, s15, s16, s17, s18, s19⟩
              go_simp
              with_reducible rfl
             rotate_left
             ·simp only [Act.put, List.setIfInBounds_toArray, List.set_cons_zero, List.set_cons_succ, i64_w, i32_w]
              rfl
             refine take_ (i := 11) (N := some 103) (v := ?_) (a' := ?_) (bm_ 17 8191) rfl rfl (take_ofW HT_.out HW_.out (by kernel_rfl)) (fun _ _ _ h => h) (Or.inl ⟨by rfl, ?_⟩) hHeld ?_ ?_
             rotate_left
             ·rintro w' ⟨s0, s1, s2, s3, s4, s5, s6, s7, s8, s9, s10, s11, s12, s13, s14, s15, s16, s17, s18, s19⟩
              go_simp
              with_reducible rfl
             rotate_left
             ·simp only [Act.put, List.setIfInBounds_toArray, List.set_cons_zero, List.set_cons_succ, i64_w, i32_w]
              rfl
             refine pu_ 13 (some 105) (bm_ 17 16383) (any_of HT_.out (by kernel_rfl)) ?_
             refine take_ (i := 14) (N := some 106) (v := ?_) (a' := ?_) (bm_ 17 32767) rfl rfl (take_ofW HT_.out HW_.out (by kernel_rfl)) (fun _ _ _ h => h) (Or.inl ⟨by rfl, ?_⟩) hHeld ?_ ?_
             rotate_left
             ·rintro w' ⟨s0, s1, s2, s3, s4, s5, s6, s7, s8, s9, s10, s11, s12, s13, s14, s15, s16, s17, s18, s19⟩
              go_simp
              with_reducible rfl
             rotate_left
             ·simp only [Act.put, List.setIfInBounds_toArray, List.set_cons_zero, List.set_cons_succ, i64_w, i32_w]
              rfl
             refine pu_ 15 (some 107) (bm_ 17 65535) (any_of HT_.out (by kernel_rfl)) ?_
             refine pu_ 16 (some 108) (bm_ 17 131071) (any_of HT_.out (by kernel_rfl)) ?_
             refine done_ (done_of HT_.out (by kernel_rfl)) ?_
             try go_wp2
             go_roundg k2
             case measure => have := HJ10.out; have := HK2.out; omega
             case rel => exact ⟨(wrap64 (x14_2 + 1)), d3_, H', ⟨by have := HJ10.out; have := HK2.out; omega⟩, ⟨kr_ HO_574000.out⟩, ⟨kr_ HO_574001.out⟩, ⟨kr_ HO_574006.out⟩, ⟨kr_ HO_574007.out⟩, ⟨kr_ HO_592000.out⟩, ⟨kr_ HO_592001.out⟩, ⟨kr_ HO_592006.out⟩, ⟨kr_ HO_592007.out⟩, ⟨kr_ HO_613000.out⟩, ⟨kr_ HO_613001.out⟩, ⟨kr_ HO_613006.out⟩, ⟨kr_ HO_613007.out⟩, ⟨by refine bk_ ?_; exact BK573.out⟩, ⟨by refine bk_ ?_; exact BK591.out⟩, ⟨by refine bk_ ?_; exact BK612.out⟩, ⟨bw_ HB.out⟩⟩
            ·rw [if_neg c118] at H
             have c118b0 := beq_eq_false_iff_ne.mpr c118
             have c118b1 := bne_iff_ne.mpr c118
             subst hr_
             exact absurd H (by simp)
           ·rw [if_neg c117] at H
            exact absurd H (by simp)
          ·rw [if_neg c116] at H
           exact absurd H (by simp)
         ·rw [if_neg c115] at H
          exact absurd H (by simp)
       ·rw [if_neg c112] at H
        have c112b0 := decide_eq_false c112
        clear c112
        obtain rfl := Option.some.inj H
        go_wp2
        go_ret
        exact rt_ (bw_ HB.out)

/-- THE ONE PURE STATEMENT of laws_FnMachs: yours. -/
def laws_FnMachs.Pure : Prop := ∀ (l0 : List Int), l0.length ≤ maxLen → l0.length * 1 ≤ 140737488351232 → (∀ x ∈ l0, (Lit.int .u8 x).wf = true) → ∃ k, laws_FnMachs.f k l0 = some true
theorem laws_FnMachs.walk (P : laws_FnMachs.Pure) (a0 : Option Addr) (len0 cap0 : Nat) (z0 : List Int) (w : World) (w0 : (a0 = none ∧ len0 = 0 ∧ cap0 = 0 ∧ z0 = []) ∨ ∃ x, a0 = some x ∧ len0 ≤ cap0 ∧ cap0 ≤ maxLen ∧ z0.length = cap0 ∧ (∀ i, i < z0.length → w.cell? (x.add i) = some (.int .u8 (z0.getD i 0))) ∧ ∀ n ∈ z0, (Lit.int .u8 n).wf = true) (y0 : len0 * 1 ≤ 140737488351232) :
  Calls Try.prog 10 #[.slice a0 len0 cap0] w fun e w' => e = .returned (.bool true) ∧ Below w.heap.size w w' := by
 obtain ⟨l0, rfl, hr0, hm0, hw0, hc0⟩ := ReadsInt.ofRowC w0
 obtain ⟨k, h⟩ := P l0 hm0 y0 hw0
 refine (laws_FnMachs.calls k _ _ l0 true w (Kd.C_of_reads (d := (0 : Int)) (h1 := fun _ => rfl) hr0) hc0 h rfl).mono ?_
 rintro e w' ⟨rfl, hd⟩
 exact ⟨rfl, hd⟩

end Go.Proofs.Ytiagbfilffbljaa.PFnMachs
