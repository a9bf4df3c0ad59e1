-- Laid by a program of this session (a changed copy of the kit's printer); Lean checks every line.
import Derived.Test.YtajkjkdfcegdpaaPFnCodesx0
import Derived.Test.YtajkjkdfcegdpaaPFnCodesx2
import Derived.Test.YtajkjkdfcegdpaaPFnCodesx3
import Derived.Test.YtajkjkdfcegdpaaPFnCodesx4
import Derived.Test.YtajkjkdfcegdpaaPFnCodesx5
import Derived.Test.YtajkjkdfcegdpaaPFnCodesx6
import Derived.Test.YtajkjkdfcegdpaaPFnCodesx8
import Derived.Test.YtajkjkdfcegdpaaPFnCodesx10
import Derived.Test.YtajkjkdfcegdpaaPFnCodesx12
namespace Go.Proofs.Ytajkjkdfcegdpaa.PFnCodes
open Go.RowKit Go.Proofs.YtajkjkdfcegdpaaW.PrintWords Go.Proofs.YtajkjkdfcegdpaaW.PrintLast Go.Proofs.YtajkjkdfcegdpaaW.PrintMore
attribute [local go_sem] max2_int min2_int max_two min_two max_three min_three max_four min_four   -- for this text's walks alone
set_option linter.unusedVariables false
set_option linter.unusedSimpArgs false

attribute [local go_sem high] eqA32
/-! ### laws_FnCodes: function 10 -/
def laws_FnCodes.j0 : Nat → List Int → Bool → Int → Int → Int → Int → Int → Int → Int → Int → Option (Bool)
 | 0, _, _, _, _, _, _, _, _, _, _ => none
 | k + 1, x4, x69, x524000, x524001, x524002, x524003, x524004, x524005, x524006, x524007 => if x69 = true then (some false) else ((spec_InsOk.f k x524000 x524001 x524002 x524003 x524004 x524005 x524006 x524007).bind fun t563 => (if t563 = true then ((impl_Decode.f k x4 0).bind fun bt564 => (if bt564.2.2.2.2.2.2.2.2.2 = true then (if (bt564.1 == x524000 && ((bt564.2.1 == x524001 && (bt564.2.2.1 == x524002 && (bt564.2.2.2.1 == x524003))) && ((bt564.2.2.2.2.1 == x524004 && (bt564.2.2.2.2.2.1 == x524005 && (bt564.2.2.2.2.2.2.1 == x524006))) && (bt564.2.2.2.2.2.2.2.1 == x524007)))) = true then (if bt564.2.2.2.2.2.2.2.2.1 = (x4.length : Int) then ((impl_Words.f k x524000 x524001 x524002 x524003 x524004 x524005 x524006 x524007).bind fun t575 => (if bt564.2.2.2.2.2.2.2.2.1 = t575 then ((impl_InsOk.f k x524000 x524001 x524002 x524003 x524004 x524005 x524006 x524007).bind fun t576 => (some t576)) else (some false))) else (some false)) else (some false)) else (some false))) else (if (x4.length : Int) = 0 then ((impl_InsOk.f k x524000 x524001 x524002 x524003 x524004 x524005 x524006 x524007).bind fun t577 => (some (!t577))) else (some false))))
def laws_FnCodes.f (k : Nat) (l0 : List Int) : Option (Bool) := (laws_big.f l0).bind fun t514 => (if t514 = true then (some true) else ((spec_DrawEncode.f k l0).bind fun bt515 => ((impl_Encode.f k bt515.1 bt515.2.1 bt515.2.2.1 bt515.2.2.2.1 bt515.2.2.2.2.1 bt515.2.2.2.2.2.1 bt515.2.2.2.2.2.2.1 bt515.2.2.2.2.2.2.2).bind fun t524 => ((spec_DrawDecode.f k l0).bind fun bt527 => ((impl_Decode.f k bt527.1 bt527.2).bind fun bt531 => ((spec_Decode.f k bt527.1 bt527.2).bind fun bt542 => (if (bt531.2.2.2.2.2.2.2.2.2 != bt542.2.2.2.2.2.2.2.2.2) = true then (laws_FnCodes.j0 k t524 true bt515.1 bt515.2.1 bt515.2.2.1 bt515.2.2.2.1 bt515.2.2.2.2.1 bt515.2.2.2.2.2.1 bt515.2.2.2.2.2.2.1 bt515.2.2.2.2.2.2.2) else (if bt531.2.2.2.2.2.2.2.2.2 = true then ((impl_InsOk.f k bt531.1 bt531.2.1 bt531.2.2.1 bt531.2.2.2.1 bt531.2.2.2.2.1 bt531.2.2.2.2.2.1 bt531.2.2.2.2.2.2.1 bt531.2.2.2.2.2.2.2.1).bind fun t553 => (if t553 = true then ((impl_Words.f k bt531.1 bt531.2.1 bt531.2.2.1 bt531.2.2.2.1 bt531.2.2.2.2.1 bt531.2.2.2.2.2.1 bt531.2.2.2.2.2.2.1 bt531.2.2.2.2.2.2.2.1).bind fun t554 => (if t554 = bt531.2.2.2.2.2.2.2.2.1 then ((impl_Encode.f k bt531.1 bt531.2.1 bt531.2.2.1 bt531.2.2.2.1 bt531.2.2.2.2.1 bt531.2.2.2.2.2.1 bt531.2.2.2.2.2.2.1 bt531.2.2.2.2.2.2.2.1).bind fun t555 => (if 0 ≤ bt527.2 then (if bt527.2 ≤ (wrap64 (bt527.2 + bt531.2.2.2.2.2.2.2.2.1)) then (if (wrap64 (bt527.2 + bt531.2.2.2.2.2.2.2.2.1)) ≤ (bt527.1.length : Int) then ((laws_sameInts.f k t555 ((bt527.1.take ((wrap64 (bt527.2 + bt531.2.2.2.2.2.2.2.2.1)) : Int).toNat).drop (bt527.2 : Int).toNat)).bind fun t562 => (laws_FnCodes.j0 k t524 (!t562) bt515.1 bt515.2.1 bt515.2.2.1 bt515.2.2.2.1 bt515.2.2.2.2.1 bt515.2.2.2.2.2.1 bt515.2.2.2.2.2.2.1 bt515.2.2.2.2.2.2.2)) else (none)) else (none)) else (none))) else (laws_FnCodes.j0 k t524 true bt515.1 bt515.2.1 bt515.2.2.1 bt515.2.2.2.1 bt515.2.2.2.2.1 bt515.2.2.2.2.2.1 bt515.2.2.2.2.2.2.1 bt515.2.2.2.2.2.2.2))) else (laws_FnCodes.j0 k t524 true bt515.1 bt515.2.1 bt515.2.2.1 bt515.2.2.2.1 bt515.2.2.2.2.1 bt515.2.2.2.2.2.1 bt515.2.2.2.2.2.2.1 bt515.2.2.2.2.2.2.2))) else (laws_FnCodes.j0 k t524 false bt515.1 bt515.2.1 bt515.2.2.1 bt515.2.2.2.1 bt515.2.2.2.2.1 bt515.2.2.2.2.2.1 bt515.2.2.2.2.2.2.1 bt515.2.2.2.2.2.2.2)))))))))
theorem laws_FnCodes.mono_l : ∀ k, (∀ y0 y1 y2 y3 y4 y5 y6 y7 y8 y9, LeO (laws_FnCodes.j0 k y0 y1 y2 y3 y4 y5 y6 y7 y8 y9) (laws_FnCodes.j0 (k + 1) y0 y1 y2 y3 y4 y5 y6 y7 y8 y9))
 | 0 => fun _ _ _ _ _ _ _ _ _ _ r h => by simp [laws_FnCodes.j0] at h
 | k + 1 => by
  have ih0 := laws_FnCodes.mono_l k
  ·intro y0 y1 y2 y3 y4 y5 y6 y7 y8 y9
   unfold laws_FnCodes.j0
   repeat' first
   | (with_reducible exact ih0 _ _ _ _ _ _ _ _ _ _)
   | (with_reducible exact impl_Decode.mono _ _ _)
   | (with_reducible exact impl_Encode.mono _ _ _ _ _ _ _ _ _)
   | (with_reducible exact impl_InsOk.mono _ _ _ _ _ _ _ _ _)
   | (with_reducible exact impl_Words.mono _ _ _ _ _ _ _ _ _)
   | (with_reducible exact laws_sameInts.mono _ _ _)
   | (with_reducible exact spec_Decode.mono _ _ _)
   | (with_reducible exact spec_DrawDecode.mono _ _)
   | (with_reducible exact spec_DrawEncode.mono _ _)
   | (with_reducible exact spec_InsOk.mono _ _ _ _ _ _ _ _ _)
   | (with_reducible exact LeO.refl _)
   | (with_reducible exact LeO.none _)
   | (with_reducible refine LeO.ite ?_ ?_)
   | (with_reducible refine LeO.bind ?_ (fun _ => ?_))
   | exact ih0 _ _ _ _ _ _ _ _ _ _
   | exact impl_Decode.mono _ _ _
   | exact impl_Encode.mono _ _ _ _ _ _ _ _ _
   | exact impl_InsOk.mono _ _ _ _ _ _ _ _ _
   | exact impl_Words.mono _ _ _ _ _ _ _ _ _
   | exact laws_sameInts.mono _ _ _
   | exact spec_Decode.mono _ _ _
   | exact spec_DrawDecode.mono _ _
   | exact spec_DrawEncode.mono _ _
   | exact spec_InsOk.mono _ _ _ _ _ _ _ _ _
   | exact LeO.none _
   | refine LeO.ite ?_ ?_
   | refine LeO.bind ?_ (fun _ => ?_)
theorem laws_FnCodes.mono : ∀ a0 k, LeO (laws_FnCodes.f k a0) (laws_FnCodes.f (k + 1) a0) := by
 intro a0 k
 have ih0 := laws_FnCodes.mono_l k
 unfold laws_FnCodes.f
 repeat' first
   | (with_reducible exact ih0 _ _ _ _ _ _ _ _ _ _)
   | (with_reducible exact impl_Decode.mono _ _ _)
   | (with_reducible exact impl_Encode.mono _ _ _ _ _ _ _ _ _)
   | (with_reducible exact impl_InsOk.mono _ _ _ _ _ _ _ _ _)
   | (with_reducible exact impl_Words.mono _ _ _ _ _ _ _ _ _)
   | (with_reducible exact laws_sameInts.mono _ _ _)
   | (with_reducible exact spec_Decode.mono _ _ _)
   | (with_reducible exact spec_DrawDecode.mono _ _)
   | (with_reducible exact spec_DrawEncode.mono _ _)
   | (with_reducible exact spec_InsOk.mono _ _ _ _ _ _ _ _ _)
   | (with_reducible exact LeO.refl _)
   | (with_reducible exact LeO.none _)
   | (with_reducible refine LeO.ite ?_ ?_)
   | (with_reducible refine LeO.bind ?_ (fun _ => ?_))
   | exact ih0 _ _ _ _ _ _ _ _ _ _
   | exact impl_Decode.mono _ _ _
   | exact impl_Encode.mono _ _ _ _ _ _ _ _ _
   | exact impl_InsOk.mono _ _ _ _ _ _ _ _ _
   | exact impl_Words.mono _ _ _ _ _ _ _ _ _
   | exact laws_sameInts.mono _ _ _
   | exact spec_Decode.mono _ _ _
   | exact spec_DrawDecode.mono _ _
   | exact spec_DrawEncode.mono _ _
   | exact spec_InsOk.mono _ _ _ _ _ _ _ _ _
   | exact LeO.none _
   | refine LeO.ite ?_ ?_
   | refine LeO.bind ?_ (fun _ => ?_)
def laws_FnCodes.T8 : Bool × List (List Nat × List Nat) := (true, [([], []), ([], []), ([0, 1], [0, 1]), ([2], [2]), ([3], [3]), ([4, 3, 3], [3, 4]), ([5], [5]), ([6, 5, 5], [5, 6]), ([7, 5], [5, 7]), ([8, 7, 5], [5, 8]), ([9], [9]), ([10, 9, 9], [9, 10]), ([9], [9]), ([11, 12, 9], [9, 11, 12]), ([9, 13, 5], [5, 9, 13]), ([14, 11, 5], [5, 14]), ([15], [15]), ([16, 15, 15], [15, 16]), ([15], [15]), ([15], [15]), ([15], [15]), ([15], [15]), ([20, 21, 15], [15, 20, 21]), ([18, 19, 22, 15], [15, 18, 19, 22]), ([17, 23, 17, 15], [15, 17, 23]), ([24, 15], [15, 24]), ([15, 25, 5], [5, 15, 25]), ([5, 26, 3], [3, 5, 26]), ([3, 27], [3, 27])])
def laws_FnCodes.B8 : List Nat := [0, 0, 3, 7, 15, 31, 63, 127, 255, 511, 1023, 2047, 1023, 8191, 16383, 32767, 65535, 131071, 65535, 65535, 65535, 65535, 3211263, 8191999, 16777215, 33554431, 67108863, 134217727, 268435455]
theorem laws_FnCodes.tab8 : rtab .any (opsOf Try.f10 8) = laws_FnCodes.T8 := by kernel_rfl
theorem laws_FnCodes.bits8 : waitsOk laws_FnCodes.T8.2 laws_FnCodes.B8 = true := by kernel_rfl
set_option maxHeartbeats 8000000 in
set_option maxRecDepth 100000 in
theorem laws_FnCodes.calls (k : Nat) (A0 : Option Addr) (c0 : Nat) (l0 : List Int) (r : Bool) (w : World) (hr0 : Kd.C (Kd.int .u8) w A0 l0.length l0) (hc0 : l0.length ≤ c0) (h : laws_FnCodes.f k l0 = some r) (hr_ : r = true) :
  Calls Try.prog 10 #[.slice A0 l0.length c0] w fun e w' => e = .returned (.bool r) ∧ Below w.heap.size w w' := by
 have hu32 := Try.underlying32
 have HR0 := Aside0.mk hr0
 have HC0 := Aside0.mk hc0
 clear hr0 hc0
 have HB := Aside0.mk (Below.refl w.heap.size w)
 have H : ((laws_big.f l0).bind fun t514 => (if t514 = true then (some true) else ((spec_DrawEncode.f k l0).bind fun bt515 => ((impl_Encode.f k bt515.1 bt515.2.1 bt515.2.2.1 bt515.2.2.2.1 bt515.2.2.2.2.1 bt515.2.2.2.2.2.1 bt515.2.2.2.2.2.2.1 bt515.2.2.2.2.2.2.2).bind fun t524 => ((spec_DrawDecode.f k l0).bind fun bt527 => ((impl_Decode.f k bt527.1 bt527.2).bind fun bt531 => ((spec_Decode.f k bt527.1 bt527.2).bind fun bt542 => (if (bt531.2.2.2.2.2.2.2.2.2 != bt542.2.2.2.2.2.2.2.2.2) = true then (laws_FnCodes.j0 k t524 true bt515.1 bt515.2.1 bt515.2.2.1 bt515.2.2.2.1 bt515.2.2.2.2.1 bt515.2.2.2.2.2.1 bt515.2.2.2.2.2.2.1 bt515.2.2.2.2.2.2.2) else (if bt531.2.2.2.2.2.2.2.2.2 = true then ((impl_InsOk.f k bt531.1 bt531.2.1 bt531.2.2.1 bt531.2.2.2.1 bt531.2.2.2.2.1 bt531.2.2.2.2.2.1 bt531.2.2.2.2.2.2.1 bt531.2.2.2.2.2.2.2.1).bind fun t553 => (if t553 = true then ((impl_Words.f k bt531.1 bt531.2.1 bt531.2.2.1 bt531.2.2.2.1 bt531.2.2.2.2.1 bt531.2.2.2.2.2.1 bt531.2.2.2.2.2.2.1 bt531.2.2.2.2.2.2.2.1).bind fun t554 => (if t554 = bt531.2.2.2.2.2.2.2.2.1 then ((impl_Encode.f k bt531.1 bt531.2.1 bt531.2.2.1 bt531.2.2.2.1 bt531.2.2.2.2.1 bt531.2.2.2.2.2.1 bt531.2.2.2.2.2.2.1 bt531.2.2.2.2.2.2.2.1).bind fun t555 => (if 0 ≤ bt527.2 then (if bt527.2 ≤ (wrap64 (bt527.2 + bt531.2.2.2.2.2.2.2.2.1)) then (if (wrap64 (bt527.2 + bt531.2.2.2.2.2.2.2.2.1)) ≤ (bt527.1.length : Int) then ((laws_sameInts.f k t555 ((bt527.1.take ((wrap64 (bt527.2 + bt531.2.2.2.2.2.2.2.2.1)) : Int).toNat).drop (bt527.2 : Int).toNat)).bind fun t562 => (laws_FnCodes.j0 k t524 (!t562) bt515.1 bt515.2.1 bt515.2.2.1 bt515.2.2.2.1 bt515.2.2.2.2.1 bt515.2.2.2.2.2.1 bt515.2.2.2.2.2.2.1 bt515.2.2.2.2.2.2.2)) else (none)) else (none)) else (none))) else (laws_FnCodes.j0 k t524 true bt515.1 bt515.2.1 bt515.2.2.1 bt515.2.2.2.1 bt515.2.2.2.2.1 bt515.2.2.2.2.2.1 bt515.2.2.2.2.2.2.1 bt515.2.2.2.2.2.2.2))) else (laws_FnCodes.j0 k t524 true bt515.1 bt515.2.1 bt515.2.2.1 bt515.2.2.2.1 bt515.2.2.2.2.1 bt515.2.2.2.2.2.1 bt515.2.2.2.2.2.2.1 bt515.2.2.2.2.2.2.2))) else (laws_FnCodes.j0 k t524 false bt515.1 bt515.2.1 bt515.2.2.1 bt515.2.2.2.1 bt515.2.2.2.2.1 bt515.2.2.2.2.2.1 bt515.2.2.2.2.2.2.1 bt515.2.2.2.2.2.2.2)))))))))) = some r := h
 clear h
 replace H := Option.bind_eq_some_iff.mp H
 obtain ⟨t514, A20, H⟩ := H
 try dsimp only at H
 have A2 := Aside0.mk A20
 clear A20
 by_cases c3 : t514 = true
 ·subst c3
  rw [if_pos rfl] at H
  obtain rfl := Option.some.inj H
  go_enter Try.func10, Try.ntmps10
  go_wp2_with (first | ((with_reducible refine gate_callee (f := 30) rfl ?_); refine gL_ (some 17) Try.func30 #[.slice A0 l0.length c0] ?_; (with_reducible refine (laws_big.calls _ _ l0 true _ ?side1 ?side2 A2.out).mono ?_); (case side1 => repeat (first | exact HR0.out | (with_reducible refine Kd.C_alloc ?_ _) | (with_reducible refine Kd.C_drewN ?_ _) | (with_reducible refine Kd.C_drew ?_))); (case side2 => exact HC0.out); rintro e w' ⟨rfl, ⟨nd, rfl⟩⟩; refine ⟨_, rfl, ?_⟩))
  go_ret
  exact rt_ (bw_ HB.out)
 ·replace c3 := Bool.eq_false_iff.mpr c3
  subst c3
  rw [if_neg (show ¬ (false = true) by decide)] at H
  replace H := Option.bind_eq_some_iff.mp H
  obtain ⟨⟨t515, t516, t517, t518, t519, t520, t521, t522⟩, A40, H⟩ := H
  try dsimp only at H
  have A4 := Aside0.mk A40
  clear A40
  replace H := Option.bind_eq_some_iff.mp H
  obtain ⟨t524, A50, H⟩ := H
  try dsimp only at H
  have A5 := Aside0.mk A50
  clear A50
  replace H := Option.bind_eq_some_iff.mp H
  obtain ⟨⟨t527, t528⟩, A60, H⟩ := H
  try dsimp only at H
  have A6 := Aside0.mk A60
  clear A60
  replace H := Option.bind_eq_some_iff.mp H
  obtain ⟨⟨t531, t532, t533, t534, t535, t536, t537, t538, t539, t540⟩, A70, H⟩ := H
  try dsimp only at H
  have A7 := Aside0.mk A70
  clear A70
  replace H := Option.bind_eq_some_iff.mp H
  obtain ⟨⟨t542, t543, t544, t545, t546, t547, t548, t549, t550, t551⟩, A80, H⟩ := H
  try dsimp only at H
  have A8 := Aside0.mk A80
  clear A80
  have HC9 := Aside0.mk H
  clear H
  go_enter Try.func10, Try.ntmps10
  go_upto_region 8 with (first | ((with_reducible refine gate_callee (f := 30) rfl ?_); refine gL_ (some 17) Try.func30 #[.slice A0 l0.length c0] ?_; (with_reducible refine (laws_big.calls _ _ l0 false _ ?side1 ?side2 A2.out).mono ?_); (case side1 => repeat (first | exact HR0.out | (with_reducible refine Kd.C_alloc ?_ _) | (with_reducible refine Kd.C_drewN ?_ _) | (with_reducible refine Kd.C_drew ?_))); (case side2 => exact HC0.out); rintro e w' ⟨rfl, ⟨nd, rfl⟩⟩; refine ⟨_, rfl, ?_⟩) | ((with_reducible refine gate_callee (f := 32) rfl ?_); refine gL_ (some 19) Try.func32 #[.slice A0 l0.length c0] ?_; (with_reducible refine (spec_DrawEncode.calls k _ _ l0 t515 t516 t517 t518 t519 t520 t521 t522 _ ?side1 ?side2 A4.out).mono ?_); (case side1 => repeat (first | exact HR0.out | (with_reducible refine Kd.C_alloc ?_ _) | (with_reducible refine Kd.C_drewN ?_ _) | (with_reducible refine Kd.C_drew ?_))); (case side2 => exact HC0.out); rintro e w10 ⟨rfl, hb⟩; refine ⟨_, rfl, ?_⟩; have n0_ := Aside0.mk (below_step (bw_ HB.out) hb); clear HB; have HB := n0_; clear n0_; (try clear hb); (try clear hb2); (try clear hk); (try clear hi)) | ((with_reducible refine gate_dst (N := 3) rfl ?_); (try (refine gate_guard (by rfl) ?_; dsimp only)); refine box_event ?hg (N := 3) ?hd (cs := #[.int .i64 0, .int .i64 0, .int .i64 0, .int .i64 0, .int .i64 0, .int .i64 0, .int .i64 0, .int .i64 0]) (t := 32) ?hr ?_; (case hd => rfl); (case hg => rfl); (case hr => first | (go_simp; done) | (go_simp; rfl)); intro gb523 hg w11 hbox hb; have n0_ := Aside0.mk (below_step (bw_ HB.out) hb); have n1_ := Aside0.mk (hbox); have n2_ := Aside0.mk ((by rw [hg]; exact (below_size (bw_ HB.out)) : w.heap.size ≤ gb523)); have n3_ := n2_; clear HB; have HB := n0_; have BK523 := n1_; have GW523 := n2_; have GE523 := n3_; have GI523 := GeI.mk GE523.out; clear n0_ n1_ n2_ n3_; clear hb hbox hg; have hcz12_0 : w11.cell? ⟨gb523, 0, none⟩ = some (.int .i64 0) := (blk_cell BK523.out 0).trans rfl; have hcz12_1 : w11.cell? ⟨gb523, 1, none⟩ = some (.int .i64 0) := (blk_cell BK523.out 1).trans rfl; have hcz12_2 : w11.cell? ⟨gb523, 2, none⟩ = some (.int .i64 0) := (blk_cell BK523.out 2).trans rfl; have hcz12_3 : w11.cell? ⟨gb523, 3, none⟩ = some (.int .i64 0) := (blk_cell BK523.out 3).trans rfl; have hcz12_4 : w11.cell? ⟨gb523, 4, none⟩ = some (.int .i64 0) := (blk_cell BK523.out 4).trans rfl; have hcz12_5 : w11.cell? ⟨gb523, 5, none⟩ = some (.int .i64 0) := (blk_cell BK523.out 5).trans rfl; have hcz12_6 : w11.cell? ⟨gb523, 6, none⟩ = some (.int .i64 0) := (blk_cell BK523.out 6).trans rfl; have hcz12_7 : w11.cell? ⟨gb523, 7, none⟩ = some (.int .i64 0) := (blk_cell BK523.out 7).trans rfl; have hfz12_0 := blk_frozen BK523.out 0; have hfz12_1 := blk_frozen BK523.out 1; have hfz12_2 := blk_frozen BK523.out 2; have hfz12_3 := blk_frozen BK523.out 3; have hfz12_4 := blk_frozen BK523.out 4; have hfz12_5 := blk_frozen BK523.out 5; have hfz12_6 := blk_frozen BK523.out 6; have hfz12_7 := blk_frozen BK523.out 7) | ((with_reducible refine gate_callee (f := 22) rfl ?_); refine gL_ (some 21) Try.func22 #[.agg #[.int .i64 t515, .int .i64 t516, .int .i64 t517, .int .i64 t518, .int .i64 t519, .int .i64 t520, .int .i64 t521, .int .i64 t522]] ?_; (with_reducible refine (impl_Encode.calls k t515 t516 t517 t518 t519 t520 t521 t522 t524 _ A5.out).mono ?_); rintro e w13 ⟨v525, rfl, ho0, hb⟩; refine ⟨_, rfl, ?_⟩; have n0_ := Aside0.mk (Kd.R_lower ho0 (below_size (bw_ HB.out))); have n1_ := Aside0.mk (blk_below (g := gb523) (o := .cells #[.int .i64 t515, .int .i64 t516, .int .i64 t517, .int .i64 t518, .int .i64 t519, .int .i64 t520, .int .i64 t521, .int .i64 t522] 32 (0, 0)) (by refine bk_ ?_; refine blk_put (cs := #[.int .i64 t515, .int .i64 t516, .int .i64 t517, .int .i64 t518, .int .i64 t519, .int .i64 t520, .int .i64 t521, .int .i64 0]) ?_ 7 _ rfl; refine bk_ ?_; refine blk_put (cs := #[.int .i64 t515, .int .i64 t516, .int .i64 t517, .int .i64 t518, .int .i64 t519, .int .i64 t520, .int .i64 0, .int .i64 0]) ?_ 6 _ rfl; refine bk_ ?_; refine blk_put (cs := #[.int .i64 t515, .int .i64 t516, .int .i64 t517, .int .i64 t518, .int .i64 t519, .int .i64 0, .int .i64 0, .int .i64 0]) ?_ 5 _ rfl; refine bk_ ?_; refine blk_put (cs := #[.int .i64 t515, .int .i64 t516, .int .i64 t517, .int .i64 t518, .int .i64 0, .int .i64 0, .int .i64 0, .int .i64 0]) ?_ 4 _ rfl; refine bk_ ?_; refine blk_put (cs := #[.int .i64 t515, .int .i64 t516, .int .i64 t517, .int .i64 0, .int .i64 0, .int .i64 0, .int .i64 0, .int .i64 0]) ?_ 3 _ rfl; refine bk_ ?_; refine blk_put (cs := #[.int .i64 t515, .int .i64 t516, .int .i64 0, .int .i64 0, .int .i64 0, .int .i64 0, .int .i64 0, .int .i64 0]) ?_ 2 _ rfl; refine bk_ ?_; refine blk_put (cs := #[.int .i64 t515, .int .i64 0, .int .i64 0, .int .i64 0, .int .i64 0, .int .i64 0, .int .i64 0, .int .i64 0]) ?_ 1 _ rfl; refine bk_ ?_; refine blk_put (cs := #[.int .i64 0, .int .i64 0, .int .i64 0, .int .i64 0, .int .i64 0, .int .i64 0, .int .i64 0, .int .i64 0]) ?_ 0 _ rfl; refine bk_ ?_; exact BK523.out) hb); have n2_ := Aside0.mk (below_step (bw_ HB.out) hb); clear BK523; clear HB; have HO526 := n0_; have BK523 := n1_; have HB := n2_; clear n0_ n1_ n2_; (try clear hb); (try clear hb2); (try clear hk); (try clear hi); (try clear ho0)) | ((with_reducible refine gate_callee (f := 33) rfl ?_); refine gL_ (some 24) Try.func33 #[.slice A0 l0.length c0] ?_; (with_reducible refine (spec_DrawDecode.calls k _ _ l0 t527 t528 _ ?side1 ?side2 A6.out).mono ?_); (case side1 => repeat (first | exact (Kd.C_below HR0.out HB.out) | (with_reducible refine Kd.C_alloc ?_ _) | (with_reducible refine Kd.C_drewN ?_ _) | (with_reducible refine Kd.C_drew ?_))); (case side2 => exact HC0.out); rintro e w14 ⟨v529, rfl, ho0, hb⟩; refine ⟨_, rfl, ?_⟩; have n0_ := Aside0.mk (Kd.R_elder' (by (with_reducible repeat (first | apply Kd.R_alloc | apply Kd.R_drewN | apply Kd.R_drew)); exact HO526.out) (Kd.R_base ho0) hb); have n1_ := Aside0.mk (Kd.R_lower (Kd.R_new' ho0 (Kd.R_lt (by (with_reducible repeat (first | apply Kd.R_alloc | apply Kd.R_drewN | apply Kd.R_drew)); exact HO526.out))) (below_size (bw_ HB.out))); have n2_ := Aside0.mk (blk_below (bk_ BK523.out) hb); have n3_ := Aside0.mk (below_step (bw_ HB.out) hb); clear HO526; clear BK523; clear HB; have HO526 := n0_; have HO530 := n1_; have BK523 := n2_; have HB := n3_; clear n0_ n1_ n2_ n3_; (try clear hb); (try clear hb2); (try clear hk); (try clear hi); (try clear ho0); obtain ⟨Ao15, co15, eo15⟩ := Kd.R_slice HO530.out; subst eo15) | ((with_reducible refine gate_callee (f := 28) rfl ?_); refine gL_ (some 30) Try.func28 #[.slice Ao15 t527.length co15, .int .i64 t528] ?_; (with_reducible refine (impl_Decode.calls k _ _ t527 t528 t531 t532 t533 t534 t535 t536 t537 t538 t539 t540 _ ?side1 ?side2 A7.out).mono ?_); (case side1 => repeat (first | exact (Kd.R_reads' HO530.out).2.2 | (with_reducible refine Kd.C_alloc ?_ _) | (with_reducible refine Kd.C_drewN ?_ _) | (with_reducible refine Kd.C_drew ?_))); (case side2 => exact (Kd.R_reads' HO530.out).2.1); rintro e w16 ⟨rfl, hb⟩; refine ⟨_, rfl, ?_⟩; have n0_ := Aside0.mk (Kd.R_below (by (with_reducible repeat (first | apply Kd.R_alloc | apply Kd.R_drewN | apply Kd.R_drew)); exact HO526.out) hb); have n1_ := Aside0.mk (Kd.R_below (by (with_reducible repeat (first | apply Kd.R_alloc | apply Kd.R_drewN | apply Kd.R_drew)); exact HO530.out) hb); have n2_ := Aside0.mk (blk_below (bk_ BK523.out) hb); have n3_ := Aside0.mk (below_step (bw_ HB.out) hb); clear HO526; clear HO530; clear BK523; clear HB; have HO526 := n0_; have HO530 := n1_; have BK523 := n2_; have HB := n3_; clear n0_ n1_ n2_ n3_; (try clear hb); (try clear hb2); (try clear hk); (try clear hi)) | ((with_reducible refine gate_dst (N := 7) rfl ?_); (try (refine gate_guard (by rfl) ?_; dsimp only)); refine box_event ?hg (N := 7) ?hd (cs := #[.int .i64 0, .int .i64 0, .int .i64 0, .int .i64 0, .int .i64 0, .int .i64 0, .int .i64 0, .int .i64 0]) (t := 32) ?hr ?_; (case hd => rfl); (case hg => rfl); (case hr => first | (go_simp; done) | (go_simp; rfl)); intro gb541 hg w17 hbox hb; have n0_ := Aside0.mk (Kd.R_below (by (with_reducible repeat (first | apply Kd.R_alloc | apply Kd.R_drewN | apply Kd.R_drew)); exact HO526.out) hb); have n1_ := Aside0.mk (Kd.R_below (by (with_reducible repeat (first | apply Kd.R_alloc | apply Kd.R_drewN | apply Kd.R_drew)); exact HO530.out) hb); have n2_ := Aside0.mk (blk_below (bk_ BK523.out) hb); have n3_ := Aside0.mk (below_step (bw_ HB.out) hb); have n4_ := Aside0.mk (hbox); have n5_ := Aside0.mk ((by rw [hg]; exact (below_size (bw_ HB.out)) : w.heap.size ≤ gb541)); have n6_ := n5_; have n7_ := Aside0.mk ((by rw [hg]; exact Nat.ne_of_lt (blk_lt (bk_ BK523.out)) : gb523 ≠ gb541)); have n8_ := Aside0.mk n7_.out.symm; clear HO526; clear HO530; clear BK523; clear HB; have HO526 := n0_; have HO530 := n1_; have BK523 := n2_; have HB := n3_; have BK541 := n4_; have GW541 := n5_; have GE541 := n6_; have GI541 := GeI.mk GE541.out; have NB523_541 := n7_; have NB541_523 := n8_; clear n0_ n1_ n2_ n3_ n4_ n5_ n6_ n7_ n8_; clear hb hbox hg; have hnb18 := NB541_523.out; have hnc18 := NB523_541.out; have hcz19_0 : w17.cell? ⟨gb541, 0, none⟩ = some (.int .i64 0) := (blk_cell BK541.out 0).trans rfl; have hcz19_1 : w17.cell? ⟨gb541, 1, none⟩ = some (.int .i64 0) := (blk_cell BK541.out 1).trans rfl; have hcz19_2 : w17.cell? ⟨gb541, 2, none⟩ = some (.int .i64 0) := (blk_cell BK541.out 2).trans rfl; have hcz19_3 : w17.cell? ⟨gb541, 3, none⟩ = some (.int .i64 0) := (blk_cell BK541.out 3).trans rfl; have hcz19_4 : w17.cell? ⟨gb541, 4, none⟩ = some (.int .i64 0) := (blk_cell BK541.out 4).trans rfl; have hcz19_5 : w17.cell? ⟨gb541, 5, none⟩ = some (.int .i64 0) := (blk_cell BK541.out 5).trans rfl; have hcz19_6 : w17.cell? ⟨gb541, 6, none⟩ = some (.int .i64 0) := (blk_cell BK541.out 6).trans rfl; have hcz19_7 : w17.cell? ⟨gb541, 7, none⟩ = some (.int .i64 0) := (blk_cell BK541.out 7).trans rfl; have hfz19_0 := blk_frozen BK541.out 0; have hfz19_1 := blk_frozen BK541.out 1; have hfz19_2 := blk_frozen BK541.out 2; have hfz19_3 := blk_frozen BK541.out 3; have hfz19_4 := blk_frozen BK541.out 4; have hfz19_5 := blk_frozen BK541.out 5; have hfz19_6 := blk_frozen BK541.out 6; have hfz19_7 := blk_frozen BK541.out 7) | ((with_reducible refine gate_callee (f := 26) rfl ?_); refine gL_ (some 37) Try.func26 #[.slice Ao15 t527.length co15, .int .i64 t528] ?_; (with_reducible refine (spec_Decode.calls k _ _ t527 t528 t542 t543 t544 t545 t546 t547 t548 t549 t550 t551 _ ?side1 ?side2 A8.out).mono ?_); (case side1 => refine (Kd.R_reads' (e := 3) (base := w.heap.size) (ok := fun k_ => (True ∧ some k_ ≠ (v525 : Value).ownBlock)) (n := t527.length) (c := co15) ?_).2.2; exact (by (with_reducible repeat (first | apply Kd.R_alloc | apply Kd.R_drewN | apply Kd.R_drew)); exact (Kd.R_mono (Kd.R_far (p := ⟨gb541, 7, none⟩) (Kd.R_far (p := ⟨gb541, 6, none⟩) (Kd.R_far (p := ⟨gb541, 5, none⟩) (Kd.R_far (p := ⟨gb541, 4, none⟩) (Kd.R_far (p := ⟨gb541, 3, none⟩) (Kd.R_far (p := ⟨gb541, 2, none⟩) (Kd.R_far (p := ⟨gb541, 1, none⟩) (Kd.R_far (p := ⟨gb541, 0, none⟩) (Kd.R_types HO530.out BK541.out (by decide)) (fun _ hk => hk.2) (.int .i64 t531)) (fun _ hk => hk.2) (.int .i64 t532)) (fun _ hk => hk.2) (.int .i64 t533)) (fun _ hk => hk.2) (.int .i64 t534)) (fun _ hk => hk.2) (.int .i64 t535)) (fun _ hk => hk.2) (.int .i64 t536)) (fun _ hk => hk.2) (.int .i64 t537)) (fun _ hk => hk.2) (.int .i64 t538)) (fun _ h_ => h_.1)))); (case side2 => exact (Kd.R_reads' HO530.out).2.1); rintro e w20 ⟨rfl, hb⟩; refine ⟨_, rfl, ?_⟩; have n0_ := Aside0.mk (Kd.R_below (by (with_reducible repeat (first | apply Kd.R_alloc | apply Kd.R_drewN | apply Kd.R_drew)); exact (Kd.R_mono (Kd.R_far (p := ⟨gb541, 7, none⟩) (Kd.R_far (p := ⟨gb541, 6, none⟩) (Kd.R_far (p := ⟨gb541, 5, none⟩) (Kd.R_far (p := ⟨gb541, 4, none⟩) (Kd.R_far (p := ⟨gb541, 3, none⟩) (Kd.R_far (p := ⟨gb541, 2, none⟩) (Kd.R_far (p := ⟨gb541, 1, none⟩) (Kd.R_far (p := ⟨gb541, 0, none⟩) (Kd.R_types HO526.out BK541.out (by decide)) (fun _ hk => hk.2) (.int .i64 t531)) (fun _ hk => hk.2) (.int .i64 t532)) (fun _ hk => hk.2) (.int .i64 t533)) (fun _ hk => hk.2) (.int .i64 t534)) (fun _ hk => hk.2) (.int .i64 t535)) (fun _ hk => hk.2) (.int .i64 t536)) (fun _ hk => hk.2) (.int .i64 t537)) (fun _ hk => hk.2) (.int .i64 t538)) (fun _ h_ => h_.1))) hb); have n1_ := Aside0.mk (Kd.R_below (by (with_reducible repeat (first | apply Kd.R_alloc | apply Kd.R_drewN | apply Kd.R_drew)); exact (Kd.R_mono (Kd.R_far (p := ⟨gb541, 7, none⟩) (Kd.R_far (p := ⟨gb541, 6, none⟩) (Kd.R_far (p := ⟨gb541, 5, none⟩) (Kd.R_far (p := ⟨gb541, 4, none⟩) (Kd.R_far (p := ⟨gb541, 3, none⟩) (Kd.R_far (p := ⟨gb541, 2, none⟩) (Kd.R_far (p := ⟨gb541, 1, none⟩) (Kd.R_far (p := ⟨gb541, 0, none⟩) (Kd.R_types HO530.out BK541.out (by decide)) (fun _ hk => hk.2) (.int .i64 t531)) (fun _ hk => hk.2) (.int .i64 t532)) (fun _ hk => hk.2) (.int .i64 t533)) (fun _ hk => hk.2) (.int .i64 t534)) (fun _ hk => hk.2) (.int .i64 t535)) (fun _ hk => hk.2) (.int .i64 t536)) (fun _ hk => hk.2) (.int .i64 t537)) (fun _ hk => hk.2) (.int .i64 t538)) (fun _ h_ => h_.1))) hb); have n2_ := Aside0.mk (blk_below (g := gb523) (o := .cells #[.int .i64 t515, .int .i64 t516, .int .i64 t517, .int .i64 t518, .int .i64 t519, .int .i64 t520, .int .i64 t521, .int .i64 t522] 32 (0, 0)) (by refine bk_ ?_; refine blk_far ?_ NB523_541.out _; refine bk_ ?_; refine blk_far ?_ NB523_541.out _; refine bk_ ?_; refine blk_far ?_ NB523_541.out _; refine bk_ ?_; refine blk_far ?_ NB523_541.out _; refine bk_ ?_; refine blk_far ?_ NB523_541.out _; refine bk_ ?_; refine blk_far ?_ NB523_541.out _; refine bk_ ?_; refine blk_far ?_ NB523_541.out _; refine bk_ ?_; refine blk_far ?_ NB523_541.out _; refine bk_ ?_; exact BK523.out) hb); have n3_ := Aside0.mk (blk_below (g := gb541) (o := .cells #[.int .i64 t531, .int .i64 t532, .int .i64 t533, .int .i64 t534, .int .i64 t535, .int .i64 t536, .int .i64 t537, .int .i64 t538] 32 (0, 0)) (by refine bk_ ?_; refine blk_put (cs := #[.int .i64 t531, .int .i64 t532, .int .i64 t533, .int .i64 t534, .int .i64 t535, .int .i64 t536, .int .i64 t537, .int .i64 0]) ?_ 7 _ rfl; refine bk_ ?_; refine blk_put (cs := #[.int .i64 t531, .int .i64 t532, .int .i64 t533, .int .i64 t534, .int .i64 t535, .int .i64 t536, .int .i64 0, .int .i64 0]) ?_ 6 _ rfl; refine bk_ ?_; refine blk_put (cs := #[.int .i64 t531, .int .i64 t532, .int .i64 t533, .int .i64 t534, .int .i64 t535, .int .i64 0, .int .i64 0, .int .i64 0]) ?_ 5 _ rfl; refine bk_ ?_; refine blk_put (cs := #[.int .i64 t531, .int .i64 t532, .int .i64 t533, .int .i64 t534, .int .i64 0, .int .i64 0, .int .i64 0, .int .i64 0]) ?_ 4 _ rfl; refine bk_ ?_; refine blk_put (cs := #[.int .i64 t531, .int .i64 t532, .int .i64 t533, .int .i64 0, .int .i64 0, .int .i64 0, .int .i64 0, .int .i64 0]) ?_ 3 _ rfl; refine bk_ ?_; refine blk_put (cs := #[.int .i64 t531, .int .i64 t532, .int .i64 0, .int .i64 0, .int .i64 0, .int .i64 0, .int .i64 0, .int .i64 0]) ?_ 2 _ rfl; refine bk_ ?_; refine blk_put (cs := #[.int .i64 t531, .int .i64 0, .int .i64 0, .int .i64 0, .int .i64 0, .int .i64 0, .int .i64 0, .int .i64 0]) ?_ 1 _ rfl; refine bk_ ?_; refine blk_put (cs := #[.int .i64 0, .int .i64 0, .int .i64 0, .int .i64 0, .int .i64 0, .int .i64 0, .int .i64 0, .int .i64 0]) ?_ 0 _ rfl; refine bk_ ?_; exact BK541.out) hb); have n4_ := Aside0.mk (below_step (bw_ HB.out) hb); clear HO526; clear HO530; clear BK523; clear BK541; clear HB; have HO526 := n0_; have HO530 := n1_; have BK523 := n2_; have BK541 := n3_; have HB := n4_; clear n0_ n1_ n2_ n3_ n4_; (try clear hb); (try clear hb2); (try clear hk); (try clear hi)) | ((with_reducible refine gate_dst (N := 10) rfl ?_); (try (refine gate_guard (by rfl) ?_; dsimp only)); refine box_event ?hg (N := 10) ?hd (cs := #[.int .i64 0, .int .i64 0, .int .i64 0, .int .i64 0, .int .i64 0, .int .i64 0, .int .i64 0, .int .i64 0]) (t := 32) ?hr ?_; (case hd => rfl); (case hg => rfl); (case hr => first | (go_simp; done) | (go_simp; rfl)); intro gb552 hg w21 hbox hb; have n0_ := Aside0.mk (Kd.R_below (by (with_reducible repeat (first | apply Kd.R_alloc | apply Kd.R_drewN | apply Kd.R_drew)); exact HO526.out) hb); have n1_ := Aside0.mk (Kd.R_below (by (with_reducible repeat (first | apply Kd.R_alloc | apply Kd.R_drewN | apply Kd.R_drew)); exact HO530.out) hb); have n2_ := Aside0.mk (blk_below (bk_ BK523.out) hb); have n3_ := Aside0.mk (blk_below (bk_ BK541.out) hb); have n4_ := Aside0.mk (below_step (bw_ HB.out) hb); have n5_ := Aside0.mk (hbox); have n6_ := Aside0.mk ((by rw [hg]; exact (below_size (bw_ HB.out)) : w.heap.size ≤ gb552)); have n7_ := n6_; have n8_ := Aside0.mk ((by rw [hg]; exact Nat.ne_of_lt (blk_lt (bk_ BK523.out)) : gb523 ≠ gb552)); have n9_ := Aside0.mk n8_.out.symm; have n10_ := Aside0.mk ((by rw [hg]; exact Nat.ne_of_lt (blk_lt (bk_ BK541.out)) : gb541 ≠ gb552)); have n11_ := Aside0.mk n10_.out.symm; clear HO526; clear HO530; clear BK523; clear BK541; clear HB; have HO526 := n0_; have HO530 := n1_; have BK523 := n2_; have BK541 := n3_; have HB := n4_; have BK552 := n5_; have GW552 := n6_; have GE552 := n7_; have GI552 := GeI.mk GE552.out; have NB523_552 := n8_; have NB552_523 := n9_; have NB541_552 := n10_; have NB552_541 := n11_; clear n0_ n1_ n2_ n3_ n4_ n5_ n6_ n7_ n8_ n9_ n10_ n11_; clear hb hbox hg; have hnb22 := NB552_523.out; have hnc22 := NB523_552.out; have hnb23 := NB552_541.out; have hnc23 := NB541_552.out; have hcz24_0 : w21.cell? ⟨gb552, 0, none⟩ = some (.int .i64 0) := (blk_cell BK552.out 0).trans rfl; have hcz24_1 : w21.cell? ⟨gb552, 1, none⟩ = some (.int .i64 0) := (blk_cell BK552.out 1).trans rfl; have hcz24_2 : w21.cell? ⟨gb552, 2, none⟩ = some (.int .i64 0) := (blk_cell BK552.out 2).trans rfl; have hcz24_3 : w21.cell? ⟨gb552, 3, none⟩ = some (.int .i64 0) := (blk_cell BK552.out 3).trans rfl; have hcz24_4 : w21.cell? ⟨gb552, 4, none⟩ = some (.int .i64 0) := (blk_cell BK552.out 4).trans rfl; have hcz24_5 : w21.cell? ⟨gb552, 5, none⟩ = some (.int .i64 0) := (blk_cell BK552.out 5).trans rfl; have hcz24_6 : w21.cell? ⟨gb552, 6, none⟩ = some (.int .i64 0) := (blk_cell BK552.out 6).trans rfl; have hcz24_7 : w21.cell? ⟨gb552, 7, none⟩ = some (.int .i64 0) := (blk_cell BK552.out 7).trans rfl; have hfz24_0 := blk_frozen BK552.out 0; have hfz24_1 := blk_frozen BK552.out 1; have hfz24_2 := blk_frozen BK552.out 2; have hfz24_3 := blk_frozen BK552.out 3; have hfz24_4 := blk_frozen BK552.out 4; have hfz24_5 := blk_frozen BK552.out 5; have hfz24_6 := blk_frozen BK552.out 6; have hfz24_7 := blk_frozen BK552.out 7))
  (try simp only [Act.put, List.setIfInBounds_toArray, List.set_cons_zero, List.set_cons_succ])
  go_cut [69] (fun v69 wc => ∃ (kq : Nat) (x69_8 : Bool), v69 = .bool x69_8 ∧ Aside0 (laws_FnCodes.j0 kq t524 x69_8 t515 t516 t517 t518 t519 t520 t521 t522 = some r) ∧ Aside0 (kq ≤ k) ∧ Aside0 (Kd.R (Kd.int .i64) 3 wc w.heap.size (fun _ => True) v525 t524) ∧ Aside0 (wc.heap[gb523]? = some (.cells #[.int .i64 t515, .int .i64 t516, .int .i64 t517, .int .i64 t518, .int .i64 t519, .int .i64 t520, .int .i64 t521, .int .i64 t522] 32 (0, 0))) ∧ Aside0 (wc.heap[gb541]? = some (.cells #[.int .i64 t531, .int .i64 t532, .int .i64 t533, .int .i64 t534, .int .i64 t535, .int .i64 t536, .int .i64 t537, .int .i64 t538] 32 (0, 0))) ∧ Aside0 (wc.heap[gb552]? = some (.cells #[.int .i64 t542, .int .i64 t543, .int .i64 t544, .int .i64 t545, .int .i64 t546, .int .i64 t547, .int .i64 t548, .int .i64 t549] 32 (0, 0))) ∧ Aside0 (Below w.heap.size w wc))
  case first =>
   have H := HC9.out
   clear HC9
   by_cases c25 : (t540 != t551) = true
   ·rw [if_pos c25] at H
    have c25b0 : (t540 != t551) = true := c25
    (try (have c25b1 : decide (t540 = t551) = false := by simpa using c25))
    (try (have c25b2 : (t540 == t551) = false := by simpa using c25))
    (try (have c25b3 : ¬ (t540 = t551) := by simpa using c25))
    clear c25
    (first | rw [c25b0] | (simp only [i64_w, i32_w]; rw [c25b0]) | skip)
    have H' := Aside0.mk H
    clear H
    try go_wp2
    have n0_ : Aside0 (Kd.R (Kd.int .i64) 3 ((((((((w21.setCell ⟨gb552, 0, none⟩ (.int .i64 t542)).setCell ⟨gb552, 1, none⟩ (.int .i64 t543)).setCell ⟨gb552, 2, none⟩ (.int .i64 t544)).setCell ⟨gb552, 3, none⟩ (.int .i64 t545)).setCell ⟨gb552, 4, none⟩ (.int .i64 t546)).setCell ⟨gb552, 5, none⟩ (.int .i64 t547)).setCell ⟨gb552, 6, none⟩ (.int .i64 t548)).setCell ⟨gb552, 7, none⟩ (.int .i64 t549)) w.heap.size (fun k_ => some k_ ≠ (.slice Ao15 t527.length co15 : Value).ownBlock) v525 t524) := ⟨by (with_reducible repeat (first | apply Kd.R_alloc | apply Kd.R_drewN | apply Kd.R_drew)); exact Kd.R_mono (Kd.R_far (p := ⟨gb552, 7, none⟩) (Kd.R_far (p := ⟨gb552, 6, none⟩) (Kd.R_far (p := ⟨gb552, 5, none⟩) (Kd.R_far (p := ⟨gb552, 4, none⟩) (Kd.R_far (p := ⟨gb552, 3, none⟩) (Kd.R_far (p := ⟨gb552, 2, none⟩) (Kd.R_far (p := ⟨gb552, 1, none⟩) (Kd.R_far (p := ⟨gb552, 0, none⟩) (Kd.R_types HO526.out BK552.out (by decide)) (fun _ hk => hk.2) (.int .i64 t542)) (fun _ hk => hk.2) (.int .i64 t543)) (fun _ hk => hk.2) (.int .i64 t544)) (fun _ hk => hk.2) (.int .i64 t545)) (fun _ hk => hk.2) (.int .i64 t546)) (fun _ hk => hk.2) (.int .i64 t547)) (fun _ hk => hk.2) (.int .i64 t548)) (fun _ hk => hk.2) (.int .i64 t549)) (fun _ hk => hk.1.2)⟩
    have n1_ : Aside0 (Kd.R (Kd.int .i64) 3 ((((((((w21.setCell ⟨gb552, 0, none⟩ (.int .i64 t542)).setCell ⟨gb552, 1, none⟩ (.int .i64 t543)).setCell ⟨gb552, 2, none⟩ (.int .i64 t544)).setCell ⟨gb552, 3, none⟩ (.int .i64 t545)).setCell ⟨gb552, 4, none⟩ (.int .i64 t546)).setCell ⟨gb552, 5, none⟩ (.int .i64 t547)).setCell ⟨gb552, 6, none⟩ (.int .i64 t548)).setCell ⟨gb552, 7, none⟩ (.int .i64 t549)) w.heap.size (fun k_ => some k_ ≠ (v525 : Value).ownBlock) (.slice Ao15 t527.length co15) t527) := ⟨by (with_reducible repeat (first | apply Kd.R_alloc | apply Kd.R_drewN | apply Kd.R_drew)); exact Kd.R_mono (Kd.R_far (p := ⟨gb552, 7, none⟩) (Kd.R_far (p := ⟨gb552, 6, none⟩) (Kd.R_far (p := ⟨gb552, 5, none⟩) (Kd.R_far (p := ⟨gb552, 4, none⟩) (Kd.R_far (p := ⟨gb552, 3, none⟩) (Kd.R_far (p := ⟨gb552, 2, none⟩) (Kd.R_far (p := ⟨gb552, 1, none⟩) (Kd.R_far (p := ⟨gb552, 0, none⟩) (Kd.R_types HO530.out BK552.out (by decide)) (fun _ hk => hk.2) (.int .i64 t542)) (fun _ hk => hk.2) (.int .i64 t543)) (fun _ hk => hk.2) (.int .i64 t544)) (fun _ hk => hk.2) (.int .i64 t545)) (fun _ hk => hk.2) (.int .i64 t546)) (fun _ hk => hk.2) (.int .i64 t547)) (fun _ hk => hk.2) (.int .i64 t548)) (fun _ hk => hk.2) (.int .i64 t549)) (fun _ hk => hk.1.2)⟩
    have n2_ : Aside0 (((((((((w21.setCell ⟨gb552, 0, none⟩ (.int .i64 t542)).setCell ⟨gb552, 1, none⟩ (.int .i64 t543)).setCell ⟨gb552, 2, none⟩ (.int .i64 t544)).setCell ⟨gb552, 3, none⟩ (.int .i64 t545)).setCell ⟨gb552, 4, none⟩ (.int .i64 t546)).setCell ⟨gb552, 5, none⟩ (.int .i64 t547)).setCell ⟨gb552, 6, none⟩ (.int .i64 t548)).setCell ⟨gb552, 7, none⟩ (.int .i64 t549)).heap[gb523]? = some (.cells #[.int .i64 t515, .int .i64 t516, .int .i64 t517, .int .i64 t518, .int .i64 t519, .int .i64 t520, .int .i64 t521, .int .i64 t522] 32 (0, 0))) := ⟨by refine bk_ ?_; refine blk_far ?_ NB523_552.out _; refine bk_ ?_; refine blk_far ?_ NB523_552.out _; refine bk_ ?_; refine blk_far ?_ NB523_552.out _; refine bk_ ?_; refine blk_far ?_ NB523_552.out _; refine bk_ ?_; refine blk_far ?_ NB523_552.out _; refine bk_ ?_; refine blk_far ?_ NB523_552.out _; refine bk_ ?_; refine blk_far ?_ NB523_552.out _; refine bk_ ?_; refine blk_far ?_ NB523_552.out _; refine bk_ ?_; exact BK523.out⟩
    have n3_ : Aside0 (((((((((w21.setCell ⟨gb552, 0, none⟩ (.int .i64 t542)).setCell ⟨gb552, 1, none⟩ (.int .i64 t543)).setCell ⟨gb552, 2, none⟩ (.int .i64 t544)).setCell ⟨gb552, 3, none⟩ (.int .i64 t545)).setCell ⟨gb552, 4, none⟩ (.int .i64 t546)).setCell ⟨gb552, 5, none⟩ (.int .i64 t547)).setCell ⟨gb552, 6, none⟩ (.int .i64 t548)).setCell ⟨gb552, 7, none⟩ (.int .i64 t549)).heap[gb541]? = some (.cells #[.int .i64 t531, .int .i64 t532, .int .i64 t533, .int .i64 t534, .int .i64 t535, .int .i64 t536, .int .i64 t537, .int .i64 t538] 32 (0, 0))) := ⟨by refine bk_ ?_; refine blk_far ?_ NB541_552.out _; refine bk_ ?_; refine blk_far ?_ NB541_552.out _; refine bk_ ?_; refine blk_far ?_ NB541_552.out _; refine bk_ ?_; refine blk_far ?_ NB541_552.out _; refine bk_ ?_; refine blk_far ?_ NB541_552.out _; refine bk_ ?_; refine blk_far ?_ NB541_552.out _; refine bk_ ?_; refine blk_far ?_ NB541_552.out _; refine bk_ ?_; refine blk_far ?_ NB541_552.out _; refine bk_ ?_; exact BK541.out⟩
    have n4_ : Aside0 (((((((((w21.setCell ⟨gb552, 0, none⟩ (.int .i64 t542)).setCell ⟨gb552, 1, none⟩ (.int .i64 t543)).setCell ⟨gb552, 2, none⟩ (.int .i64 t544)).setCell ⟨gb552, 3, none⟩ (.int .i64 t545)).setCell ⟨gb552, 4, none⟩ (.int .i64 t546)).setCell ⟨gb552, 5, none⟩ (.int .i64 t547)).setCell ⟨gb552, 6, none⟩ (.int .i64 t548)).setCell ⟨gb552, 7, none⟩ (.int .i64 t549)).heap[gb552]? = some (.cells #[.int .i64 t542, .int .i64 t543, .int .i64 t544, .int .i64 t545, .int .i64 t546, .int .i64 t547, .int .i64 t548, .int .i64 t549] 32 (0, 0))) := ⟨by refine bk_ ?_; refine blk_put (cs := #[.int .i64 t542, .int .i64 t543, .int .i64 t544, .int .i64 t545, .int .i64 t546, .int .i64 t547, .int .i64 t548, .int .i64 0]) ?_ 7 _ rfl; refine bk_ ?_; refine blk_put (cs := #[.int .i64 t542, .int .i64 t543, .int .i64 t544, .int .i64 t545, .int .i64 t546, .int .i64 t547, .int .i64 0, .int .i64 0]) ?_ 6 _ rfl; refine bk_ ?_; refine blk_put (cs := #[.int .i64 t542, .int .i64 t543, .int .i64 t544, .int .i64 t545, .int .i64 t546, .int .i64 0, .int .i64 0, .int .i64 0]) ?_ 5 _ rfl; refine bk_ ?_; refine blk_put (cs := #[.int .i64 t542, .int .i64 t543, .int .i64 t544, .int .i64 t545, .int .i64 0, .int .i64 0, .int .i64 0, .int .i64 0]) ?_ 4 _ rfl; refine bk_ ?_; refine blk_put (cs := #[.int .i64 t542, .int .i64 t543, .int .i64 t544, .int .i64 0, .int .i64 0, .int .i64 0, .int .i64 0, .int .i64 0]) ?_ 3 _ rfl; refine bk_ ?_; refine blk_put (cs := #[.int .i64 t542, .int .i64 t543, .int .i64 0, .int .i64 0, .int .i64 0, .int .i64 0, .int .i64 0, .int .i64 0]) ?_ 2 _ rfl; refine bk_ ?_; refine blk_put (cs := #[.int .i64 t542, .int .i64 0, .int .i64 0, .int .i64 0, .int .i64 0, .int .i64 0, .int .i64 0, .int .i64 0]) ?_ 1 _ rfl; refine bk_ ?_; refine blk_put (cs := #[.int .i64 0, .int .i64 0, .int .i64 0, .int .i64 0, .int .i64 0, .int .i64 0, .int .i64 0, .int .i64 0]) ?_ 0 _ rfl; refine bk_ ?_; exact BK552.out⟩
    have n5_ : Aside0 (Below w.heap.size w ((((((((w21.setCell ⟨gb552, 0, none⟩ (.int .i64 t542)).setCell ⟨gb552, 1, none⟩ (.int .i64 t543)).setCell ⟨gb552, 2, none⟩ (.int .i64 t544)).setCell ⟨gb552, 3, none⟩ (.int .i64 t545)).setCell ⟨gb552, 4, none⟩ (.int .i64 t546)).setCell ⟨gb552, 5, none⟩ (.int .i64 t547)).setCell ⟨gb552, 6, none⟩ (.int .i64 t548)).setCell ⟨gb552, 7, none⟩ (.int .i64 t549))) := ⟨bw_ HB.out⟩
    (try clear HO526)
    (try clear HO530)
    (try clear BK523)
    (try clear BK541)
    (try clear BK552)
    (try clear HB)
    generalize ((((((((w21.setCell ⟨gb552, 0, none⟩ (.int .i64 t542)).setCell ⟨gb552, 1, none⟩ (.int .i64 t543)).setCell ⟨gb552, 2, none⟩ (.int .i64 t544)).setCell ⟨gb552, 3, none⟩ (.int .i64 t545)).setCell ⟨gb552, 4, none⟩ (.int .i64 t546)).setCell ⟨gb552, 5, none⟩ (.int .i64 t547)).setCell ⟨gb552, 6, none⟩ (.int .i64 t548)).setCell ⟨gb552, 7, none⟩ (.int .i64 t549)) = w26 at n0_ n1_ n2_ n3_ n4_ n5_ ⊢
    have HO526 := n0_
    have HO530 := n1_
    have BK523 := n2_
    have BK541 := n3_
    have BK552 := n4_
    have HB := n5_
    clear n0_ n1_ n2_ n3_ n4_ n5_
    have n0_ := Aside0.mk (Kd.R_drew HO526.out)
    have n1_ := Aside0.mk (Kd.R_drew HO530.out)
    have n2_ := Aside0.mk (blk_drew BK523.out)
    have n3_ := Aside0.mk (blk_drew BK541.out)
    have n4_ := Aside0.mk (blk_drew BK552.out)
    have n5_ := Aside0.mk (below_drew1 HB.out)
    clear HO526
    clear HO530
    clear BK523
    clear BK541
    clear BK552
    clear HB
    have HO526 := n0_
    have HO530 := n1_
    have BK523 := n2_
    have BK541 := n3_
    have BK552 := n4_
    have HB := n5_
    clear n0_ n1_ n2_ n3_ n4_ n5_
    refine start_ (n := 29) (S := fun w' => True) (ds := []) #[false, false, false, false, false, false, false, false, false, false, false, false, false, false, false, false, false, false, false, false, false, false, false, false, false, false, false, false, false] (by kernel_rfl) rfl rfl trivial (fun hHeld => ?_); refine with_tabW laws_FnCodes.tab8 laws_FnCodes.bits8 (fun HT_ HW_ => ?_)
    generalize w26.drew = w27 at HO526 HO530 BK523 BK541 BK552 HB hHeld ⊢
    refine pure_ (i := 0) (N := some 41) (v := ?_) (a' := ?_) #[true, false, false, false, false, false, false, false, false, false, false, false, false, false, false, false, false, false, false, false, false, false, false, false, false, false, false, false, false] rfl rfl (any_of HT_.out (by kernel_rfl)) (fun _ _ _ h => h) (Or.inl ⟨by rfl, ?_⟩) ?_ ?_
    rotate_left
    ·intro w'
     go_simp
     with_reducible rfl
    rotate_left
    ·simp only [Act.put, List.setIfInBounds_toArray, List.set_cons_zero, List.set_cons_succ, i64_w, i32_w]
     rfl
    refine pure_ (i := 1) (N := some 42) (v := ?_) (a' := ?_) #[true, true, false, false, false, false, false, false, false, false, false, false, false, false, false, false, false, false, false, false, false, false, false, false, false, false, false, false, false] rfl rfl (any_of HT_.out (by kernel_rfl)) (fun _ _ _ h => h) (Or.inl ⟨by rfl, ?_⟩) ?_ ?_
    rotate_left
    ·intro w'
     go_simp
     with_reducible rfl
    rotate_left
    ·simp only [Act.put, List.setIfInBounds_toArray, List.set_cons_zero, List.set_cons_succ, i64_w, i32_w]
     rfl
    refine pure_ (i := 2) (N := some 43) (v := ?_) (a' := ?_) #[true, true, true, false, false, false, false, false, false, false, false, false, false, false, false, false, false, false, false, false, false, false, false, false, false, false, false, false, false] rfl rfl (any_of HT_.out (by kernel_rfl)) (fun _ _ _ h => h) (Or.inl ⟨by rfl, ?_⟩) ?_ ?_
    rotate_left
    ·intro w'
     go_simp
     with_reducible rfl
    rotate_left
    ·simp only [Act.put, List.setIfInBounds_toArray, List.set_cons_zero, List.set_cons_succ, i64_w, i32_w]
     rfl
    refine pure_ (i := 3) (N := some 44) (v := ?_) (a' := ?_) #[true, true, true, true, false, false, false, false, false, false, false, false, false, false, false, false, false, false, false, false, false, false, false, false, false, false, false, false, false] rfl rfl (any_of HT_.out (by kernel_rfl)) (fun _ _ _ h => h) (Or.inl ⟨by rfl, ?_⟩) ?_ ?_
    rotate_left
    ·intro w'
     go_simp
     with_reducible rfl
    rotate_left
    ·simp only [Act.put, List.setIfInBounds_toArray, List.set_cons_zero, List.set_cons_succ, i64_w, i32_w]
     rfl
    refine pure_ (i := 4) (N := some 45) (v := undef) (a' := ?_) #[true, true, true, true, true, false, false, false, false, false, false, false, false, false, false, false, false, false, false, false, false, false, false, false, false, false, false, false, false] rfl rfl (any_of HT_.out (by kernel_rfl)) (fun _ _ _ h => h) (Or.inr ⟨by rfl, rfl⟩) ?_ ?_
    rotate_left
    ·simp only [Act.put, List.setIfInBounds_toArray, List.set_cons_zero, List.set_cons_succ, i64_w, i32_w]
     rfl
    refine pure_ (i := 5) (N := some 46) (v := undef) (a' := ?_) #[true, true, true, true, true, true, false, false, false, false, false, false, false, false, false, false, false, false, false, false, false, false, false, false, false, false, false, false, false] rfl rfl (any_of HT_.out (by kernel_rfl)) (fun _ _ _ h => h) (Or.inr ⟨by rfl, rfl⟩) ?_ ?_
    rotate_left
    ·simp only [Act.put, List.setIfInBounds_toArray, List.set_cons_zero, List.set_cons_succ, i64_w, i32_w]
     rfl
    refine pure_ (i := 6) (N := some 47) (v := undef) (a' := ?_) #[true, true, true, true, true, true, true, false, false, false, false, false, false, false, false, false, false, false, false, false, false, false, false, false, false, false, false, false, false] rfl rfl (any_of HT_.out (by kernel_rfl)) (fun _ _ _ h => h) (Or.inr ⟨by rfl, rfl⟩) ?_ ?_
    rotate_left
    ·simp only [Act.put, List.setIfInBounds_toArray, List.set_cons_zero, List.set_cons_succ, i64_w, i32_w]
     rfl
    refine pure_ (i := 7) (N := some 48) (v := undef) (a' := ?_) #[true, true, true, true, true, true, true, true, false, false, false, false, false, false, false, false, false, false, false, false, false, false, false, false, false, false, false, false, false] rfl rfl (any_of HT_.out (by kernel_rfl)) (fun _ _ _ h => h) (Or.inr ⟨by rfl, rfl⟩) ?_ ?_
    rotate_left
    ·simp only [Act.put, List.setIfInBounds_toArray, List.set_cons_zero, List.set_cons_succ, i64_w, i32_w]
     rfl
    refine pure_ (i := 8) (N := some 49) (v := undef) (a' := ?_) #[true, true, true, true, true, true, true, true, true, false, false, false, false, false, false, false, false, false, false, false, false, false, false, false, false, false, false, false, false] rfl rfl (any_of HT_.out (by kernel_rfl)) (fun _ _ _ h => h) (Or.inr ⟨by rfl, rfl⟩) ?_ ?_
    rotate_left
    ·simp only [Act.put, List.setIfInBounds_toArray, List.set_cons_zero, List.set_cons_succ, i64_w, i32_w]
     rfl
    refine pure_ (i := 9) (N := some 50) (v := undef) (a' := ?_) #[true, true, true, true, true, true, true, true, true, true, false, false, false, false, false, false, false, false, false, false, false, false, false, false, false, false, false, false, false] rfl rfl (any_of HT_.out (by kernel_rfl)) (fun _ _ _ h => h) (Or.inr ⟨by rfl, rfl⟩) ?_ ?_
    rotate_left
    ·simp only [Act.put, List.setIfInBounds_toArray, List.set_cons_zero, List.set_cons_succ, i64_w, i32_w]
     rfl
    refine pure_ (i := 10) (N := some 51) (v := undef) (a' := ?_) #[true, true, true, true, true, true, true, true, true, true, true, false, false, false, false, false, false, false, false, false, false, false, false, false, false, false, false, false, false] rfl rfl (any_of HT_.out (by kernel_rfl)) (fun _ _ _ h => h) (Or.inr ⟨by rfl, rfl⟩) ?_ ?_
    rotate_left
    ·simp only [Act.put, List.setIfInBounds_toArray, List.set_cons_zero, List.set_cons_succ, i64_w, i32_w]
     rfl
    refine pure_ (i := 11) (N := some 52) (v := undef) (a' := ?_) #[true, true, true, true, true, true, true, true, true, true, true, true, false, false, false, false, false, false, false, false, false, false, false, false, false, false, false, false, false] rfl rfl (any_of HT_.out (by kernel_rfl)) (fun _ _ _ h => h) (Or.inr ⟨by rfl, rfl⟩) ?_ ?_
    rotate_left
    ·simp only [Act.put, List.setIfInBounds_toArray, List.set_cons_zero, List.set_cons_succ, i64_w, i32_w]
     rfl
    refine pure_ (i := 12) (N := some 53) (v := undef) (a' := ?_) #[true, true, true, true, true, true, true, true, true, true, true, true, true, false, false, false, false, false, false, false, false, false, false, false, false, false, false, false, false] rfl rfl (any_of HT_.out (by kernel_rfl)) (fun _ _ _ h => h) (Or.inr ⟨by rfl, rfl⟩) ?_ ?_
    rotate_left
    ·simp only [Act.put, List.setIfInBounds_toArray, List.set_cons_zero, List.set_cons_succ, i64_w, i32_w]
     rfl
    refine pure_ (i := 13) (N := some 54) (v := undef) (a' := ?_) #[true, true, true, true, true, true, true, true, true, true, true, true, true, true, false, false, false, false, false, false, false, false, false, false, false, false, false, false, false] rfl rfl (any_of HT_.out (by kernel_rfl)) (fun _ _ _ h => h) (Or.inr ⟨by rfl, rfl⟩) ?_ ?_
    rotate_left
    ·simp only [Act.put, List.setIfInBounds_toArray, List.set_cons_zero, List.set_cons_succ, i64_w, i32_w]
     rfl
    refine pure_ (i := 14) (N := some 55) (v := undef) (a' := ?_) #[true, true, true, true, true, true, true, true, true, true, true, true, true, true, true, false, false, false, false, false, false, false, false, false, false, false, false, false, false] rfl rfl (any_of HT_.out (by kernel_rfl)) (fun _ _ _ h => h) (Or.inr ⟨by rfl, rfl⟩) ?_ ?_
    rotate_left
    ·simp only [Act.put, List.setIfInBounds_toArray, List.set_cons_zero, List.set_cons_succ, i64_w, i32_w]
     rfl
    refine pure_ (i := 15) (N := some 56) (v := undef) (a' := ?_) #[true, true, true, true, true, true, true, true, true, true, true, true, true, true, true, true, false, false, false, false, false, false, false, false, false, false, false, false, false] rfl rfl (any_of HT_.out (by kernel_rfl)) (fun _ _ _ h => h) (Or.inr ⟨by rfl, rfl⟩) ?_ ?_
    rotate_left
    ·simp only [Act.put, List.setIfInBounds_toArray, List.set_cons_zero, List.set_cons_succ, i64_w, i32_w]
     rfl
    refine pure_ (i := 16) (N := some 57) (v := undef) (a' := ?_) #[true, true, true, true, true, true, true, true, true, true, true, true, true, true, true, true, true, false, false, false, false, false, false, false, false, false, false, false, false] rfl rfl (any_of HT_.out (by kernel_rfl)) (fun _ _ _ h => h) (Or.inr ⟨by rfl, rfl⟩) ?_ ?_
    rotate_left
    ·simp only [Act.put, List.setIfInBounds_toArray, List.set_cons_zero, List.set_cons_succ, i64_w, i32_w]
     rfl
    refine pure_ (i := 17) (N := some 58) (v := undef) (a' := ?_) #[true, true, true, true, true, true, true, true, true, true, true, true, true, true, true, true, true, true, false, false, false, false, false, false, false, false, false, false, false] rfl rfl (any_of HT_.out (by kernel_rfl)) (fun _ _ _ h => h) (Or.inr ⟨by rfl, rfl⟩) ?_ ?_
    rotate_left
    ·simp only [Act.put, List.setIfInBounds_toArray, List.set_cons_zero, List.set_cons_succ, i64_w, i32_w]
     rfl
    refine pure_ (i := 18) (N := some 59) (v := undef) (a' := ?_) #[true, true, true, true, true, true, true, true, true, true, true, true, true, true, true, true, true, true, true, false, false, false, false, false, false, false, false, false, false] rfl rfl (any_of HT_.out (by kernel_rfl)) (fun _ _ _ h => h) (Or.inr ⟨by rfl, rfl⟩) ?_ ?_
    rotate_left
    ·simp only [Act.put, List.setIfInBounds_toArray, List.set_cons_zero, List.set_cons_succ, i64_w, i32_w]
     rfl
    refine pure_ (i := 19) (N := some 60) (v := undef) (a' := ?_) #[true, true, true, true, true, true, true, true, true, true, true, true, true, true, true, true, true, true, true, true, false, false, false, false, false, false, false, false, false] rfl rfl (any_of HT_.out (by kernel_rfl)) (fun _ _ _ h => h) (Or.inr ⟨by rfl, rfl⟩) ?_ ?_
    rotate_left
    ·simp only [Act.put, List.setIfInBounds_toArray, List.set_cons_zero, List.set_cons_succ, i64_w, i32_w]
     rfl
    refine pure_ (i := 20) (N := some 61) (v := undef) (a' := ?_) #[true, true, true, true, true, true, true, true, true, true, true, true, true, true, true, true, true, true, true, true, true, false, false, false, false, false, false, false, false] rfl rfl (any_of HT_.out (by kernel_rfl)) (fun _ _ _ h => h) (Or.inr ⟨by rfl, rfl⟩) ?_ ?_
    rotate_left
    ·simp only [Act.put, List.setIfInBounds_toArray, List.set_cons_zero, List.set_cons_succ, i64_w, i32_w]
     rfl
    refine pure_ (i := 21) (N := some 62) (v := undef) (a' := ?_) #[true, true, true, true, true, true, true, true, true, true, true, true, true, true, true, true, true, true, true, true, true, true, false, false, false, false, false, false, false] rfl rfl (any_of HT_.out (by kernel_rfl)) (fun _ _ _ h => h) (Or.inr ⟨by rfl, rfl⟩) ?_ ?_
    rotate_left
    ·simp only [Act.put, List.setIfInBounds_toArray, List.set_cons_zero, List.set_cons_succ, i64_w, i32_w]
     rfl
    refine pure_ (i := 22) (N := some 63) (v := undef) (a' := ?_) #[true, true, true, true, true, true, true, true, true, true, true, true, true, true, true, true, true, true, true, true, true, true, true, false, false, false, false, false, false] rfl rfl (any_of HT_.out (by kernel_rfl)) (fun _ _ _ h => h) (Or.inr ⟨by rfl, rfl⟩) ?_ ?_
    rotate_left
    ·simp only [Act.put, List.setIfInBounds_toArray, List.set_cons_zero, List.set_cons_succ, i64_w, i32_w]
     rfl
    refine pure_ (i := 23) (N := some 64) (v := undef) (a' := ?_) #[true, true, true, true, true, true, true, true, true, true, true, true, true, true, true, true, true, true, true, true, true, true, true, true, false, false, false, false, false] rfl rfl (any_of HT_.out (by kernel_rfl)) (fun _ _ _ h => h) (Or.inr ⟨by rfl, rfl⟩) ?_ ?_
    rotate_left
    ·simp only [Act.put, List.setIfInBounds_toArray, List.set_cons_zero, List.set_cons_succ, i64_w, i32_w]
     rfl
    refine pure_ (i := 24) (N := some 65) (v := undef) (a' := ?_) #[true, true, true, true, true, true, true, true, true, true, true, true, true, true, true, true, true, true, true, true, true, true, true, true, true, false, false, false, false] rfl rfl (any_of HT_.out (by kernel_rfl)) (fun _ _ _ h => h) (Or.inr ⟨by rfl, rfl⟩) ?_ ?_
    rotate_left
    ·simp only [Act.put, List.setIfInBounds_toArray, List.set_cons_zero, List.set_cons_succ, i64_w, i32_w]
     rfl
    refine pure_ (i := 25) (N := some 66) (v := undef) (a' := ?_) #[true, true, true, true, true, true, true, true, true, true, true, true, true, true, true, true, true, true, true, true, true, true, true, true, true, true, false, false, false] rfl rfl (any_of HT_.out (by kernel_rfl)) (fun _ _ _ h => h) (Or.inr ⟨by rfl, rfl⟩) ?_ ?_
    rotate_left
    ·simp only [Act.put, List.setIfInBounds_toArray, List.set_cons_zero, List.set_cons_succ, i64_w, i32_w]
     rfl
    refine pure_ (i := 26) (N := some 67) (v := undef) (a' := ?_) #[true, true, true, true, true, true, true, true, true, true, true, true, true, true, true, true, true, true, true, true, true, true, true, true, true, true, true, false, false] rfl rfl (any_of HT_.out (by kernel_rfl)) (fun _ _ _ h => h) (Or.inr ⟨by rfl, rfl⟩) ?_ ?_
    rotate_left
    ·simp only [Act.put, List.setIfInBounds_toArray, List.set_cons_zero, List.set_cons_succ, i64_w, i32_w]
     rfl
    refine pure_ (i := 27) (N := some 68) (v := undef) (a' := ?_) #[true, true, true, true, true, true, true, true, true, true, true, true, true, true, true, true, true, true, true, true, true, true, true, true, true, true, true, true, false] rfl rfl (any_of HT_.out (by kernel_rfl)) (fun _ _ _ h => h) (Or.inr ⟨by rfl, rfl⟩) ?_ ?_
    rotate_left
    ·simp only [Act.put, List.setIfInBounds_toArray, List.set_cons_zero, List.set_cons_succ, i64_w, i32_w]
     rfl
    refine pure_ (i := 28) (N := some 69) (v := ?_) (a' := ?_) #[true, true, true, true, true, true, true, true, true, true, true, true, true, true, true, true, true, true, true, true, true, true, true, true, true, true, true, true, true] rfl rfl (any_of HT_.out (by kernel_rfl)) (fun _ _ _ h => h) (Or.inl ⟨by rfl, ?_⟩) ?_ ?_
    rotate_left
    ·intro w'
     go_simp
     with_reducible rfl
    rotate_left
    ·simp only [Act.put, List.setIfInBounds_toArray, List.set_cons_zero, List.set_cons_succ, i64_w, i32_w]
     rfl
    refine done_ (done_of HT_.out (by kernel_rfl)) ?_
    try go_wp2
    go_meet
    case rel => exact ⟨_, (true), (by first | rfl | (simp; done) | (simp [*]; done) | (simp [wrap64]; done)), H', ⟨by first | omega | exact Nat.le_refl _⟩, ⟨by (with_reducible repeat (first | apply Kd.R_alloc | apply Kd.R_drewN | apply Kd.R_drew)); exact Kd.R_mono HO526.out (fun _ hk => trivial)⟩, ⟨by refine bk_ ?_; exact BK523.out⟩, ⟨by refine bk_ ?_; exact BK541.out⟩, ⟨by refine bk_ ?_; exact BK552.out⟩, ⟨bw_ HB.out⟩⟩
   ·rw [if_neg c25] at H
    have c25b0 : (t540 != t551) = false := by simpa using c25
    (try (have c25b1 : decide (t540 = t551) = true := by simpa using c25))
    (try (have c25b2 : (t540 == t551) = true := by simpa using c25))
    clear c25
    (first | rw [c25b0] | (simp only [i64_w, i32_w]; rw [c25b0]) | skip)
    by_cases c28 : t540 = true
    ·subst c28
     rw [if_pos rfl] at H
     replace H := Option.bind_eq_some_iff.mp H
     obtain ⟨t553, A290, H⟩ := H
     try dsimp only at H
     have A29 := Aside0.mk A290
     clear A290
     by_cases c30 : t553 = true
     ·subst c30
      rw [if_pos rfl] at H
      replace H := Option.bind_eq_some_iff.mp H
      obtain ⟨t554, A310, H⟩ := H
      try dsimp only at H
      have A31 := Aside0.mk A310
      clear A310
      by_cases c32 : t554 = t539
      ·rw [if_pos c32] at H
       have c32b0 : (t554 == t539) = true := beq_iff_eq.mpr c32
       have c32b1 : (t554 != t539) = false := bne_eq_false_iff_eq.mpr c32
       clear c32
       replace H := Option.bind_eq_some_iff.mp H
       obtain ⟨t555, A330, H⟩ := H
       try dsimp only at H
       have A33 := Aside0.mk A330
       clear A330
       by_cases c34 : 0 ≤ t528
       ·rw [if_pos c34] at H
        have c34b0 := eq_true c34
        have c34b1 : decide (0 ≤ t528) = true := decide_eq_true c34
        clear c34
        by_cases c35 : t528 ≤ (wrap64 (t528 + t539))
        ·rw [if_pos c35] at H
         have c35b0 := eq_true c35
         have c35b1 : decide (t528 ≤ (wrap64 (t528 + t539))) = true := decide_eq_true c35
         by_cases c36 : (wrap64 (t528 + t539)) ≤ (t527.length : Int)
         ·rw [if_pos c36] at H
          have c36b0 := eq_true c36
          have c36b1 : decide ((wrap64 (t528 + t539)) ≤ (t527.length : Int)) = true := decide_eq_true c36
          obtain ⟨y558, hy558⟩ : ∃ y_ : List Int, y_ = ((t527.take ((wrap64 (t528 + t539)) : Int).toNat).drop (t528 : Int).toNat) := ⟨_, rfl⟩
          replace H : ((laws_sameInts.f k t555 y558).bind fun t562 => (laws_FnCodes.j0 k t524 (!t562) t515 t516 t517 t518 t519 t520 t521 t522)) = some r := by first | (rw [hy558]; with_reducible exact H) | (have H2_ := (Option.bind_some _ _).symm.trans H; rw [hy558]; with_reducible exact H2_) | (have H2_ := (Option.bind_some _ _).symm.trans H; with_reducible exact H2_) | with_reducible exact H | (rw [hy558]; exact H) | exact H
          have Ny558 := Aside0.mk hy558
          clear hy558
          replace H := Option.bind_eq_some_iff.mp H
          obtain ⟨t562, A370, H⟩ := H
          try dsimp only at H
          have A37 := Aside0.mk A370
          clear A370
          have H' := Aside0.mk H
          clear H
          try go_wp2
          have n0_ : Aside0 (Kd.R (Kd.int .i64) 3 ((((((((w21.setCell ⟨gb552, 0, none⟩ (.int .i64 t542)).setCell ⟨gb552, 1, none⟩ (.int .i64 t543)).setCell ⟨gb552, 2, none⟩ (.int .i64 t544)).setCell ⟨gb552, 3, none⟩ (.int .i64 t545)).setCell ⟨gb552, 4, none⟩ (.int .i64 t546)).setCell ⟨gb552, 5, none⟩ (.int .i64 t547)).setCell ⟨gb552, 6, none⟩ (.int .i64 t548)).setCell ⟨gb552, 7, none⟩ (.int .i64 t549)) w.heap.size (fun k_ => some k_ ≠ (.slice Ao15 t527.length co15 : Value).ownBlock) v525 t524) := ⟨by (with_reducible repeat (first | apply Kd.R_alloc | apply Kd.R_drewN | apply Kd.R_drew)); exact Kd.R_mono (Kd.R_far (p := ⟨gb552, 7, none⟩) (Kd.R_far (p := ⟨gb552, 6, none⟩) (Kd.R_far (p := ⟨gb552, 5, none⟩) (Kd.R_far (p := ⟨gb552, 4, none⟩) (Kd.R_far (p := ⟨gb552, 3, none⟩) (Kd.R_far (p := ⟨gb552, 2, none⟩) (Kd.R_far (p := ⟨gb552, 1, none⟩) (Kd.R_far (p := ⟨gb552, 0, none⟩) (Kd.R_types HO526.out BK552.out (by decide)) (fun _ hk => hk.2) (.int .i64 t542)) (fun _ hk => hk.2) (.int .i64 t543)) (fun _ hk => hk.2) (.int .i64 t544)) (fun _ hk => hk.2) (.int .i64 t545)) (fun _ hk => hk.2) (.int .i64 t546)) (fun _ hk => hk.2) (.int .i64 t547)) (fun _ hk => hk.2) (.int .i64 t548)) (fun _ hk => hk.2) (.int .i64 t549)) (fun _ hk => hk.1.2)⟩
          have n1_ : Aside0 (Kd.R (Kd.int .i64) 3 ((((((((w21.setCell ⟨gb552, 0, none⟩ (.int .i64 t542)).setCell ⟨gb552, 1, none⟩ (.int .i64 t543)).setCell ⟨gb552, 2, none⟩ (.int .i64 t544)).setCell ⟨gb552, 3, none⟩ (.int .i64 t545)).setCell ⟨gb552, 4, none⟩ (.int .i64 t546)).setCell ⟨gb552, 5, none⟩ (.int .i64 t547)).setCell ⟨gb552, 6, none⟩ (.int .i64 t548)).setCell ⟨gb552, 7, none⟩ (.int .i64 t549)) w.heap.size (fun k_ => some k_ ≠ (v525 : Value).ownBlock) (.slice Ao15 t527.length co15) t527) := ⟨by (with_reducible repeat (first | apply Kd.R_alloc | apply Kd.R_drewN | apply Kd.R_drew)); exact Kd.R_mono (Kd.R_far (p := ⟨gb552, 7, none⟩) (Kd.R_far (p := ⟨gb552, 6, none⟩) (Kd.R_far (p := ⟨gb552, 5, none⟩) (Kd.R_far (p := ⟨gb552, 4, none⟩) (Kd.R_far (p := ⟨gb552, 3, none⟩) (Kd.R_far (p := ⟨gb552, 2, none⟩) (Kd.R_far (p := ⟨gb552, 1, none⟩) (Kd.R_far (p := ⟨gb552, 0, none⟩) (Kd.R_types HO530.out BK552.out (by decide)) (fun _ hk => hk.2) (.int .i64 t542)) (fun _ hk => hk.2) (.int .i64 t543)) (fun _ hk => hk.2) (.int .i64 t544)) (fun _ hk => hk.2) (.int .i64 t545)) (fun _ hk => hk.2) (.int .i64 t546)) (fun _ hk => hk.2) (.int .i64 t547)) (fun _ hk => hk.2) (.int .i64 t548)) (fun _ hk => hk.2) (.int .i64 t549)) (fun _ hk => hk.1.2)⟩
          have n2_ : Aside0 (((((((((w21.setCell ⟨gb552, 0, none⟩ (.int .i64 t542)).setCell ⟨gb552, 1, none⟩ (.int .i64 t543)).setCell ⟨gb552, 2, none⟩ (.int .i64 t544)).setCell ⟨gb552, 3, none⟩ (.int .i64 t545)).setCell ⟨gb552, 4, none⟩ (.int .i64 t546)).setCell ⟨gb552, 5, none⟩ (.int .i64 t547)).setCell ⟨gb552, 6, none⟩ (.int .i64 t548)).setCell ⟨gb552, 7, none⟩ (.int .i64 t549)).heap[gb523]? = some (.cells #[.int .i64 t515, .int .i64 t516, .int .i64 t517, .int .i64 t518, .int .i64 t519, .int .i64 t520, .int .i64 t521, .int .i64 t522] 32 (0, 0))) := ⟨by refine bk_ ?_; refine blk_far ?_ NB523_552.out _; refine bk_ ?_; refine blk_far ?_ NB523_552.out _; refine bk_ ?_; refine blk_far ?_ NB523_552.out _; refine bk_ ?_; refine blk_far ?_ NB523_552.out _; refine bk_ ?_; refine blk_far ?_ NB523_552.out _; refine bk_ ?_; refine blk_far ?_ NB523_552.out _; refine bk_ ?_; refine blk_far ?_ NB523_552.out _; refine bk_ ?_; refine blk_far ?_ NB523_552.out _; refine bk_ ?_; exact BK523.out⟩
          have n3_ : Aside0 (((((((((w21.setCell ⟨gb552, 0, none⟩ (.int .i64 t542)).setCell ⟨gb552, 1, none⟩ (.int .i64 t543)).setCell ⟨gb552, 2, none⟩ (.int .i64 t544)).setCell ⟨gb552, 3, none⟩ (.int .i64 t545)).setCell ⟨gb552, 4, none⟩ (.int .i64 t546)).setCell ⟨gb552, 5, none⟩ (.int .i64 t547)).setCell ⟨gb552, 6, none⟩ (.int .i64 t548)).setCell ⟨gb552, 7, none⟩ (.int .i64 t549)).heap[gb541]? = some (.cells #[.int .i64 t531, .int .i64 t532, .int .i64 t533, .int .i64 t534, .int .i64 t535, .int .i64 t536, .int .i64 t537, .int .i64 t538] 32 (0, 0))) := ⟨by refine bk_ ?_; refine blk_far ?_ NB541_552.out _; refine bk_ ?_; refine blk_far ?_ NB541_552.out _; refine bk_ ?_; refine blk_far ?_ NB541_552.out _; refine bk_ ?_; refine blk_far ?_ NB541_552.out _; refine bk_ ?_; refine blk_far ?_ NB541_552.out _; refine bk_ ?_; refine blk_far ?_ NB541_552.out _; refine bk_ ?_; refine blk_far ?_ NB541_552.out _; refine bk_ ?_; refine blk_far ?_ NB541_552.out _; refine bk_ ?_; exact BK541.out⟩
          have n4_ : Aside0 (((((((((w21.setCell ⟨gb552, 0, none⟩ (.int .i64 t542)).setCell ⟨gb552, 1, none⟩ (.int .i64 t543)).setCell ⟨gb552, 2, none⟩ (.int .i64 t544)).setCell ⟨gb552, 3, none⟩ (.int .i64 t545)).setCell ⟨gb552, 4, none⟩ (.int .i64 t546)).setCell ⟨gb552, 5, none⟩ (.int .i64 t547)).setCell ⟨gb552, 6, none⟩ (.int .i64 t548)).setCell ⟨gb552, 7, none⟩ (.int .i64 t549)).heap[gb552]? = some (.cells #[.int .i64 t542, .int .i64 t543, .int .i64 t544, .int .i64 t545, .int .i64 t546, .int .i64 t547, .int .i64 t548, .int .i64 t549] 32 (0, 0))) := ⟨by refine bk_ ?_; refine blk_put (cs := #[.int .i64 t542, .int .i64 t543, .int .i64 t544, .int .i64 t545, .int .i64 t546, .int .i64 t547, .int .i64 t548, .int .i64 0]) ?_ 7 _ rfl; refine bk_ ?_; refine blk_put (cs := #[.int .i64 t542, .int .i64 t543, .int .i64 t544, .int .i64 t545, .int .i64 t546, .int .i64 t547, .int .i64 0, .int .i64 0]) ?_ 6 _ rfl; refine bk_ ?_; refine blk_put (cs := #[.int .i64 t542, .int .i64 t543, .int .i64 t544, .int .i64 t545, .int .i64 t546, .int .i64 0, .int .i64 0, .int .i64 0]) ?_ 5 _ rfl; refine bk_ ?_; refine blk_put (cs := #[.int .i64 t542, .int .i64 t543, .int .i64 t544, .int .i64 t545, .int .i64 0, .int .i64 0, .int .i64 0, .int .i64 0]) ?_ 4 _ rfl; refine bk_ ?_; refine blk_put (cs := #[.int .i64 t542, .int .i64 t543, .int .i64 t544, .int .i64 0, .int .i64 0, .int .i64 0, .int .i64 0, .int .i64 0]) ?_ 3 _ rfl; refine bk_ ?_; refine blk_put (cs := #[.int .i64 t542, .int .i64 t543, .int .i64 0, .int .i64 0, .int .i64 0, .int .i64 0, .int .i64 0, .int .i64 0]) ?_ 2 _ rfl; refine bk_ ?_; refine blk_put (cs := #[.int .i64 t542, .int .i64 0, .int .i64 0, .int .i64 0, .int .i64 0, .int .i64 0, .int .i64 0, .int .i64 0]) ?_ 1 _ rfl; refine bk_ ?_; refine blk_put (cs := #[.int .i64 0, .int .i64 0, .int .i64 0, .int .i64 0, .int .i64 0, .int .i64 0, .int .i64 0, .int .i64 0]) ?_ 0 _ rfl; refine bk_ ?_; exact BK552.out⟩
          have n5_ : Aside0 (Below w.heap.size w ((((((((w21.setCell ⟨gb552, 0, none⟩ (.int .i64 t542)).setCell ⟨gb552, 1, none⟩ (.int .i64 t543)).setCell ⟨gb552, 2, none⟩ (.int .i64 t544)).setCell ⟨gb552, 3, none⟩ (.int .i64 t545)).setCell ⟨gb552, 4, none⟩ (.int .i64 t546)).setCell ⟨gb552, 5, none⟩ (.int .i64 t547)).setCell ⟨gb552, 6, none⟩ (.int .i64 t548)).setCell ⟨gb552, 7, none⟩ (.int .i64 t549))) := ⟨bw_ HB.out⟩
          (try clear HO526)
          (try clear HO530)
          (try clear BK523)
          (try clear BK541)
          (try clear BK552)
          (try clear HB)
          generalize ((((((((w21.setCell ⟨gb552, 0, none⟩ (.int .i64 t542)).setCell ⟨gb552, 1, none⟩ (.int .i64 t543)).setCell ⟨gb552, 2, none⟩ (.int .i64 t544)).setCell ⟨gb552, 3, none⟩ (.int .i64 t545)).setCell ⟨gb552, 4, none⟩ (.int .i64 t546)).setCell ⟨gb552, 5, none⟩ (.int .i64 t547)).setCell ⟨gb552, 6, none⟩ (.int .i64 t548)).setCell ⟨gb552, 7, none⟩ (.int .i64 t549)) = w38 at n0_ n1_ n2_ n3_ n4_ n5_ ⊢
          have HO526 := n0_
          have HO530 := n1_
          have BK523 := n2_
          have BK541 := n3_
          have BK552 := n4_
          have HB := n5_
          clear n0_ n1_ n2_ n3_ n4_ n5_
          have n0_ := Aside0.mk (Kd.R_drew HO526.out)
          have n1_ := Aside0.mk (Kd.R_drew HO530.out)
          have n2_ := Aside0.mk (blk_drew BK523.out)
          have n3_ := Aside0.mk (blk_drew BK541.out)
          have n4_ := Aside0.mk (blk_drew BK552.out)
          have n5_ := Aside0.mk (below_drew1 HB.out)
          clear HO526
          clear HO530
          clear BK523
          clear BK541
          clear BK552
          clear HB
          have HO526 := n0_
          have HO530 := n1_
          have BK523 := n2_
          have BK541 := n3_
          have BK552 := n4_
          have HB := n5_
          clear n0_ n1_ n2_ n3_ n4_ n5_
          refine start_ (n := 29) (S := fun w' => w'.cell? ⟨gb541, 0, none⟩ = some (.int .i64 t531) ∧ w'.cell? ⟨gb541, 1, none⟩ = some (.int .i64 t532) ∧ w'.cell? ⟨gb541, 2, none⟩ = some (.int .i64 t533) ∧ w'.cell? ⟨gb541, 3, none⟩ = some (.int .i64 t534) ∧ w'.cell? ⟨gb541, 4, none⟩ = some (.int .i64 t535) ∧ w'.cell? ⟨gb541, 5, none⟩ = some (.int .i64 t536) ∧ w'.cell? ⟨gb541, 6, none⟩ = some (.int .i64 t537) ∧ w'.cell? ⟨gb541, 7, none⟩ = some (.int .i64 t538)) (ds := []) #[false, false, false, false, false, false, false, false, false, false, false, false, false, false, false, false, false, false, false, false, false, false, false, false, false, false, false, false, false] (by kernel_rfl) rfl rfl ⟨(blk_cell BK541.out 0).trans rfl, (blk_cell BK541.out 1).trans rfl, (blk_cell BK541.out 2).trans rfl, (blk_cell BK541.out 3).trans rfl, (blk_cell BK541.out 4).trans rfl, (blk_cell BK541.out 5).trans rfl, (blk_cell BK541.out 6).trans rfl, (blk_cell BK541.out 7).trans rfl⟩ (fun hHeld => ?_); refine with_tabW laws_FnCodes.tab8 laws_FnCodes.bits8 (fun HT_ HW_ => ?_)
          generalize w38.drew = w39 at HO526 HO530 BK523 BK541 BK552 HB hHeld ⊢
          refine pure_ (i := 0) (N := some 41) (v := ?_) (a' := ?_) #[true, false, false, false, false, false, false, false, false, false, false, false, false, false, false, false, false, false, false, false, false, false, false, false, false, false, false, false, false] rfl rfl (any_of HT_.out (by kernel_rfl)) (fun _ _ _ h => h) (Or.inl ⟨by rfl, ?_⟩) ?_ ?_
          rotate_left
          ·intro w'
           go_simp
           with_reducible rfl
          rotate_left
          ·simp only [Act.put, List.setIfInBounds_toArray, List.set_cons_zero, List.set_cons_succ, i64_w, i32_w]
           rfl
          refine pure_ (i := 1) (N := some 42) (v := ?_) (a' := ?_) #[true, true, false, false, false, false, false, false, false, false, false, false, false, false, false, false, false, false, false, false, false, false, false, false, false, false, false, false, false] rfl rfl (any_of HT_.out (by kernel_rfl)) (fun _ _ _ h => h) (Or.inl ⟨by rfl, ?_⟩) ?_ ?_
          rotate_left
          ·intro w'
           go_simp
           with_reducible rfl
          rotate_left
          ·simp only [Act.put, List.setIfInBounds_toArray, List.set_cons_zero, List.set_cons_succ, i64_w, i32_w]
           rfl
          refine pure_ (i := 2) (N := some 43) (v := ?_) (a' := ?_) #[true, true, true, false, false, false, false, false, false, false, false, false, false, false, false, false, false, false, false, false, false, false, false, false, false, false, false, false, false] rfl rfl (any_of HT_.out (by kernel_rfl)) (fun _ _ _ h => h) (Or.inl ⟨by rfl, ?_⟩) ?_ ?_
          rotate_left
          ·intro w'
           go_simp
           with_reducible rfl
          rotate_left
          ·simp only [Act.put, List.setIfInBounds_toArray, List.set_cons_zero, List.set_cons_succ, i64_w, i32_w]
           rfl
          refine pure_ (i := 3) (N := some 44) (v := ?_) (a' := ?_) #[true, true, true, true, false, false, false, false, false, false, false, false, false, false, false, false, false, false, false, false, false, false, false, false, false, false, false, false, false] rfl rfl (any_of HT_.out (by kernel_rfl)) (fun _ _ _ h => h) (Or.inl ⟨by rfl, ?_⟩) ?_ ?_
          rotate_left
          ·intro w'
           go_simp
           with_reducible rfl
          rotate_left
          ·simp only [Act.put, List.setIfInBounds_toArray, List.set_cons_zero, List.set_cons_succ, i64_w, i32_w]
           rfl
          refine pure_ (i := 4) (N := some 45) (v := ?_) (a' := ?_) #[true, true, true, true, true, false, false, false, false, false, false, false, false, false, false, false, false, false, false, false, false, false, false, false, false, false, false, false, false] rfl rfl (any_of HT_.out (by kernel_rfl)) (fun _ _ _ h => h) (Or.inl ⟨by rfl, ?_⟩) ?_ ?_
          rotate_left
          ·intro w'
           go_simp
           with_reducible rfl
          rotate_left
          ·simp only [Act.put, List.setIfInBounds_toArray, List.set_cons_zero, List.set_cons_succ, i64_w, i32_w]
           rfl
          refine pure_ (i := 5) (N := some 46) (v := ?_) (a' := ?_) #[true, true, true, true, true, true, false, false, false, false, false, false, false, false, false, false, false, false, false, false, false, false, false, false, false, false, false, false, false] rfl rfl (any_of HT_.out (by kernel_rfl)) (fun _ _ _ h => h) (Or.inl ⟨by rfl, ?_⟩) ?_ ?_
          rotate_left
          ·intro w'
           go_simp
           with_reducible rfl
          rotate_left
          ·simp only [Act.put, List.setIfInBounds_toArray, List.set_cons_zero, List.set_cons_succ, i64_w, i32_w]
           rfl
          refine take_ (i := 6) (N := some 47) (v := ?_) (a' := ?_) #[true, true, true, true, true, true, true, false, false, false, false, false, false, false, false, false, false, false, false, false, false, false, false, false, false, false, false, false, false] rfl rfl (take_ofW HT_.out HW_.out (by kernel_rfl)) (fun _ _ _ h => h) (Or.inl ⟨by rfl, ?_⟩) hHeld ?_ ?_
          rotate_left
          ·rintro w' ⟨s0, s1, s2, s3, s4, s5, s6, s7⟩
           go_simp
           with_reducible rfl
          rotate_left
          ·simp only [Act.put, List.setIfInBounds_toArray, List.set_cons_zero, List.set_cons_succ, i64_w, i32_w]
           rfl
          refine one_ (i := 7) (N := some 48) #[true, true, true, true, true, true, true, true, false, false, false, false, false, false, false, false, false, false, false, false, false, false, false, false, false, false, false, false, false] rfl rfl (one_of HT_.out (by kernel_rfl)) (by decide) (fun K hK => ?_)
          refine goes_ Try.func20 (by kernel_rfl) rfl #[.agg #[.int .i64 t531, .int .i64 t532, .int .i64 t533, .int .i64 t534, .int .i64 t535, .int .i64 t536, .int .i64 t537, .int .i64 t538]] (by rfl) rfl rfl (by (try simp only [List.map_toArray, List.map_cons, List.map_nil]); first | done | rfl | (simp only [List.length_drop, List.length_take]; rfl)) ?_
          with_reducible refine (impl_InsOk.calls k t531 t532 t533 t534 t535 t536 t537 t538 true _ A29.out).mono ?_
          rintro e w40 ⟨rfl, hb⟩
          refine ⟨_, rfl, ?_⟩
          have n0_ := Aside0.mk (Kd.R_below (by (with_reducible repeat (first | apply Kd.R_alloc | apply Kd.R_drewN | apply Kd.R_drew)); exact HO526.out) hb)
          have n1_ := Aside0.mk (Kd.R_below (by (with_reducible repeat (first | apply Kd.R_alloc | apply Kd.R_drewN | apply Kd.R_drew)); exact HO530.out) hb)
          have n2_ := Aside0.mk (blk_below (bk_ BK523.out) hb)
          have n3_ := Aside0.mk (blk_below (bk_ BK541.out) hb)
          have n4_ := Aside0.mk (blk_below (bk_ BK552.out) hb)
          have n5_ := Aside0.mk (below_step (bw_ HB.out) hb)
          clear HO526
          clear HO530
          clear BK523
          clear BK541
          clear BK552
          clear HB
          have HO526 := n0_
          have HO530 := n1_
          have BK523 := n2_
          have BK541 := n3_
          have BK552 := n4_
          have HB := n5_
          clear n0_ n1_ n2_ n3_ n4_ n5_
          (try clear hb)
          (try clear hb2)
          (try clear hk)
          (try clear hi)
          refine hK.out _ _ ⟨(blk_cell BK541.out 0).trans rfl, (blk_cell BK541.out 1).trans rfl, (blk_cell BK541.out 2).trans rfl, (blk_cell BK541.out 3).trans rfl, (blk_cell BK541.out 4).trans rfl, (blk_cell BK541.out 5).trans rfl, (blk_cell BK541.out 6).trans rfl, (blk_cell BK541.out 7).trans rfl⟩ (fun hHeld => ?_)
          clear hK K
          refine norm_ (a' := ?_) ?_ ?_
          rotate_left
          ·show Act.put _ (some 48) _ = _
           simp only [Act.put, List.setIfInBounds_toArray, List.set_cons_zero, List.set_cons_succ, i64_w, i32_w]
           rfl
          refine pure_ (i := 8) (N := some 49) (v := ?_) (a' := ?_) #[true, true, true, true, true, true, true, true, true, false, false, false, false, false, false, false, false, false, false, false, false, false, false, false, false, false, false, false, false] rfl rfl (any_of HT_.out (by kernel_rfl)) (fun _ _ _ h => h) (Or.inl ⟨by rfl, ?_⟩) ?_ ?_
          rotate_left
          ·intro w'
           go_simp
           with_reducible rfl
          rotate_left
          ·simp only [Act.put, List.setIfInBounds_toArray, List.set_cons_zero, List.set_cons_succ, i64_w, i32_w]
           rfl
          refine pure_ (i := 9) (N := some 50) (v := ?_) (a' := ?_) #[true, true, true, true, true, true, true, true, true, true, false, false, false, false, false, false, false, false, false, false, false, false, false, false, false, false, false, false, false] rfl rfl (any_of HT_.out (by kernel_rfl)) (fun _ _ _ h => h) (Or.inl ⟨by rfl, ?_⟩) ?_ ?_
          rotate_left
          ·intro w'
           go_simp
           with_reducible rfl
          rotate_left
          ·simp only [Act.put, List.setIfInBounds_toArray, List.set_cons_zero, List.set_cons_succ, i64_w, i32_w]
           rfl
          refine pure_ (i := 12) (N := some 53) (v := ?_) (a' := ?_) #[true, true, true, true, true, true, true, true, true, true, false, false, true, false, false, false, false, false, false, false, false, false, false, false, false, false, false, false, false] rfl rfl (any_of HT_.out (by kernel_rfl)) (fun _ _ _ h => h) (Or.inl ⟨by rfl, ?_⟩) ?_ ?_
          rotate_left
          ·intro w'
           go_simp
           with_reducible rfl
          rotate_left
          ·simp only [Act.put, List.setIfInBounds_toArray, List.set_cons_zero, List.set_cons_succ, i64_w, i32_w]
           rfl
          refine take_ (i := 10) (N := some 51) (v := ?_) (a' := ?_) #[true, true, true, true, true, true, true, true, true, true, true, false, true, false, false, false, false, false, false, false, false, false, false, false, false, false, false, false, false] rfl rfl (take_ofW HT_.out HW_.out (by kernel_rfl)) (fun _ _ _ h => h) (Or.inl ⟨by rfl, ?_⟩) hHeld ?_ ?_
          rotate_left
          ·rintro w' ⟨s0, s1, s2, s3, s4, s5, s6, s7⟩
           go_simp
           with_reducible rfl
          rotate_left
          ·simp only [Act.put, List.setIfInBounds_toArray, List.set_cons_zero, List.set_cons_succ, i64_w, i32_w]
           rfl
          refine one_ (i := 11) (N := some 52) #[true, true, true, true, true, true, true, true, true, true, true, true, true, false, false, false, false, false, false, false, false, false, false, false, false, false, false, false, false] rfl rfl (one_of HT_.out (by kernel_rfl)) (by decide) (fun K hK => ?_)
          refine goes_ Try.func18 (by kernel_rfl) rfl #[.agg #[.int .i64 t531, .int .i64 t532, .int .i64 t533, .int .i64 t534, .int .i64 t535, .int .i64 t536, .int .i64 t537, .int .i64 t538]] (by rfl) rfl rfl (by (try simp only [List.map_toArray, List.map_cons, List.map_nil]); first | done | rfl | (simp only [List.length_drop, List.length_take]; rfl)) ?_
          with_reducible refine (impl_Words.calls k t531 t532 t533 t534 t535 t536 t537 t538 t554 _ A31.out).mono ?_
          rintro e w41 ⟨rfl, hb⟩
          refine ⟨_, rfl, ?_⟩
          have n0_ := Aside0.mk (Kd.R_below (by (with_reducible repeat (first | apply Kd.R_alloc | apply Kd.R_drewN | apply Kd.R_drew)); exact HO526.out) hb)
          have n1_ := Aside0.mk (Kd.R_below (by (with_reducible repeat (first | apply Kd.R_alloc | apply Kd.R_drewN | apply Kd.R_drew)); exact HO530.out) hb)
          have n2_ := Aside0.mk (blk_below (bk_ BK523.out) hb)
          have n3_ := Aside0.mk (blk_below (bk_ BK541.out) hb)
          have n4_ := Aside0.mk (blk_below (bk_ BK552.out) hb)
          have n5_ := Aside0.mk (below_step (bw_ HB.out) hb)
          clear HO526
          clear HO530
          clear BK523
          clear BK541
          clear BK552
          clear HB
          have HO526 := n0_
          have HO530 := n1_
          have BK523 := n2_
          have BK541 := n3_
          have BK552 := n4_
          have HB := n5_
          clear n0_ n1_ n2_ n3_ n4_ n5_
          (try clear hb)
          (try clear hb2)
          (try clear hk)
          (try clear hi)
          refine hK.out _ _ ⟨(blk_cell BK541.out 0).trans rfl, (blk_cell BK541.out 1).trans rfl, (blk_cell BK541.out 2).trans rfl, (blk_cell BK541.out 3).trans rfl, (blk_cell BK541.out 4).trans rfl, (blk_cell BK541.out 5).trans rfl, (blk_cell BK541.out 6).trans rfl, (blk_cell BK541.out 7).trans rfl⟩ (fun hHeld => ?_)
          clear hK K
          refine norm_ (a' := ?_) ?_ ?_
          rotate_left
          ·show Act.put _ (some 52) _ = _
           simp only [Act.put, List.setIfInBounds_toArray, List.set_cons_zero, List.set_cons_succ, i64_w, i32_w]
           rfl
          have q43 : ((wrap64 (t528 + t539)) : Int) ≤ ((t527.length : Int) : Int) := of_decide_eq_true (by first | (with_reducible assumption) | assumption)
          obtain ⟨i043, hi043, _, hsz43, _⟩ := info_parts info3
          have hroom43 : t527.length ≤ co15 := (Kd.R_reads' HO530.out).2.1
          have ql43 : (t528 : Int) ≤ ((wrap64 (t528 + t539)) : Int) := of_decide_eq_true (by first | (with_reducible assumption) | assumption)
          have q043 : (0 : Int) ≤ (t528 : Int) := of_decide_eq_true (by first | (with_reducible assumption) | assumption)
          have hcut43 := cut_mid (P := Try.prog) 36 3 .i64 .i64 Try.underlying36 hi043 1 hsz43 Ao15 t527.length co15 t528 (wrap64 (t528 + t539)) q043 ql43 q43 hroom43
          obtain ⟨A43, hA43⟩ : ∃ A1, A1 = (if co15 = (t528 : Int).toNat then Ao15 else (Ao15 : Option Addr).map (·.add ((t528 : Int).toNat * 1))) := ⟨_, rfl⟩
          obtain ⟨c43, hc43⟩ : ∃ c1, c1 = co15 - (t528 : Int).toNat := ⟨_, rfl⟩
          have hy43 : y558.length = ((wrap64 (t528 + t539)) : Int).toNat - (t528 : Int).toNat := (by rw [Ny558.out, List.length_drop, List.length_take] <;> omega)
          rw [← hy43, ← hA43, ← hc43] at hcut43
          refine pure_ (i := 13) (N := some 54) (v := ?_) (a' := ?_) #[true, true, true, true, true, true, true, true, true, true, true, true, true, true, false, false, false, false, false, false, false, false, false, false, false, false, false, false, false] rfl rfl (any_of HT_.out (by kernel_rfl)) (fun _ _ _ h => h) (Or.inl ⟨by rfl, ?_⟩) ?_ ?_
          rotate_left
          ·intro w'
           go_simp
           first | (refine Eq.trans (b := Value.slice A43 y558.length c43) ?_ ?_; rw [hA43, hc43, hy43, Nat.mul_one]; with_reducible rfl) | with_reducible rfl
          rotate_left
          ·simp only [Act.put, List.setIfInBounds_toArray, List.set_cons_zero, List.set_cons_succ, i64_w, i32_w]
           rfl
          refine pure_ (i := 14) (N := some 55) (v := ?_) (a' := ?_) #[true, true, true, true, true, true, true, true, true, true, true, true, true, true, true, false, false, false, false, false, false, false, false, false, false, false, false, false, false] rfl rfl (any_of HT_.out (by kernel_rfl)) (fun _ _ _ h => h) (Or.inl ⟨by rfl, ?_⟩) ?_ ?_
          rotate_left
          ·intro w'
           go_simp
           first | (refine Eq.trans (b := Value.slice A43 y558.length c43) ?_ ?_; rw [hA43, hc43, hy43, Nat.mul_one]; with_reducible rfl) | with_reducible rfl
          rotate_left
          ·simp only [Act.put, List.setIfInBounds_toArray, List.set_cons_zero, List.set_cons_succ, i64_w, i32_w]
           rfl
          refine pure_ (i := 15) (N := some 56) (v := ?_) (a' := ?_) #[true, true, true, true, true, true, true, true, true, true, true, true, true, true, true, true, false, false, false, false, false, false, false, false, false, false, false, false, false] rfl rfl (any_of HT_.out (by kernel_rfl)) (fun _ _ _ h => h) (Or.inl ⟨by rfl, ?_⟩) ?_ ?_
          rotate_left
          ·intro w'
           go_simp
           first | (refine Eq.trans (b := Value.slice A43 y558.length c43) ?_ ?_; rw [hA43, hc43, hy43, Nat.mul_one]; with_reducible rfl) | with_reducible rfl
          rotate_left
          ·simp only [Act.put, List.setIfInBounds_toArray, List.set_cons_zero, List.set_cons_succ, i64_w, i32_w]
           rfl
          refine pure_ (i := 18) (N := some 59) (v := ?_) (a' := ?_) #[true, true, true, true, true, true, true, true, true, true, true, true, true, true, true, true, false, false, true, false, false, false, false, false, false, false, false, false, false] rfl rfl (any_of HT_.out (by kernel_rfl)) (fun _ _ _ h => h) (Or.inl ⟨by rfl, ?_⟩) ?_ ?_
          rotate_left
          ·intro w'
           go_simp
           first | (refine Eq.trans (b := Value.slice A43 y558.length c43) ?_ ?_; rw [hA43, hc43, hy43, Nat.mul_one]; with_reducible rfl) | with_reducible rfl
          rotate_left
          ·simp only [Act.put, List.setIfInBounds_toArray, List.set_cons_zero, List.set_cons_succ, i64_w, i32_w]
           rfl
          refine pure_ (i := 19) (N := some 60) (v := ?_) (a' := ?_) #[true, true, true, true, true, true, true, true, true, true, true, true, true, true, true, true, false, false, true, true, false, false, false, false, false, false, false, false, false] rfl rfl (any_of HT_.out (by kernel_rfl)) (fun _ _ _ h => h) (Or.inl ⟨by rfl, ?_⟩) ?_ ?_
          rotate_left
          ·intro w'
           go_simp
           first | (refine Eq.trans (b := Value.slice A43 y558.length c43) ?_ ?_; rw [hA43, hc43, hy43, Nat.mul_one]; with_reducible rfl) | with_reducible rfl
          rotate_left
          ·simp only [Act.put, List.setIfInBounds_toArray, List.set_cons_zero, List.set_cons_succ, i64_w, i32_w]
           rfl
          refine pure_ (i := 20) (N := some 61) (v := ?_) (a' := ?_) #[true, true, true, true, true, true, true, true, true, true, true, true, true, true, true, true, false, false, true, true, true, false, false, false, false, false, false, false, false] rfl rfl (any_of HT_.out (by kernel_rfl)) (fun _ _ _ h => h) (Or.inl ⟨by rfl, ?_⟩) ?_ ?_
          rotate_left
          ·intro w'
           go_simp
           first | (refine Eq.trans (b := Value.slice A43 y558.length c43) ?_ ?_; rw [hA43, hc43, hy43, Nat.mul_one]; with_reducible rfl) | with_reducible rfl
          rotate_left
          ·simp only [Act.put, List.setIfInBounds_toArray, List.set_cons_zero, List.set_cons_succ, i64_w, i32_w]
           rfl
          refine pure_ (i := 21) (N := some 62) (v := ?_) (a' := ?_) #[true, true, true, true, true, true, true, true, true, true, true, true, true, true, true, true, false, false, true, true, true, true, false, false, false, false, false, false, false] rfl rfl (any_of HT_.out (by kernel_rfl)) (fun _ _ _ h => h) (Or.inl ⟨by rfl, ?_⟩) ?_ ?_
          rotate_left
          ·intro w'
           go_simp
           first | (refine Eq.trans (b := Value.slice A43 y558.length c43) ?_ ?_; rw [hA43, hc43, hy43, Nat.mul_one]; with_reducible rfl) | with_reducible rfl
          rotate_left
          ·simp only [Act.put, List.setIfInBounds_toArray, List.set_cons_zero, List.set_cons_succ, i64_w, i32_w]
           rfl
          refine pure_ (i := 22) (N := some 63) (v := ?_) (a' := ?_) #[true, true, true, true, true, true, true, true, true, true, true, true, true, true, true, true, false, false, true, true, true, true, true, false, false, false, false, false, false] rfl rfl (any_of HT_.out (by kernel_rfl)) (fun _ _ _ h => h) (Or.inl ⟨by rfl, ?_⟩) ?_ ?_
          rotate_left
          ·intro w'
           go_simp
           first | (refine Eq.trans (b := Value.slice A43 y558.length c43) ?_ ?_; rw [hA43, hc43, hy43, Nat.mul_one]; with_reducible rfl) | with_reducible rfl
          rotate_left
          ·simp only [Act.put, List.setIfInBounds_toArray, List.set_cons_zero, List.set_cons_succ, i64_w, i32_w]
           rfl
          refine pure_ (i := 23) (N := some 64) (v := ?_) (a' := ?_) #[true, true, true, true, true, true, true, true, true, true, true, true, true, true, true, true, false, false, true, true, true, true, true, true, false, false, false, false, false] rfl rfl (any_of HT_.out (by kernel_rfl)) (fun _ _ _ h => h) (Or.inl ⟨by rfl, ?_⟩) ?_ ?_
          rotate_left
          ·intro w'
           go_simp
           first | (refine Eq.trans (b := Value.slice A43 y558.length c43) ?_ ?_; rw [hA43, hc43, hy43, Nat.mul_one]; with_reducible rfl) | with_reducible rfl
          rotate_left
          ·simp only [Act.put, List.setIfInBounds_toArray, List.set_cons_zero, List.set_cons_succ, i64_w, i32_w]
           rfl
          refine take_ (i := 16) (N := some 57) (v := ?_) (a' := ?_) #[true, true, true, true, true, true, true, true, true, true, true, true, true, true, true, true, true, false, true, true, true, true, true, true, false, false, false, false, false] rfl rfl (take_ofW HT_.out HW_.out (by kernel_rfl)) (fun _ _ _ h => h) (Or.inl ⟨by rfl, ?_⟩) hHeld ?_ ?_
          rotate_left
          ·rintro w' ⟨s0, s1, s2, s3, s4, s5, s6, s7⟩
           go_simp
           first | (refine Eq.trans (b := Value.slice A43 y558.length c43) ?_ ?_; rw [hA43, hc43, hy43, Nat.mul_one]; with_reducible rfl) | with_reducible rfl
          rotate_left
          ·simp only [Act.put, List.setIfInBounds_toArray, List.set_cons_zero, List.set_cons_succ, i64_w, i32_w]
           rfl
          refine one_ (i := 17) (N := some 58) #[true, true, true, true, true, true, true, true, true, true, true, true, true, true, true, true, true, true, true, true, true, true, true, true, false, false, false, false, false] rfl rfl (one_of HT_.out (by kernel_rfl)) (by decide) (fun K hK => ?_)
          refine goes_ Try.func22 (by kernel_rfl) rfl #[.agg #[.int .i64 t531, .int .i64 t532, .int .i64 t533, .int .i64 t534, .int .i64 t535, .int .i64 t536, .int .i64 t537, .int .i64 t538]] (by rfl) rfl rfl (by (try simp only [List.map_toArray, List.map_cons, List.map_nil]); first | done | rfl | (simp only [List.length_drop, List.length_take]; rfl)) ?_
          with_reducible refine (impl_Encode.calls k t531 t532 t533 t534 t535 t536 t537 t538 t555 _ A33.out).mono ?_
          rintro e w42 ⟨v556, rfl, ho0, hb⟩
          refine ⟨_, rfl, ?_⟩
          have n0_ := Aside0.mk (Kd.R_elder' (by (with_reducible repeat (first | apply Kd.R_alloc | apply Kd.R_drewN | apply Kd.R_drew)); exact HO526.out) (Kd.R_base ho0) hb)
          have n1_ := Aside0.mk (Kd.R_elder' (by (with_reducible repeat (first | apply Kd.R_alloc | apply Kd.R_drewN | apply Kd.R_drew)); exact HO530.out) (Kd.R_base ho0) hb)
          have n2_ := Aside0.mk (Kd.R_lower (Kd.R_new' (Kd.R_new' ho0 (Kd.R_lt (by (with_reducible repeat (first | apply Kd.R_alloc | apply Kd.R_drewN | apply Kd.R_drew)); exact HO526.out))) (Kd.R_lt (by (with_reducible repeat (first | apply Kd.R_alloc | apply Kd.R_drewN | apply Kd.R_drew)); exact HO530.out))) (below_size (bw_ HB.out)))
          have n3_ := Aside0.mk (blk_below (bk_ BK523.out) hb)
          have n4_ := Aside0.mk (blk_below (bk_ BK541.out) hb)
          have n5_ := Aside0.mk (blk_below (bk_ BK552.out) hb)
          have n6_ := Aside0.mk (below_step (bw_ HB.out) hb)
          clear HO526
          clear HO530
          clear BK523
          clear BK541
          clear BK552
          clear HB
          have HO526 := n0_
          have HO530 := n1_
          have HO557 := n2_
          have BK523 := n3_
          have BK541 := n4_
          have BK552 := n5_
          have HB := n6_
          clear n0_ n1_ n2_ n3_ n4_ n5_ n6_
          (try clear hb)
          (try clear hb2)
          (try clear hk)
          (try clear hi)
          (try clear ho0)
          have hC43 : Kd.C (Kd.int .i64) _ Ao15 t527.length t527 := (Kd.R_reads' HO530.out).2.2
          have hr43 := Kd.C_mid (lo := (t528 : Int).toNat) (hi := ((wrap64 (t528 + t539)) : Int).toNat) (c := co15) hC43 (by omega) (by omega) hroom43
          rw [show ((t527).take ((wrap64 (t528 + t539)) : Int).toNat).drop (t528 : Int).toNat = y558 from Ny558.out.symm] at hr43
          replace hr43 : Kd.C (Kd.int .i64) _ A43 y558.length y558 := (by rw [hA43]; exact hr43)
          have HR561 := Aside0.mk hr43
          have HC561 := Aside0.mk (show y558.length ≤ c43 from by rw [hy43, hc43]; exact Nat.sub_le_sub_right (Nat.le_trans (by omega) hroom43) _)
          clear hr43 hC43 hroom43 hi043 hsz43 hc43
          have KY43 := Aside0.mk hy43
          have KA43 := Aside0.mk hA43
          clear hy43 hA43
          have KL43 := Aside0.mk (show ((wrap64 (t528 + t539)) : Int).toNat ≤ t527.length from by omega)
          have KM43 := Aside0.mk (show (t528 : Int).toNat ≤ ((wrap64 (t528 + t539)) : Int).toNat from by omega)
          replace q43 := eq_true q43
          obtain ⟨Ao44, co44, eo44⟩ := Kd.R_slice HO557.out
          (first | subst eo44 | (injection eo44 with f1_ f2_ f3_; have f4_ := f1_.symm; have f5_ := f3_.symm; clear f1_ f2_ f3_; subst f4_; subst f5_))
          refine hK.out _ _ ⟨(blk_cell BK541.out 0).trans rfl, (blk_cell BK541.out 1).trans rfl, (blk_cell BK541.out 2).trans rfl, (blk_cell BK541.out 3).trans rfl, (blk_cell BK541.out 4).trans rfl, (blk_cell BK541.out 5).trans rfl, (blk_cell BK541.out 6).trans rfl, (blk_cell BK541.out 7).trans rfl⟩ (fun hHeld => ?_)
          clear hK K
          refine norm_ (a' := ?_) ?_ ?_
          rotate_left
          ·show Act.put _ (some 58) _ = _
           simp only [Act.put, List.setIfInBounds_toArray, List.set_cons_zero, List.set_cons_succ, i64_w, i32_w]
           rfl
          refine one_ (i := 24) (N := some 65) #[true, true, true, true, true, true, true, true, true, true, true, true, true, true, true, true, true, true, true, true, true, true, true, true, true, false, false, false, false] rfl rfl (one_of HT_.out (by kernel_rfl)) (by decide) (fun K hK => ?_)
          refine goes_ Try.func34 (by kernel_rfl) rfl #[.slice Ao44 t555.length co44, .slice A43 y558.length c43] (by rfl) rfl rfl (by (try simp only [List.map_toArray, List.map_cons, List.map_nil]); first | done | rfl | (simp only [List.length_drop, List.length_take]; rfl)) ?_
          with_reducible refine (laws_sameInts.calls k _ _ t555 _ _ y558 t562 _ ?side1 ?side2 ?side3 ?side4 A37.out).mono ?_
          (case side1 => repeat (first | exact (Kd.R_reads' HO557.out).2.2 | (with_reducible refine Kd.C_alloc ?_ _) | (with_reducible refine Kd.C_drewN ?_ _) | (with_reducible refine Kd.C_drew ?_)))
          (case side2 => exact (Kd.R_reads' HO557.out).2.1)
          (case side3 => repeat (first | exact (by repeat (first | (with_reducible exact HR561.out) | (with_reducible refine Kd.C_alloc ?_ _) | (with_reducible refine Kd.C_drewN ?_ _) | (with_reducible refine Kd.C_drew ?_) | exact HR561.out)) | (with_reducible refine Kd.C_alloc ?_ _) | (with_reducible refine Kd.C_drewN ?_ _) | (with_reducible refine Kd.C_drew ?_)))
          (case side4 => exact HC561.out)
          rintro e w' ⟨rfl, ⟨nd, rfl⟩⟩
          refine ⟨_, rfl, ?_⟩
          refine hK.out _ _ ⟨(blk_cell BK541.out 0).trans rfl, (blk_cell BK541.out 1).trans rfl, (blk_cell BK541.out 2).trans rfl, (blk_cell BK541.out 3).trans rfl, (blk_cell BK541.out 4).trans rfl, (blk_cell BK541.out 5).trans rfl, (blk_cell BK541.out 6).trans rfl, (blk_cell BK541.out 7).trans rfl⟩ (fun hHeld => ?_)
          clear hK K
          refine norm_ (a' := ?_) ?_ ?_
          rotate_left
          ·show Act.put _ (some 65) _ = _
           simp only [Act.put, List.setIfInBounds_toArray, List.set_cons_zero, List.set_cons_succ, i64_w, i32_w]
           rfl
          refine pure_ (i := 25) (N := some 66) (v := ?_) (a' := ?_) #[true, true, true, true, true, true, true, true, true, true, true, true, true, true, true, true, true, true, true, true, true, true, true, true, true, true, false, false, false] rfl rfl (any_of HT_.out (by kernel_rfl)) (fun _ _ _ h => h) (Or.inl ⟨by rfl, ?_⟩) ?_ ?_
          rotate_left
          ·intro w'
           go_simp
           with_reducible rfl
          rotate_left
          ·simp only [Act.put, List.setIfInBounds_toArray, List.set_cons_zero, List.set_cons_succ, i64_w, i32_w]
           rfl
          refine pure_ (i := 26) (N := some 67) (v := ?_) (a' := ?_) #[true, true, true, true, true, true, true, true, true, true, true, true, true, true, true, true, true, true, true, true, true, true, true, true, true, true, true, false, false] rfl rfl (any_of HT_.out (by kernel_rfl)) (fun _ _ _ h => h) (Or.inl ⟨by rfl, ?_⟩) ?_ ?_
          rotate_left
          ·intro w'
           go_simp
           with_reducible rfl
          rotate_left
          ·simp only [Act.put, List.setIfInBounds_toArray, List.set_cons_zero, List.set_cons_succ, i64_w, i32_w]
           rfl
          refine pure_ (i := 27) (N := some 68) (v := ?_) (a' := ?_) #[true, true, true, true, true, true, true, true, true, true, true, true, true, true, true, true, true, true, true, true, true, true, true, true, true, true, true, true, false] rfl rfl (any_of HT_.out (by kernel_rfl)) (fun _ _ _ h => h) (Or.inl ⟨by rfl, ?_⟩) ?_ ?_
          rotate_left
          ·intro w'
           go_simp
           with_reducible rfl
          rotate_left
          ·simp only [Act.put, List.setIfInBounds_toArray, List.set_cons_zero, List.set_cons_succ, i64_w, i32_w]
           rfl
          refine pure_ (i := 28) (N := some 69) (v := ?_) (a' := ?_) #[true, true, true, true, true, true, true, true, true, true, true, true, true, true, true, true, true, true, true, true, true, true, true, true, true, true, true, true, true] rfl rfl (any_of HT_.out (by kernel_rfl)) (fun _ _ _ h => h) (Or.inl ⟨by rfl, ?_⟩) ?_ ?_
          rotate_left
          ·intro w'
           go_simp
           with_reducible rfl
          rotate_left
          ·simp only [Act.put, List.setIfInBounds_toArray, List.set_cons_zero, List.set_cons_succ, i64_w, i32_w]
           rfl
          refine done_ (done_of HT_.out (by kernel_rfl)) ?_
          try go_wp2
          go_meet
          case rel => exact ⟨_, (!t562), (by first | rfl | (simp; done) | (simp [*]; done) | (simp [wrap64]; done)), H', ⟨by first | omega | exact Nat.le_refl _⟩, ⟨by (with_reducible repeat (first | apply Kd.R_alloc | apply Kd.R_drewN | apply Kd.R_drew)); exact Kd.R_mono HO526.out (fun _ hk => trivial)⟩, ⟨by refine bk_ ?_; exact BK523.out⟩, ⟨by refine bk_ ?_; exact BK541.out⟩, ⟨by refine bk_ ?_; exact BK552.out⟩, ⟨bw_ HB.out⟩⟩
         ·rw [if_neg c36] at H
          exact absurd H (by simp)
        ·rw [if_neg c35] at H
         exact absurd H (by simp)
       ·rw [if_neg c34] at H
        exact absurd H (by simp)
      ·rw [if_neg c32] at H
       have c32b0 : (t554 == t539) = false := beq_eq_false_iff_ne.mpr c32
       have c32b1 : (t554 != t539) = true := bne_iff_ne.mpr c32
       have H' := Aside0.mk H
       clear H
       try go_wp2
       have n0_ : Aside0 (Kd.R (Kd.int .i64) 3 ((((((((w21.setCell ⟨gb552, 0, none⟩ (.int .i64 t542)).setCell ⟨gb552, 1, none⟩ (.int .i64 t543)).setCell ⟨gb552, 2, none⟩ (.int .i64 t544)).setCell ⟨gb552, 3, none⟩ (.int .i64 t545)).setCell ⟨gb552, 4, none⟩ (.int .i64 t546)).setCell ⟨gb552, 5, none⟩ (.int .i64 t547)).setCell ⟨gb552, 6, none⟩ (.int .i64 t548)).setCell ⟨gb552, 7, none⟩ (.int .i64 t549)) w.heap.size (fun k_ => some k_ ≠ (.slice Ao15 t527.length co15 : Value).ownBlock) v525 t524) := ⟨by (with_reducible repeat (first | apply Kd.R_alloc | apply Kd.R_drewN | apply Kd.R_drew)); exact Kd.R_mono (Kd.R_far (p := ⟨gb552, 7, none⟩) (Kd.R_far (p := ⟨gb552, 6, none⟩) (Kd.R_far (p := ⟨gb552, 5, none⟩) (Kd.R_far (p := ⟨gb552, 4, none⟩) (Kd.R_far (p := ⟨gb552, 3, none⟩) (Kd.R_far (p := ⟨gb552, 2, none⟩) (Kd.R_far (p := ⟨gb552, 1, none⟩) (Kd.R_far (p := ⟨gb552, 0, none⟩) (Kd.R_types HO526.out BK552.out (by decide)) (fun _ hk => hk.2) (.int .i64 t542)) (fun _ hk => hk.2) (.int .i64 t543)) (fun _ hk => hk.2) (.int .i64 t544)) (fun _ hk => hk.2) (.int .i64 t545)) (fun _ hk => hk.2) (.int .i64 t546)) (fun _ hk => hk.2) (.int .i64 t547)) (fun _ hk => hk.2) (.int .i64 t548)) (fun _ hk => hk.2) (.int .i64 t549)) (fun _ hk => hk.1.2)⟩
       have n1_ : Aside0 (Kd.R (Kd.int .i64) 3 ((((((((w21.setCell ⟨gb552, 0, none⟩ (.int .i64 t542)).setCell ⟨gb552, 1, none⟩ (.int .i64 t543)).setCell ⟨gb552, 2, none⟩ (.int .i64 t544)).setCell ⟨gb552, 3, none⟩ (.int .i64 t545)).setCell ⟨gb552, 4, none⟩ (.int .i64 t546)).setCell ⟨gb552, 5, none⟩ (.int .i64 t547)).setCell ⟨gb552, 6, none⟩ (.int .i64 t548)).setCell ⟨gb552, 7, none⟩ (.int .i64 t549)) w.heap.size (fun k_ => some k_ ≠ (v525 : Value).ownBlock) (.slice Ao15 t527.length co15) t527) := ⟨by (with_reducible repeat (first | apply Kd.R_alloc | apply Kd.R_drewN | apply Kd.R_drew)); exact Kd.R_mono (Kd.R_far (p := ⟨gb552, 7, none⟩) (Kd.R_far (p := ⟨gb552, 6, none⟩) (Kd.R_far (p := ⟨gb552, 5, none⟩) (Kd.R_far (p := ⟨gb552, 4, none⟩) (Kd.R_far (p := ⟨gb552, 3, none⟩) (Kd.R_far (p := ⟨gb552, 2, none⟩) (Kd.R_far (p := ⟨gb552, 1, none⟩) (Kd.R_far (p := ⟨gb552, 0, none⟩) (Kd.R_types HO530.out BK552.out (by decide)) (fun _ hk => hk.2) (.int .i64 t542)) (fun _ hk => hk.2) (.int .i64 t543)) (fun _ hk => hk.2) (.int .i64 t544)) (fun _ hk => hk.2) (.int .i64 t545)) (fun _ hk => hk.2) (.int .i64 t546)) (fun _ hk => hk.2) (.int .i64 t547)) (fun _ hk => hk.2) (.int .i64 t548)) (fun _ hk => hk.2) (.int .i64 t549)) (fun _ hk => hk.1.2)⟩
       have n2_ : Aside0 (((((((((w21.setCell ⟨gb552, 0, none⟩ (.int .i64 t542)).setCell ⟨gb552, 1, none⟩ (.int .i64 t543)).setCell ⟨gb552, 2, none⟩ (.int .i64 t544)).setCell ⟨gb552, 3, none⟩ (.int .i64 t545)).setCell ⟨gb552, 4, none⟩ (.int .i64 t546)).setCell ⟨gb552, 5, none⟩ (.int .i64 t547)).setCell ⟨gb552, 6, none⟩ (.int .i64 t548)).setCell ⟨gb552, 7, none⟩ (.int .i64 t549)).heap[gb523]? = some (.cells #[.int .i64 t515, .int .i64 t516, .int .i64 t517, .int .i64 t518, .int .i64 t519, .int .i64 t520, .int .i64 t521, .int .i64 t522] 32 (0, 0))) := ⟨by refine bk_ ?_; refine blk_far ?_ NB523_552.out _; refine bk_ ?_; refine blk_far ?_ NB523_552.out _; refine bk_ ?_; refine blk_far ?_ NB523_552.out _; refine bk_ ?_; refine blk_far ?_ NB523_552.out _; refine bk_ ?_; refine blk_far ?_ NB523_552.out _; refine bk_ ?_; refine blk_far ?_ NB523_552.out _; refine bk_ ?_; refine blk_far ?_ NB523_552.out _; refine bk_ ?_; refine blk_far ?_ NB523_552.out _; refine bk_ ?_; exact BK523.out⟩
       have n3_ : Aside0 (((((((((w21.setCell ⟨gb552, 0, none⟩ (.int .i64 t542)).setCell ⟨gb552, 1, none⟩ (.int .i64 t543)).setCell ⟨gb552, 2, none⟩ (.int .i64 t544)).setCell ⟨gb552, 3, none⟩ (.int .i64 t545)).setCell ⟨gb552, 4, none⟩ (.int .i64 t546)).setCell ⟨gb552, 5, none⟩ (.int .i64 t547)).setCell ⟨gb552, 6, none⟩ (.int .i64 t548)).setCell ⟨gb552, 7, none⟩ (.int .i64 t549)).heap[gb541]? = some (.cells #[.int .i64 t531, .int .i64 t532, .int .i64 t533, .int .i64 t534, .int .i64 t535, .int .i64 t536, .int .i64 t537, .int .i64 t538] 32 (0, 0))) := ⟨by refine bk_ ?_; refine blk_far ?_ NB541_552.out _; refine bk_ ?_; refine blk_far ?_ NB541_552.out _; refine bk_ ?_; refine blk_far ?_ NB541_552.out _; refine bk_ ?_; refine blk_far ?_ NB541_552.out _; refine bk_ ?_; refine blk_far ?_ NB541_552.out _; refine bk_ ?_; refine blk_far ?_ NB541_552.out _; refine bk_ ?_; refine blk_far ?_ NB541_552.out _; refine bk_ ?_; refine blk_far ?_ NB541_552.out _; refine bk_ ?_; exact BK541.out⟩
       have n4_ : Aside0 (((((((((w21.setCell ⟨gb552, 0, none⟩ (.int .i64 t542)).setCell ⟨gb552, 1, none⟩ (.int .i64 t543)).setCell ⟨gb552, 2, none⟩ (.int .i64 t544)).setCell ⟨gb552, 3, none⟩ (.int .i64 t545)).setCell ⟨gb552, 4, none⟩ (.int .i64 t546)).setCell ⟨gb552, 5, none⟩ (.int .i64 t547)).setCell ⟨gb552, 6, none⟩ (.int .i64 t548)).setCell ⟨gb552, 7, none⟩ (.int .i64 t549)).heap[gb552]? = some (.cells #[.int .i64 t542, .int .i64 t543, .int .i64 t544, .int .i64 t545, .int .i64 t546, .int .i64 t547, .int .i64 t548, .int .i64 t549] 32 (0, 0))) := ⟨by refine bk_ ?_; refine blk_put (cs := #[.int .i64 t542, .int .i64 t543, .int .i64 t544, .int .i64 t545, .int .i64 t546, .int .i64 t547, .int .i64 t548, .int .i64 0]) ?_ 7 _ rfl; refine bk_ ?_; refine blk_put (cs := #[.int .i64 t542, .int .i64 t543, .int .i64 t544, .int .i64 t545, .int .i64 t546, .int .i64 t547, .int .i64 0, .int .i64 0]) ?_ 6 _ rfl; refine bk_ ?_; refine blk_put (cs := #[.int .i64 t542, .int .i64 t543, .int .i64 t544, .int .i64 t545, .int .i64 t546, .int .i64 0, .int .i64 0, .int .i64 0]) ?_ 5 _ rfl; refine bk_ ?_; refine blk_put (cs := #[.int .i64 t542, .int .i64 t543, .int .i64 t544, .int .i64 t545, .int .i64 0, .int .i64 0, .int .i64 0, .int .i64 0]) ?_ 4 _ rfl; refine bk_ ?_; refine blk_put (cs := #[.int .i64 t542, .int .i64 t543, .int .i64 t544, .int .i64 0, .int .i64 0, .int .i64 0, .int .i64 0, .int .i64 0]) ?_ 3 _ rfl; refine bk_ ?_; refine blk_put (cs := #[.int .i64 t542, .int .i64 t543, .int .i64 0, .int .i64 0, .int .i64 0, .int .i64 0, .int .i64 0, .int .i64 0]) ?_ 2 _ rfl; refine bk_ ?_; refine blk_put (cs := #[.int .i64 t542, .int .i64 0, .int .i64 0, .int .i64 0, .int .i64 0, .int .i64 0, .int .i64 0, .int .i64 0]) ?_ 1 _ rfl; refine bk_ ?_; refine blk_put (cs := #[.int .i64 0, .int .i64 0, .int .i64 0, .int .i64 0, .int .i64 0, .int .i64 0, .int .i64 0, .int .i64 0]) ?_ 0 _ rfl; refine bk_ ?_; exact BK552.out⟩
       have n5_ : Aside0 (Below w.heap.size w ((((((((w21.setCell ⟨gb552, 0, none⟩ (.int .i64 t542)).setCell ⟨gb552, 1, none⟩ (.int .i64 t543)).setCell ⟨gb552, 2, none⟩ (.int .i64 t544)).setCell ⟨gb552, 3, none⟩ (.int .i64 t545)).setCell ⟨gb552, 4, none⟩ (.int .i64 t546)).setCell ⟨gb552, 5, none⟩ (.int .i64 t547)).setCell ⟨gb552, 6, none⟩ (.int .i64 t548)).setCell ⟨gb552, 7, none⟩ (.int .i64 t549))) := ⟨bw_ HB.out⟩
       (try clear HO526)
       (try clear HO530)
       (try clear BK523)
       (try clear BK541)
       (try clear BK552)
       (try clear HB)
       generalize ((((((((w21.setCell ⟨gb552, 0, none⟩ (.int .i64 t542)).setCell ⟨gb552, 1, none⟩ (.int .i64 t543)).setCell ⟨gb552, 2, none⟩ (.int .i64 t544)).setCell ⟨gb552, 3, none⟩ (.int .i64 t545)).setCell ⟨gb552, 4, none⟩ (.int .i64 t546)).setCell ⟨gb552, 5, none⟩ (.int .i64 t547)).setCell ⟨gb552, 6, none⟩ (.int .i64 t548)).setCell ⟨gb552, 7, none⟩ (.int .i64 t549)) = w45 at n0_ n1_ n2_ n3_ n4_ n5_ ⊢
       have HO526 := n0_
       have HO530 := n1_
       have BK523 := n2_
       have BK541 := n3_
       have BK552 := n4_
       have HB := n5_
       clear n0_ n1_ n2_ n3_ n4_ n5_
       have n0_ := Aside0.mk (Kd.R_drew HO526.out)
       have n1_ := Aside0.mk (Kd.R_drew HO530.out)
       have n2_ := Aside0.mk (blk_drew BK523.out)
       have n3_ := Aside0.mk (blk_drew BK541.out)
       have n4_ := Aside0.mk (blk_drew BK552.out)
       have n5_ := Aside0.mk (below_drew1 HB.out)
       clear HO526
       clear HO530
       clear BK523
       clear BK541
       clear BK552
       clear HB
       have HO526 := n0_
       have HO530 := n1_
       have BK523 := n2_
       have BK541 := n3_
       have BK552 := n4_
       have HB := n5_
       clear n0_ n1_ n2_ n3_ n4_ n5_
       refine start_ (n := 29) (S := fun w' => w'.cell? ⟨gb541, 0, none⟩ = some (.int .i64 t531) ∧ w'.cell? ⟨gb541, 1, none⟩ = some (.int .i64 t532) ∧ w'.cell? ⟨gb541, 2, none⟩ = some (.int .i64 t533) ∧ w'.cell? ⟨gb541, 3, none⟩ = some (.int .i64 t534) ∧ w'.cell? ⟨gb541, 4, none⟩ = some (.int .i64 t535) ∧ w'.cell? ⟨gb541, 5, none⟩ = some (.int .i64 t536) ∧ w'.cell? ⟨gb541, 6, none⟩ = some (.int .i64 t537) ∧ w'.cell? ⟨gb541, 7, none⟩ = some (.int .i64 t538)) (ds := []) #[false, false, false, false, false, false, false, false, false, false, false, false, false, false, false, false, false, false, false, false, false, false, false, false, false, false, false, false, false] (by kernel_rfl) rfl rfl ⟨(blk_cell BK541.out 0).trans rfl, (blk_cell BK541.out 1).trans rfl, (blk_cell BK541.out 2).trans rfl, (blk_cell BK541.out 3).trans rfl, (blk_cell BK541.out 4).trans rfl, (blk_cell BK541.out 5).trans rfl, (blk_cell BK541.out 6).trans rfl, (blk_cell BK541.out 7).trans rfl⟩ (fun hHeld => ?_); refine with_tabW laws_FnCodes.tab8 laws_FnCodes.bits8 (fun HT_ HW_ => ?_)
       generalize w45.drew = w46 at HO526 HO530 BK523 BK541 BK552 HB hHeld ⊢
       refine pure_ (i := 0) (N := some 41) (v := ?_) (a' := ?_) #[true, false, false, false, false, false, false, false, false, false, false, false, false, false, false, false, false, false, false, false, false, false, false, false, false, false, false, false, false] rfl rfl (any_of HT_.out (by kernel_rfl)) (fun _ _ _ h => h) (Or.inl ⟨by rfl, ?_⟩) ?_ ?_
       rotate_left
       ·intro w'
        go_simp
        with_reducible rfl
       rotate_left
       ·simp only [Act.put, List.setIfInBounds_toArray, List.set_cons_zero, List.set_cons_succ, i64_w, i32_w]
        rfl
       refine pure_ (i := 1) (N := some 42) (v := ?_) (a' := ?_) #[true, true, false, false, false, false, false, false, false, false, false, false, false, false, false, false, false, false, false, false, false, false, false, false, false, false, false, false, false] rfl rfl (any_of HT_.out (by kernel_rfl)) (fun _ _ _ h => h) (Or.inl ⟨by rfl, ?_⟩) ?_ ?_
       rotate_left
       ·intro w'
        go_simp
        with_reducible rfl
       rotate_left
       ·simp only [Act.put, List.setIfInBounds_toArray, List.set_cons_zero, List.set_cons_succ, i64_w, i32_w]
        rfl
       refine pure_ (i := 2) (N := some 43) (v := ?_) (a' := ?_) #[true, true, true, false, false, false, false, false, false, false, false, false, false, false, false, false, false, false, false, false, false, false, false, false, false, false, false, false, false] rfl rfl (any_of HT_.out (by kernel_rfl)) (fun _ _ _ h => h) (Or.inl ⟨by rfl, ?_⟩) ?_ ?_
       rotate_left
       ·intro w'
        go_simp
        with_reducible rfl
       rotate_left
       ·simp only [Act.put, List.setIfInBounds_toArray, List.set_cons_zero, List.set_cons_succ, i64_w, i32_w]
        rfl
       refine pure_ (i := 3) (N := some 44) (v := ?_) (a' := ?_) #[true, true, true, true, false, false, false, false, false, false, false, false, false, false, false, false, false, false, false, false, false, false, false, false, false, false, false, false, false] rfl rfl (any_of HT_.out (by kernel_rfl)) (fun _ _ _ h => h) (Or.inl ⟨by rfl, ?_⟩) ?_ ?_
       rotate_left
       ·intro w'
        go_simp
        with_reducible rfl
       rotate_left
       ·simp only [Act.put, List.setIfInBounds_toArray, List.set_cons_zero, List.set_cons_succ, i64_w, i32_w]
        rfl
       refine pure_ (i := 4) (N := some 45) (v := ?_) (a' := ?_) #[true, true, true, true, true, false, false, false, false, false, false, false, false, false, false, false, false, false, false, false, false, false, false, false, false, false, false, false, false] rfl rfl (any_of HT_.out (by kernel_rfl)) (fun _ _ _ h => h) (Or.inl ⟨by rfl, ?_⟩) ?_ ?_
       rotate_left
       ·intro w'
        go_simp
        with_reducible rfl
       rotate_left
       ·simp only [Act.put, List.setIfInBounds_toArray, List.set_cons_zero, List.set_cons_succ, i64_w, i32_w]
        rfl
       refine pure_ (i := 5) (N := some 46) (v := ?_) (a' := ?_) #[true, true, true, true, true, true, false, false, false, false, false, false, false, false, false, false, false, false, false, false, false, false, false, false, false, false, false, false, false] rfl rfl (any_of HT_.out (by kernel_rfl)) (fun _ _ _ h => h) (Or.inl ⟨by rfl, ?_⟩) ?_ ?_
       rotate_left
       ·intro w'
        go_simp
        with_reducible rfl
       rotate_left
       ·simp only [Act.put, List.setIfInBounds_toArray, List.set_cons_zero, List.set_cons_succ, i64_w, i32_w]
        rfl
       refine take_ (i := 6) (N := some 47) (v := ?_) (a' := ?_) #[true, true, true, true, true, true, true, false, false, false, false, false, false, false, false, false, false, false, false, false, false, false, false, false, false, false, false, false, false] rfl rfl (take_ofW HT_.out HW_.out (by kernel_rfl)) (fun _ _ _ h => h) (Or.inl ⟨by rfl, ?_⟩) hHeld ?_ ?_
       rotate_left
       ·rintro w' ⟨s0, s1, s2, s3, s4, s5, s6, s7⟩
        go_simp
        with_reducible rfl
       rotate_left
       ·simp only [Act.put, List.setIfInBounds_toArray, List.set_cons_zero, List.set_cons_succ, i64_w, i32_w]
        rfl
       refine one_ (i := 7) (N := some 48) #[true, true, true, true, true, true, true, true, false, false, false, false, false, false, false, false, false, false, false, false, false, false, false, false, false, false, false, false, false] rfl rfl (one_of HT_.out (by kernel_rfl)) (by decide) (fun K hK => ?_)
       refine goes_ Try.func20 (by kernel_rfl) rfl #[.agg #[.int .i64 t531, .int .i64 t532, .int .i64 t533, .int .i64 t534, .int .i64 t535, .int .i64 t536, .int .i64 t537, .int .i64 t538]] (by rfl) rfl rfl (by (try simp only [List.map_toArray, List.map_cons, List.map_nil]); first | done | rfl | (simp only [List.length_drop, List.length_take]; rfl)) ?_
       with_reducible refine (impl_InsOk.calls k t531 t532 t533 t534 t535 t536 t537 t538 true _ A29.out).mono ?_
       rintro e w47 ⟨rfl, hb⟩
       refine ⟨_, rfl, ?_⟩
       have n0_ := Aside0.mk (Kd.R_below (by (with_reducible repeat (first | apply Kd.R_alloc | apply Kd.R_drewN | apply Kd.R_drew)); exact HO526.out) hb)
       have n1_ := Aside0.mk (Kd.R_below (by (with_reducible repeat (first | apply Kd.R_alloc | apply Kd.R_drewN | apply Kd.R_drew)); exact HO530.out) hb)
       have n2_ := Aside0.mk (blk_below (bk_ BK523.out) hb)
       have n3_ := Aside0.mk (blk_below (bk_ BK541.out) hb)
       have n4_ := Aside0.mk (blk_below (bk_ BK552.out) hb)
       have n5_ := Aside0.mk (below_step (bw_ HB.out) hb)
       clear HO526
       clear HO530
       clear BK523
       clear BK541
       clear BK552
       clear HB
       have HO526 := n0_
       have HO530 := n1_
       have BK523 := n2_
       have BK541 := n3_
       have BK552 := n4_
       have HB := n5_
       clear n0_ n1_ n2_ n3_ n4_ n5_
       (try clear hb)
       (try clear hb2)
       (try clear hk)
       (try clear hi)
       refine hK.out _ _ ⟨(blk_cell BK541.out 0).trans rfl, (blk_cell BK541.out 1).trans rfl, (blk_cell BK541.out 2).trans rfl, (blk_cell BK541.out 3).trans rfl, (blk_cell BK541.out 4).trans rfl, (blk_cell BK541.out 5).trans rfl, (blk_cell BK541.out 6).trans rfl, (blk_cell BK541.out 7).trans rfl⟩ (fun hHeld => ?_)
       clear hK K
       refine norm_ (a' := ?_) ?_ ?_
       rotate_left
       ·show Act.put _ (some 48) _ = _
        simp only [Act.put, List.setIfInBounds_toArray, List.set_cons_zero, List.set_cons_succ, i64_w, i32_w]
        rfl
       refine pure_ (i := 8) (N := some 49) (v := ?_) (a' := ?_) #[true, true, true, true, true, true, true, true, true, false, false, false, false, false, false, false, false, false, false, false, false, false, false, false, false, false, false, false, false] rfl rfl (any_of HT_.out (by kernel_rfl)) (fun _ _ _ h => h) (Or.inl ⟨by rfl, ?_⟩) ?_ ?_
       rotate_left
       ·intro w'
        go_simp
        with_reducible rfl
       rotate_left
       ·simp only [Act.put, List.setIfInBounds_toArray, List.set_cons_zero, List.set_cons_succ, i64_w, i32_w]
        rfl
       refine pure_ (i := 9) (N := some 50) (v := ?_) (a' := ?_) #[true, true, true, true, true, true, true, true, true, true, false, false, false, false, false, false, false, false, false, false, false, false, false, false, false, false, false, false, false] rfl rfl (any_of HT_.out (by kernel_rfl)) (fun _ _ _ h => h) (Or.inl ⟨by rfl, ?_⟩) ?_ ?_
       rotate_left
       ·intro w'
        go_simp
        with_reducible rfl
       rotate_left
       ·simp only [Act.put, List.setIfInBounds_toArray, List.set_cons_zero, List.set_cons_succ, i64_w, i32_w]
        rfl
       refine pure_ (i := 12) (N := some 53) (v := ?_) (a' := ?_) #[true, true, true, true, true, true, true, true, true, true, false, false, true, false, false, false, false, false, false, false, false, false, false, false, false, false, false, false, false] rfl rfl (any_of HT_.out (by kernel_rfl)) (fun _ _ _ h => h) (Or.inl ⟨by rfl, ?_⟩) ?_ ?_
       rotate_left
       ·intro w'
        go_simp
        with_reducible rfl
       rotate_left
       ·simp only [Act.put, List.setIfInBounds_toArray, List.set_cons_zero, List.set_cons_succ, i64_w, i32_w]
        rfl
       refine take_ (i := 10) (N := some 51) (v := ?_) (a' := ?_) #[true, true, true, true, true, true, true, true, true, true, true, false, true, false, false, false, false, false, false, false, false, false, false, false, false, false, false, false, false] rfl rfl (take_ofW HT_.out HW_.out (by kernel_rfl)) (fun _ _ _ h => h) (Or.inl ⟨by rfl, ?_⟩) hHeld ?_ ?_
       rotate_left
       ·rintro w' ⟨s0, s1, s2, s3, s4, s5, s6, s7⟩
        go_simp
        with_reducible rfl
       rotate_left
       ·simp only [Act.put, List.setIfInBounds_toArray, List.set_cons_zero, List.set_cons_succ, i64_w, i32_w]
        rfl
       refine one_ (i := 11) (N := some 52) #[true, true, true, true, true, true, true, true, true, true, true, true, true, false, false, false, false, false, false, false, false, false, false, false, false, false, false, false, false] rfl rfl (one_of HT_.out (by kernel_rfl)) (by decide) (fun K hK => ?_)
       refine goes_ Try.func18 (by kernel_rfl) rfl #[.agg #[.int .i64 t531, .int .i64 t532, .int .i64 t533, .int .i64 t534, .int .i64 t535, .int .i64 t536, .int .i64 t537, .int .i64 t538]] (by rfl) rfl rfl (by (try simp only [List.map_toArray, List.map_cons, List.map_nil]); first | done | rfl | (simp only [List.length_drop, List.length_take]; rfl)) ?_
       with_reducible refine (impl_Words.calls k t531 t532 t533 t534 t535 t536 t537 t538 t554 _ A31.out).mono ?_
       rintro e w48 ⟨rfl, hb⟩
       refine ⟨_, rfl, ?_⟩
       have n0_ := Aside0.mk (Kd.R_below (by (with_reducible repeat (first | apply Kd.R_alloc | apply Kd.R_drewN | apply Kd.R_drew)); exact HO526.out) hb)
       have n1_ := Aside0.mk (Kd.R_below (by (with_reducible repeat (first | apply Kd.R_alloc | apply Kd.R_drewN | apply Kd.R_drew)); exact HO530.out) hb)
       have n2_ := Aside0.mk (blk_below (bk_ BK523.out) hb)
       have n3_ := Aside0.mk (blk_below (bk_ BK541.out) hb)
       have n4_ := Aside0.mk (blk_below (bk_ BK552.out) hb)
       have n5_ := Aside0.mk (below_step (bw_ HB.out) hb)
       clear HO526
       clear HO530
       clear BK523
       clear BK541
       clear BK552
       clear HB
       have HO526 := n0_
       have HO530 := n1_
       have BK523 := n2_
       have BK541 := n3_
       have BK552 := n4_
       have HB := n5_
       clear n0_ n1_ n2_ n3_ n4_ n5_
       (try clear hb)
       (try clear hb2)
       (try clear hk)
       (try clear hi)
       refine hK.out _ _ ⟨(blk_cell BK541.out 0).trans rfl, (blk_cell BK541.out 1).trans rfl, (blk_cell BK541.out 2).trans rfl, (blk_cell BK541.out 3).trans rfl, (blk_cell BK541.out 4).trans rfl, (blk_cell BK541.out 5).trans rfl, (blk_cell BK541.out 6).trans rfl, (blk_cell BK541.out 7).trans rfl⟩ (fun hHeld => ?_)
       clear hK K
       refine norm_ (a' := ?_) ?_ ?_
       rotate_left
       ·show Act.put _ (some 52) _ = _
        simp only [Act.put, List.setIfInBounds_toArray, List.set_cons_zero, List.set_cons_succ, i64_w, i32_w]
        rfl
       refine pure_ (i := 13) (N := some 54) (v := ?_) (a' := ?_) #[true, true, true, true, true, true, true, true, true, true, true, true, true, true, false, false, false, false, false, false, false, false, false, false, false, false, false, false, false] rfl rfl (any_of HT_.out (by kernel_rfl)) (fun _ _ _ h => h) (Or.inl ⟨by rfl, ?_⟩) ?_ ?_
       rotate_left
       ·intro w'
        go_simp
        with_reducible rfl
       rotate_left
       ·simp only [Act.put, List.setIfInBounds_toArray, List.set_cons_zero, List.set_cons_succ, i64_w, i32_w]
        rfl
       refine pure_ (i := 14) (N := some 55) (v := ?_) (a' := ?_) #[true, true, true, true, true, true, true, true, true, true, true, true, true, true, true, false, false, false, false, false, false, false, false, false, false, false, false, false, false] rfl rfl (any_of HT_.out (by kernel_rfl)) (fun _ _ _ h => h) (Or.inl ⟨by rfl, ?_⟩) ?_ ?_
       rotate_left
       ·intro w'
        go_simp
        with_reducible rfl
       rotate_left
       ·simp only [Act.put, List.setIfInBounds_toArray, List.set_cons_zero, List.set_cons_succ, i64_w, i32_w]
        rfl
       refine pure_ (i := 15) (N := some 56) (v := ?_) (a' := ?_) #[true, true, true, true, true, true, true, true, true, true, true, true, true, true, true, true, false, false, false, false, false, false, false, false, false, false, false, false, false] rfl rfl (any_of HT_.out (by kernel_rfl)) (fun _ _ _ h => h) (Or.inl ⟨by rfl, ?_⟩) ?_ ?_
       rotate_left
       ·intro w'
        go_simp
        with_reducible rfl
       rotate_left
       ·simp only [Act.put, List.setIfInBounds_toArray, List.set_cons_zero, List.set_cons_succ, i64_w, i32_w]
        rfl
       refine pure_ (i := 16) (N := some 57) (v := undef) (a' := ?_) #[true, true, true, true, true, true, true, true, true, true, true, true, true, true, true, true, true, false, false, false, false, false, false, false, false, false, false, false, false] rfl rfl (any_of HT_.out (by kernel_rfl)) (fun _ _ _ h => h) (Or.inr ⟨by rfl, rfl⟩) ?_ ?_
       rotate_left
       ·simp only [Act.put, List.setIfInBounds_toArray, List.set_cons_zero, List.set_cons_succ, i64_w, i32_w]
        rfl
       refine pure_ (i := 17) (N := some 58) (v := undef) (a' := ?_) #[true, true, true, true, true, true, true, true, true, true, true, true, true, true, true, true, true, true, false, false, false, false, false, false, false, false, false, false, false] rfl rfl (any_of HT_.out (by kernel_rfl)) (fun _ _ _ h => h) (Or.inr ⟨by rfl, rfl⟩) ?_ ?_
       rotate_left
       ·simp only [Act.put, List.setIfInBounds_toArray, List.set_cons_zero, List.set_cons_succ, i64_w, i32_w]
        rfl
       refine pure_ (i := 18) (N := some 59) (v := undef) (a' := ?_) #[true, true, true, true, true, true, true, true, true, true, true, true, true, true, true, true, true, true, true, false, false, false, false, false, false, false, false, false, false] rfl rfl (any_of HT_.out (by kernel_rfl)) (fun _ _ _ h => h) (Or.inr ⟨by rfl, rfl⟩) ?_ ?_
       rotate_left
       ·simp only [Act.put, List.setIfInBounds_toArray, List.set_cons_zero, List.set_cons_succ, i64_w, i32_w]
        rfl
       refine pure_ (i := 19) (N := some 60) (v := undef) (a' := ?_) #[true, true, true, true, true, true, true, true, true, true, true, true, true, true, true, true, true, true, true, true, false, false, false, false, false, false, false, false, false] rfl rfl (any_of HT_.out (by kernel_rfl)) (fun _ _ _ h => h) (Or.inr ⟨by rfl, rfl⟩) ?_ ?_
       rotate_left
       ·simp only [Act.put, List.setIfInBounds_toArray, List.set_cons_zero, List.set_cons_succ, i64_w, i32_w]
        rfl
       refine pure_ (i := 20) (N := some 61) (v := undef) (a' := ?_) #[true, true, true, true, true, true, true, true, true, true, true, true, true, true, true, true, true, true, true, true, true, false, false, false, false, false, false, false, false] rfl rfl (any_of HT_.out (by kernel_rfl)) (fun _ _ _ h => h) (Or.inr ⟨by rfl, rfl⟩) ?_ ?_
       rotate_left
       ·simp only [Act.put, List.setIfInBounds_toArray, List.set_cons_zero, List.set_cons_succ, i64_w, i32_w]
        rfl
       refine pure_ (i := 21) (N := some 62) (v := undef) (a' := ?_) #[true, true, true, true, true, true, true, true, true, true, true, true, true, true, true, true, true, true, true, true, true, true, false, false, false, false, false, false, false] rfl rfl (any_of HT_.out (by kernel_rfl)) (fun _ _ _ h => h) (Or.inr ⟨by rfl, rfl⟩) ?_ ?_
       rotate_left
       ·simp only [Act.put, List.setIfInBounds_toArray, List.set_cons_zero, List.set_cons_succ, i64_w, i32_w]
        rfl
       refine pure_ (i := 22) (N := some 63) (v := undef) (a' := ?_) #[true, true, true, true, true, true, true, true, true, true, true, true, true, true, true, true, true, true, true, true, true, true, true, false, false, false, false, false, false] rfl rfl (any_of HT_.out (by kernel_rfl)) (fun _ _ _ h => h) (Or.inr ⟨by rfl, rfl⟩) ?_ ?_
       rotate_left
       ·simp only [Act.put, List.setIfInBounds_toArray, List.set_cons_zero, List.set_cons_succ, i64_w, i32_w]
        rfl
       refine pure_ (i := 23) (N := some 64) (v := undef) (a' := ?_) #[true, true, true, true, true, true, true, true, true, true, true, true, true, true, true, true, true, true, true, true, true, true, true, true, false, false, false, false, false] rfl rfl (any_of HT_.out (by kernel_rfl)) (fun _ _ _ h => h) (Or.inr ⟨by rfl, rfl⟩) ?_ ?_
       rotate_left
       ·simp only [Act.put, List.setIfInBounds_toArray, List.set_cons_zero, List.set_cons_succ, i64_w, i32_w]
        rfl
       refine pure_ (i := 24) (N := some 65) (v := undef) (a' := ?_) #[true, true, true, true, true, true, true, true, true, true, true, true, true, true, true, true, true, true, true, true, true, true, true, true, true, false, false, false, false] rfl rfl (any_of HT_.out (by kernel_rfl)) (fun _ _ _ h => h) (Or.inr ⟨by rfl, rfl⟩) ?_ ?_
       rotate_left
       ·simp only [Act.put, List.setIfInBounds_toArray, List.set_cons_zero, List.set_cons_succ, i64_w, i32_w]
        rfl
       refine pure_ (i := 25) (N := some 66) (v := undef) (a' := ?_) #[true, true, true, true, true, true, true, true, true, true, true, true, true, true, true, true, true, true, true, true, true, true, true, true, true, true, false, false, false] rfl rfl (any_of HT_.out (by kernel_rfl)) (fun _ _ _ h => h) (Or.inr ⟨by rfl, rfl⟩) ?_ ?_
       rotate_left
       ·simp only [Act.put, List.setIfInBounds_toArray, List.set_cons_zero, List.set_cons_succ, i64_w, i32_w]
        rfl
       refine pure_ (i := 26) (N := some 67) (v := ?_) (a' := ?_) #[true, true, true, true, true, true, true, true, true, true, true, true, true, true, true, true, true, true, true, true, true, true, true, true, true, true, true, false, false] rfl rfl (any_of HT_.out (by kernel_rfl)) (fun _ _ _ h => h) (Or.inl ⟨by rfl, ?_⟩) ?_ ?_
       rotate_left
       ·intro w'
        go_simp
        with_reducible rfl
       rotate_left
       ·simp only [Act.put, List.setIfInBounds_toArray, List.set_cons_zero, List.set_cons_succ, i64_w, i32_w]
        rfl
       refine pure_ (i := 27) (N := some 68) (v := ?_) (a' := ?_) #[true, true, true, true, true, true, true, true, true, true, true, true, true, true, true, true, true, true, true, true, true, true, true, true, true, true, true, true, false] rfl rfl (any_of HT_.out (by kernel_rfl)) (fun _ _ _ h => h) (Or.inl ⟨by rfl, ?_⟩) ?_ ?_
       rotate_left
       ·intro w'
        go_simp
        with_reducible rfl
       rotate_left
       ·simp only [Act.put, List.setIfInBounds_toArray, List.set_cons_zero, List.set_cons_succ, i64_w, i32_w]
        rfl
       refine pure_ (i := 28) (N := some 69) (v := ?_) (a' := ?_) #[true, true, true, true, true, true, true, true, true, true, true, true, true, true, true, true, true, true, true, true, true, true, true, true, true, true, true, true, true] rfl rfl (any_of HT_.out (by kernel_rfl)) (fun _ _ _ h => h) (Or.inl ⟨by rfl, ?_⟩) ?_ ?_
       rotate_left
       ·intro w'
        go_simp
        with_reducible rfl
       rotate_left
       ·simp only [Act.put, List.setIfInBounds_toArray, List.set_cons_zero, List.set_cons_succ, i64_w, i32_w]
        rfl
       refine done_ (done_of HT_.out (by kernel_rfl)) ?_
       try go_wp2
       go_meet
       case rel => exact ⟨_, (true), (by first | rfl | (simp; done) | (simp [*]; done) | (simp [wrap64]; done)), H', ⟨by first | omega | exact Nat.le_refl _⟩, ⟨by (with_reducible repeat (first | apply Kd.R_alloc | apply Kd.R_drewN | apply Kd.R_drew)); exact Kd.R_mono HO526.out (fun _ hk => trivial)⟩, ⟨by refine bk_ ?_; exact BK523.out⟩, ⟨by refine bk_ ?_; exact BK541.out⟩, ⟨by refine bk_ ?_; exact BK552.out⟩, ⟨bw_ HB.out⟩⟩
     ·replace c30 := Bool.eq_false_iff.mpr c30
      subst c30
      rw [if_neg (show ¬ (false = true) by decide)] at H
      have H' := Aside0.mk H
      clear H
      try go_wp2
      have n0_ : Aside0 (Kd.R (Kd.int .i64) 3 ((((((((w21.setCell ⟨gb552, 0, none⟩ (.int .i64 t542)).setCell ⟨gb552, 1, none⟩ (.int .i64 t543)).setCell ⟨gb552, 2, none⟩ (.int .i64 t544)).setCell ⟨gb552, 3, none⟩ (.int .i64 t545)).setCell ⟨gb552, 4, none⟩ (.int .i64 t546)).setCell ⟨gb552, 5, none⟩ (.int .i64 t547)).setCell ⟨gb552, 6, none⟩ (.int .i64 t548)).setCell ⟨gb552, 7, none⟩ (.int .i64 t549)) w.heap.size (fun k_ => some k_ ≠ (.slice Ao15 t527.length co15 : Value).ownBlock) v525 t524) := ⟨by (with_reducible repeat (first | apply Kd.R_alloc | apply Kd.R_drewN | apply Kd.R_drew)); exact Kd.R_mono (Kd.R_far (p := ⟨gb552, 7, none⟩) (Kd.R_far (p := ⟨gb552, 6, none⟩) (Kd.R_far (p := ⟨gb552, 5, none⟩) (Kd.R_far (p := ⟨gb552, 4, none⟩) (Kd.R_far (p := ⟨gb552, 3, none⟩) (Kd.R_far (p := ⟨gb552, 2, none⟩) (Kd.R_far (p := ⟨gb552, 1, none⟩) (Kd.R_far (p := ⟨gb552, 0, none⟩) (Kd.R_types HO526.out BK552.out (by decide)) (fun _ hk => hk.2) (.int .i64 t542)) (fun _ hk => hk.2) (.int .i64 t543)) (fun _ hk => hk.2) (.int .i64 t544)) (fun _ hk => hk.2) (.int .i64 t545)) (fun _ hk => hk.2) (.int .i64 t546)) (fun _ hk => hk.2) (.int .i64 t547)) (fun _ hk => hk.2) (.int .i64 t548)) (fun _ hk => hk.2) (.int .i64 t549)) (fun _ hk => hk.1.2)⟩
      have n1_ : Aside0 (Kd.R (Kd.int .i64) 3 ((((((((w21.setCell ⟨gb552, 0, none⟩ (.int .i64 t542)).setCell ⟨gb552, 1, none⟩ (.int .i64 t543)).setCell ⟨gb552, 2, none⟩ (.int .i64 t544)).setCell ⟨gb552, 3, none⟩ (.int .i64 t545)).setCell ⟨gb552, 4, none⟩ (.int .i64 t546)).setCell ⟨gb552, 5, none⟩ (.int .i64 t547)).setCell ⟨gb552, 6, none⟩ (.int .i64 t548)).setCell ⟨gb552, 7, none⟩ (.int .i64 t549)) w.heap.size (fun k_ => some k_ ≠ (v525 : Value).ownBlock) (.slice Ao15 t527.length co15) t527) := ⟨by (with_reducible repeat (first | apply Kd.R_alloc | apply Kd.R_drewN | apply Kd.R_drew)); exact Kd.R_mono (Kd.R_far (p := ⟨gb552, 7, none⟩) (Kd.R_far (p := ⟨gb552, 6, none⟩) (Kd.R_far (p := ⟨gb552, 5, none⟩) (Kd.R_far (p := ⟨gb552, 4, none⟩) (Kd.R_far (p := ⟨gb552, 3, none⟩) (Kd.R_far (p := ⟨gb552, 2, none⟩) (Kd.R_far (p := ⟨gb552, 1, none⟩) (Kd.R_far (p := ⟨gb552, 0, none⟩) (Kd.R_types HO530.out BK552.out (by decide)) (fun _ hk => hk.2) (.int .i64 t542)) (fun _ hk => hk.2) (.int .i64 t543)) (fun _ hk => hk.2) (.int .i64 t544)) (fun _ hk => hk.2) (.int .i64 t545)) (fun _ hk => hk.2) (.int .i64 t546)) (fun _ hk => hk.2) (.int .i64 t547)) (fun _ hk => hk.2) (.int .i64 t548)) (fun _ hk => hk.2) (.int .i64 t549)) (fun _ hk => hk.1.2)⟩
      have n2_ : Aside0 (((((((((w21.setCell ⟨gb552, 0, none⟩ (.int .i64 t542)).setCell ⟨gb552, 1, none⟩ (.int .i64 t543)).setCell ⟨gb552, 2, none⟩ (.int .i64 t544)).setCell ⟨gb552, 3, none⟩ (.int .i64 t545)).setCell ⟨gb552, 4, none⟩ (.int .i64 t546)).setCell ⟨gb552, 5, none⟩ (.int .i64 t547)).setCell ⟨gb552, 6, none⟩ (.int .i64 t548)).setCell ⟨gb552, 7, none⟩ (.int .i64 t549)).heap[gb523]? = some (.cells #[.int .i64 t515, .int .i64 t516, .int .i64 t517, .int .i64 t518, .int .i64 t519, .int .i64 t520, .int .i64 t521, .int .i64 t522] 32 (0, 0))) := ⟨by refine bk_ ?_; refine blk_far ?_ NB523_552.out _; refine bk_ ?_; refine blk_far ?_ NB523_552.out _; refine bk_ ?_; refine blk_far ?_ NB523_552.out _; refine bk_ ?_; refine blk_far ?_ NB523_552.out _; refine bk_ ?_; refine blk_far ?_ NB523_552.out _; refine bk_ ?_; refine blk_far ?_ NB523_552.out _; refine bk_ ?_; refine blk_far ?_ NB523_552.out _; refine bk_ ?_; refine blk_far ?_ NB523_552.out _; refine bk_ ?_; exact BK523.out⟩
      have n3_ : Aside0 (((((((((w21.setCell ⟨gb552, 0, none⟩ (.int .i64 t542)).setCell ⟨gb552, 1, none⟩ (.int .i64 t543)).setCell ⟨gb552, 2, none⟩ (.int .i64 t544)).setCell ⟨gb552, 3, none⟩ (.int .i64 t545)).setCell ⟨gb552, 4, none⟩ (.int .i64 t546)).setCell ⟨gb552, 5, none⟩ (.int .i64 t547)).setCell ⟨gb552, 6, none⟩ (.int .i64 t548)).setCell ⟨gb552, 7, none⟩ (.int .i64 t549)).heap[gb541]? = some (.cells #[.int .i64 t531, .int .i64 t532, .int .i64 t533, .int .i64 t534, .int .i64 t535, .int .i64 t536, .int .i64 t537, .int .i64 t538] 32 (0, 0))) := ⟨by refine bk_ ?_; refine blk_far ?_ NB541_552.out _; refine bk_ ?_; refine blk_far ?_ NB541_552.out _; refine bk_ ?_; refine blk_far ?_ NB541_552.out _; refine bk_ ?_; refine blk_far ?_ NB541_552.out _; refine bk_ ?_; refine blk_far ?_ NB541_552.out _; refine bk_ ?_; refine blk_far ?_ NB541_552.out _; refine bk_ ?_; refine blk_far ?_ NB541_552.out _; refine bk_ ?_; refine blk_far ?_ NB541_552.out _; refine bk_ ?_; exact BK541.out⟩
      have n4_ : Aside0 (((((((((w21.setCell ⟨gb552, 0, none⟩ (.int .i64 t542)).setCell ⟨gb552, 1, none⟩ (.int .i64 t543)).setCell ⟨gb552, 2, none⟩ (.int .i64 t544)).setCell ⟨gb552, 3, none⟩ (.int .i64 t545)).setCell ⟨gb552, 4, none⟩ (.int .i64 t546)).setCell ⟨gb552, 5, none⟩ (.int .i64 t547)).setCell ⟨gb552, 6, none⟩ (.int .i64 t548)).setCell ⟨gb552, 7, none⟩ (.int .i64 t549)).heap[gb552]? = some (.cells #[.int .i64 t542, .int .i64 t543, .int .i64 t544, .int .i64 t545, .int .i64 t546, .int .i64 t547, .int .i64 t548, .int .i64 t549] 32 (0, 0))) := ⟨by refine bk_ ?_; refine blk_put (cs := #[.int .i64 t542, .int .i64 t543, .int .i64 t544, .int .i64 t545, .int .i64 t546, .int .i64 t547, .int .i64 t548, .int .i64 0]) ?_ 7 _ rfl; refine bk_ ?_; refine blk_put (cs := #[.int .i64 t542, .int .i64 t543, .int .i64 t544, .int .i64 t545, .int .i64 t546, .int .i64 t547, .int .i64 0, .int .i64 0]) ?_ 6 _ rfl; refine bk_ ?_; refine blk_put (cs := #[.int .i64 t542, .int .i64 t543, .int .i64 t544, .int .i64 t545, .int .i64 t546, .int .i64 0, .int .i64 0, .int .i64 0]) ?_ 5 _ rfl; refine bk_ ?_; refine blk_put (cs := #[.int .i64 t542, .int .i64 t543, .int .i64 t544, .int .i64 t545, .int .i64 0, .int .i64 0, .int .i64 0, .int .i64 0]) ?_ 4 _ rfl; refine bk_ ?_; refine blk_put (cs := #[.int .i64 t542, .int .i64 t543, .int .i64 t544, .int .i64 0, .int .i64 0, .int .i64 0, .int .i64 0, .int .i64 0]) ?_ 3 _ rfl; refine bk_ ?_; refine blk_put (cs := #[.int .i64 t542, .int .i64 t543, .int .i64 0, .int .i64 0, .int .i64 0, .int .i64 0, .int .i64 0, .int .i64 0]) ?_ 2 _ rfl; refine bk_ ?_; refine blk_put (cs := #[.int .i64 t542, .int .i64 0, .int .i64 0, .int .i64 0, .int .i64 0, .int .i64 0, .int .i64 0, .int .i64 0]) ?_ 1 _ rfl; refine bk_ ?_; refine blk_put (cs := #[.int .i64 0, .int .i64 0, .int .i64 0, .int .i64 0, .int .i64 0, .int .i64 0, .int .i64 0, .int .i64 0]) ?_ 0 _ rfl; refine bk_ ?_; exact BK552.out⟩
      have n5_ : Aside0 (Below w.heap.size w ((((((((w21.setCell ⟨gb552, 0, none⟩ (.int .i64 t542)).setCell ⟨gb552, 1, none⟩ (.int .i64 t543)).setCell ⟨gb552, 2, none⟩ (.int .i64 t544)).setCell ⟨gb552, 3, none⟩ (.int .i64 t545)).setCell ⟨gb552, 4, none⟩ (.int .i64 t546)).setCell ⟨gb552, 5, none⟩ (.int .i64 t547)).setCell ⟨gb552, 6, none⟩ (.int .i64 t548)).setCell ⟨gb552, 7, none⟩ (.int .i64 t549))) := ⟨bw_ HB.out⟩
      (try clear HO526)
      (try clear HO530)
      (try clear BK523)
      (try clear BK541)
      (try clear BK552)
      (try clear HB)
      generalize ((((((((w21.setCell ⟨gb552, 0, none⟩ (.int .i64 t542)).setCell ⟨gb552, 1, none⟩ (.int .i64 t543)).setCell ⟨gb552, 2, none⟩ (.int .i64 t544)).setCell ⟨gb552, 3, none⟩ (.int .i64 t545)).setCell ⟨gb552, 4, none⟩ (.int .i64 t546)).setCell ⟨gb552, 5, none⟩ (.int .i64 t547)).setCell ⟨gb552, 6, none⟩ (.int .i64 t548)).setCell ⟨gb552, 7, none⟩ (.int .i64 t549)) = w49 at n0_ n1_ n2_ n3_ n4_ n5_ ⊢
      have HO526 := n0_
      have HO530 := n1_
      have BK523 := n2_
      have BK541 := n3_
      have BK552 := n4_
      have HB := n5_
      clear n0_ n1_ n2_ n3_ n4_ n5_
      have n0_ := Aside0.mk (Kd.R_drew HO526.out)
      have n1_ := Aside0.mk (Kd.R_drew HO530.out)
      have n2_ := Aside0.mk (blk_drew BK523.out)
      have n3_ := Aside0.mk (blk_drew BK541.out)
      have n4_ := Aside0.mk (blk_drew BK552.out)
      have n5_ := Aside0.mk (below_drew1 HB.out)
      clear HO526
      clear HO530
      clear BK523
      clear BK541
      clear BK552
      clear HB
      have HO526 := n0_
      have HO530 := n1_
      have BK523 := n2_
      have BK541 := n3_
      have BK552 := n4_
      have HB := n5_
      clear n0_ n1_ n2_ n3_ n4_ n5_
      refine start_ (n := 29) (S := fun w' => w'.cell? ⟨gb541, 0, none⟩ = some (.int .i64 t531) ∧ w'.cell? ⟨gb541, 1, none⟩ = some (.int .i64 t532) ∧ w'.cell? ⟨gb541, 2, none⟩ = some (.int .i64 t533) ∧ w'.cell? ⟨gb541, 3, none⟩ = some (.int .i64 t534) ∧ w'.cell? ⟨gb541, 4, none⟩ = some (.int .i64 t535) ∧ w'.cell? ⟨gb541, 5, none⟩ = some (.int .i64 t536) ∧ w'.cell? ⟨gb541, 6, none⟩ = some (.int .i64 t537) ∧ w'.cell? ⟨gb541, 7, none⟩ = some (.int .i64 t538)) (ds := []) #[false, false, false, false, false, false, false, false, false, false, false, false, false, false, false, false, false, false, false, false, false, false, false, false, false, false, false, false, false] (by kernel_rfl) rfl rfl ⟨(blk_cell BK541.out 0).trans rfl, (blk_cell BK541.out 1).trans rfl, (blk_cell BK541.out 2).trans rfl, (blk_cell BK541.out 3).trans rfl, (blk_cell BK541.out 4).trans rfl, (blk_cell BK541.out 5).trans rfl, (blk_cell BK541.out 6).trans rfl, (blk_cell BK541.out 7).trans rfl⟩ (fun hHeld => ?_); refine with_tabW laws_FnCodes.tab8 laws_FnCodes.bits8 (fun HT_ HW_ => ?_)
      generalize w49.drew = w50 at HO526 HO530 BK523 BK541 BK552 HB hHeld ⊢
      refine pure_ (i := 0) (N := some 41) (v := ?_) (a' := ?_) #[true, false, false, false, false, false, false, false, false, false, false, false, false, false, false, false, false, false, false, false, false, false, false, false, false, false, false, false, false] rfl rfl (any_of HT_.out (by kernel_rfl)) (fun _ _ _ h => h) (Or.inl ⟨by rfl, ?_⟩) ?_ ?_
      rotate_left
      ·intro w'
       go_simp
       with_reducible rfl
      rotate_left
      ·simp only [Act.put, List.setIfInBounds_toArray, List.set_cons_zero, List.set_cons_succ, i64_w, i32_w]
       rfl
      refine pure_ (i := 1) (N := some 42) (v := ?_) (a' := ?_) #[true, true, false, false, false, false, false, false, false, false, false, false, false, false, false, false, false, false, false, false, false, false, false, false, false, false, false, false, false] rfl rfl (any_of HT_.out (by kernel_rfl)) (fun _ _ _ h => h) (Or.inl ⟨by rfl, ?_⟩) ?_ ?_
      rotate_left
      ·intro w'
       go_simp
       with_reducible rfl
      rotate_left
      ·simp only [Act.put, List.setIfInBounds_toArray, List.set_cons_zero, List.set_cons_succ, i64_w, i32_w]
       rfl
      refine pure_ (i := 2) (N := some 43) (v := ?_) (a' := ?_) #[true, true, true, false, false, false, false, false, false, false, false, false, false, false, false, false, false, false, false, false, false, false, false, false, false, false, false, false, false] rfl rfl (any_of HT_.out (by kernel_rfl)) (fun _ _ _ h => h) (Or.inl ⟨by rfl, ?_⟩) ?_ ?_
      rotate_left
      ·intro w'
       go_simp
       with_reducible rfl
      rotate_left
      ·simp only [Act.put, List.setIfInBounds_toArray, List.set_cons_zero, List.set_cons_succ, i64_w, i32_w]
       rfl
      refine pure_ (i := 3) (N := some 44) (v := ?_) (a' := ?_) #[true, true, true, true, false, false, false, false, false, false, false, false, false, false, false, false, false, false, false, false, false, false, false, false, false, false, false, false, false] rfl rfl (any_of HT_.out (by kernel_rfl)) (fun _ _ _ h => h) (Or.inl ⟨by rfl, ?_⟩) ?_ ?_
      rotate_left
      ·intro w'
       go_simp
       with_reducible rfl
      rotate_left
      ·simp only [Act.put, List.setIfInBounds_toArray, List.set_cons_zero, List.set_cons_succ, i64_w, i32_w]
       rfl
      refine pure_ (i := 4) (N := some 45) (v := ?_) (a' := ?_) #[true, true, true, true, true, false, false, false, false, false, false, false, false, false, false, false, false, false, false, false, false, false, false, false, false, false, false, false, false] rfl rfl (any_of HT_.out (by kernel_rfl)) (fun _ _ _ h => h) (Or.inl ⟨by rfl, ?_⟩) ?_ ?_
      rotate_left
      ·intro w'
       go_simp
       with_reducible rfl
      rotate_left
      ·simp only [Act.put, List.setIfInBounds_toArray, List.set_cons_zero, List.set_cons_succ, i64_w, i32_w]
       rfl
      refine pure_ (i := 5) (N := some 46) (v := ?_) (a' := ?_) #[true, true, true, true, true, true, false, false, false, false, false, false, false, false, false, false, false, false, false, false, false, false, false, false, false, false, false, false, false] rfl rfl (any_of HT_.out (by kernel_rfl)) (fun _ _ _ h => h) (Or.inl ⟨by rfl, ?_⟩) ?_ ?_
      rotate_left
      ·intro w'
       go_simp
       with_reducible rfl
      rotate_left
      ·simp only [Act.put, List.setIfInBounds_toArray, List.set_cons_zero, List.set_cons_succ, i64_w, i32_w]
       rfl
      refine take_ (i := 6) (N := some 47) (v := ?_) (a' := ?_) #[true, true, true, true, true, true, true, false, false, false, false, false, false, false, false, false, false, false, false, false, false, false, false, false, false, false, false, false, false] rfl rfl (take_ofW HT_.out HW_.out (by kernel_rfl)) (fun _ _ _ h => h) (Or.inl ⟨by rfl, ?_⟩) hHeld ?_ ?_
      rotate_left
      ·rintro w' ⟨s0, s1, s2, s3, s4, s5, s6, s7⟩
       go_simp
       with_reducible rfl
      rotate_left
      ·simp only [Act.put, List.setIfInBounds_toArray, List.set_cons_zero, List.set_cons_succ, i64_w, i32_w]
       rfl
      refine one_ (i := 7) (N := some 48) #[true, true, true, true, true, true, true, true, false, false, false, false, false, false, false, false, false, false, false, false, false, false, false, false, false, false, false, false, false] rfl rfl (one_of HT_.out (by kernel_rfl)) (by decide) (fun K hK => ?_)
      refine goes_ Try.func20 (by kernel_rfl) rfl #[.agg #[.int .i64 t531, .int .i64 t532, .int .i64 t533, .int .i64 t534, .int .i64 t535, .int .i64 t536, .int .i64 t537, .int .i64 t538]] (by rfl) rfl rfl (by (try simp only [List.map_toArray, List.map_cons, List.map_nil]); first | done | rfl | (simp only [List.length_drop, List.length_take]; rfl)) ?_
      with_reducible refine (impl_InsOk.calls k t531 t532 t533 t534 t535 t536 t537 t538 false _ A29.out).mono ?_
      rintro e w51 ⟨rfl, hb⟩
      refine ⟨_, rfl, ?_⟩
      have n0_ := Aside0.mk (Kd.R_below (by (with_reducible repeat (first | apply Kd.R_alloc | apply Kd.R_drewN | apply Kd.R_drew)); exact HO526.out) hb)
      have n1_ := Aside0.mk (Kd.R_below (by (with_reducible repeat (first | apply Kd.R_alloc | apply Kd.R_drewN | apply Kd.R_drew)); exact HO530.out) hb)
      have n2_ := Aside0.mk (blk_below (bk_ BK523.out) hb)
      have n3_ := Aside0.mk (blk_below (bk_ BK541.out) hb)
      have n4_ := Aside0.mk (blk_below (bk_ BK552.out) hb)
      have n5_ := Aside0.mk (below_step (bw_ HB.out) hb)
      clear HO526
      clear HO530
      clear BK523
      clear BK541
      clear BK552
      clear HB
      have HO526 := n0_
      have HO530 := n1_
      have BK523 := n2_
      have BK541 := n3_
      have BK552 := n4_
      have HB := n5_
      clear n0_ n1_ n2_ n3_ n4_ n5_
      (try clear hb)
      (try clear hb2)
      (try clear hk)
      (try clear hi)
      refine hK.out _ _ ⟨(blk_cell BK541.out 0).trans rfl, (blk_cell BK541.out 1).trans rfl, (blk_cell BK541.out 2).trans rfl, (blk_cell BK541.out 3).trans rfl, (blk_cell BK541.out 4).trans rfl, (blk_cell BK541.out 5).trans rfl, (blk_cell BK541.out 6).trans rfl, (blk_cell BK541.out 7).trans rfl⟩ (fun hHeld => ?_)
      clear hK K
      refine norm_ (a' := ?_) ?_ ?_
      rotate_left
      ·show Act.put _ (some 48) _ = _
       simp only [Act.put, List.setIfInBounds_toArray, List.set_cons_zero, List.set_cons_succ, i64_w, i32_w]
       rfl
      refine pure_ (i := 8) (N := some 49) (v := ?_) (a' := ?_) #[true, true, true, true, true, true, true, true, true, false, false, false, false, false, false, false, false, false, false, false, false, false, false, false, false, false, false, false, false] rfl rfl (any_of HT_.out (by kernel_rfl)) (fun _ _ _ h => h) (Or.inl ⟨by rfl, ?_⟩) ?_ ?_
      rotate_left
      ·intro w'
       go_simp
       with_reducible rfl
      rotate_left
      ·simp only [Act.put, List.setIfInBounds_toArray, List.set_cons_zero, List.set_cons_succ, i64_w, i32_w]
       rfl
      refine pure_ (i := 9) (N := some 50) (v := ?_) (a' := ?_) #[true, true, true, true, true, true, true, true, true, true, false, false, false, false, false, false, false, false, false, false, false, false, false, false, false, false, false, false, false] rfl rfl (any_of HT_.out (by kernel_rfl)) (fun _ _ _ h => h) (Or.inl ⟨by rfl, ?_⟩) ?_ ?_
      rotate_left
      ·intro w'
       go_simp
       with_reducible rfl
      rotate_left
      ·simp only [Act.put, List.setIfInBounds_toArray, List.set_cons_zero, List.set_cons_succ, i64_w, i32_w]
       rfl
      refine pure_ (i := 10) (N := some 51) (v := undef) (a' := ?_) #[true, true, true, true, true, true, true, true, true, true, true, false, false, false, false, false, false, false, false, false, false, false, false, false, false, false, false, false, false] rfl rfl (any_of HT_.out (by kernel_rfl)) (fun _ _ _ h => h) (Or.inr ⟨by rfl, rfl⟩) ?_ ?_
      rotate_left
      ·simp only [Act.put, List.setIfInBounds_toArray, List.set_cons_zero, List.set_cons_succ, i64_w, i32_w]
       rfl
      refine pure_ (i := 11) (N := some 52) (v := undef) (a' := ?_) #[true, true, true, true, true, true, true, true, true, true, true, true, false, false, false, false, false, false, false, false, false, false, false, false, false, false, false, false, false] rfl rfl (any_of HT_.out (by kernel_rfl)) (fun _ _ _ h => h) (Or.inr ⟨by rfl, rfl⟩) ?_ ?_
      rotate_left
      ·simp only [Act.put, List.setIfInBounds_toArray, List.set_cons_zero, List.set_cons_succ, i64_w, i32_w]
       rfl
      refine pure_ (i := 12) (N := some 53) (v := undef) (a' := ?_) #[true, true, true, true, true, true, true, true, true, true, true, true, true, false, false, false, false, false, false, false, false, false, false, false, false, false, false, false, false] rfl rfl (any_of HT_.out (by kernel_rfl)) (fun _ _ _ h => h) (Or.inr ⟨by rfl, rfl⟩) ?_ ?_
      rotate_left
      ·simp only [Act.put, List.setIfInBounds_toArray, List.set_cons_zero, List.set_cons_succ, i64_w, i32_w]
       rfl
      refine pure_ (i := 13) (N := some 54) (v := undef) (a' := ?_) #[true, true, true, true, true, true, true, true, true, true, true, true, true, true, false, false, false, false, false, false, false, false, false, false, false, false, false, false, false] rfl rfl (any_of HT_.out (by kernel_rfl)) (fun _ _ _ h => h) (Or.inr ⟨by rfl, rfl⟩) ?_ ?_
      rotate_left
      ·simp only [Act.put, List.setIfInBounds_toArray, List.set_cons_zero, List.set_cons_succ, i64_w, i32_w]
       rfl
      refine pure_ (i := 14) (N := some 55) (v := ?_) (a' := ?_) #[true, true, true, true, true, true, true, true, true, true, true, true, true, true, true, false, false, false, false, false, false, false, false, false, false, false, false, false, false] rfl rfl (any_of HT_.out (by kernel_rfl)) (fun _ _ _ h => h) (Or.inl ⟨by rfl, ?_⟩) ?_ ?_
      rotate_left
      ·intro w'
       go_simp
       with_reducible rfl
      rotate_left
      ·simp only [Act.put, List.setIfInBounds_toArray, List.set_cons_zero, List.set_cons_succ, i64_w, i32_w]
       rfl
      refine pure_ (i := 15) (N := some 56) (v := ?_) (a' := ?_) #[true, true, true, true, true, true, true, true, true, true, true, true, true, true, true, true, false, false, false, false, false, false, false, false, false, false, false, false, false] rfl rfl (any_of HT_.out (by kernel_rfl)) (fun _ _ _ h => h) (Or.inl ⟨by rfl, ?_⟩) ?_ ?_
      rotate_left
      ·intro w'
       go_simp
       with_reducible rfl
      rotate_left
      ·simp only [Act.put, List.setIfInBounds_toArray, List.set_cons_zero, List.set_cons_succ, i64_w, i32_w]
       rfl
      refine pure_ (i := 16) (N := some 57) (v := undef) (a' := ?_) #[true, true, true, true, true, true, true, true, true, true, true, true, true, true, true, true, true, false, false, false, false, false, false, false, false, false, false, false, false] rfl rfl (any_of HT_.out (by kernel_rfl)) (fun _ _ _ h => h) (Or.inr ⟨by rfl, rfl⟩) ?_ ?_
      rotate_left
      ·simp only [Act.put, List.setIfInBounds_toArray, List.set_cons_zero, List.set_cons_succ, i64_w, i32_w]
       rfl
      refine pure_ (i := 17) (N := some 58) (v := undef) (a' := ?_) #[true, true, true, true, true, true, true, true, true, true, true, true, true, true, true, true, true, true, false, false, false, false, false, false, false, false, false, false, false] rfl rfl (any_of HT_.out (by kernel_rfl)) (fun _ _ _ h => h) (Or.inr ⟨by rfl, rfl⟩) ?_ ?_
      rotate_left
      ·simp only [Act.put, List.setIfInBounds_toArray, List.set_cons_zero, List.set_cons_succ, i64_w, i32_w]
       rfl
      refine pure_ (i := 18) (N := some 59) (v := undef) (a' := ?_) #[true, true, true, true, true, true, true, true, true, true, true, true, true, true, true, true, true, true, true, false, false, false, false, false, false, false, false, false, false] rfl rfl (any_of HT_.out (by kernel_rfl)) (fun _ _ _ h => h) (Or.inr ⟨by rfl, rfl⟩) ?_ ?_
      rotate_left
      ·simp only [Act.put, List.setIfInBounds_toArray, List.set_cons_zero, List.set_cons_succ, i64_w, i32_w]
       rfl
      refine pure_ (i := 19) (N := some 60) (v := undef) (a' := ?_) #[true, true, true, true, true, true, true, true, true, true, true, true, true, true, true, true, true, true, true, true, false, false, false, false, false, false, false, false, false] rfl rfl (any_of HT_.out (by kernel_rfl)) (fun _ _ _ h => h) (Or.inr ⟨by rfl, rfl⟩) ?_ ?_
      rotate_left
      ·simp only [Act.put, List.setIfInBounds_toArray, List.set_cons_zero, List.set_cons_succ, i64_w, i32_w]
       rfl
      refine pure_ (i := 20) (N := some 61) (v := undef) (a' := ?_) #[true, true, true, true, true, true, true, true, true, true, true, true, true, true, true, true, true, true, true, true, true, false, false, false, false, false, false, false, false] rfl rfl (any_of HT_.out (by kernel_rfl)) (fun _ _ _ h => h) (Or.inr ⟨by rfl, rfl⟩) ?_ ?_
      rotate_left
      ·simp only [Act.put, List.setIfInBounds_toArray, List.set_cons_zero, List.set_cons_succ, i64_w, i32_w]
       rfl
      refine pure_ (i := 21) (N := some 62) (v := undef) (a' := ?_) #[true, true, true, true, true, true, true, true, true, true, true, true, true, true, true, true, true, true, true, true, true, true, false, false, false, false, false, false, false] rfl rfl (any_of HT_.out (by kernel_rfl)) (fun _ _ _ h => h) (Or.inr ⟨by rfl, rfl⟩) ?_ ?_
      rotate_left
      ·simp only [Act.put, List.setIfInBounds_toArray, List.set_cons_zero, List.set_cons_succ, i64_w, i32_w]
       rfl
      refine pure_ (i := 22) (N := some 63) (v := undef) (a' := ?_) #[true, true, true, true, true, true, true, true, true, true, true, true, true, true, true, true, true, true, true, true, true, true, true, false, false, false, false, false, false] rfl rfl (any_of HT_.out (by kernel_rfl)) (fun _ _ _ h => h) (Or.inr ⟨by rfl, rfl⟩) ?_ ?_
      rotate_left
      ·simp only [Act.put, List.setIfInBounds_toArray, List.set_cons_zero, List.set_cons_succ, i64_w, i32_w]
       rfl
      refine pure_ (i := 23) (N := some 64) (v := undef) (a' := ?_) #[true, true, true, true, true, true, true, true, true, true, true, true, true, true, true, true, true, true, true, true, true, true, true, true, false, false, false, false, false] rfl rfl (any_of HT_.out (by kernel_rfl)) (fun _ _ _ h => h) (Or.inr ⟨by rfl, rfl⟩) ?_ ?_
      rotate_left
      ·simp only [Act.put, List.setIfInBounds_toArray, List.set_cons_zero, List.set_cons_succ, i64_w, i32_w]
       rfl
      refine pure_ (i := 24) (N := some 65) (v := undef) (a' := ?_) #[true, true, true, true, true, true, true, true, true, true, true, true, true, true, true, true, true, true, true, true, true, true, true, true, true, false, false, false, false] rfl rfl (any_of HT_.out (by kernel_rfl)) (fun _ _ _ h => h) (Or.inr ⟨by rfl, rfl⟩) ?_ ?_
      rotate_left
      ·simp only [Act.put, List.setIfInBounds_toArray, List.set_cons_zero, List.set_cons_succ, i64_w, i32_w]
       rfl
      refine pure_ (i := 25) (N := some 66) (v := undef) (a' := ?_) #[true, true, true, true, true, true, true, true, true, true, true, true, true, true, true, true, true, true, true, true, true, true, true, true, true, true, false, false, false] rfl rfl (any_of HT_.out (by kernel_rfl)) (fun _ _ _ h => h) (Or.inr ⟨by rfl, rfl⟩) ?_ ?_
      rotate_left
      ·simp only [Act.put, List.setIfInBounds_toArray, List.set_cons_zero, List.set_cons_succ, i64_w, i32_w]
       rfl
      refine pure_ (i := 26) (N := some 67) (v := ?_) (a' := ?_) #[true, true, true, true, true, true, true, true, true, true, true, true, true, true, true, true, true, true, true, true, true, true, true, true, true, true, true, false, false] rfl rfl (any_of HT_.out (by kernel_rfl)) (fun _ _ _ h => h) (Or.inl ⟨by rfl, ?_⟩) ?_ ?_
      rotate_left
      ·intro w'
       go_simp
       with_reducible rfl
      rotate_left
      ·simp only [Act.put, List.setIfInBounds_toArray, List.set_cons_zero, List.set_cons_succ, i64_w, i32_w]
       rfl
      refine pure_ (i := 27) (N := some 68) (v := ?_) (a' := ?_) #[true, true, true, true, true, true, true, true, true, true, true, true, true, true, true, true, true, true, true, true, true, true, true, true, true, true, true, true, false] rfl rfl (any_of HT_.out (by kernel_rfl)) (fun _ _ _ h => h) (Or.inl ⟨by rfl, ?_⟩) ?_ ?_
      rotate_left
      ·intro w'
       go_simp
       with_reducible rfl
      rotate_left
      ·simp only [Act.put, List.setIfInBounds_toArray, List.set_cons_zero, List.set_cons_succ, i64_w, i32_w]
       rfl
      refine pure_ (i := 28) (N := some 69) (v := ?_) (a' := ?_) #[true, true, true, true, true, true, true, true, true, true, true, true, true, true, true, true, true, true, true, true, true, true, true, true, true, true, true, true, true] rfl rfl (any_of HT_.out (by kernel_rfl)) (fun _ _ _ h => h) (Or.inl ⟨by rfl, ?_⟩) ?_ ?_
      rotate_left
      ·intro w'
       go_simp
       with_reducible rfl
      rotate_left
      ·simp only [Act.put, List.setIfInBounds_toArray, List.set_cons_zero, List.set_cons_succ, i64_w, i32_w]
       rfl
      refine done_ (done_of HT_.out (by kernel_rfl)) ?_
      try go_wp2
      go_meet
      case rel => exact ⟨_, (true), (by first | rfl | (simp; done) | (simp [*]; done) | (simp [wrap64]; done)), H', ⟨by first | omega | exact Nat.le_refl _⟩, ⟨by (with_reducible repeat (first | apply Kd.R_alloc | apply Kd.R_drewN | apply Kd.R_drew)); exact Kd.R_mono HO526.out (fun _ hk => trivial)⟩, ⟨by refine bk_ ?_; exact BK523.out⟩, ⟨by refine bk_ ?_; exact BK541.out⟩, ⟨by refine bk_ ?_; exact BK552.out⟩, ⟨bw_ HB.out⟩⟩
    ·replace c28 := Bool.eq_false_iff.mpr c28
     subst c28
     rw [if_neg (show ¬ (false = true) by decide)] at H
     have H' := Aside0.mk H
     clear H
     try go_wp2
     have n0_ : Aside0 (Kd.R (Kd.int .i64) 3 ((((((((w21.setCell ⟨gb552, 0, none⟩ (.int .i64 t542)).setCell ⟨gb552, 1, none⟩ (.int .i64 t543)).setCell ⟨gb552, 2, none⟩ (.int .i64 t544)).setCell ⟨gb552, 3, none⟩ (.int .i64 t545)).setCell ⟨gb552, 4, none⟩ (.int .i64 t546)).setCell ⟨gb552, 5, none⟩ (.int .i64 t547)).setCell ⟨gb552, 6, none⟩ (.int .i64 t548)).setCell ⟨gb552, 7, none⟩ (.int .i64 t549)) w.heap.size (fun k_ => some k_ ≠ (.slice Ao15 t527.length co15 : Value).ownBlock) v525 t524) := ⟨by (with_reducible repeat (first | apply Kd.R_alloc | apply Kd.R_drewN | apply Kd.R_drew)); exact Kd.R_mono (Kd.R_far (p := ⟨gb552, 7, none⟩) (Kd.R_far (p := ⟨gb552, 6, none⟩) (Kd.R_far (p := ⟨gb552, 5, none⟩) (Kd.R_far (p := ⟨gb552, 4, none⟩) (Kd.R_far (p := ⟨gb552, 3, none⟩) (Kd.R_far (p := ⟨gb552, 2, none⟩) (Kd.R_far (p := ⟨gb552, 1, none⟩) (Kd.R_far (p := ⟨gb552, 0, none⟩) (Kd.R_types HO526.out BK552.out (by decide)) (fun _ hk => hk.2) (.int .i64 t542)) (fun _ hk => hk.2) (.int .i64 t543)) (fun _ hk => hk.2) (.int .i64 t544)) (fun _ hk => hk.2) (.int .i64 t545)) (fun _ hk => hk.2) (.int .i64 t546)) (fun _ hk => hk.2) (.int .i64 t547)) (fun _ hk => hk.2) (.int .i64 t548)) (fun _ hk => hk.2) (.int .i64 t549)) (fun _ hk => hk.1.2)⟩
     have n1_ : Aside0 (Kd.R (Kd.int .i64) 3 ((((((((w21.setCell ⟨gb552, 0, none⟩ (.int .i64 t542)).setCell ⟨gb552, 1, none⟩ (.int .i64 t543)).setCell ⟨gb552, 2, none⟩ (.int .i64 t544)).setCell ⟨gb552, 3, none⟩ (.int .i64 t545)).setCell ⟨gb552, 4, none⟩ (.int .i64 t546)).setCell ⟨gb552, 5, none⟩ (.int .i64 t547)).setCell ⟨gb552, 6, none⟩ (.int .i64 t548)).setCell ⟨gb552, 7, none⟩ (.int .i64 t549)) w.heap.size (fun k_ => some k_ ≠ (v525 : Value).ownBlock) (.slice Ao15 t527.length co15) t527) := ⟨by (with_reducible repeat (first | apply Kd.R_alloc | apply Kd.R_drewN | apply Kd.R_drew)); exact Kd.R_mono (Kd.R_far (p := ⟨gb552, 7, none⟩) (Kd.R_far (p := ⟨gb552, 6, none⟩) (Kd.R_far (p := ⟨gb552, 5, none⟩) (Kd.R_far (p := ⟨gb552, 4, none⟩) (Kd.R_far (p := ⟨gb552, 3, none⟩) (Kd.R_far (p := ⟨gb552, 2, none⟩) (Kd.R_far (p := ⟨gb552, 1, none⟩) (Kd.R_far (p := ⟨gb552, 0, none⟩) (Kd.R_types HO530.out BK552.out (by decide)) (fun _ hk => hk.2) (.int .i64 t542)) (fun _ hk => hk.2) (.int .i64 t543)) (fun _ hk => hk.2) (.int .i64 t544)) (fun _ hk => hk.2) (.int .i64 t545)) (fun _ hk => hk.2) (.int .i64 t546)) (fun _ hk => hk.2) (.int .i64 t547)) (fun _ hk => hk.2) (.int .i64 t548)) (fun _ hk => hk.2) (.int .i64 t549)) (fun _ hk => hk.1.2)⟩
     have n2_ : Aside0 (((((((((w21.setCell ⟨gb552, 0, none⟩ (.int .i64 t542)).setCell ⟨gb552, 1, none⟩ (.int .i64 t543)).setCell ⟨gb552, 2, none⟩ (.int .i64 t544)).setCell ⟨gb552, 3, none⟩ (.int .i64 t545)).setCell ⟨gb552, 4, none⟩ (.int .i64 t546)).setCell ⟨gb552, 5, none⟩ (.int .i64 t547)).setCell ⟨gb552, 6, none⟩ (.int .i64 t548)).setCell ⟨gb552, 7, none⟩ (.int .i64 t549)).heap[gb523]? = some (.cells #[.int .i64 t515, .int .i64 t516, .int .i64 t517, .int .i64 t518, .int .i64 t519, .int .i64 t520, .int .i64 t521, .int .i64 t522] 32 (0, 0))) := ⟨by refine bk_ ?_; refine blk_far ?_ NB523_552.out _; refine bk_ ?_; refine blk_far ?_ NB523_552.out _; refine bk_ ?_; refine blk_far ?_ NB523_552.out _; refine bk_ ?_; refine blk_far ?_ NB523_552.out _; refine bk_ ?_; refine blk_far ?_ NB523_552.out _; refine bk_ ?_; refine blk_far ?_ NB523_552.out _; refine bk_ ?_; refine blk_far ?_ NB523_552.out _; refine bk_ ?_; refine blk_far ?_ NB523_552.out _; refine bk_ ?_; exact BK523.out⟩
     have n3_ : Aside0 (((((((((w21.setCell ⟨gb552, 0, none⟩ (.int .i64 t542)).setCell ⟨gb552, 1, none⟩ (.int .i64 t543)).setCell ⟨gb552, 2, none⟩ (.int .i64 t544)).setCell ⟨gb552, 3, none⟩ (.int .i64 t545)).setCell ⟨gb552, 4, none⟩ (.int .i64 t546)).setCell ⟨gb552, 5, none⟩ (.int .i64 t547)).setCell ⟨gb552, 6, none⟩ (.int .i64 t548)).setCell ⟨gb552, 7, none⟩ (.int .i64 t549)).heap[gb541]? = some (.cells #[.int .i64 t531, .int .i64 t532, .int .i64 t533, .int .i64 t534, .int .i64 t535, .int .i64 t536, .int .i64 t537, .int .i64 t538] 32 (0, 0))) := ⟨by refine bk_ ?_; refine blk_far ?_ NB541_552.out _; refine bk_ ?_; refine blk_far ?_ NB541_552.out _; refine bk_ ?_; refine blk_far ?_ NB541_552.out _; refine bk_ ?_; refine blk_far ?_ NB541_552.out _; refine bk_ ?_; refine blk_far ?_ NB541_552.out _; refine bk_ ?_; refine blk_far ?_ NB541_552.out _; refine bk_ ?_; refine blk_far ?_ NB541_552.out _; refine bk_ ?_; refine blk_far ?_ NB541_552.out _; refine bk_ ?_; exact BK541.out⟩
     have n4_ : Aside0 (((((((((w21.setCell ⟨gb552, 0, none⟩ (.int .i64 t542)).setCell ⟨gb552, 1, none⟩ (.int .i64 t543)).setCell ⟨gb552, 2, none⟩ (.int .i64 t544)).setCell ⟨gb552, 3, none⟩ (.int .i64 t545)).setCell ⟨gb552, 4, none⟩ (.int .i64 t546)).setCell ⟨gb552, 5, none⟩ (.int .i64 t547)).setCell ⟨gb552, 6, none⟩ (.int .i64 t548)).setCell ⟨gb552, 7, none⟩ (.int .i64 t549)).heap[gb552]? = some (.cells #[.int .i64 t542, .int .i64 t543, .int .i64 t544, .int .i64 t545, .int .i64 t546, .int .i64 t547, .int .i64 t548, .int .i64 t549] 32 (0, 0))) := ⟨by refine bk_ ?_; refine blk_put (cs := #[.int .i64 t542, .int .i64 t543, .int .i64 t544, .int .i64 t545, .int .i64 t546, .int .i64 t547, .int .i64 t548, .int .i64 0]) ?_ 7 _ rfl; refine bk_ ?_; refine blk_put (cs := #[.int .i64 t542, .int .i64 t543, .int .i64 t544, .int .i64 t545, .int .i64 t546, .int .i64 t547, .int .i64 0, .int .i64 0]) ?_ 6 _ rfl; refine bk_ ?_; refine blk_put (cs := #[.int .i64 t542, .int .i64 t543, .int .i64 t544, .int .i64 t545, .int .i64 t546, .int .i64 0, .int .i64 0, .int .i64 0]) ?_ 5 _ rfl; refine bk_ ?_; refine blk_put (cs := #[.int .i64 t542, .int .i64 t543, .int .i64 t544, .int .i64 t545, .int .i64 0, .int .i64 0, .int .i64 0, .int .i64 0]) ?_ 4 _ rfl; refine bk_ ?_; refine blk_put (cs := #[.int .i64 t542, .int .i64 t543, .int .i64 t544, .int .i64 0, .int .i64 0, .int .i64 0, .int .i64 0, .int .i64 0]) ?_ 3 _ rfl; refine bk_ ?_; refine blk_put (cs := #[.int .i64 t542, .int .i64 t543, .int .i64 0, .int .i64 0, .int .i64 0, .int .i64 0, .int .i64 0, .int .i64 0]) ?_ 2 _ rfl; refine bk_ ?_; refine blk_put (cs := #[.int .i64 t542, .int .i64 0, .int .i64 0, .int .i64 0, .int .i64 0, .int .i64 0, .int .i64 0, .int .i64 0]) ?_ 1 _ rfl; refine bk_ ?_; refine blk_put (cs := #[.int .i64 0, .int .i64 0, .int .i64 0, .int .i64 0, .int .i64 0, .int .i64 0, .int .i64 0, .int .i64 0]) ?_ 0 _ rfl; refine bk_ ?_; exact BK552.out⟩
     have n5_ : Aside0 (Below w.heap.size w ((((((((w21.setCell ⟨gb552, 0, none⟩ (.int .i64 t542)).setCell ⟨gb552, 1, none⟩ (.int .i64 t543)).setCell ⟨gb552, 2, none⟩ (.int .i64 t544)).setCell ⟨gb552, 3, none⟩ (.int .i64 t545)).setCell ⟨gb552, 4, none⟩ (.int .i64 t546)).setCell ⟨gb552, 5, none⟩ (.int .i64 t547)).setCell ⟨gb552, 6, none⟩ (.int .i64 t548)).setCell ⟨gb552, 7, none⟩ (.int .i64 t549))) := ⟨bw_ HB.out⟩
     (try clear HO526)
     (try clear HO530)
     (try clear BK523)
     (try clear BK541)
     (try clear BK552)
     (try clear HB)
     generalize ((((((((w21.setCell ⟨gb552, 0, none⟩ (.int .i64 t542)).setCell ⟨gb552, 1, none⟩ (.int .i64 t543)).setCell ⟨gb552, 2, none⟩ (.int .i64 t544)).setCell ⟨gb552, 3, none⟩ (.int .i64 t545)).setCell ⟨gb552, 4, none⟩ (.int .i64 t546)).setCell ⟨gb552, 5, none⟩ (.int .i64 t547)).setCell ⟨gb552, 6, none⟩ (.int .i64 t548)).setCell ⟨gb552, 7, none⟩ (.int .i64 t549)) = w52 at n0_ n1_ n2_ n3_ n4_ n5_ ⊢
     have HO526 := n0_
     have HO530 := n1_
     have BK523 := n2_
     have BK541 := n3_
     have BK552 := n4_
     have HB := n5_
     clear n0_ n1_ n2_ n3_ n4_ n5_
     have n0_ := Aside0.mk (Kd.R_drew HO526.out)
     have n1_ := Aside0.mk (Kd.R_drew HO530.out)
     have n2_ := Aside0.mk (blk_drew BK523.out)
     have n3_ := Aside0.mk (blk_drew BK541.out)
     have n4_ := Aside0.mk (blk_drew BK552.out)
     have n5_ := Aside0.mk (below_drew1 HB.out)
     clear HO526
     clear HO530
     clear BK523
     clear BK541
     clear BK552
     clear HB
     have HO526 := n0_
     have HO530 := n1_
     have BK523 := n2_
     have BK541 := n3_
     have BK552 := n4_
     have HB := n5_
     clear n0_ n1_ n2_ n3_ n4_ n5_
     refine start_ (n := 29) (S := fun w' => True) (ds := []) #[false, false, false, false, false, false, false, false, false, false, false, false, false, false, false, false, false, false, false, false, false, false, false, false, false, false, false, false, false] (by kernel_rfl) rfl rfl trivial (fun hHeld => ?_); refine with_tabW laws_FnCodes.tab8 laws_FnCodes.bits8 (fun HT_ HW_ => ?_)
     generalize w52.drew = w53 at HO526 HO530 BK523 BK541 BK552 HB hHeld ⊢
     refine pure_ (i := 0) (N := some 41) (v := ?_) (a' := ?_) #[true, false, false, false, false, false, false, false, false, false, false, false, false, false, false, false, false, false, false, false, false, false, false, false, false, false, false, false, false] rfl rfl (any_of HT_.out (by kernel_rfl)) (fun _ _ _ h => h) (Or.inl ⟨by rfl, ?_⟩) ?_ ?_
     rotate_left
     ·intro w'
      go_simp
      with_reducible rfl
     rotate_left
     ·simp only [Act.put, List.setIfInBounds_toArray, List.set_cons_zero, List.set_cons_succ, i64_w, i32_w]
      rfl
     refine pure_ (i := 1) (N := some 42) (v := ?_) (a' := ?_) #[true, true, false, false, false, false, false, false, false, false, false, false, false, false, false, false, false, false, false, false, false, false, false, false, false, false, false, false, false] rfl rfl (any_of HT_.out (by kernel_rfl)) (fun _ _ _ h => h) (Or.inl ⟨by rfl, ?_⟩) ?_ ?_
     rotate_left
     ·intro w'
      go_simp
      with_reducible rfl
     rotate_left
     ·simp only [Act.put, List.setIfInBounds_toArray, List.set_cons_zero, List.set_cons_succ, i64_w, i32_w]
      rfl
     refine pure_ (i := 2) (N := some 43) (v := ?_) (a' := ?_) #[true, true, true, false, false, false, false, false, false, false, false, false, false, false, false, false, false, false, false, false, false, false, false, false, false, false, false, false, false] rfl rfl (any_of HT_.out (by kernel_rfl)) (fun _ _ _ h => h) (Or.inl ⟨by rfl, ?_⟩) ?_ ?_
     rotate_left
     ·intro w'
      go_simp
      with_reducible rfl
     rotate_left
     ·simp only [Act.put, List.setIfInBounds_toArray, List.set_cons_zero, List.set_cons_succ, i64_w, i32_w]
      rfl
     refine pure_ (i := 3) (N := some 44) (v := ?_) (a' := ?_) #[true, true, true, true, false, false, false, false, false, false, false, false, false, false, false, false, false, false, false, false, false, false, false, false, false, false, false, false, false] rfl rfl (any_of HT_.out (by kernel_rfl)) (fun _ _ _ h => h) (Or.inl ⟨by rfl, ?_⟩) ?_ ?_
     rotate_left
     ·intro w'
      go_simp
      with_reducible rfl
     rotate_left
     ·simp only [Act.put, List.setIfInBounds_toArray, List.set_cons_zero, List.set_cons_succ, i64_w, i32_w]
      rfl
     refine pure_ (i := 4) (N := some 45) (v := ?_) (a' := ?_) #[true, true, true, true, true, false, false, false, false, false, false, false, false, false, false, false, false, false, false, false, false, false, false, false, false, false, false, false, false] rfl rfl (any_of HT_.out (by kernel_rfl)) (fun _ _ _ h => h) (Or.inl ⟨by rfl, ?_⟩) ?_ ?_
     rotate_left
     ·intro w'
      go_simp
      with_reducible rfl
     rotate_left
     ·simp only [Act.put, List.setIfInBounds_toArray, List.set_cons_zero, List.set_cons_succ, i64_w, i32_w]
      rfl
     refine pure_ (i := 5) (N := some 46) (v := ?_) (a' := ?_) #[true, true, true, true, true, true, false, false, false, false, false, false, false, false, false, false, false, false, false, false, false, false, false, false, false, false, false, false, false] rfl rfl (any_of HT_.out (by kernel_rfl)) (fun _ _ _ h => h) (Or.inl ⟨by rfl, ?_⟩) ?_ ?_
     rotate_left
     ·intro w'
      go_simp
      with_reducible rfl
     rotate_left
     ·simp only [Act.put, List.setIfInBounds_toArray, List.set_cons_zero, List.set_cons_succ, i64_w, i32_w]
      rfl
     refine pure_ (i := 6) (N := some 47) (v := undef) (a' := ?_) #[true, true, true, true, true, true, true, false, false, false, false, false, false, false, false, false, false, false, false, false, false, false, false, false, false, false, false, false, false] rfl rfl (any_of HT_.out (by kernel_rfl)) (fun _ _ _ h => h) (Or.inr ⟨by rfl, rfl⟩) ?_ ?_
     rotate_left
     ·simp only [Act.put, List.setIfInBounds_toArray, List.set_cons_zero, List.set_cons_succ, i64_w, i32_w]
      rfl
     refine pure_ (i := 7) (N := some 48) (v := undef) (a' := ?_) #[true, true, true, true, true, true, true, true, false, false, false, false, false, false, false, false, false, false, false, false, false, false, false, false, false, false, false, false, false] rfl rfl (any_of HT_.out (by kernel_rfl)) (fun _ _ _ h => h) (Or.inr ⟨by rfl, rfl⟩) ?_ ?_
     rotate_left
     ·simp only [Act.put, List.setIfInBounds_toArray, List.set_cons_zero, List.set_cons_succ, i64_w, i32_w]
      rfl
     refine pure_ (i := 8) (N := some 49) (v := undef) (a' := ?_) #[true, true, true, true, true, true, true, true, true, false, false, false, false, false, false, false, false, false, false, false, false, false, false, false, false, false, false, false, false] rfl rfl (any_of HT_.out (by kernel_rfl)) (fun _ _ _ h => h) (Or.inr ⟨by rfl, rfl⟩) ?_ ?_
     rotate_left
     ·simp only [Act.put, List.setIfInBounds_toArray, List.set_cons_zero, List.set_cons_succ, i64_w, i32_w]
      rfl
     refine pure_ (i := 9) (N := some 50) (v := undef) (a' := ?_) #[true, true, true, true, true, true, true, true, true, true, false, false, false, false, false, false, false, false, false, false, false, false, false, false, false, false, false, false, false] rfl rfl (any_of HT_.out (by kernel_rfl)) (fun _ _ _ h => h) (Or.inr ⟨by rfl, rfl⟩) ?_ ?_
     rotate_left
     ·simp only [Act.put, List.setIfInBounds_toArray, List.set_cons_zero, List.set_cons_succ, i64_w, i32_w]
      rfl
     refine pure_ (i := 10) (N := some 51) (v := undef) (a' := ?_) #[true, true, true, true, true, true, true, true, true, true, true, false, false, false, false, false, false, false, false, false, false, false, false, false, false, false, false, false, false] rfl rfl (any_of HT_.out (by kernel_rfl)) (fun _ _ _ h => h) (Or.inr ⟨by rfl, rfl⟩) ?_ ?_
     rotate_left
     ·simp only [Act.put, List.setIfInBounds_toArray, List.set_cons_zero, List.set_cons_succ, i64_w, i32_w]
      rfl
     refine pure_ (i := 11) (N := some 52) (v := undef) (a' := ?_) #[true, true, true, true, true, true, true, true, true, true, true, true, false, false, false, false, false, false, false, false, false, false, false, false, false, false, false, false, false] rfl rfl (any_of HT_.out (by kernel_rfl)) (fun _ _ _ h => h) (Or.inr ⟨by rfl, rfl⟩) ?_ ?_
     rotate_left
     ·simp only [Act.put, List.setIfInBounds_toArray, List.set_cons_zero, List.set_cons_succ, i64_w, i32_w]
      rfl
     refine pure_ (i := 12) (N := some 53) (v := undef) (a' := ?_) #[true, true, true, true, true, true, true, true, true, true, true, true, true, false, false, false, false, false, false, false, false, false, false, false, false, false, false, false, false] rfl rfl (any_of HT_.out (by kernel_rfl)) (fun _ _ _ h => h) (Or.inr ⟨by rfl, rfl⟩) ?_ ?_
     rotate_left
     ·simp only [Act.put, List.setIfInBounds_toArray, List.set_cons_zero, List.set_cons_succ, i64_w, i32_w]
      rfl
     refine pure_ (i := 13) (N := some 54) (v := undef) (a' := ?_) #[true, true, true, true, true, true, true, true, true, true, true, true, true, true, false, false, false, false, false, false, false, false, false, false, false, false, false, false, false] rfl rfl (any_of HT_.out (by kernel_rfl)) (fun _ _ _ h => h) (Or.inr ⟨by rfl, rfl⟩) ?_ ?_
     rotate_left
     ·simp only [Act.put, List.setIfInBounds_toArray, List.set_cons_zero, List.set_cons_succ, i64_w, i32_w]
      rfl
     refine pure_ (i := 14) (N := some 55) (v := undef) (a' := ?_) #[true, true, true, true, true, true, true, true, true, true, true, true, true, true, true, false, false, false, false, false, false, false, false, false, false, false, false, false, false] rfl rfl (any_of HT_.out (by kernel_rfl)) (fun _ _ _ h => h) (Or.inr ⟨by rfl, rfl⟩) ?_ ?_
     rotate_left
     ·simp only [Act.put, List.setIfInBounds_toArray, List.set_cons_zero, List.set_cons_succ, i64_w, i32_w]
      rfl
     refine pure_ (i := 15) (N := some 56) (v := undef) (a' := ?_) #[true, true, true, true, true, true, true, true, true, true, true, true, true, true, true, true, false, false, false, false, false, false, false, false, false, false, false, false, false] rfl rfl (any_of HT_.out (by kernel_rfl)) (fun _ _ _ h => h) (Or.inr ⟨by rfl, rfl⟩) ?_ ?_
     rotate_left
     ·simp only [Act.put, List.setIfInBounds_toArray, List.set_cons_zero, List.set_cons_succ, i64_w, i32_w]
      rfl
     refine pure_ (i := 16) (N := some 57) (v := undef) (a' := ?_) #[true, true, true, true, true, true, true, true, true, true, true, true, true, true, true, true, true, false, false, false, false, false, false, false, false, false, false, false, false] rfl rfl (any_of HT_.out (by kernel_rfl)) (fun _ _ _ h => h) (Or.inr ⟨by rfl, rfl⟩) ?_ ?_
     rotate_left
     ·simp only [Act.put, List.setIfInBounds_toArray, List.set_cons_zero, List.set_cons_succ, i64_w, i32_w]
      rfl
     refine pure_ (i := 17) (N := some 58) (v := undef) (a' := ?_) #[true, true, true, true, true, true, true, true, true, true, true, true, true, true, true, true, true, true, false, false, false, false, false, false, false, false, false, false, false] rfl rfl (any_of HT_.out (by kernel_rfl)) (fun _ _ _ h => h) (Or.inr ⟨by rfl, rfl⟩) ?_ ?_
     rotate_left
     ·simp only [Act.put, List.setIfInBounds_toArray, List.set_cons_zero, List.set_cons_succ, i64_w, i32_w]
      rfl
     refine pure_ (i := 18) (N := some 59) (v := undef) (a' := ?_) #[true, true, true, true, true, true, true, true, true, true, true, true, true, true, true, true, true, true, true, false, false, false, false, false, false, false, false, false, false] rfl rfl (any_of HT_.out (by kernel_rfl)) (fun _ _ _ h => h) (Or.inr ⟨by rfl, rfl⟩) ?_ ?_
     rotate_left
     ·simp only [Act.put, List.setIfInBounds_toArray, List.set_cons_zero, List.set_cons_succ, i64_w, i32_w]
      rfl
     refine pure_ (i := 19) (N := some 60) (v := undef) (a' := ?_) #[true, true, true, true, true, true, true, true, true, true, true, true, true, true, true, true, true, true, true, true, false, false, false, false, false, false, false, false, false] rfl rfl (any_of HT_.out (by kernel_rfl)) (fun _ _ _ h => h) (Or.inr ⟨by rfl, rfl⟩) ?_ ?_
     rotate_left
     ·simp only [Act.put, List.setIfInBounds_toArray, List.set_cons_zero, List.set_cons_succ, i64_w, i32_w]
      rfl
     refine pure_ (i := 20) (N := some 61) (v := undef) (a' := ?_) #[true, true, true, true, true, true, true, true, true, true, true, true, true, true, true, true, true, true, true, true, true, false, false, false, false, false, false, false, false] rfl rfl (any_of HT_.out (by kernel_rfl)) (fun _ _ _ h => h) (Or.inr ⟨by rfl, rfl⟩) ?_ ?_
     rotate_left
     ·simp only [Act.put, List.setIfInBounds_toArray, List.set_cons_zero, List.set_cons_succ, i64_w, i32_w]
      rfl
     refine pure_ (i := 21) (N := some 62) (v := undef) (a' := ?_) #[true, true, true, true, true, true, true, true, true, true, true, true, true, true, true, true, true, true, true, true, true, true, false, false, false, false, false, false, false] rfl rfl (any_of HT_.out (by kernel_rfl)) (fun _ _ _ h => h) (Or.inr ⟨by rfl, rfl⟩) ?_ ?_
     rotate_left
     ·simp only [Act.put, List.setIfInBounds_toArray, List.set_cons_zero, List.set_cons_succ, i64_w, i32_w]
      rfl
     refine pure_ (i := 22) (N := some 63) (v := undef) (a' := ?_) #[true, true, true, true, true, true, true, true, true, true, true, true, true, true, true, true, true, true, true, true, true, true, true, false, false, false, false, false, false] rfl rfl (any_of HT_.out (by kernel_rfl)) (fun _ _ _ h => h) (Or.inr ⟨by rfl, rfl⟩) ?_ ?_
     rotate_left
     ·simp only [Act.put, List.setIfInBounds_toArray, List.set_cons_zero, List.set_cons_succ, i64_w, i32_w]
      rfl
     refine pure_ (i := 23) (N := some 64) (v := undef) (a' := ?_) #[true, true, true, true, true, true, true, true, true, true, true, true, true, true, true, true, true, true, true, true, true, true, true, true, false, false, false, false, false] rfl rfl (any_of HT_.out (by kernel_rfl)) (fun _ _ _ h => h) (Or.inr ⟨by rfl, rfl⟩) ?_ ?_
     rotate_left
     ·simp only [Act.put, List.setIfInBounds_toArray, List.set_cons_zero, List.set_cons_succ, i64_w, i32_w]
      rfl
     refine pure_ (i := 24) (N := some 65) (v := undef) (a' := ?_) #[true, true, true, true, true, true, true, true, true, true, true, true, true, true, true, true, true, true, true, true, true, true, true, true, true, false, false, false, false] rfl rfl (any_of HT_.out (by kernel_rfl)) (fun _ _ _ h => h) (Or.inr ⟨by rfl, rfl⟩) ?_ ?_
     rotate_left
     ·simp only [Act.put, List.setIfInBounds_toArray, List.set_cons_zero, List.set_cons_succ, i64_w, i32_w]
      rfl
     refine pure_ (i := 25) (N := some 66) (v := undef) (a' := ?_) #[true, true, true, true, true, true, true, true, true, true, true, true, true, true, true, true, true, true, true, true, true, true, true, true, true, true, false, false, false] rfl rfl (any_of HT_.out (by kernel_rfl)) (fun _ _ _ h => h) (Or.inr ⟨by rfl, rfl⟩) ?_ ?_
     rotate_left
     ·simp only [Act.put, List.setIfInBounds_toArray, List.set_cons_zero, List.set_cons_succ, i64_w, i32_w]
      rfl
     refine pure_ (i := 26) (N := some 67) (v := undef) (a' := ?_) #[true, true, true, true, true, true, true, true, true, true, true, true, true, true, true, true, true, true, true, true, true, true, true, true, true, true, true, false, false] rfl rfl (any_of HT_.out (by kernel_rfl)) (fun _ _ _ h => h) (Or.inr ⟨by rfl, rfl⟩) ?_ ?_
     rotate_left
     ·simp only [Act.put, List.setIfInBounds_toArray, List.set_cons_zero, List.set_cons_succ, i64_w, i32_w]
      rfl
     refine pure_ (i := 27) (N := some 68) (v := ?_) (a' := ?_) #[true, true, true, true, true, true, true, true, true, true, true, true, true, true, true, true, true, true, true, true, true, true, true, true, true, true, true, true, false] rfl rfl (any_of HT_.out (by kernel_rfl)) (fun _ _ _ h => h) (Or.inl ⟨by rfl, ?_⟩) ?_ ?_
     rotate_left
     ·intro w'
      go_simp
      with_reducible rfl
     rotate_left
     ·simp only [Act.put, List.setIfInBounds_toArray, List.set_cons_zero, List.set_cons_succ, i64_w, i32_w]
      rfl
     refine pure_ (i := 28) (N := some 69) (v := ?_) (a' := ?_) #[true, true, true, true, true, true, true, true, true, true, true, true, true, true, true, true, true, true, true, true, true, true, true, true, true, true, true, true, true] rfl rfl (any_of HT_.out (by kernel_rfl)) (fun _ _ _ h => h) (Or.inl ⟨by rfl, ?_⟩) ?_ ?_
     rotate_left
     ·intro w'
      go_simp
      with_reducible rfl
     rotate_left
     ·simp only [Act.put, List.setIfInBounds_toArray, List.set_cons_zero, List.set_cons_succ, i64_w, i32_w]
      rfl
     refine done_ (done_of HT_.out (by kernel_rfl)) ?_
     try go_wp2
     go_meet
     case rel => exact ⟨_, (false), (by first | rfl | (simp; done) | (simp [*]; done) | (simp [wrap64]; done)), H', ⟨by first | omega | exact Nat.le_refl _⟩, ⟨by (with_reducible repeat (first | apply Kd.R_alloc | apply Kd.R_drewN | apply Kd.R_drew)); exact Kd.R_mono HO526.out (fun _ hk => trivial)⟩, ⟨by refine bk_ ?_; exact BK523.out⟩, ⟨by refine bk_ ?_; exact BK541.out⟩, ⟨by refine bk_ ?_; exact BK552.out⟩, ⟨bw_ HB.out⟩⟩
  case rest =>
   clear HC9
   try clear c1
   try clear c2
   try clear p2
   try clear c3
   try clear c18
   try clear c20
   try clear c28
   try clear c30
   obtain ⟨kq, x69_8, rfl, HA, HJ8, HO_4, BK523, BK541, BK552, HB⟩ := hcut
   cases kq with
   | zero => exact absurd HA.out (by simp [laws_FnCodes.j0])
   | succ kj8 =>
    have H := HA.out
    clear HA
    simp only [laws_FnCodes.j0] at H
    by_cases c54 : x69_8 = true
    ·subst c54
     rw [if_pos rfl] at H
     subst hr_
     exact absurd H (by simp)
    ·replace c54 := Bool.eq_false_iff.mpr c54
     subst c54
     rw [if_neg (show ¬ (false = true) by decide)] at H
     replace H := Option.bind_eq_some_iff.mp H
     obtain ⟨t563, A550, H⟩ := H
     try dsimp only at H
     have A55 := Aside0.mk A550
     clear A550
     by_cases c56 : t563 = true
     ·subst c56
      rw [if_pos rfl] at H
      replace H := Option.bind_eq_some_iff.mp H
      obtain ⟨⟨t564, t565, t566, t567, t568, t569, t570, t571, t572, t573⟩, A570, H⟩ := H
      try dsimp only at H
      have A57 := Aside0.mk A570
      clear A570
      by_cases c58 : t573 = true
      ·subst c58
       rw [if_pos rfl] at H
       by_cases c59 : (t564 == t515 && ((t565 == t516 && (t566 == t517 && (t567 == t518))) && ((t568 == t519 && (t569 == t520 && (t570 == t521))) && (t571 == t522)))) = true
       ·rw [if_pos c59] at H
        have c59b0 : (t564 == t515 && ((t565 == t516 && (t566 == t517 && (t567 == t518))) && ((t568 == t519 && (t569 == t520 && (t570 == t521))) && (t571 == t522)))) = true := c59
        (try (have c59b1 : decide (t564 = t515 && ((t565 == t516 && (t566 == t517 && (t567 == t518))) && ((t568 == t519 && (t569 == t520 && (t570 == t521))) && (t571 == t522)))) = true := by simpa using c59))
        (try (have c59b2 : (t564 == t515 && ((t565 == t516 && (t566 == t517 && (t567 == t518))) && ((t568 == t519 && (t569 == t520 && (t570 == t521))) && (t571 == t522)))) = true := by simpa using c59))
        clear c59
        by_cases c60 : t572 = (t524.length : Int)
        ·rw [if_pos c60] at H
         have c60b0 : (t572 == (t524.length : Int)) = true := beq_iff_eq.mpr c60
         have c60b1 : (t572 != (t524.length : Int)) = false := bne_eq_false_iff_eq.mpr c60
         clear c60
         replace H := Option.bind_eq_some_iff.mp H
         obtain ⟨t575, A610, H⟩ := H
         try dsimp only at H
         have A61 := Aside0.mk A610
         clear A610
         by_cases c62 : t572 = t575
         ·rw [if_pos c62] at H
          have c62b0 : (t572 == t575) = true := beq_iff_eq.mpr c62
          have c62b1 : (t572 != t575) = false := bne_eq_false_iff_eq.mpr c62
          clear c62
          replace H := Option.bind_eq_some_iff.mp H
          obtain ⟨t576, A630, H⟩ := H
          try dsimp only at H
          have A63 := Aside0.mk A630
          clear A630
          obtain rfl := Option.some.inj H
          have hnb64 := NB523_541.out
          have hnc64 := NB541_523.out
          have hnb65 := NB523_552.out
          have hnc65 := NB552_523.out
          obtain ⟨hcz66_0, hcz66_1, hcz66_2, hcz66_3, hcz66_4, hcz66_5, hcz66_6, hcz66_7, hfz66_0, hfz66_1, hfz66_2, hfz66_3, hfz66_4, hfz66_5, hfz66_6, hfz66_7⟩ := cz8_ BK523.out
          go_wp2_with (first | ((with_reducible refine gate_callee (f := 19) rfl ?_); refine gL_ (some 71) Try.func19 #[.agg #[.int .i64 t515, .int .i64 t516, .int .i64 t517, .int .i64 t518, .int .i64 t519, .int .i64 t520, .int .i64 t521, .int .i64 t522]] ?_; (with_reducible refine (spec_InsOk.calls kj8 t515 t516 t517 t518 t519 t520 t521 t522 true _ A55.out).mono ?_); rintro e w67 ⟨rfl, hb⟩; refine ⟨_, rfl, ?_⟩; have n0_ := Aside0.mk (Kd.R_below (by (with_reducible repeat (first | apply Kd.R_alloc | apply Kd.R_drewN | apply Kd.R_drew)); exact HO_4.out) hb); have n1_ := Aside0.mk (blk_below (bk_ BK523.out) hb); have n2_ := Aside0.mk (blk_below (bk_ BK541.out) hb); have n3_ := Aside0.mk (blk_below (bk_ BK552.out) hb); have n4_ := Aside0.mk (below_step (bw_ HB.out) hb); clear HO_4; clear BK523; clear BK541; clear BK552; clear HB; have HO_4 := n0_; have BK523 := n1_; have BK541 := n2_; have BK552 := n3_; have HB := n4_; clear n0_ n1_ n2_ n3_ n4_; (try clear hb); (try clear hb2); (try clear hk); (try clear hi); obtain ⟨Ao68, co68, eo68⟩ := Kd.R_slice HO_4.out; subst eo68) | ((with_reducible refine gate_callee (f := 28) rfl ?_); refine gL_ (some 83) Try.func28 #[.slice Ao68 t524.length co68, .int .i64 0] ?_; (with_reducible refine (impl_Decode.calls kj8 _ _ t524 0 t564 t565 t566 t567 t568 t569 t570 t571 t572 true _ ?side1 ?side2 A57.out).mono ?_); (case side1 => repeat (first | exact (Kd.R_reads' HO_4.out).2.2 | (with_reducible refine Kd.C_alloc ?_ _) | (with_reducible refine Kd.C_drewN ?_ _) | (with_reducible refine Kd.C_drew ?_))); (case side2 => exact (Kd.R_reads' HO_4.out).2.1); rintro e w69 ⟨rfl, hb⟩; refine ⟨_, rfl, ?_⟩; have n0_ := Aside0.mk (Kd.R_below (by (with_reducible repeat (first | apply Kd.R_alloc | apply Kd.R_drewN | apply Kd.R_drew)); exact HO_4.out) hb); have n1_ := Aside0.mk (blk_below (bk_ BK523.out) hb); have n2_ := Aside0.mk (blk_below (bk_ BK541.out) hb); have n3_ := Aside0.mk (blk_below (bk_ BK552.out) hb); have n4_ := Aside0.mk (below_step (bw_ HB.out) hb); clear HO_4; clear BK523; clear BK541; clear BK552; clear HB; have HO_4 := n0_; have BK523 := n1_; have BK541 := n2_; have BK552 := n3_; have HB := n4_; clear n0_ n1_ n2_ n3_ n4_; (try clear hb); (try clear hb2); (try clear hk); (try clear hi)) | ((with_reducible refine gate_dst (N := 13) rfl ?_); (try (refine gate_guard (by rfl) ?_; dsimp only)); refine box_event ?hg (N := 13) ?hd (cs := #[.int .i64 0, .int .i64 0, .int .i64 0, .int .i64 0, .int .i64 0, .int .i64 0, .int .i64 0, .int .i64 0]) (t := 32) ?hr ?_; (case hd => rfl); (case hg => rfl); (case hr => first | (go_simp; done) | (go_simp; rfl)); intro gb574 hg w70 hbox hb; have n0_ := Aside0.mk (Kd.R_below (by (with_reducible repeat (first | apply Kd.R_alloc | apply Kd.R_drewN | apply Kd.R_drew)); exact HO_4.out) hb); have n1_ := Aside0.mk (blk_below (bk_ BK523.out) hb); have n2_ := Aside0.mk (blk_below (bk_ BK541.out) hb); have n3_ := Aside0.mk (blk_below (bk_ BK552.out) hb); have n4_ := Aside0.mk (below_step (bw_ HB.out) hb); have n5_ := Aside0.mk (hbox); have n6_ := Aside0.mk ((by rw [hg]; exact (below_size (bw_ HB.out)) : w.heap.size ≤ gb574)); have n7_ := n6_; have n8_ := Aside0.mk ((by rw [hg]; exact Nat.ne_of_lt (blk_lt (bk_ BK523.out)) : gb523 ≠ gb574)); have n9_ := Aside0.mk n8_.out.symm; have n10_ := Aside0.mk ((by rw [hg]; exact Nat.ne_of_lt (blk_lt (bk_ BK541.out)) : gb541 ≠ gb574)); have n11_ := Aside0.mk n10_.out.symm; have n12_ := Aside0.mk ((by rw [hg]; exact Nat.ne_of_lt (blk_lt (bk_ BK552.out)) : gb552 ≠ gb574)); have n13_ := Aside0.mk n12_.out.symm; clear HO_4; clear BK523; clear BK541; clear BK552; clear HB; have HO_4 := n0_; have BK523 := n1_; have BK541 := n2_; have BK552 := n3_; have HB := n4_; have BK574 := n5_; have GW574 := n6_; have GE574 := n7_; have GI574 := GeI.mk GE574.out; have NB523_574 := n8_; have NB574_523 := n9_; have NB541_574 := n10_; have NB574_541 := n11_; have NB552_574 := n12_; have NB574_552 := n13_; clear n0_ n1_ n2_ n3_ n4_ n5_ n6_ n7_ n8_ n9_ n10_ n11_ n12_ n13_; clear hb hbox hg; have hnb71 := NB574_523.out; have hnc71 := NB523_574.out; have hnb72 := NB574_541.out; have hnc72 := NB541_574.out; have hnb73 := NB574_552.out; have hnc73 := NB552_574.out; have hcz74_0 : w70.cell? ⟨gb574, 0, none⟩ = some (.int .i64 0) := (blk_cell BK574.out 0).trans rfl; have hcz74_1 : w70.cell? ⟨gb574, 1, none⟩ = some (.int .i64 0) := (blk_cell BK574.out 1).trans rfl; have hcz74_2 : w70.cell? ⟨gb574, 2, none⟩ = some (.int .i64 0) := (blk_cell BK574.out 2).trans rfl; have hcz74_3 : w70.cell? ⟨gb574, 3, none⟩ = some (.int .i64 0) := (blk_cell BK574.out 3).trans rfl; have hcz74_4 : w70.cell? ⟨gb574, 4, none⟩ = some (.int .i64 0) := (blk_cell BK574.out 4).trans rfl; have hcz74_5 : w70.cell? ⟨gb574, 5, none⟩ = some (.int .i64 0) := (blk_cell BK574.out 5).trans rfl; have hcz74_6 : w70.cell? ⟨gb574, 6, none⟩ = some (.int .i64 0) := (blk_cell BK574.out 6).trans rfl; have hcz74_7 : w70.cell? ⟨gb574, 7, none⟩ = some (.int .i64 0) := (blk_cell BK574.out 7).trans rfl; have hfz74_0 := blk_frozen BK574.out 0; have hfz74_1 := blk_frozen BK574.out 1; have hfz74_2 := blk_frozen BK574.out 2; have hfz74_3 := blk_frozen BK574.out 3; have hfz74_4 := blk_frozen BK574.out 4; have hfz74_5 := blk_frozen BK574.out 5; have hfz74_6 := blk_frozen BK574.out 6; have hfz74_7 := blk_frozen BK574.out 7; have hcz75_0 : w70.cell? ⟨gb523, 0, none⟩ = some (.int .i64 t515) := (blk_cell BK523.out 0).trans rfl; have hcz75_1 : w70.cell? ⟨gb523, 1, none⟩ = some (.int .i64 t516) := (blk_cell BK523.out 1).trans rfl; have hcz75_2 : w70.cell? ⟨gb523, 2, none⟩ = some (.int .i64 t517) := (blk_cell BK523.out 2).trans rfl; have hcz75_3 : w70.cell? ⟨gb523, 3, none⟩ = some (.int .i64 t518) := (blk_cell BK523.out 3).trans rfl; have hcz75_4 : w70.cell? ⟨gb523, 4, none⟩ = some (.int .i64 t519) := (blk_cell BK523.out 4).trans rfl; have hcz75_5 : w70.cell? ⟨gb523, 5, none⟩ = some (.int .i64 t520) := (blk_cell BK523.out 5).trans rfl; have hcz75_6 : w70.cell? ⟨gb523, 6, none⟩ = some (.int .i64 t521) := (blk_cell BK523.out 6).trans rfl; have hcz75_7 : w70.cell? ⟨gb523, 7, none⟩ = some (.int .i64 t522) := (blk_cell BK523.out 7).trans rfl; have hfz75_0 := blk_frozen BK523.out 0; have hfz75_1 := blk_frozen BK523.out 1; have hfz75_2 := blk_frozen BK523.out 2; have hfz75_3 := blk_frozen BK523.out 3; have hfz75_4 := blk_frozen BK523.out 4; have hfz75_5 := blk_frozen BK523.out 5; have hfz75_6 := blk_frozen BK523.out 6; have hfz75_7 := blk_frozen BK523.out 7) | (go_at_call 18; (with_reducible refine (impl_Words.calls kj8 t515 t516 t517 t518 t519 t520 t521 t522 t575 _ A61.out).mono ?_); rintro e w76 ⟨rfl, hb⟩; have n0_ := Aside0.mk (Kd.R_below (by (with_reducible repeat (first | apply Kd.R_alloc | apply Kd.R_drewN | apply Kd.R_drew)); exact (Kd.R_mono (Kd.R_far (p := ⟨gb574, 7, none⟩) (Kd.R_far (p := ⟨gb574, 6, none⟩) (Kd.R_far (p := ⟨gb574, 5, none⟩) (Kd.R_far (p := ⟨gb574, 4, none⟩) (Kd.R_far (p := ⟨gb574, 3, none⟩) (Kd.R_far (p := ⟨gb574, 2, none⟩) (Kd.R_far (p := ⟨gb574, 1, none⟩) (Kd.R_far (p := ⟨gb574, 0, none⟩) (Kd.R_types HO_4.out BK574.out (by decide)) (fun _ hk => hk.2) (.int .i64 t564)) (fun _ hk => hk.2) (.int .i64 t565)) (fun _ hk => hk.2) (.int .i64 t566)) (fun _ hk => hk.2) (.int .i64 t567)) (fun _ hk => hk.2) (.int .i64 t568)) (fun _ hk => hk.2) (.int .i64 t569)) (fun _ hk => hk.2) (.int .i64 t570)) (fun _ hk => hk.2) (.int .i64 t571)) (fun _ h_ => h_.1))) hb); have n1_ := Aside0.mk (blk_below (g := gb523) (o := .cells #[.int .i64 t515, .int .i64 t516, .int .i64 t517, .int .i64 t518, .int .i64 t519, .int .i64 t520, .int .i64 t521, .int .i64 t522] 32 (0, 0)) (by refine bk_ ?_; refine blk_far ?_ NB523_574.out _; refine bk_ ?_; refine blk_far ?_ NB523_574.out _; refine bk_ ?_; refine blk_far ?_ NB523_574.out _; refine bk_ ?_; refine blk_far ?_ NB523_574.out _; refine bk_ ?_; refine blk_far ?_ NB523_574.out _; refine bk_ ?_; refine blk_far ?_ NB523_574.out _; refine bk_ ?_; refine blk_far ?_ NB523_574.out _; refine bk_ ?_; refine blk_far ?_ NB523_574.out _; refine bk_ ?_; exact BK523.out) hb); have n2_ := Aside0.mk (blk_below (g := gb541) (o := .cells #[.int .i64 t531, .int .i64 t532, .int .i64 t533, .int .i64 t534, .int .i64 t535, .int .i64 t536, .int .i64 t537, .int .i64 t538] 32 (0, 0)) (by refine bk_ ?_; refine blk_far ?_ NB541_574.out _; refine bk_ ?_; refine blk_far ?_ NB541_574.out _; refine bk_ ?_; refine blk_far ?_ NB541_574.out _; refine bk_ ?_; refine blk_far ?_ NB541_574.out _; refine bk_ ?_; refine blk_far ?_ NB541_574.out _; refine bk_ ?_; refine blk_far ?_ NB541_574.out _; refine bk_ ?_; refine blk_far ?_ NB541_574.out _; refine bk_ ?_; refine blk_far ?_ NB541_574.out _; refine bk_ ?_; exact BK541.out) hb); have n3_ := Aside0.mk (blk_below (g := gb552) (o := .cells #[.int .i64 t542, .int .i64 t543, .int .i64 t544, .int .i64 t545, .int .i64 t546, .int .i64 t547, .int .i64 t548, .int .i64 t549] 32 (0, 0)) (by refine bk_ ?_; refine blk_far ?_ NB552_574.out _; refine bk_ ?_; refine blk_far ?_ NB552_574.out _; refine bk_ ?_; refine blk_far ?_ NB552_574.out _; refine bk_ ?_; refine blk_far ?_ NB552_574.out _; refine bk_ ?_; refine blk_far ?_ NB552_574.out _; refine bk_ ?_; refine blk_far ?_ NB552_574.out _; refine bk_ ?_; refine blk_far ?_ NB552_574.out _; refine bk_ ?_; refine blk_far ?_ NB552_574.out _; refine bk_ ?_; exact BK552.out) hb); have n4_ := Aside0.mk (blk_below (g := gb574) (o := .cells #[.int .i64 t564, .int .i64 t565, .int .i64 t566, .int .i64 t567, .int .i64 t568, .int .i64 t569, .int .i64 t570, .int .i64 t571] 32 (0, 0)) (by refine bk_ ?_; refine blk_put (cs := #[.int .i64 t564, .int .i64 t565, .int .i64 t566, .int .i64 t567, .int .i64 t568, .int .i64 t569, .int .i64 t570, .int .i64 0]) ?_ 7 _ rfl; refine bk_ ?_; refine blk_put (cs := #[.int .i64 t564, .int .i64 t565, .int .i64 t566, .int .i64 t567, .int .i64 t568, .int .i64 t569, .int .i64 0, .int .i64 0]) ?_ 6 _ rfl; refine bk_ ?_; refine blk_put (cs := #[.int .i64 t564, .int .i64 t565, .int .i64 t566, .int .i64 t567, .int .i64 t568, .int .i64 0, .int .i64 0, .int .i64 0]) ?_ 5 _ rfl; refine bk_ ?_; refine blk_put (cs := #[.int .i64 t564, .int .i64 t565, .int .i64 t566, .int .i64 t567, .int .i64 0, .int .i64 0, .int .i64 0, .int .i64 0]) ?_ 4 _ rfl; refine bk_ ?_; refine blk_put (cs := #[.int .i64 t564, .int .i64 t565, .int .i64 t566, .int .i64 0, .int .i64 0, .int .i64 0, .int .i64 0, .int .i64 0]) ?_ 3 _ rfl; refine bk_ ?_; refine blk_put (cs := #[.int .i64 t564, .int .i64 t565, .int .i64 0, .int .i64 0, .int .i64 0, .int .i64 0, .int .i64 0, .int .i64 0]) ?_ 2 _ rfl; refine bk_ ?_; refine blk_put (cs := #[.int .i64 t564, .int .i64 0, .int .i64 0, .int .i64 0, .int .i64 0, .int .i64 0, .int .i64 0, .int .i64 0]) ?_ 1 _ rfl; refine bk_ ?_; refine blk_put (cs := #[.int .i64 0, .int .i64 0, .int .i64 0, .int .i64 0, .int .i64 0, .int .i64 0, .int .i64 0, .int .i64 0]) ?_ 0 _ rfl; refine bk_ ?_; exact BK574.out) hb); have n5_ := Aside0.mk (below_step (bw_ HB.out) hb); clear HO_4; clear BK523; clear BK541; clear BK552; clear BK574; clear HB; have HO_4 := n0_; have BK523 := n1_; have BK541 := n2_; have BK552 := n3_; have BK574 := n4_; have HB := n5_; clear n0_ n1_ n2_ n3_ n4_ n5_; (try clear hb); (try clear hb2); (try clear hk); (try clear hi); have hcz77_0 : w76.cell? ⟨gb523, 0, none⟩ = some (.int .i64 t515) := (blk_cell BK523.out 0).trans rfl; have hcz77_1 : w76.cell? ⟨gb523, 1, none⟩ = some (.int .i64 t516) := (blk_cell BK523.out 1).trans rfl; have hcz77_2 : w76.cell? ⟨gb523, 2, none⟩ = some (.int .i64 t517) := (blk_cell BK523.out 2).trans rfl; have hcz77_3 : w76.cell? ⟨gb523, 3, none⟩ = some (.int .i64 t518) := (blk_cell BK523.out 3).trans rfl; have hcz77_4 : w76.cell? ⟨gb523, 4, none⟩ = some (.int .i64 t519) := (blk_cell BK523.out 4).trans rfl; have hcz77_5 : w76.cell? ⟨gb523, 5, none⟩ = some (.int .i64 t520) := (blk_cell BK523.out 5).trans rfl; have hcz77_6 : w76.cell? ⟨gb523, 6, none⟩ = some (.int .i64 t521) := (blk_cell BK523.out 6).trans rfl; have hcz77_7 : w76.cell? ⟨gb523, 7, none⟩ = some (.int .i64 t522) := (blk_cell BK523.out 7).trans rfl; have hfz77_0 := blk_frozen BK523.out 0; have hfz77_1 := blk_frozen BK523.out 1; have hfz77_2 := blk_frozen BK523.out 2; have hfz77_3 := blk_frozen BK523.out 3; have hfz77_4 := blk_frozen BK523.out 4; have hfz77_5 := blk_frozen BK523.out 5; have hfz77_6 := blk_frozen BK523.out 6; have hfz77_7 := blk_frozen BK523.out 7) | (go_at_call 20; (with_reducible refine (impl_InsOk.calls kj8 t515 t516 t517 t518 t519 t520 t521 t522 t576 _ A63.out).mono ?_); rintro e w78 ⟨rfl, hb⟩; have n0_ := Aside0.mk (Kd.R_below (by (with_reducible repeat (first | apply Kd.R_alloc | apply Kd.R_drewN | apply Kd.R_drew)); exact HO_4.out) hb); have n1_ := Aside0.mk (blk_below (bk_ BK523.out) hb); have n2_ := Aside0.mk (blk_below (bk_ BK541.out) hb); have n3_ := Aside0.mk (blk_below (bk_ BK552.out) hb); have n4_ := Aside0.mk (blk_below (bk_ BK574.out) hb); have n5_ := Aside0.mk (below_step (bw_ HB.out) hb); clear HO_4; clear BK523; clear BK541; clear BK552; clear BK574; clear HB; have HO_4 := n0_; have BK523 := n1_; have BK541 := n2_; have BK552 := n3_; have BK574 := n4_; have HB := n5_; clear n0_ n1_ n2_ n3_ n4_ n5_; (try clear hb); (try clear hb2); (try clear hk); (try clear hi)))
          go_ret
          exact rt_ (bw_ HB.out)
         ·rw [if_neg c62] at H
          have c62b0 : (t572 == t575) = false := beq_eq_false_iff_ne.mpr c62
          have c62b1 : (t572 != t575) = true := bne_iff_ne.mpr c62
          subst hr_
          exact absurd H (by simp)
        ·rw [if_neg c60] at H
         have c60b0 : (t572 == (t524.length : Int)) = false := beq_eq_false_iff_ne.mpr c60
         have c60b1 : (t572 != (t524.length : Int)) = true := bne_iff_ne.mpr c60
         subst hr_
         exact absurd H (by simp)
       ·rw [if_neg c59] at H
        have c59b0 : (t564 == t515 && ((t565 == t516 && (t566 == t517 && (t567 == t518))) && ((t568 == t519 && (t569 == t520 && (t570 == t521))) && (t571 == t522)))) = false := by simpa using c59
        (try (have c59b1 : decide (t564 = t515 && ((t565 == t516 && (t566 == t517 && (t567 == t518))) && ((t568 == t519 && (t569 == t520 && (t570 == t521))) && (t571 == t522)))) = false := by simpa using c59))
        (try (have c59b2 : (t564 == t515 && ((t565 == t516 && (t566 == t517 && (t567 == t518))) && ((t568 == t519 && (t569 == t520 && (t570 == t521))) && (t571 == t522)))) = false := by simpa using c59))
        (try (have c59b3 : ¬ (t564 = t515 && ((t565 == t516 && (t566 == t517 && (t567 == t518))) && ((t568 == t519 && (t569 == t520 && (t570 == t521))) && (t571 == t522)))) := by simpa using c59))
        clear c59
        subst hr_
        exact absurd H (by simp)
      ·replace c58 := Bool.eq_false_iff.mpr c58
       subst c58
       rw [if_neg (show ¬ (false = true) by decide)] at H
       subst hr_
       exact absurd H (by simp)
     ·replace c56 := Bool.eq_false_iff.mpr c56
      subst c56
      rw [if_neg (show ¬ (false = true) by decide)] at H
      by_cases c79 : (t524.length : Int) = 0
      ·rw [if_pos c79] at H
       have c79b0 : ((t524.length : Int) == 0) = true := beq_iff_eq.mpr c79
       have c79b1 : ((t524.length : Int) != 0) = false := bne_eq_false_iff_eq.mpr c79
       clear c79
       replace H := Option.bind_eq_some_iff.mp H
       obtain ⟨t577, A800, H⟩ := H
       try dsimp only at H
       have A80 := Aside0.mk A800
       clear A800
       obtain rfl := Option.some.inj H
       have hnb81 := NB523_541.out
       have hnc81 := NB541_523.out
       have hnb82 := NB523_552.out
       have hnc82 := NB552_523.out
       obtain ⟨hcz83_0, hcz83_1, hcz83_2, hcz83_3, hcz83_4, hcz83_5, hcz83_6, hcz83_7, hfz83_0, hfz83_1, hfz83_2, hfz83_3, hfz83_4, hfz83_5, hfz83_6, hfz83_7⟩ := cz8_ BK523.out
       go_wp2_with (first | ((with_reducible refine gate_callee (f := 19) rfl ?_); refine gL_ (some 71) Try.func19 #[.agg #[.int .i64 t515, .int .i64 t516, .int .i64 t517, .int .i64 t518, .int .i64 t519, .int .i64 t520, .int .i64 t521, .int .i64 t522]] ?_; (with_reducible refine (spec_InsOk.calls kj8 t515 t516 t517 t518 t519 t520 t521 t522 false _ A55.out).mono ?_); rintro e w84 ⟨rfl, hb⟩; refine ⟨_, rfl, ?_⟩; have n0_ := Aside0.mk (Kd.R_below (by (with_reducible repeat (first | apply Kd.R_alloc | apply Kd.R_drewN | apply Kd.R_drew)); exact HO_4.out) hb); have n1_ := Aside0.mk (blk_below (bk_ BK523.out) hb); have n2_ := Aside0.mk (blk_below (bk_ BK541.out) hb); have n3_ := Aside0.mk (blk_below (bk_ BK552.out) hb); have n4_ := Aside0.mk (below_step (bw_ HB.out) hb); clear HO_4; clear BK523; clear BK541; clear BK552; clear HB; have HO_4 := n0_; have BK523 := n1_; have BK541 := n2_; have BK552 := n3_; have HB := n4_; clear n0_ n1_ n2_ n3_ n4_; (try clear hb); (try clear hb2); (try clear hk); (try clear hi); obtain ⟨Ao85, co85, eo85⟩ := Kd.R_slice HO_4.out; subst eo85; have hcz86_0 : w84.cell? ⟨gb523, 0, none⟩ = some (.int .i64 t515) := (blk_cell BK523.out 0).trans rfl; have hcz86_1 : w84.cell? ⟨gb523, 1, none⟩ = some (.int .i64 t516) := (blk_cell BK523.out 1).trans rfl; have hcz86_2 : w84.cell? ⟨gb523, 2, none⟩ = some (.int .i64 t517) := (blk_cell BK523.out 2).trans rfl; have hcz86_3 : w84.cell? ⟨gb523, 3, none⟩ = some (.int .i64 t518) := (blk_cell BK523.out 3).trans rfl; have hcz86_4 : w84.cell? ⟨gb523, 4, none⟩ = some (.int .i64 t519) := (blk_cell BK523.out 4).trans rfl; have hcz86_5 : w84.cell? ⟨gb523, 5, none⟩ = some (.int .i64 t520) := (blk_cell BK523.out 5).trans rfl; have hcz86_6 : w84.cell? ⟨gb523, 6, none⟩ = some (.int .i64 t521) := (blk_cell BK523.out 6).trans rfl; have hcz86_7 : w84.cell? ⟨gb523, 7, none⟩ = some (.int .i64 t522) := (blk_cell BK523.out 7).trans rfl; have hfz86_0 := blk_frozen BK523.out 0; have hfz86_1 := blk_frozen BK523.out 1; have hfz86_2 := blk_frozen BK523.out 2; have hfz86_3 := blk_frozen BK523.out 3; have hfz86_4 := blk_frozen BK523.out 4; have hfz86_5 := blk_frozen BK523.out 5; have hfz86_6 := blk_frozen BK523.out 6; have hfz86_7 := blk_frozen BK523.out 7) | (go_at_call 20; (with_reducible refine (impl_InsOk.calls kj8 t515 t516 t517 t518 t519 t520 t521 t522 t577 _ A80.out).mono ?_); rintro e w87 ⟨rfl, hb⟩; have n0_ := Aside0.mk (Kd.R_below (by (with_reducible repeat (first | apply Kd.R_alloc | apply Kd.R_drewN | apply Kd.R_drew)); exact HO_4.out) hb); have n1_ := Aside0.mk (blk_below (bk_ BK523.out) hb); have n2_ := Aside0.mk (blk_below (bk_ BK541.out) hb); have n3_ := Aside0.mk (blk_below (bk_ BK552.out) hb); have n4_ := Aside0.mk (below_step (bw_ HB.out) hb); clear HO_4; clear BK523; clear BK541; clear BK552; clear HB; have HO_4 := n0_; have BK523 := n1_; have BK541 := n2_; have BK552 := n3_; have HB := n4_; clear n0_ n1_ n2_ n3_ n4_; (try clear hb); (try clear hb2); (try clear hk); (try clear hi)))
       go_ret
       exact rt_ (bw_ HB.out)
      ·rw [if_neg c79] at H
       have c79b0 : ((t524.length : Int) == 0) = false := beq_eq_false_iff_ne.mpr c79
       have c79b1 : ((t524.length : Int) != 0) = true := bne_iff_ne.mpr c79
       have c79b2 : ¬ (t524 = []) := fun h_ => c79 (by rw [h_]; rfl)
       subst hr_
       exact absurd H (by simp)

/-- THE ONE PURE STATEMENT of laws_FnCodes: yours. -/
def laws_FnCodes.Pure : Prop := ∀ (l0 : List Int), l0.length ≤ maxLen → l0.length * 1 ≤ 140737488351232 → (∀ x ∈ l0, (Lit.int .u8 x).wf = true) → ∃ k, laws_FnCodes.f k l0 = some true
theorem laws_FnCodes.walk (P : laws_FnCodes.Pure) (a0 : Option Addr) (len0 cap0 : Nat) (z0 : List Int) (w : World) (w0 : (a0 = none ∧ len0 = 0 ∧ cap0 = 0 ∧ z0 = []) ∨ ∃ x, a0 = some x ∧ len0 ≤ cap0 ∧ cap0 ≤ maxLen ∧ z0.length = cap0 ∧ (∀ i, i < z0.length → w.cell? (x.add i) = some (.int .u8 (z0.getD i 0))) ∧ ∀ n ∈ z0, (Lit.int .u8 n).wf = true) (y0 : len0 * 1 ≤ 140737488351232) :
  Calls Try.prog 10 #[.slice a0 len0 cap0] w fun e w' => e = .returned (.bool true) ∧ Below w.heap.size w w' := by
 obtain ⟨l0, rfl, hr0, hm0, hw0, hc0⟩ := ReadsInt.ofRowC w0
 obtain ⟨k, h⟩ := P l0 hm0 y0 hw0
 refine (laws_FnCodes.calls k _ _ l0 true w (Kd.C_of_reads (d := (0 : Int)) (h1 := fun _ => rfl) hr0) hc0 h rfl).mono ?_
 rintro e w' ⟨rfl, hd⟩
 exact ⟨rfl, hd⟩

end Go.Proofs.Ytajkjkdfcegdpaa.PFnCodes
