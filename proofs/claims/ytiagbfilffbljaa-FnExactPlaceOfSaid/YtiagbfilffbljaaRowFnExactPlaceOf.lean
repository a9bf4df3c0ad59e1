/- Proved: the given statement of the law FnExactPlaceOf: at every input the law returns true, and what came in reads as before. No further conditions. (After the form of the kit's printed rows.) -/
import Derived.Test.YtiagbfilffbljaaRows
import Derived.Test.YtiagbfilffbljaaLFnExactPlaceOf
import Derived.Test.YtiagbfilffbljaaPureFnExactPlaceOf
import Derived.Test.YtiagbfilffbljaaOpens
import Derived.WalkKit
import Derived.ProofKit
import Derived.OpenShut
import Derived.ShutString
import Derived.ChangeOld
import Derived.Below
import Derived.SizedLaws
namespace Go.Proofs.Ytiagbfilffbljaa.fnExactPlaceOf
open Go.ChangeShapes Go.WideShapes Go.ChangeAt Go.RowKit Opens
open Go.Proofs.YtiagbfilffbljaaW.PrintWords
open Go.ChangeMaps (open_string shut_string)
set_option linter.unusedVariables false
theorem own : ownKnob Try.prog.godebug = none := by kernel_rfl
theorem laidOut : laidOutB Try.prog = true := by kernel_rfl
set_option maxRecDepth 100000 in
theorem lifted (os : Os) (started : os.Started) (H : Type) (enc : TypeId × Value → H) :
    ReturnsInHanded {} Try.checked os 11 .any (Rows.fnExactPlaceOfSpec.pre6 enc Try.prog Try.f11 Rows.fnExactPlaceOfRow.domain false) (Rows.fnExactPlaceOfSpec.post enc Try.prog Try.f11 false true false false) := by
  refine returnsInHanded_of_change_sized (C := Try.checked) own started (by kernel_rfl) Try.func11
    (ChangeSpec.witness6 (enc := enc) (C := Try.checked) false ⟨#[], #[.agg #[.slice none 0 0, .slice none 0 0, .bool false, .bool false, .bool false, .bool false, .slice none 0 0, .slice none 0 0, .int .i64 0], .agg #[.int .i64 0, .int .i64 0, .int .i64 0]], []⟩ 8 (by kernel_rfl) (by kernel_rfl) (by kernel_rfl) (by kernel_rfl)) ?_
  intro W base args ds gs before hval0 hW hcnd hsz0 _
  have hsz : (DataW.weightsEach Try.prog (Try.f11.params.toList ++ Rows.fnExactPlaceOfSpec.plain.varTypes Try.prog) (ds ++ gs)).all (· ≤ reachBytes) = true := hsz0
  have hval : ∀ (j : Nat) t v, Try.f11.params[j]? = some t → args[j]? = some v → Value.okWide Try.prog W .any base t v := hval0
  have hW' := hW
  obtain ⟨p, q, hA0, hV, rfl, hfz, hnd⟩ := hW
  have hA : DataW.TrodAll enc Try.prog W 0 (fun _ => true) true Try.f11.params.toList args.toList ds p := hA0
  rw [Try.params11] at hA hval hsz
  obtain ⟨v0, vs0, d0, ds0, p0, q0, hargs, rfl, rfl, h0, r0⟩ := trodAll_cons hA
  obtain ⟨v1, vs1, d1, ds1, p1, q1, rfl, rfl, rfl, h1, r1⟩ := trodAll_cons r0
  obtain ⟨rfl, rfl, rfl⟩ := trodAll_nil r1
  obtain rfl : args = #[v0, v1] := by cases args; simp_all
  obtain ⟨rfl, rfl⟩ := trodVars_none hV
  obtain ⟨cs0, rfl, hn0⟩ := okWide_struct Try.underlying24 (hval 0 24 v0 rfl rfl)
  have k0 := h0
  have lt0 : ∀ x ∈ p0, x.block < W.heap.size := by obtain ⟨m, hm⟩ := k0; exact DataW.trod_lt m _ _ _ hm
  obtain ⟨e0_0, e0_1, e0_2, e0_3, e0_4, e0_5, e0_6, e0_7, e0_8, rfl⟩ := size9 (hn0.trans (by kernel_rfl))
  obtain ⟨fuel0, hf0⟩ := h0
  have hz0_ : DataW.trod enc Try.prog W 0 (fun _ => true) true fuel0 24 [e0_0, e0_1, e0_2, e0_3, e0_4, e0_5, e0_6, e0_7, e0_8] = some (d0, p0) := hf0
  obtain ⟨A0_0, len0_0, c0_0, z0_0, rfl, w0_0⟩ := ints_field rfl Try.underlying24 hz0_ 0 rfl Try.underlying22 Try.underlying3 (by kernel_rfl) (by kernel_rfl) rfl
  obtain ⟨l0_0, rfl, hr0_0, hm0_0, hw0_0, hc0_0⟩ := ReadsInt.ofRowC w0_0
  obtain ⟨A0_1, len0_1, c0_1, z0_1, rfl, w0_1⟩ := ints_field rfl Try.underlying24 hz0_ 1 rfl Try.underlying22 Try.underlying3 (by kernel_rfl) (by kernel_rfl) rfl
  obtain ⟨l0_1, rfl, hr0_1, hm0_1, hw0_1, hc0_1⟩ := ReadsInt.ofRowC w0_1
  obtain ⟨a0_2, rfl⟩ := bool_field Try.underlying24 hz0_ 2 rfl Try.underlying4 (by kernel_rfl) rfl
  obtain ⟨a0_3, rfl⟩ := bool_field Try.underlying24 hz0_ 3 rfl Try.underlying4 (by kernel_rfl) rfl
  obtain ⟨a0_4, rfl⟩ := bool_field Try.underlying24 hz0_ 4 rfl Try.underlying4 (by kernel_rfl) rfl
  obtain ⟨a0_5, rfl⟩ := bool_field Try.underlying24 hz0_ 5 rfl Try.underlying4 (by kernel_rfl) rfl
  obtain ⟨A0_6, len0_6, c0_6, z0_6, rfl, w0_6⟩ := ints_field rfl Try.underlying24 hz0_ 6 rfl Try.underlying22 Try.underlying3 (by kernel_rfl) (by kernel_rfl) rfl
  obtain ⟨l0_6, rfl, hr0_6, hm0_6, hw0_6, hc0_6⟩ := ReadsInt.ofRowC w0_6
  obtain ⟨A0_7, len0_7, c0_7, z0_7, rfl, w0_7⟩ := ints_field rfl Try.underlying24 hz0_ 7 rfl Try.underlying22 Try.underlying3 (by kernel_rfl) (by kernel_rfl) rfl
  obtain ⟨l0_7, rfl, hr0_7, hm0_7, hw0_7, hc0_7⟩ := ReadsInt.ofRowC w0_7
  obtain ⟨a0_8, rfl, w0_8⟩ := int_field Try.underlying24 hz0_ 8 rfl Try.underlying3 (by kernel_rfl) rfl
  obtain ⟨cs1, rfl, hn1⟩ := okWide_struct Try.underlying60 (hval 1 60 v1 rfl rfl)
  have k1 := h1
  have lt1 : ∀ x ∈ p1, x.block < W.heap.size := by obtain ⟨m, hm⟩ := k1; exact DataW.trod_lt m _ _ _ hm
  obtain ⟨e1_0, e1_1, e1_2, rfl⟩ := size3 (hn1.trans (by kernel_rfl))
  obtain ⟨fuel1, hf1⟩ := h1
  have hz1_ : DataW.trod enc Try.prog W 0 (fun _ => true) true fuel1 60 [e1_0, e1_1, e1_2] = some (d1, p1) := hf1
  obtain ⟨a1_0, rfl, w1_0⟩ := int_field Try.underlying60 hz1_ 0 rfl Try.underlying3 (by kernel_rfl) rfl
  obtain ⟨a1_1, rfl, w1_1⟩ := int_field Try.underlying60 hz1_ 1 rfl Try.underlying3 (by kernel_rfl) rfl
  obtain ⟨a1_2, rfl, w1_2⟩ := int_field Try.underlying60 hz1_ 2 rfl Try.underlying3 (by kernel_rfl) rfl
  clear hA0 hval0 hsz0 hsz
  have hp := Pure.FnExactPlaceOf l0_0 l0_1 a0_2 a0_3 a0_4 a0_5 l0_6 l0_7 a0_8 a1_0 a1_1 a1_2 hm0_0 hw0_0 hm0_1 hw0_1 hm0_6 hw0_6 hm0_7 hw0_7 w0_8 w1_0 w1_1 w1_2
  refine (WFnExactPlaceOf.law _ _ l0_0 _ _ l0_1 a0_2 a0_3 a0_4 a0_5 _ _ l0_6 _ _ l0_7 a0_8 a1_0 a1_1 a1_2 W (Kd.C_of_reads (d := (0 : Int)) (h1 := fun _ => rfl) hr0_0) hc0_0 (Kd.C_of_reads (d := (0 : Int)) (h1 := fun _ => rfl) hr0_1) hc0_1 (Kd.C_of_reads (d := (0 : Int)) (h1 := fun _ => rfl) hr0_6) hc0_6 (Kd.C_of_reads (d := (0 : Int)) (h1 := fun _ => rfl) hr0_7) hc0_7 hp).mono fun e W' hd => ?_
  obtain ⟨he, hb⟩ := hd
  have bel : Below W.heap.size W W' := hb
  subst he
  exact ⟨_, rfl, _, _, _, [], _, [], hW', trodAll_mk1 (shut_bool Try.underlying4 _), (trodAll_cons_mk (Below.trod laidOut (by kernel_rfl) (of_decide_eq_true (by kernel_rfl)) k0 bel lt0) (trodAll_cons_mk (Below.trod laidOut (by kernel_rfl) (of_decide_eq_true (by kernel_rfl)) k1 bel lt1) trodAll_mk0)), rfl, bel.frame _, fun h => by cases h⟩
theorem over : Rows.fnExactPlaceOfRow.holds Try.pinned (OpenSpec.ofChange Rows.fnExactPlaceOfSpec) :=
  OpenClaim.holds_of_wide 11 Try.f11 rfl rfl rfl rfl rfl rfl rfl ⟨rfl, rfl, rfl, rfl, rfl⟩ rfl rfl rfl rfl rfl (by kernel_rfl) Try.func11 (by kernel_rfl)
    (of_decide_eq_true (by kernel_rfl)) (by unfold Func.isWrapper; first | (rw [if_pos (by decide +kernel)]; kernel_rfl) | (rw [if_neg (by decide +kernel)]; exact ⟨rfl, rfl⟩))
    (fun os started H enc _ => lifted os started H enc)
theorem proved : Rows.FnExactPlaceOfSaid := over
#print axioms proved
end Go.Proofs.Ytiagbfilffbljaa.fnExactPlaceOf
namespace Go.Proofs.Ytiagbfilffbljaa
/-- The row, under a short name, for the claim. -/
theorem fnExactPlaceOf_holds : Rows.FnExactPlaceOfSaid := fnExactPlaceOf.proved
end Go.Proofs.Ytiagbfilffbljaa
