/- Proved: the given statement of the law FnExactEncode: at every input the law returns true, and what came in reads as before. No further conditions. (After the form of the kit's printed rows.) -/
import Derived.Test.YtajkjkdfcegdpaaRows
import Derived.Test.YtajkjkdfcegdpaaPFnExactEncodex10
import Derived.Test.YtajkjkdfcegdpaaPureFnExactEncode
import Derived.Test.YtajkjkdfcegdpaaOpens
import Derived.WalkKit
import Derived.ProofKit
import Derived.OpenShut
import Derived.ShutString
import Derived.ChangeOld
import Derived.Below
import Derived.SizedLaws
namespace Go.Proofs.Ytajkjkdfcegdpaa.fnExactEncode
open Go.ChangeShapes Go.WideShapes Go.ChangeAt Go.RowKit Opens
open Go.Proofs.YtajkjkdfcegdpaaW.PrintWords
open Go.ChangeMaps (open_string shut_string)
set_option linter.unusedVariables false
theorem own : ownKnob Try.prog.godebug = none := by kernel_rfl
theorem laidOut : laidOutB Try.prog = true := by kernel_rfl
set_option maxRecDepth 100000 in
theorem lifted (os : Os) (started : os.Started) (H : Type) (enc : TypeId × Value → H) :
    ReturnsInHanded {} Try.checked os 7 .any (Rows.fnExactEncodeSpec.pre6 enc Try.prog Try.f7 Rows.fnExactEncodeRow.domain false) (Rows.fnExactEncodeSpec.post enc Try.prog Try.f7 false true false false) := by
  refine returnsInHanded_of_change_sized (C := Try.checked) own started (by kernel_rfl) Try.func7
    (ChangeSpec.witness6 (enc := enc) (C := Try.checked) false ⟨#[], #[.agg #[.int .i64 0, .int .i64 0, .int .i64 0, .int .i64 0, .int .i64 0, .int .i64 0, .int .i64 0, .int .i64 0]], []⟩ 8 (by kernel_rfl) (by kernel_rfl) (by kernel_rfl) (by kernel_rfl)) ?_
  intro W base args ds gs before hval0 hW hcnd hsz0 _
  have hsz : (DataW.weightsEach Try.prog (Try.f7.params.toList ++ Rows.fnExactEncodeSpec.plain.varTypes Try.prog) (ds ++ gs)).all (· ≤ reachBytes) = true := hsz0
  have hval : ∀ (j : Nat) t v, Try.f7.params[j]? = some t → args[j]? = some v → Value.okWide Try.prog W .any base t v := hval0
  have hW' := hW
  obtain ⟨p, q, hA0, hV, rfl, hfz, hnd⟩ := hW
  have hA : DataW.TrodAll enc Try.prog W 0 (fun _ => true) true Try.f7.params.toList args.toList ds p := hA0
  rw [Try.params7] at hA hval hsz
  obtain ⟨v0, vs0, d0, ds0, p0, q0, hargs, rfl, rfl, h0, r0⟩ := trodAll_cons hA
  obtain ⟨rfl, rfl, rfl⟩ := trodAll_nil r0
  obtain rfl : args = #[v0] := by cases args; simp_all
  obtain ⟨rfl, rfl⟩ := trodVars_none hV
  obtain ⟨cs0, rfl, hn0⟩ := okWide_struct Try.underlying29 (hval 0 29 v0 rfl rfl)
  have k0 := h0
  have lt0 : ∀ x ∈ p0, x.block < W.heap.size := by obtain ⟨m, hm⟩ := k0; exact DataW.trod_lt m _ _ _ hm
  obtain ⟨e0_0, e0_1, e0_2, e0_3, e0_4, e0_5, e0_6, e0_7, rfl⟩ := size8 (hn0.trans (by kernel_rfl))
  obtain ⟨fuel0, hf0⟩ := h0
  have hz0_ : DataW.trod enc Try.prog W 0 (fun _ => true) true fuel0 29 [e0_0, e0_1, e0_2, e0_3, e0_4, e0_5, e0_6, e0_7] = some (d0, p0) := hf0
  obtain ⟨a0_0, rfl, w0_0⟩ := int_field Try.underlying29 hz0_ 0 rfl Try.underlying3 (by kernel_rfl) rfl
  obtain ⟨mhz0_1_, yhz0_1_, whz0_1_⟩ := struct_field Try.underlying29 hz0_ 1 rfl (c := 3) (by kernel_rfl)
  have hz0_1_ : DataW.trod enc Try.prog W 0 (fun _ => true) true mhz0_1_ 23 [e0_1, e0_2, e0_3] = some yhz0_1_ := whz0_1_
  obtain ⟨a0_1, rfl, w0_1⟩ := int_field Try.underlying23 hz0_1_ 0 rfl Try.underlying3 (by kernel_rfl) rfl
  obtain ⟨a0_2, rfl, w0_2⟩ := int_field Try.underlying23 hz0_1_ 1 rfl Try.underlying3 (by kernel_rfl) rfl
  obtain ⟨a0_3, rfl, w0_3⟩ := int_field Try.underlying23 hz0_1_ 2 rfl Try.underlying3 (by kernel_rfl) rfl
  obtain ⟨mhz0_2_, yhz0_2_, whz0_2_⟩ := struct_field Try.underlying29 hz0_ 2 rfl (c := 3) (by kernel_rfl)
  have hz0_2_ : DataW.trod enc Try.prog W 0 (fun _ => true) true mhz0_2_ 23 [e0_4, e0_5, e0_6] = some yhz0_2_ := whz0_2_
  obtain ⟨a0_4, rfl, w0_4⟩ := int_field Try.underlying23 hz0_2_ 0 rfl Try.underlying3 (by kernel_rfl) rfl
  obtain ⟨a0_5, rfl, w0_5⟩ := int_field Try.underlying23 hz0_2_ 1 rfl Try.underlying3 (by kernel_rfl) rfl
  obtain ⟨a0_6, rfl, w0_6⟩ := int_field Try.underlying23 hz0_2_ 2 rfl Try.underlying3 (by kernel_rfl) rfl
  obtain ⟨a0_7, rfl, w0_7⟩ := int_field Try.underlying29 hz0_ 3 rfl Try.underlying3 (by kernel_rfl) rfl
  clear hA0 hval0 hsz0 hsz
  obtain ⟨k, hp⟩ := Pure.FnExactEncode a0_0 a0_1 a0_2 a0_3 a0_4 a0_5 a0_6 a0_7 w0_0 w0_1 w0_2 w0_3 w0_4 w0_5 w0_6 w0_7
  refine (PFnExactEncode.laws_FnExactEncode.calls k a0_0 a0_1 a0_2 a0_3 a0_4 a0_5 a0_6 a0_7 true W  hp).mono fun e W' hd => ?_
  obtain ⟨he, hb⟩ := hd
  have bel : Below W.heap.size W W' := hb
  subst he
  exact ⟨_, rfl, _, _, _, [], _, [], hW', trodAll_mk1 (shut_bool Try.underlying4 _), (trodAll_cons_mk (Below.trod laidOut (by kernel_rfl) (of_decide_eq_true (by kernel_rfl)) k0 bel lt0) trodAll_mk0), rfl, bel.frame _, fun h => by cases h⟩
theorem over : Rows.fnExactEncodeRow.holds Try.pinned (OpenSpec.ofChange Rows.fnExactEncodeSpec) :=
  OpenClaim.holds_of_wide 7 Try.f7 rfl rfl rfl rfl rfl rfl rfl ⟨rfl, rfl, rfl, rfl, rfl⟩ rfl rfl rfl rfl rfl (by kernel_rfl) Try.func7 (by kernel_rfl)
    (of_decide_eq_true (by kernel_rfl)) (by unfold Func.isWrapper; first | (rw [if_pos (by decide +kernel)]; kernel_rfl) | (rw [if_neg (by decide +kernel)]; exact ⟨rfl, rfl⟩))
    (fun os started H enc _ => lifted os started H enc)
theorem proved : Rows.FnExactEncodeSaid := over
#print axioms proved
end Go.Proofs.Ytajkjkdfcegdpaa.fnExactEncode
namespace Go.Proofs.Ytajkjkdfcegdpaa
/-- The row, under a short name, for the claim. -/
theorem fnExactEncode_holds : Rows.FnExactEncodeSaid := fnExactEncode.proved
end Go.Proofs.Ytajkjkdfcegdpaa
