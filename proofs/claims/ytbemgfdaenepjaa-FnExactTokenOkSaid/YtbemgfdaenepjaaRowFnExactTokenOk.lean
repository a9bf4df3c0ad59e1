/- Proved: the given statement of the law FnExactTokenOk: at every input the law returns true, and what came in reads as before. No further conditions. (After the form of the kit's printed rows.) -/
import Derived.Test.YtbemgfdaenepjaaRows
import Derived.Test.YtbemgfdaenepjaaPFnExactTokenOkx3
import Derived.Test.YtbemgfdaenepjaaPureFnExactTokenOk
import Derived.Test.YtbemgfdaenepjaaOpens
import Derived.WalkKit
import Derived.ProofKit
import Derived.OpenShut
import Derived.ShutString
import Derived.ChangeOld
import Derived.Below
import Derived.SizedLaws
namespace Go.Proofs.Ytbemgfdaenepjaa.fnExactTokenOk
open Go.ChangeShapes Go.WideShapes Go.ChangeAt Go.RowKit Opens
open Go.Proofs.YtbemgfdaenepjaaW.PrintWords
open Go.ChangeMaps (open_string shut_string)
set_option linter.unusedVariables false
theorem own : ownKnob Try.prog.godebug = none := by kernel_rfl
theorem laidOut : laidOutB Try.prog = true := by kernel_rfl
set_option maxRecDepth 100000 in
theorem lifted (os : Os) (started : os.Started) (H : Type) (enc : TypeId × Value → H) :
    ReturnsInHanded {} Try.checked os 3 .any (Rows.fnExactTokenOkSpec.pre6 enc Try.prog Try.f3 Rows.fnExactTokenOkRow.domain false) (Rows.fnExactTokenOkSpec.post enc Try.prog Try.f3 false true false false) := by
  refine returnsInHanded_of_change_sized (C := Try.checked) own started (by kernel_rfl) Try.func3
    (ChangeSpec.witness6 (enc := enc) (C := Try.checked) false ⟨#[], #[.agg #[.int .i64 0, .int .i64 0, .string ByteArray.empty]], []⟩ 8 (by kernel_rfl) (by kernel_rfl) (by kernel_rfl) (by kernel_rfl)) ?_
  intro W base args ds gs before hval0 hW hcnd hsz0 _
  have hsz : (DataW.weightsEach Try.prog (Try.f3.params.toList ++ Rows.fnExactTokenOkSpec.plain.varTypes Try.prog) (ds ++ gs)).all (· ≤ reachBytes) = true := hsz0
  have hval : ∀ (j : Nat) t v, Try.f3.params[j]? = some t → args[j]? = some v → Value.okWide Try.prog W .any base t v := hval0
  have hW' := hW
  obtain ⟨p, q, hA0, hV, rfl, hfz, hnd⟩ := hW
  have hA : DataW.TrodAll enc Try.prog W 0 (fun _ => true) true Try.f3.params.toList args.toList ds p := hA0
  rw [Try.params3] at hA hval hsz
  obtain ⟨v0, vs0, d0, ds0, p0, q0, hargs, rfl, rfl, h0, r0⟩ := trodAll_cons hA
  obtain ⟨rfl, rfl, rfl⟩ := trodAll_nil r0
  obtain rfl : args = #[v0] := by cases args; simp_all
  obtain ⟨rfl, rfl⟩ := trodVars_none hV
  obtain ⟨cs0, rfl, hn0⟩ := okWide_struct Try.underlying23 (hval 0 23 v0 rfl rfl)
  have k0 := h0
  have lt0 : ∀ x ∈ p0, x.block < W.heap.size := by obtain ⟨m, hm⟩ := k0; exact DataW.trod_lt m _ _ _ hm
  obtain ⟨e0_0, e0_1, e0_2, rfl⟩ := size3 (hn0.trans (by kernel_rfl))
  obtain ⟨fuel0, hf0⟩ := h0
  have hz0_ : DataW.trod enc Try.prog W 0 (fun _ => true) true fuel0 23 [e0_0, e0_1, e0_2] = some (d0, p0) := hf0
  obtain ⟨a0_0, rfl, w0_0⟩ := int_field Try.underlying23 hz0_ 0 rfl Try.underlying3 (by kernel_rfl) rfl
  obtain ⟨a0_1, rfl, w0_1⟩ := int_field Try.underlying23 hz0_ 1 rfl Try.underlying3 (by kernel_rfl) rfl
  obtain ⟨a0_2, rfl, w0_2⟩ := string_field Try.underlying23 hz0_ 2 rfl Try.underlying9 (by kernel_rfl) rfl
  clear hA0 hval0 hsz0 hsz
  obtain ⟨k, hp⟩ := Pure.FnExactTokenOk a0_0 a0_1 a0_2 w0_0 w0_1 w0_2
  refine (PFnExactTokenOk.laws_FnExactTokenOk.calls k a0_0 a0_1 a0_2 true W  hp rfl).mono fun e W' hd => ?_
  obtain ⟨he, hb⟩ := hd
  have bel : Below W.heap.size W W' := hb
  subst he
  exact ⟨_, rfl, _, _, _, [], _, [], hW', trodAll_mk1 (shut_bool Try.underlying4 _), (trodAll_cons_mk (Below.trod laidOut (by kernel_rfl) (of_decide_eq_true (by kernel_rfl)) k0 bel lt0) trodAll_mk0), rfl, bel.frame _, fun h => by cases h⟩
theorem over : Rows.fnExactTokenOkRow.holds Try.pinned (OpenSpec.ofChange Rows.fnExactTokenOkSpec) :=
  OpenClaim.holds_of_wide 3 Try.f3 rfl rfl rfl rfl rfl rfl rfl ⟨rfl, rfl, rfl, rfl, rfl⟩ rfl rfl rfl rfl rfl (by kernel_rfl) Try.func3 (by kernel_rfl)
    (of_decide_eq_true (by kernel_rfl)) (by unfold Func.isWrapper; first | (rw [if_pos (by decide +kernel)]; kernel_rfl) | (rw [if_neg (by decide +kernel)]; exact ⟨rfl, rfl⟩))
    (fun os started H enc _ => lifted os started H enc)
theorem proved : Rows.FnExactTokenOkSaid := over
#print axioms proved
end Go.Proofs.Ytbemgfdaenepjaa.fnExactTokenOk
namespace Go.Proofs.Ytbemgfdaenepjaa
/-- The row, under a short name, for the claim. -/
theorem fnExactTokenOk_holds : Rows.FnExactTokenOkSaid := fnExactTokenOk.proved
end Go.Proofs.Ytbemgfdaenepjaa
