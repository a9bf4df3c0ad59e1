/- Proved: the given statement of the law FnExactFold: at every input the law returns true, and what came in reads as before. No further conditions. (After the form of the kit's printed rows.) -/
import Derived.Test.YtcpnhlhigpgonaaRows
import Derived.Test.YtcpnhlhigpgonaaLFnExactFold
import Derived.Test.YtcpnhlhigpgonaaPureFnExactFold
import Derived.Test.YtcpnhlhigpgonaaOpens
import Derived.Test.YtcpnhlhigpgonaaOXFnExactFold
import Derived.WalkKit
import Derived.ProofKit
import Derived.OpenShut
import Derived.ShutString
import Derived.ChangeOld
import Derived.Below
import Derived.SizedLaws
namespace Go.Proofs.Ytcpnhlhigpgonaa.fnExactFold
open Go.ChangeShapes Go.WideShapes Go.ChangeAt Go.RowKit Opens
open Go.Proofs.YtcpnhlhigpgonaaW.PrintWords
open Go.ChangeMaps (open_string shut_string)
set_option linter.unusedVariables false
theorem own : ownKnob Try.prog.godebug = none := by kernel_rfl
theorem laidOut : laidOutB Try.prog = true := by kernel_rfl
set_option maxRecDepth 100000 in
theorem lifted (os : Os) (started : os.Started) (H : Type) (enc : TypeId × Value → H) :
    ReturnsInHanded {} Try.checked os 10 .any (Rows.fnExactFoldSpec.pre6 enc Try.prog Try.f10 Rows.fnExactFoldRow.domain false) (Rows.fnExactFoldSpec.post enc Try.prog Try.f10 false true false false) := by
  refine returnsInHanded_of_change_sized (C := Try.checked) own started (by kernel_rfl) Try.func10
    (ChangeSpec.witness6 (enc := enc) (C := Try.checked) false ⟨#[], #[.agg #[.int .i64 0, .int .i64 0, .string ByteArray.empty, .slice none 0 0]], []⟩ 8 (by kernel_rfl) (by kernel_rfl) (by kernel_rfl) (by kernel_rfl)) ?_
  intro W base args ds gs before hval0 hW hcnd hsz0 _
  have hsz : (DataW.weightsEach Try.prog (Try.f10.params.toList ++ Rows.fnExactFoldSpec.plain.varTypes Try.prog) (ds ++ gs)).all (· ≤ reachBytes) = true := hsz0
  have hval : ∀ (j : Nat) t v, Try.f10.params[j]? = some t → args[j]? = some v → Value.okWide Try.prog W .any base t v := hval0
  have hW' := hW
  obtain ⟨p, q, hA0, hV, rfl, hfz, hnd⟩ := hW
  have hA : DataW.TrodAll enc Try.prog W 0 (fun _ => true) true Try.f10.params.toList args.toList ds p := hA0
  rw [Try.params10] at hA hval hsz
  obtain ⟨v0, vs0, d0, ds0, p0, q0, hargs, rfl, rfl, h0, r0⟩ := trodAll_cons hA
  obtain ⟨rfl, rfl, rfl⟩ := trodAll_nil r0
  obtain rfl : args = #[v0] := by cases args; simp_all
  obtain ⟨rfl, rfl⟩ := trodVars_none hV
  obtain ⟨cs0, rfl, hn0⟩ := okWide_struct Try.underlying24 (hval 0 24 v0 rfl rfl)
  have k0 := h0
  have lt0 : ∀ x ∈ p0, x.block < W.heap.size := by obtain ⟨m, hm⟩ := k0; exact DataW.trod_lt m _ _ _ hm
  obtain ⟨fuel0, hf0⟩ := h0
  obtain ⟨x0, hK0, g0⟩ := OXFnExactFold.expr_of fuel0 _ _ hf0
  obtain ⟨A0, c0, hcs0, hc0, hr0⟩ := PFnExactFold.k24_open hK0
  obtain rfl : cs0 = #[.int .i64 x0.f0, .int .i64 x0.f1, .string x0.f2, .slice A0 x0.f3.length c0] := Array.toList_inj.1 hcs0
  clear hA0 hval0 hsz0 hsz
  have hp := Pure.FnExactFold x0 g0
  refine (WFnExactFold.law x0.f0 x0.f1 x0.f2 _ _ x0.f3 W hr0 hc0 hp).mono fun e W' hd => ?_
  obtain ⟨he, hb⟩ := hd
  have bel : Below W.heap.size W W' := hb
  subst he
  exact ⟨_, rfl, _, _, _, [], _, [], hW', trodAll_mk1 (shut_bool Try.underlying4 _), (trodAll_cons_mk (Below.trod laidOut (by kernel_rfl) (of_decide_eq_true (by kernel_rfl)) k0 bel lt0) trodAll_mk0), rfl, bel.frame _, fun h => by cases h⟩
theorem over : Rows.fnExactFoldRow.holds Try.pinned (OpenSpec.ofChange Rows.fnExactFoldSpec) :=
  OpenClaim.holds_of_wide 10 Try.f10 rfl rfl rfl rfl rfl rfl rfl ⟨rfl, rfl, rfl, rfl, rfl⟩ rfl rfl rfl rfl rfl (by kernel_rfl) Try.func10 (by kernel_rfl)
    (of_decide_eq_true (by kernel_rfl)) (by unfold Func.isWrapper; first | (rw [if_pos (by decide +kernel)]; kernel_rfl) | (rw [if_neg (by decide +kernel)]; exact ⟨rfl, rfl⟩))
    (fun os started H enc _ => lifted os started H enc)
theorem proved : Rows.FnExactFoldSaid := over
#print axioms proved
end Go.Proofs.Ytcpnhlhigpgonaa.fnExactFold
namespace Go.Proofs.Ytcpnhlhigpgonaa
/-- The row, under a short name, for the claim. -/
theorem fnExactFold_holds : Rows.FnExactFoldSaid := fnExactFold.proved
end Go.Proofs.Ytcpnhlhigpgonaa
