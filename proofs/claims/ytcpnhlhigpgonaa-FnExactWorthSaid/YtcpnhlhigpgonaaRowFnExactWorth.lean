/- Proved: the given statement of the law FnExactWorth: at every input the law returns true, and what came in reads as before. No further conditions. (After the form of the kit's printed rows.) -/
import Derived.Test.YtcpnhlhigpgonaaRows
import Derived.Test.YtcpnhlhigpgonaaPFnExactWorthx10
import Derived.Test.YtcpnhlhigpgonaaPureFnExactWorth
import Derived.Test.YtcpnhlhigpgonaaOpens
import Derived.Test.YtcpnhlhigpgonaaOXFnExactWorth
import Derived.WalkKit
import Derived.ProofKit
import Derived.OpenShut
import Derived.ShutString
import Derived.ChangeOld
import Derived.Below
import Derived.SizedLaws
namespace Go.Proofs.Ytcpnhlhigpgonaa.fnExactWorth
open Go.ChangeShapes Go.WideShapes Go.ChangeAt Go.RowKit Opens
open Go.Proofs.YtcpnhlhigpgonaaW.PrintWords
open Go.ChangeMaps (open_string shut_string)
set_option linter.unusedVariables false
theorem own : ownKnob Try.prog.godebug = none := by kernel_rfl
theorem laidOut : laidOutB Try.prog = true := by kernel_rfl
set_option maxRecDepth 100000 in
theorem lifted (os : Os) (started : os.Started) (H : Type) (enc : TypeId × Value → H) :
    ReturnsInHanded {} Try.checked os 7 .any (Rows.fnExactWorthSpec.pre6 enc Try.prog Try.f7 Rows.fnExactWorthRow.domain false) (Rows.fnExactWorthSpec.post enc Try.prog Try.f7 false true false false) := by
  refine returnsInHanded_of_change_sized (C := Try.checked) own started (by kernel_rfl) Try.func7
    (ChangeSpec.witness6 (enc := enc) (C := Try.checked) false ⟨#[], #[.agg #[.int .i64 0, .int .i64 0, .string ByteArray.empty, .slice none 0 0], .slice none 0 0, .slice none 0 0, .slice none 0 0], []⟩ 8 (by kernel_rfl) (by kernel_rfl) (by kernel_rfl) (by kernel_rfl)) ?_
  intro W base args ds gs before hval0 hW hcnd hsz0 _
  have hsz : (DataW.weightsEach Try.prog (Try.f7.params.toList ++ Rows.fnExactWorthSpec.plain.varTypes Try.prog) (ds ++ gs)).all (· ≤ reachBytes) = true := hsz0
  have hval : ∀ (j : Nat) t v, Try.f7.params[j]? = some t → args[j]? = some v → Value.okWide Try.prog W .any base t v := hval0
  have hW' := hW
  obtain ⟨p, q, hA0, hV, rfl, hfz, hnd⟩ := hW
  have hA : DataW.TrodAll enc Try.prog W 0 (fun _ => true) true Try.f7.params.toList args.toList ds p := hA0
  rw [Try.params7] at hA hval hsz
  obtain ⟨v0, vs0, d0, ds0, p0, q0, hargs, rfl, rfl, h0, r0⟩ := trodAll_cons hA
  obtain ⟨v1, vs1, d1, ds1, p1, q1, rfl, rfl, rfl, h1, r1⟩ := trodAll_cons r0
  obtain ⟨v2, vs2, d2, ds2, p2, q2, rfl, rfl, rfl, h2, r2⟩ := trodAll_cons r1
  obtain ⟨v3, vs3, d3, ds3, p3, q3, rfl, rfl, rfl, h3, r3⟩ := trodAll_cons r2
  obtain ⟨rfl, rfl, rfl⟩ := trodAll_nil r3
  obtain rfl : args = #[v0, v1, v2, v3] := by cases args; simp_all
  obtain ⟨rfl, rfl⟩ := trodVars_none hV
  obtain ⟨cs0, rfl, hn0⟩ := okWide_struct Try.underlying24 (hval 0 24 v0 rfl rfl)
  have k0 := h0
  have lt0 : ∀ x ∈ p0, x.block < W.heap.size := by obtain ⟨m, hm⟩ := k0; exact DataW.trod_lt m _ _ _ hm
  obtain ⟨fuel0, hf0⟩ := h0
  obtain ⟨x0, hK0, g0⟩ := OXFnExactWorth.expr_of fuel0 _ _ hf0
  obtain ⟨A0, c0, hcs0, hc0, hr0⟩ := PFnExactWorth.k24_open hK0
  obtain rfl : cs0 = #[.int .i64 x0.f0, .int .i64 x0.f1, .string x0.f2, .slice A0 x0.f3.length c0] := Array.toList_inj.1 hcs0
  obtain ⟨a1, len1, cap1, rfl⟩ := okWide_slice Try.underlying39 (hval 1 39 v1 rfl rfl)
  have k1 := h1
  have lt1 : ∀ x ∈ p1, x.block < W.heap.size := by obtain ⟨m, hm⟩ := k1; exact DataW.trod_lt m _ _ _ hm
  obtain ⟨fuel1, hf1⟩ := h1
  have hz1_ : DataW.trod enc Try.prog W 0 (fun _ => true) true fuel1 39 [.slice a1 len1 cap1] = some (d1, p1) := hf1
  obtain ⟨A1, c1, l1, hcs1, hc1, hm1, hr1, hw1⟩ := OXFnExactWorth.ints_of Try.underlying39 Try.underlying3 (by kernel_rfl) hz1_
  obtain ⟨rfl, rfl, rfl⟩ : a1 = A1 ∧ len1 = l1.length ∧ cap1 = c1 := by simpa using hcs1
  obtain ⟨a2, len2, cap2, rfl⟩ := okWide_slice Try.underlying40 (hval 2 40 v2 rfl rfl)
  have k2 := h2
  have lt2 : ∀ x ∈ p2, x.block < W.heap.size := by obtain ⟨m, hm⟩ := k2; exact DataW.trod_lt m _ _ _ hm
  obtain ⟨fuel2, hf2⟩ := h2
  have hz2_ : DataW.trod enc Try.prog W 0 (fun _ => true) true fuel2 40 [.slice a2 len2 cap2] = some (d2, p2) := hf2
  obtain ⟨A2, c2, l2, hcs2, hc2, hm2, hr2, hw2⟩ := OXFnExactWorth.strings_of Try.underlying40 Try.underlying9 (by kernel_rfl) hz2_
  obtain ⟨rfl, rfl, rfl⟩ : a2 = A2 ∧ len2 = l2.length ∧ cap2 = c2 := by simpa using hcs2
  obtain ⟨a3, len3, cap3, rfl⟩ := okWide_slice Try.underlying39 (hval 3 39 v3 rfl rfl)
  have k3 := h3
  have lt3 : ∀ x ∈ p3, x.block < W.heap.size := by obtain ⟨m, hm⟩ := k3; exact DataW.trod_lt m _ _ _ hm
  obtain ⟨fuel3, hf3⟩ := h3
  have hz3_ : DataW.trod enc Try.prog W 0 (fun _ => true) true fuel3 39 [.slice a3 len3 cap3] = some (d3, p3) := hf3
  obtain ⟨A3, c3, l3, hcs3, hc3, hm3, hr3, hw3⟩ := OXFnExactWorth.ints_of Try.underlying39 Try.underlying3 (by kernel_rfl) hz3_
  obtain ⟨rfl, rfl, rfl⟩ : a3 = A3 ∧ len3 = l3.length ∧ cap3 = c3 := by simpa using hcs3
  clear hA0 hval0 hsz0 hsz
  obtain ⟨k, hp⟩ := Pure.FnExactWorth x0 l1 l2 l3 g0 hm1 hw1 hm2 hw2 hm3 hw3
  refine (PFnExactWorth.laws_FnExactWorth.calls k x0.f0 x0.f1 x0.f2 _ _ x0.f3 _ _ l1 _ _ l2 _ _ l3 true W hr0 hc0 hr1 hc1 hr2 hc2 hr3 hc3 hp rfl).mono fun e W' hd => ?_
  obtain ⟨he, hb⟩ := hd
  have bel : Below W.heap.size W W' := hb
  subst he
  exact ⟨_, rfl, _, _, _, [], _, [], hW', trodAll_mk1 (shut_bool Try.underlying4 _), (trodAll_cons_mk (Below.trod laidOut (by kernel_rfl) (of_decide_eq_true (by kernel_rfl)) k0 bel lt0) (trodAll_cons_mk (Below.trod laidOut (by kernel_rfl) (of_decide_eq_true (by kernel_rfl)) k1 bel lt1) (trodAll_cons_mk (Below.trod laidOut (by kernel_rfl) (of_decide_eq_true (by kernel_rfl)) k2 bel lt2) (trodAll_cons_mk (Below.trod laidOut (by kernel_rfl) (of_decide_eq_true (by kernel_rfl)) k3 bel lt3) trodAll_mk0)))), rfl, bel.frame _, fun h => by cases h⟩
theorem over : Rows.fnExactWorthRow.holds Try.pinned (OpenSpec.ofChange Rows.fnExactWorthSpec) :=
  OpenClaim.holds_of_wide 7 Try.f7 rfl rfl rfl rfl rfl rfl rfl ⟨rfl, rfl, rfl, rfl, rfl⟩ rfl rfl rfl rfl rfl (by kernel_rfl) Try.func7 (by kernel_rfl)
    (of_decide_eq_true (by kernel_rfl)) (by unfold Func.isWrapper; first | (rw [if_pos (by decide +kernel)]; kernel_rfl) | (rw [if_neg (by decide +kernel)]; exact ⟨rfl, rfl⟩))
    (fun os started H enc _ => lifted os started H enc)
theorem proved : Rows.FnExactWorthSaid := over
#print axioms proved
end Go.Proofs.Ytcpnhlhigpgonaa.fnExactWorth
namespace Go.Proofs.Ytcpnhlhigpgonaa
/-- The row, under a short name, for the claim. -/
theorem fnExactWorth_holds : Rows.FnExactWorthSaid := fnExactWorth.proved
end Go.Proofs.Ytcpnhlhigpgonaa
