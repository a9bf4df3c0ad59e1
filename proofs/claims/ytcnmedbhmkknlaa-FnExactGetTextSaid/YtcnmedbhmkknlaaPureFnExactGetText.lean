/- Proved: the law FnExactGetText, as a plain function, answers true at all bytes and each int; no further conditions. -/
import Derived.Test.YtcnmedbhmkknlaaPFnExactGetTextx1
import Derived.Test.YtcnmedbhmkknlaaCommon
namespace Go.Proofs.Ytcnmedbhmkknlaa.Pure
open Go.RowKit Go.Proofs.Ytcnmedbhmkknlaa.PFnExactGetText Go.Proofs.YtcnmedbhmkknlaaW.PrintWords Go.Proofs.YtcnmedbhmkknlaaW.PrintLast Go.Proofs.Ytcnmedbhmkknlaa.Common
theorem toByteS_ok (l : List Int) (h : l.length ≤ 281474976710656) (k : Nat) (hk : l.length < k) : laws_toByteS.f k l = some l := by
  unfold laws_toByteS.f
  rw [if_pos (by omega), if_pos (by omega)]
  exact copy_loop 0 l (by omega) (fun k z i => laws_toByteS.l0 k l z i) (fun _ _ _ => rfl) k _ (by simp) hk
theorem eqByteS_ok (a b : List Int) (h : a.length ≤ 4611686018427387904) (k : Nat) (hk : a.length < k) : laws_eqByteS.f k a b = some (decide (a = b)) := by
  unfold laws_eqByteS.f
  by_cases e : (a.length : Int) = (b.length : Int)
  · rw [if_pos e]; exact eq_loop 0 a b (by omega) h (fun k x => laws_eqByteS.l0 k a b x) (fun _ _ => rfl) k hk
  · rw [if_neg e]; congr 1; symm; rw [decide_eq_false_iff_not]; intro h; subst h; exact e rfl
theorem eqByteS_self (a : List Int) (h : a.length ≤ 4611686018427387904) (k : Nat) (hk : a.length < k) : laws_eqByteS.f k a a = some true := by
  rw [eqByteS_ok a a h k hk]; simp
theorem getW_same (l : List Int) (a : Int) (h : l.length ≤ 4611686018427387904) : impl_GetW.f l a = spec_GetW.f l a := by
  unfold impl_GetW.f spec_GetW.f
  by_cases h0 : a < 0
  · rw [if_pos h0, if_pos h0]
  rw [if_neg h0, if_neg h0, w64 (x := (l.length : Int) - 2) (by omega) (by omega)]
  by_cases h1 : a ≥ (l.length : Int)
  · rw [if_pos (by omega), if_pos h1]
  rw [if_neg h1, w64 (x := a + 1) (by omega) (by omega)]
  by_cases h2 : a + 1 ≥ (l.length : Int)
  · rw [if_pos (by omega), if_pos h2]
  rw [if_neg (by omega), if_neg h2]
theorem specGetW_cases (l : List Int) (a : Int) (h : l.length ≤ 4611686018427387904) : spec_GetW.f l a = some (0, 0, false) ∨
    (0 ≤ a ∧ a + 2 ≤ l.length ∧ spec_GetW.f l a = some (bits .or .i64 (wrap64 (rd l a)) (wrap64 (wrap64 (rd l (a + 1)) * 256)), a + 2, true)) := by
  unfold spec_GetW.f
  by_cases h0 : a < 0
  · left; rw [if_pos h0]
  rw [if_neg h0]
  by_cases h1 : a ≥ (l.length : Int)
  · left; rw [if_pos h1]
  rw [if_neg h1, w64 (x := a + 1) (by omega) (by omega)]
  by_cases h2 : a + 1 ≥ (l.length : Int)
  · left; rw [if_pos h2]
  right
  rw [if_neg h2, if_pos (by omega), if_pos (by omega), if_pos (by omega), if_pos (by omega), w64 (x := a + 2) (by omega) (by omega)]
  exact ⟨by omega, by omega, rfl⟩
theorem FnExactGetText : laws_FnExactGetText.Pure := by
  intro l0 a1 _ hl hw ha
  refine ⟨l0.length + 5, ?_⟩
  unfold laws_FnExactGetText.f
  by_cases hb : (l0.length : Int) > 1048576
  · rw [if_pos hb]
  rw [if_neg hb]
  have hs : impl_GetText.f l0 a1 = spec_GetText.f l0 a1 := by
    unfold impl_GetText.f spec_GetText.f
    rw [getW_same l0 a1 (by omega)]
  have hby : ∀ x ∈ l0, 0 ≤ x ∧ x ≤ 255 := fun x hx => wf8 (hw x hx)
  have hr : ∃ r, spec_GetText.f l0 a1 = some r := by
    unfold spec_GetText.f
    rcases specGetW_cases l0 a1 (by omega) with h | ⟨h0, h1, h⟩
    · rw [h]; simp only [Option.bind_some]; exact ⟨_, by rw [if_neg (by simp)]⟩
    · rw [h]; simp only [Option.bind_some, if_true]
      have hg : ∀ j : Int, 0 ≤ j → j < l0.length → 0 ≤ rd l0 j ∧ rd l0 j ≤ 255 := by
        intro j hj0 hj1
        have hlt : j.toNat < l0.length := by omega
        have : rd l0 j = l0[j.toNat] := by simp [rd, List.getD_eq_getElem?_getD, hlt]
        rw [this]; exact hby _ (List.getElem_mem hlt)
      have ha0 := hg a1 h0 (by omega)
      have ha1 := hg (a1 + 1) (by omega) (by omega)
      have hor : bits .or .i64 (wrap64 (rd l0 a1)) (wrap64 (wrap64 (rd l0 (a1 + 1)) * 256)) = rd l0 a1 + rd l0 (a1 + 1) * 256 := by
        rw [w64 (x := rd l0 a1) (by omega) (by omega), w64 (x := rd l0 (a1 + 1)) (by omega) (by omega), w64 (x := rd l0 (a1 + 1) * 256) (by omega) (by omega)]
        exact or_bytes _ _ ha0.1 ha0.2 ha1.1 (by omega)
      rw [hor]
      have hn0 : 0 ≤ rd l0 a1 + rd l0 (a1 + 1) * 256 := by omega
      generalize rd l0 a1 + rd l0 (a1 + 1) * 256 = n at *
      by_cases h2 : n > 1000
      · exact ⟨_, by rw [if_pos h2]⟩
      rw [if_neg h2]
      rw [w64 (x := (l0.length : Int) - (a1 + 2)) (by omega) (by omega)]
      by_cases h3 : n > (l0.length : Int) - (a1 + 2)
      · exact ⟨_, by rw [if_pos h3]⟩
      rw [if_neg h3]
      have hn : 0 ≤ n := hn0
      rw [w64 (x := a1 + 2 + n) (by omega) (by omega), if_pos (by omega), if_pos (by omega), if_pos (by omega)]
      exact ⟨_, rfl⟩
  obtain ⟨r, hr⟩ := hr
  simp only [toByteS_ok l0 (by omega) (l0.length + 5) (by omega), Option.bind_some, hs, hr, bne_self_eq_false, if_true]
  rw [laws_FnExactGetText.j0]
  simp only [toByteS_ok l0 (by omega) (l0.length + 4) (by omega), Option.bind_some, eqByteS_self l0 (by omega) (l0.length + 4) (by omega)]
  simp

end Go.Proofs.Ytcnmedbhmkknlaa.Pure
