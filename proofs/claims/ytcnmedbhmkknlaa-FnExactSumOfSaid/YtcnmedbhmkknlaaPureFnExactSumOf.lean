/- Proved: the law FnExactSumOf, as a plain function, answers true at all bytes; no further conditions. -/
import Derived.Test.YtcnmedbhmkknlaaPFnExactSumOfx1
import Derived.Test.YtcnmedbhmkknlaaCommon
namespace Go.Proofs.Ytcnmedbhmkknlaa.Pure
open Go.RowKit Go.Proofs.Ytcnmedbhmkknlaa.PFnExactSumOf Go.Proofs.YtcnmedbhmkknlaaW.PrintWords Go.Proofs.YtcnmedbhmkknlaaW.PrintLast Go.Proofs.Ytcnmedbhmkknlaa.Common
theorem toByteS_ok (l : List Int) (h : l.length ≤ 281474976710656) (k : Nat) (hk : l.length < k) : laws_toByteS.f k l = some l := by
  unfold laws_toByteS.f
  rw [if_pos (by omega), if_pos (by omega)]
  exact copy_loop 0 l (by omega) (fun k z i => laws_toByteS.l0 k l z i) (fun _ _ _ => rfl) k _ (by simp) hk
theorem eqByteS_ok (a b : List Int) (h : a.length ≤ 4611686018427387904) (k : Nat) (hk : a.length < k) : laws_eqByteS.f k a b = some (decide (a = b)) := by
  unfold laws_eqByteS.f
  by_cases e : (a.length : Int) = (b.length : Int)
  · rw [if_pos e]; exact eq_loop 0 a b (by omega) h (fun k x => laws_eqByteS.l0 k a b x) (fun _ _ => rfl) k hk
  · rw [if_neg e]; congr 1; symm; rw [decide_eq_false_iff_not]; intro h; subst h; exact e rfl
theorem eqByteS_self (a : List Int) (h : a.length ≤ 4611686018427387904) (k : Nat) (hk : a.length < k) : laws_eqByteS.f k a a = some true := by
  rw [eqByteS_ok a a h k hk]; simp
/-- minus the sum of the first i bytes. -/
def nsum (l : List Int) : Int := - l.sum
theorem specSum_loop (l : List Int) (hl : l.length ≤ 1048577) (hb : ∀ x ∈ l, 0 ≤ x ∧ x ≤ 255) :
    ∀ (r : Nat) (k : Nat) (s : Int) (i : Nat), l.length - i = r → i ≤ l.length → r < k → 0 ≤ s → s ≤ 65535 → spec_SumOf.l0 k l s i = some ((s - (l.drop i).sum) % 65536) := by
  intro r
  induction r with
  | zero =>
    intro k s i hr hi hk h0 h1
    obtain ⟨k, rfl⟩ : ∃ m, k = m + 1 := ⟨k - 1, by omega⟩
    simp only [spec_SumOf.l0]
    rw [if_neg (by omega), List.drop_of_length_le (by omega)]
    simp; omega
  | succ r ih =>
    intro k s i hr hi hk h0 h1
    obtain ⟨k, rfl⟩ : ∃ m, k = m + 1 := ⟨k - 1, by omega⟩
    have hlt : i < l.length := by omega
    have hx := hb (l[i]) (List.getElem_mem hlt)
    have hrd : rd l (i : Int) = l[i] := by simp [rd, List.getD_eq_getElem?_getD, hlt]
    have hd : (l.drop i).sum = l[i] + (l.drop (i + 1)).sum := by rw [List.drop_eq_getElem_cons hlt, List.sum_cons]
    simp only [spec_SumOf.l0]
    rw [if_pos (by omega), if_pos (by omega), hrd, w64 (x := l[i]) (by omega) (by omega), w64 (x := s - l[i]) (by omega) (by omega)]
    simp only [spec_Wrap.f, and65535, Option.bind_some]
    rw [w64 (x := (i : Int) + 1) (by omega) (by omega)]
    have := ih k ((s - l[i]) % 65536) (i + 1) (by omega) (by omega) (by omega) (by omega) (by omega)
    have e : ((i : Int) + 1) = ((i + 1 : Nat) : Int) := by omega
    rw [e, this, hd]
    congr 1
    omega
theorem specSumOf_ok (l : List Int) (hl : l.length ≤ 1048577) (hb : ∀ x ∈ l, 0 ≤ x ∧ x ≤ 255) (k : Nat) (hk : l.length < k) : spec_SumOf.f k l = some ((- l.sum) % 65536) := by
  unfold spec_SumOf.f
  have := specSum_loop l hl hb l.length k 0 0 (by omega) (by omega) hk (by omega) (by omega)
  simpa using this
theorem implSum_loop (l : List Int) (hl : l.length ≤ 1048577) (hb : ∀ x ∈ l, 0 ≤ x ∧ x ≤ 255) :
    ∀ (r : Nat) (k : Nat) (s : Int) (i : Nat), l.length - i = r → i ≤ l.length → r < k → - (256 * (i : Int)) ≤ s → s ≤ 0 → impl_SumOf.l0 k s l (l.length : Int) i = some ((s - (l.drop i).sum) % 65536) := by
  intro r
  induction r with
  | zero =>
    intro k s i hr hi hk h0 h1
    obtain ⟨k, rfl⟩ : ∃ m, k = m + 1 := ⟨k - 1, by omega⟩
    simp only [impl_SumOf.l0]
    rw [if_neg (by omega), List.drop_of_length_le (by omega)]
    simp [impl_Wrap.f, and65535]
  | succ r ih =>
    intro k s i hr hi hk h0 h1
    obtain ⟨k, rfl⟩ : ∃ m, k = m + 1 := ⟨k - 1, by omega⟩
    have hlt : i < l.length := by omega
    have hx := hb (l[i]) (List.getElem_mem hlt)
    have hrd : rd l (i : Int) = l[i] := by simp [rd, List.getD_eq_getElem?_getD, hlt]
    have hd : (l.drop i).sum = l[i] + (l.drop (i + 1)).sum := by rw [List.drop_eq_getElem_cons hlt, List.sum_cons]
    simp only [impl_SumOf.l0]
    rw [if_pos (by omega), if_pos (by omega), if_pos (by omega), hrd, w64 (x := l[i]) (by omega) (by omega), w64 (x := s - l[i]) (by omega) (by omega)]
    rw [w64 (x := (i : Int) + 1) (by omega) (by omega)]
    have := ih k (s - l[i]) (i + 1) (by omega) (by omega) (by omega) (by omega) (by omega)
    have e : ((i : Int) + 1) = ((i + 1 : Nat) : Int) := by omega
    rw [e, this, hd]
    congr 1
    omega
theorem implSumOf_ok (l : List Int) (hl : l.length ≤ 1048577) (hb : ∀ x ∈ l, 0 ≤ x ∧ x ≤ 255) (k : Nat) (hk : l.length < k) : impl_SumOf.f k l = some ((- l.sum) % 65536) := by
  unfold impl_SumOf.f
  have := implSum_loop l hl hb l.length k 0 0 (by omega) (by omega) hk (by omega) (by omega)
  simpa using this
theorem FnExactSumOf : laws_FnExactSumOf.Pure := by
  intro l0 _ hl hw
  refine ⟨l0.length + 5, ?_⟩
  unfold laws_FnExactSumOf.f
  by_cases hb : (l0.length : Int) > 1048576
  · rw [if_pos hb]
  rw [if_neg hb]
  have hby : ∀ x ∈ l0, 0 ≤ x ∧ x ≤ 255 := fun x hx => wf8 (hw x hx)
  simp only [toByteS_ok l0 (by omega) (l0.length + 5) (by omega), Option.bind_some, specSumOf_ok l0 (by omega) hby (l0.length + 5) (by omega), implSumOf_ok l0 (by omega) hby (l0.length + 5) (by omega), eqByteS_self l0 (by omega) (l0.length + 5) (by omega)]
  simp

end Go.Proofs.Ytcnmedbhmkknlaa.Pure
