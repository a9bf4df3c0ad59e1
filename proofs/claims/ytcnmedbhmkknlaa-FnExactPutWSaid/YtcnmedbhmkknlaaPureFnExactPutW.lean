/- Proved: the law FnExactPutW, as a plain function, answers true at all bytes and each int; no further conditions. -/
import Derived.Test.YtcnmedbhmkknlaaPFnExactPutWx2
import Derived.Test.YtcnmedbhmkknlaaCommon
namespace Go.Proofs.Ytcnmedbhmkknlaa.Pure
open Go.RowKit Go.Proofs.Ytcnmedbhmkknlaa.PFnExactPutW Go.Proofs.YtcnmedbhmkknlaaW.PrintWords Go.Proofs.YtcnmedbhmkknlaaW.PrintLast Go.Proofs.Ytcnmedbhmkknlaa.Common
theorem toByteS_ok (l : List Int) (h : l.length ≤ 281474976710656) (k : Nat) (hk : l.length < k) : laws_toByteS.f k l = some l := by
  unfold laws_toByteS.f
  rw [if_pos (by omega), if_pos (by omega)]
  exact copy_loop 0 l (by omega) (fun k z i => laws_toByteS.l0 k l z i) (fun _ _ _ => rfl) k _ (by simp) hk
theorem eqByteS_ok (a b : List Int) (h : a.length ≤ 4611686018427387904) (k : Nat) (hk : a.length < k) : laws_eqByteS.f k a b = some (decide (a = b)) := by
  unfold laws_eqByteS.f
  by_cases e : (a.length : Int) = (b.length : Int)
  · rw [if_pos e]; exact eq_loop 0 a b (by omega) h (fun k x => laws_eqByteS.l0 k a b x) (fun _ _ => rfl) k hk
  · rw [if_neg e]; congr 1; symm; rw [decide_eq_false_iff_not]; intro h; subst h; exact e rfl
theorem eqByteS_self (a : List Int) (h : a.length ≤ 4611686018427387904) (k : Nat) (hk : a.length < k) : laws_eqByteS.f k a a = some true := by
  rw [eqByteS_ok a a h k hk]; simp
theorem markByteS_ok (l : List Int) (m : Int) (h0 : 0 ≤ m) (h1 : m ≤ 2305843009213693952) (h : l.length ≤ 2305843009213693952) (k : Nat) (hk : l.length < k) : laws_markByteS.f k l m = some (m + l.length, marks (· % 256) l.length m) := by
  unfold laws_markByteS.f
  exact mark_loop (· % 256) (fun k a b c => laws_markByteS.l0 k a b c) (fun _ _ _ _ => rfl) m h0 h1 k l h hk
theorem heldByteS_ok (n : Nat) (m : Int) (h0 : 0 ≤ m) (h1 : m ≤ 2305843009213693952) (h : n ≤ 2305843009213693952) (k : Nat) (hk : n < k) : laws_heldByteS.f k (marks (· % 256) n m) m = some (m + n) := by
  unfold laws_heldByteS.f
  exact held_loop (· % 256) (fun k a b c => laws_heldByteS.l0 k a b c) (fun _ _ _ _ => rfl) m h0 h1 k n h hk
theorem joined2_ok (a b : List Int) (h : a.length + b.length < 140737488355328) (k : Nat) (hk : 3 ≤ k) : impl_joined.f k [a, b] = some (a ++ b) := by
  obtain ⟨k, rfl⟩ : ∃ m, k = m + 3 := ⟨k - 3, by omega⟩
  have e0 : rd_L1 [a, b] 0 = a := rfl
  have e1 : rd_L1 [a, b] 1 = b := rfl
  have w0 : wrap64 (0 + 1) = 1 := by simp [wrap64]
  have w1 : wrap64 (1 + 1) = 2 := by simp [wrap64]
  unfold impl_joined.f
  simp only [impl_joined.l0, e0, e1, w0, w1, List.length_cons, List.length_nil]
  rw [if_pos (by omega), if_pos (by omega), if_pos (by omega), if_pos (by simp; omega), if_pos (by omega), if_pos (by omega), if_pos (by omega), if_pos (by simp; omega), if_neg (by omega)]
  simp
def two (a : Int) : List Int := [a % 256, a / 256 % 256]
theorem two_length (a : Int) : (two a).length = 2 := rfl
theorem implPutW_ok (l : List Int) (a : Int) (h : l.length < 140737488350000) (k : Nat) (hk : 3 ≤ k) : impl_PutW.f k l a = some (l ++ two a) := by
  unfold impl_PutW.f
  rw [and255, and255, joined2_ok _ _ (by simp; omega) k hk]
  simp only [Option.bind_some, two]
  have e1 : a % 256 % 256 = a % 256 := by omega
  have e2 : a / 256 % 256 % 256 = a / 256 % 256 := by omega
  rw [e1, e2]
theorem specPutW_ok (l : List Int) (a : Int) (h : l.length < 140737488350000) : spec_PutW.f l a = some (l ++ two a) := by
  unfold spec_PutW.f spec_Wrap.f
  simp only [and65535, Option.bind_some]
  rw [if_pos (by simp; omega), if_pos (by simp; omega)]
  have e1 : a % 65536 % 256 = a % 256 := by omega
  have e2 : a % 65536 / 256 % 256 = a / 256 % 256 := by omega
  simp only [List.nil_append, two, e1, e2]
theorem FnExactPutW : laws_FnExactPutW.Pure := by
  intro l0 a1 _ hl hw ha
  refine ⟨l0.length + 9, ?_⟩
  unfold laws_FnExactPutW.f
  by_cases hb : (l0.length : Int) > 1048576
  · rw [if_pos hb]
  rw [if_neg hb]
  have hq : (l0 ++ two a1).length = l0.length + 2 := by simp [two_length]
  simp only [toByteS_ok l0 (by omega) (l0.length + 9) (by omega), Option.bind_some, specPutW_ok l0 a1 (by omega), implPutW_ok l0 a1 (by omega) (l0.length + 9) (by omega),
    eqByteS_self l0 (by omega) (l0.length + 9) (by omega), eqByteS_self (l0 ++ two a1) (by omega) (l0.length + 9) (by omega), markByteS_ok l0 1 (by omega) (by omega) (by omega) (l0.length + 9) (by omega)]
  simp only [if_true]
  rw [if_neg (by omega), laws_FnExactPutW.j0]
  simp only [toByteS_ok l0 (by omega) (l0.length + 8) (by omega), Option.bind_some, implPutW_ok l0 a1 (by omega) (l0.length + 8) (by omega),
    eqByteS_self (l0 ++ two a1) (by omega) (l0.length + 8) (by omega), markByteS_ok (l0 ++ two a1) 1 (by omega) (by omega) (by omega) (l0.length + 8) (by omega), heldByteS_ok (l0 ++ two a1).length 1 (by omega) (by omega) (by omega) (l0.length + 8) (by omega)]
  have hneg : ¬ (1 + ((l0 ++ two a1).length : Int) < 0) := by omega
  simp only [Bool.not_true, Bool.false_eq_true, if_false, if_true, if_neg hneg]

end Go.Proofs.Ytcnmedbhmkknlaa.Pure
