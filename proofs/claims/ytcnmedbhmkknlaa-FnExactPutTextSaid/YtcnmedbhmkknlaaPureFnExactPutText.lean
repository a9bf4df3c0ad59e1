/- Proved: the law FnExactPutText, as a plain function, answers true at all bytes and each text; no further conditions. -/
import Derived.Test.YtcnmedbhmkknlaaPFnExactPutTextx1
import Derived.Test.YtcnmedbhmkknlaaPFnExactPutTextx2
import Derived.Test.YtcnmedbhmkknlaaVCFnExactPutText
namespace Go.Proofs.Ytcnmedbhmkknlaa.Pure
open Go.RowKit Go.Proofs.Ytcnmedbhmkknlaa.PFnExactPutText Go.Proofs.YtcnmedbhmkknlaaW.PrintWords Go.Proofs.YtcnmedbhmkknlaaW.PrintLast Go.Proofs.Ytcnmedbhmkknlaa.Common
set_option linter.unusedVariables false
set_option linter.unusedSimpArgs false
theorem toByteS_ok (l : List Int) (h : l.length ≤ 281474976710656) (k : Nat) (hk : l.length < k) : laws_toByteS.f k l = some l := by
  unfold laws_toByteS.f
  rw [if_pos (by omega), if_pos (by omega)]
  exact copy_loop 0 l (by omega) (fun k z i => laws_toByteS.l0 k l z i) (fun _ _ _ => rfl) k _ (by simp) hk
theorem eqByteS_ok (a b : List Int) (h : a.length ≤ 4611686018427387904) (k : Nat) (hk : a.length < k) : laws_eqByteS.f k a b = some (decide (a = b)) := by
  unfold laws_eqByteS.f
  by_cases e : (a.length : Int) = (b.length : Int)
  · rw [if_pos e]; exact eq_loop 0 a b (by omega) h (fun k x => laws_eqByteS.l0 k a b x) (fun _ _ => rfl) k hk
  · rw [if_neg e]; congr 1; symm; rw [decide_eq_false_iff_not]; intro h; subst h; exact e rfl
theorem eqByteS_self (a : List Int) (h : a.length ≤ 4611686018427387904) (k : Nat) (hk : a.length < k) : laws_eqByteS.f k a a = some true := by
  rw [eqByteS_ok a a h k hk]; simp
theorem markByteS_ok (l : List Int) (m : Int) (h0 : 0 ≤ m) (h1 : m ≤ 2305843009213693952) (h : l.length ≤ 2305843009213693952) (k : Nat) (hk : l.length < k) : laws_markByteS.f k l m = some (m + l.length, marks (· % 256) l.length m) := by
  unfold laws_markByteS.f
  exact mark_loop (· % 256) (fun k a b c => laws_markByteS.l0 k a b c) (fun _ _ _ _ => rfl) m h0 h1 k l h hk
theorem heldByteS_ok (n : Nat) (m : Int) (h0 : 0 ≤ m) (h1 : m ≤ 2305843009213693952) (h : n ≤ 2305843009213693952) (k : Nat) (hk : n < k) : laws_heldByteS.f k (marks (· % 256) n m) m = some (m + n) := by
  unfold laws_heldByteS.f
  exact held_loop (· % 256) (fun k a b c => laws_heldByteS.l0 k a b c) (fun _ _ _ _ => rfl) m h0 h1 k n h hk
theorem joined2_ok (a b : List Int) (h : a.length + b.length < 140737488355328) (k : Nat) (hk : 3 ≤ k) : impl_joined.f k [a, b] = some (a ++ b) := by
  obtain ⟨k, rfl⟩ : ∃ m, k = m + 3 := ⟨k - 3, by omega⟩
  have e0 : rd_L1 [a, b] 0 = a := rfl
  have e1 : rd_L1 [a, b] 1 = b := rfl
  have w0 : wrap64 (0 + 1) = 1 := by simp [wrap64]
  have w1 : wrap64 (1 + 1) = 2 := by simp [wrap64]
  unfold impl_joined.f
  simp only [impl_joined.l0, e0, e1, w0, w1, List.length_cons, List.length_nil]
  rw [if_pos (by omega), if_pos (by omega), if_pos (by omega), if_pos (by simp; omega), if_pos (by omega), if_pos (by omega), if_pos (by omega), if_pos (by simp; omega), if_neg (by omega)]
  simp
def two (a : Int) : List Int := [a % 256, a / 256 % 256]
theorem two_length (a : Int) : (two a).length = 2 := rfl
theorem implPutW_ok (l : List Int) (a : Int) (h : l.length < 140737488350000) (k : Nat) (hk : 3 ≤ k) : impl_PutW.f k l a = some (l ++ two a) := by
  unfold impl_PutW.f
  rw [and255, and255, joined2_ok _ _ (by simp; omega) k hk]
  simp only [Option.bind_some, two]
  have e1 : a % 256 % 256 = a % 256 := by omega
  have e2 : a / 256 % 256 % 256 = a / 256 % 256 := by omega
  rw [e1, e2]
theorem specPutW_ok (l : List Int) (a : Int) (h : l.length < 140737488350000) : spec_PutW.f l a = some (l ++ two a) := by
  unfold spec_PutW.f spec_Wrap.f
  simp only [and65535, Option.bind_some]
  rw [if_pos (by simp; omega), if_pos (by simp; omega)]
  have e1 : a % 65536 % 256 = a % 256 := by omega
  have e2 : a % 65536 / 256 % 256 = a / 256 % 256 := by omega
  simp only [List.nil_append, two, e1, e2]
/-- what both make of bytes and a text. -/
def putTextOf (l : List Int) (s : ByteArray) : List Int := if s.size > 1000 then l else l ++ two s.size ++ bytesOf s
theorem putTextOf_length (l : List Int) (s : ByteArray) : (putTextOf l s).length ≤ l.length + 1002 := by
  unfold putTextOf
  split
  · omega
  · simp only [List.length_append, two_length, bytesOf_length]; omega
theorem joined1_ok (a : List Int) (h : a.length < 140737488355328) (k : Nat) (hk : 2 ≤ k) : impl_joined.f k [a] = some a := by
  obtain ⟨k, rfl⟩ : ∃ m, k = m + 2 := ⟨k - 2, by omega⟩
  have w1 : wrap64 (0 + 1) = 1 := by rw [w64 (by omega) (by omega)]; rfl
  simp only [impl_joined.f, impl_joined.l0, rd_L1, w1, List.length_cons, List.length_nil]
  simp [h]
theorem specPutText_ok (l : List Int) (s : ByteArray) (h : l.length ≤ 1048576) : spec_PutText.f l s = some (putTextOf l s) := by
  simp only [spec_PutText.f, Option.bind_some]
  unfold putTextOf
  by_cases c : s.size > 1000
  · rw [if_pos (by omega), if_pos c, if_pos (by simp; omega)]; rfl
  · rw [if_neg (by omega), if_neg c, specPutW_ok l s.size (by omega), Option.bind_some, if_pos (by rw [List.length_append, two_length]; omega)]
theorem implPutText_ok (l : List Int) (s : ByteArray) (h : l.length ≤ 1048576) (k : Nat) (hk : 3 ≤ k) : impl_PutText.f k l s = some (putTextOf l s) := by
  simp only [impl_PutText.f, conv_bytes.f, Option.bind_some]
  unfold putTextOf
  by_cases c : s.size > 1000
  · rw [if_pos (by omega), if_pos c, joined1_ok l (by omega) k (by omega)]; rfl
  · rw [if_neg (by omega), if_neg c, implPutW_ok l s.size (by omega) k hk, Option.bind_some, joined2_ok _ _ (by rw [List.length_append, two_length, bytesOf_length]; omega) k hk]; rfl
theorem FnExactPutText : laws_FnExactPutText.Pure := by
  intro l0 s _ hl hw _
  refine ⟨l0.length + 1100, ?_⟩
  unfold laws_FnExactPutText.f
  by_cases hb : (l0.length : Int) > 1048576
  · rw [if_pos hb]
  rw [if_neg hb]
  by_cases hs : (s.size : Int) > 1048576
  · rw [if_pos hs]
  rw [if_neg hs]
  have hq := putTextOf_length l0 s
  simp only [toByteS_ok l0 (by omega) (l0.length + 1100) (by omega), Option.bind_some, specPutText_ok l0 s (by omega), implPutText_ok l0 s (by omega) (l0.length + 1100) (by omega),
    eqByteS_self l0 (by omega) (l0.length + 1100) (by omega), eqByteS_self (putTextOf l0 s) (by omega) (l0.length + 1100) (by omega), markByteS_ok l0 1 (by omega) (by omega) (by omega) (l0.length + 1100) (by omega)]
  simp only [if_true]
  rw [if_neg (by omega), laws_FnExactPutText.j0]
  simp only [toByteS_ok l0 (by omega) (l0.length + 1099) (by omega), Option.bind_some, implPutText_ok l0 s (by omega) (l0.length + 1099) (by omega),
    eqByteS_self (putTextOf l0 s) (by omega) (l0.length + 1099) (by omega), markByteS_ok (putTextOf l0 s) 1 (by omega) (by omega) (by omega) (l0.length + 1099) (by omega), heldByteS_ok (putTextOf l0 s).length 1 (by omega) (by omega) (by omega) (l0.length + 1099) (by omega)]
  have hneg : ¬ (1 + ((putTextOf l0 s).length : Int) < 0) := by omega
  simp only [Bool.not_true, Bool.false_eq_true, if_false, if_true, if_neg hneg]

end Go.Proofs.Ytcnmedbhmkknlaa.Pure
