/- Proved: what the plain functions of the law FnExactStore tell at each machine, place and number; no further conditions. -/
import Derived.Test.YtiagbfilffbljaaPFnExactStorex1
import Derived.Test.YtiagbfilffbljaaPFnExactStorex2
import Derived.Test.YtiagbfilffbljaaPFnExactStorex3
import Derived.Test.YtiagbfilffbljaaPFnExactStorex4
import Derived.Test.YtiagbfilffbljaaPFnExactStorex5
import Derived.Test.YtiagbfilffbljaaVCFnExactStore
namespace Go.Proofs.Ytiagbfilffbljaa.Pure
open Go.RowKit Go.Proofs.Ytiagbfilffbljaa.PFnExactStore Go.Proofs.YtiagbfilffbljaaW.PrintWords Go.Proofs.YtiagbfilffbljaaW.PrintLast Go.Proofs.Ytiagbfilffbljaa.Common
set_option linter.unusedVariables false
set_option linter.unusedSimpArgs false
theorem toIntS_ok (l : List Int) (h : l.length ≤ 35184372088832) (k : Nat) (hk : l.length < k) : laws_toIntS.f k l = some l := by
  unfold laws_toIntS.f
  rw [if_pos (by omega), if_pos (by omega)]
  exact copy_loop 0 l (by omega) (fun k z i => laws_toIntS.l0 k l z i) (fun _ _ _ => rfl) k _ (by simp) hk
theorem eqIntS_ok (a b : List Int) (h : a.length ≤ 4611686018427387904) (k : Nat) (hk : a.length < k) : laws_eqIntS.f k a b = some (decide (a = b)) := by
  unfold laws_eqIntS.f
  by_cases e : (a.length : Int) = (b.length : Int)
  · rw [if_pos e]; exact eq_loop 0 a b (by omega) h (fun k x => laws_eqIntS.l0 k a b x) (fun _ _ => rfl) k hk
  · rw [if_neg e]; congr 1; symm; rw [decide_eq_false_iff_not]; intro h; subst h; exact e rfl
theorem eqIntS_self (a : List Int) (h : a.length ≤ 4611686018427387904) (k : Nat) (hk : a.length < k) : laws_eqIntS.f k a a = some true := by
  rw [eqIntS_ok a a h k hk]; simp
theorem szIntS_ok (l : List Int) (a : Int) (h0 : 0 ≤ a) (h1 : a ≤ 1048576) (hl : l.length ≤ maxLen) : laws_szIntS.f l a = some (if (l.length : Int) ≤ a then a - l.length else -1) := by
  have hm : maxLen = 9223372036854775807 := rfl
  unfold laws_szIntS.f
  rw [w64 (x := a - (l.length : Int)) (by omega) (by omega)]
  by_cases h : (l.length : Int) ≤ a
  · rw [if_neg (by omega), if_pos h]
  · rw [if_pos (by omega), if_neg h]
theorem szMach_ok (l0 l1 l6 l7 : List Int) (b2 b3 b4 b5 : Bool) (s : Int) (h0 : l0.length ≤ maxLen) (h1 : l1.length ≤ maxLen) (h6 : l6.length ≤ maxLen) (h7 : l7.length ≤ maxLen) :
    ∃ t, laws_szMach.f l0 l1 b2 b3 b4 b5 l6 l7 s 1048576 = some t ∧ (t < 0 ∨ (l0.length + l1.length + l6.length + l7.length ≤ 1048576)) := by
  unfold laws_szMach.f
  rw [szIntS_ok l0 _ (by omega) (by omega) h0]; simp only [Option.bind_some]
  by_cases c0 : (l0.length : Int) ≤ 1048576
  · rw [if_pos c0, if_neg (by omega), szIntS_ok l1 _ (by omega) (by omega) h1]; simp only [Option.bind_some]
    by_cases c1 : (l1.length : Int) ≤ 1048576 - l0.length
    · rw [if_pos c1, if_neg (by omega), szIntS_ok l6 _ (by omega) (by omega) h6]; simp only [Option.bind_some]
      by_cases c6 : (l6.length : Int) ≤ 1048576 - l0.length - l1.length
      · rw [if_pos c6, if_neg (by omega), szIntS_ok l7 _ (by omega) (by omega) h7]; simp only [Option.bind_some]
        by_cases c7 : (l7.length : Int) ≤ 1048576 - l0.length - l1.length - l6.length
        · rw [if_pos c7, if_neg (by omega)]; exact ⟨_, rfl, .inr (by omega)⟩
        · rw [if_neg c7, if_pos (by omega)]; exact ⟨_, rfl, .inl (by omega)⟩
      · rw [if_neg c6, if_pos (by omega)]; exact ⟨_, rfl, .inl (by omega)⟩
    · rw [if_neg c1, if_pos (by omega)]; exact ⟨_, rfl, .inl (by omega)⟩
  · rw [if_neg c0, if_pos (by omega)]; exact ⟨_, rfl, .inl (by omega)⟩
theorem toMach_ok (l0 l1 l6 l7 : List Int) (b2 b3 b4 b5 : Bool) (s : Int) (h : l0.length + l1.length + l6.length + l7.length ≤ 1048576) (k : Nat) (hk : 1048576 < k) : laws_toMach.f k l0 l1 b2 b3 b4 b5 l6 l7 s = some (l0, l1, b2, b3, b4, b5, l6, l7, s) := by
  unfold laws_toMach.f
  simp only [toIntS_ok l0 (by omega) k (by omega), toIntS_ok l1 (by omega) k (by omega), toIntS_ok l6 (by omega) k (by omega), toIntS_ok l7 (by omega) k (by omega), Option.bind_some]
theorem eqMach_self (l0 l1 l6 l7 : List Int) (b2 b3 b4 b5 : Bool) (s : Int) (h : l0.length + l1.length + l6.length + l7.length ≤ 1048576) (k : Nat) (hk : 1048576 < k) : laws_eqMach.f k l0 l1 b2 b3 b4 b5 l6 l7 s l0 l1 b2 b3 b4 b5 l6 l7 s = some true := by
  unfold laws_eqMach.f
  simp only [eqIntS_self l0 (by omega) k (by omega), eqIntS_self l1 (by omega) k (by omega), eqIntS_self l6 (by omega) k (by omega), eqIntS_self l7 (by omega) k (by omega), Option.bind_some, bne_self_eq_false, Bool.false_eq_true, if_false, if_true]
theorem markIntS_ok (l : List Int) (m : Int) (h0 : 0 ≤ m) (h1 : m ≤ 2305843009213693952) (h : l.length ≤ 2305843009213693952) (k : Nat) (hk : l.length < k) : laws_markIntS.f k l m = some (m + l.length, marks id l.length m) := by
  unfold laws_markIntS.f
  exact mark_loop id (fun k a b c => laws_markIntS.l0 k a b c) (fun _ _ _ _ => rfl) m h0 h1 k l h hk
theorem heldIntS_ok (n : Nat) (m : Int) (h0 : 0 ≤ m) (h1 : m ≤ 2305843009213693952) (h : n ≤ 2305843009213693952) (k : Nat) (hk : n < k) : laws_heldIntS.f k (marks id n m) m = some (m + n) := by
  unfold laws_heldIntS.f
  exact held_loop id (fun k a b c => laws_heldIntS.l0 k a b c) (fun _ _ _ _ => rfl) m h0 h1 k n h hk
theorem markMach_ok (l0 l1 l6 l7 : List Int) (b2 b3 b4 b5 : Bool) (s : Int) (h : l0.length + l1.length + l6.length + l7.length ≤ 1048576) (k : Nat) (hk : 1048576 < k) :
    laws_markMach.f k l0 l1 b2 b3 b4 b5 l6 l7 s 1 = some ((1 : Int) + l0.length + l1.length + l6.length + l7.length, marks id l0.length 1, marks id l1.length (1 + l0.length), marks id l6.length (1 + l0.length + l1.length), marks id l7.length (1 + l0.length + l1.length + l6.length)) := by
  unfold laws_markMach.f
  rw [markIntS_ok l0 1 (by omega) (by omega) (by omega) k (by omega)]; simp only [Option.bind_some]
  rw [markIntS_ok l1 _ (by omega) (by omega) (by omega) k (by omega)]; simp only [Option.bind_some]
  rw [markIntS_ok l6 _ (by omega) (by omega) (by omega) k (by omega)]; simp only [Option.bind_some]
  rw [markIntS_ok l7 _ (by omega) (by omega) (by omega) k (by omega)]; simp only [Option.bind_some]
theorem heldMach_ok (n0 n1 n6 n7 : Nat) (b2 b3 b4 b5 : Bool) (s : Int) (h : n0 + n1 + n6 + n7 ≤ 1048576) (k : Nat) (hk : 1048576 < k) :
    laws_heldMach.f k (marks id n0 1) (marks id n1 (1 + n0)) b2 b3 b4 b5 (marks id n6 (1 + n0 + n1)) (marks id n7 (1 + n0 + n1 + n6)) s 1 = some ((1 : Int) + n0 + n1 + n6 + n7) := by
  unfold laws_heldMach.f
  rw [heldIntS_ok n0 1 (by omega) (by omega) (by omega) k (by omega)]; simp only [Option.bind_some]; rw [if_neg (by omega)]
  rw [heldIntS_ok n1 _ (by omega) (by omega) (by omega) k (by omega)]; simp only [Option.bind_some]; rw [if_neg (by omega)]
  rw [heldIntS_ok n6 _ (by omega) (by omega) (by omega) k (by omega)]; simp only [Option.bind_some]; rw [if_neg (by omega)]
  rw [heldIntS_ok n7 _ (by omega) (by omega) (by omega) k (by omega)]; simp only [Option.bind_some]; rw [if_neg (by omega)]
def readW (mem : List Int) (a : Int) : Int × Bool := if (0 ≤ a ∧ a ≤ 510 ∧ a % 2 = 0) ∧ a / 2 < mem.length then (rd mem (a / 2), true) else (0, false)
theorem half_ok (a : Int) (h0 : 0 ≤ a) (h1 : a ≤ 510) : wrap64 (Int.tdiv a 2) = a / 2 ∧ Int.tmod a 2 = a % 2 := by
  rw [Int.tdiv_eq_ediv_of_nonneg h0, Int.tmod_eq_emod_of_nonneg h0]
  exact ⟨w64 (by omega) (by omega), rfl⟩
theorem l1In_ok (a b c : Int) : spec_l1In.f a b c = some (decide (b ≤ a ∧ a ≤ c)) := by
  unfold spec_l1In.f
  by_cases h : a ≥ b
  · have h' : b ≤ a := h
    rw [if_pos h]; simp [h']
  · have h' : ¬ b ≤ a := h
    rw [if_neg h]; simp [h']
theorem specReadW_ok (l0 l1 l6 l7 : List Int) (b2 b3 b4 b5 : Bool) (s a : Int) : spec_ReadW.f l0 l1 b2 b3 b4 b5 l6 l7 s a = some (readW l0 a) := by
  unfold spec_ReadW.f readW
  simp only [l1In_ok, Option.bind_some]
  by_cases h : 0 ≤ a ∧ a ≤ 510
  · obtain ⟨e1, e2⟩ := half_ok a h.1 h.2
    rw [if_pos (decide_eq_true h), e1, e2]
    by_cases h2 : a % 2 = 0
    · rw [if_pos h2]
      by_cases h3 : a / 2 < l0.length
      · rw [if_neg (by omega), if_pos (by omega), if_pos h3, if_pos (by omega)]
      · rw [if_pos (by omega), if_neg (by omega)]
    · rw [if_neg h2, if_neg (by omega)]
  · rw [if_neg (by simpa using h), if_neg (by omega)]
theorem within_ok (a b c : Int) : impl_within.f a b c = some (decide (b ≤ a ∧ a ≤ c)) := by
  unfold impl_within.f
  by_cases h : a ≥ b
  · have h' : b ≤ a := h
    rw [if_pos h]; simp [h']
  · have h' : ¬ b ≤ a := h
    rw [if_neg h]; simp [h']
theorem isAddr_ok (a : Int) : impl_isAddr.f a = some (decide (0 ≤ a ∧ a ≤ 510 ∧ a % 2 = 0)) := by
  unfold impl_isAddr.f
  simp only [within_ok, Option.bind_some]
  by_cases h : 0 ≤ a ∧ a ≤ 510
  · rw [if_pos (decide_eq_true h), (half_ok a h.1 h.2).2]
    congr 1; rw [Bool.eq_iff_iff]; simp; omega
  · rw [if_neg (by simpa using h)]; congr 1; symm; rw [decide_eq_false_iff_not]; omega
def writeOk (mem : List Int) (a : Int) : Bool := decide ((0 ≤ a ∧ a ≤ 510 ∧ a % 2 = 0) ∧ a / 2 < mem.length)
def writeMem (mem : List Int) (a n : Int) : List Int := if writeOk mem a = true then mem.set (a / 2).toNat (n % 65536) else mem
theorem writeMem_length (mem : List Int) (a n : Int) : (writeMem mem a n).length = mem.length := by unfold writeMem; split <;> simp
theorem readW_ok2 (mem : List Int) (a : Int) : (readW mem a).2 = writeOk mem a := by
  unfold readW writeOk
  split
  · rename_i h; exact (decide_eq_true h).symm
  · rename_i h; exact (decide_eq_false h).symm
theorem l5Copy_ok (l0 l1 l6 l7 : List Int) (b2 b3 b4 b5 : Bool) (s : Int) (h : l0.length + l1.length + l6.length + l7.length ≤ 1048576) : spec_l5Copy.f l0 l1 b2 b3 b4 b5 l6 l7 s = some (l0, l1, b2, b3, b4, b5, l6, l7, s) := by
  unfold spec_l5Copy.f
  simp only [Option.bind_some, List.length_nil, List.nil_append]
  rw [if_pos (by omega), if_pos (by omega), if_pos (by omega), if_pos (by omega)]
theorem copyInts_ok (l : List Int) (h : l.length ≤ 1048576) : impl_copyInts.f l = some l := by
  unfold impl_copyInts.f
  simp only [Option.bind_some, List.length_nil, List.nil_append]
  rw [if_pos (by omega)]
theorem copyMach_ok (l0 l1 l6 l7 : List Int) (b2 b3 b4 b5 : Bool) (s : Int) (h : l0.length + l1.length + l6.length + l7.length ≤ 1048576) : impl_copyMach.f l0 l1 b2 b3 b4 b5 l6 l7 s = some (l0, l1, b2, b3, b4, b5, l6, l7, s) := by
  unfold impl_copyMach.f
  simp only [copyInts_ok l0 (by omega), copyInts_ok l1 (by omega), copyInts_ok l6 (by omega), copyInts_ok l7 (by omega), Option.bind_some]
theorem specWriteW_ok (l0 l1 l6 l7 : List Int) (b2 b3 b4 b5 : Bool) (s a n : Int) (h : l0.length + l1.length + l6.length + l7.length ≤ 1048576) :
    spec_WriteW.f l0 l1 b2 b3 b4 b5 l6 l7 s a n = some (writeMem l0 a n, l1, b2, b3, b4, b5, l6, l7, s, writeOk l0 a) := by
  unfold spec_WriteW.f writeMem
  simp only [l5Copy_ok l0 l1 l6 l7 b2 b3 b4 b5 s h, specReadW_ok, Option.bind_some, readW_ok2, spec_Wrap.f, and65535]
  cases hw : writeOk l0 a with
  | false => rw [if_neg (by simp), if_neg (by simp)]
  | true =>
    have hc := hw
    unfold writeOk at hc
    rw [decide_eq_true_eq] at hc
    obtain ⟨e1, _⟩ := half_ok a hc.1.1 hc.1.2.1
    rw [e1, if_pos rfl, if_pos rfl, if_pos (by omega), if_pos hc.2]
theorem implWriteW_ok (l0 l1 l6 l7 : List Int) (b2 b3 b4 b5 : Bool) (s a n : Int) (h : l0.length + l1.length + l6.length + l7.length ≤ 1048576) :
    impl_WriteW.f l0 l1 b2 b3 b4 b5 l6 l7 s a n = some (writeMem l0 a n, l1, b2, b3, b4, b5, l6, l7, s, writeOk l0 a) := by
  unfold impl_WriteW.f writeMem
  simp only [copyMach_ok l0 l1 l6 l7 b2 b3 b4 b5 s h, isAddr_ok, Option.bind_some, impl_Wrap.f, and65535]
  by_cases hc : 0 ≤ a ∧ a ≤ 510 ∧ a % 2 = 0
  · obtain ⟨e1, _⟩ := half_ok a hc.1 hc.2.1
    rw [if_pos (decide_eq_true hc), e1]
    by_cases h2 : a / 2 < l0.length
    · have hw : writeOk l0 a = true := decide_eq_true ⟨hc, h2⟩
      rw [if_neg (by omega), if_pos (by omega), if_pos h2, hw, if_pos rfl]
    · have hw : writeOk l0 a = false := decide_eq_false (fun h' => h2 h'.2)
      rw [if_pos (by omega), hw, if_neg (by simp)]
  · have hw : writeOk l0 a = false := decide_eq_false (fun h' => hc h'.1)
    rw [if_neg (by simpa using hc), hw, if_neg (by simp)]
def regOk (l1 : List Int) (p0 p1 : Int) : Bool := decide ((0 ≤ p0 ∧ p0 < l1.length) ∧ p1 = -1)
theorem l1In_reg (l1 : List Int) (h : l1.length ≤ 1048576) (p0 : Int) : spec_l1In.f p0 0 (wrap64 ((l1.length : Int) - 1)) = some (decide (0 ≤ p0 ∧ p0 < l1.length)) := by
  rw [w64 (by omega) (by omega), l1In_ok]; congr 1; rw [Bool.eq_iff_iff, decide_eq_true_eq, decide_eq_true_eq]; omega
theorem within_reg (l1 : List Int) (h : l1.length ≤ 1048576) (p0 : Int) : impl_within.f p0 0 (wrap64 ((l1.length : Int) - 1)) = some (decide (0 ≤ p0 ∧ p0 < l1.length)) := by
  rw [w64 (by omega) (by omega), within_ok]; congr 1; rw [Bool.eq_iff_iff, decide_eq_true_eq, decide_eq_true_eq]; omega
/-- what Store leaves: memory, registers, whether it could. -/
def storeM (l0 l1 : List Int) (p0 p1 n : Int) : List Int × List Int × Bool :=
  if p0 = -1 then (writeMem l0 p1 n, l1, writeOk l0 p1) else if regOk l1 p0 p1 = true then (l0, l1.set p0.toNat (n % 65536), true) else (l0, l1, false)
theorem storeM_length (l0 l1 : List Int) (p0 p1 n : Int) : (storeM l0 l1 p0 p1 n).1.length = l0.length ∧ (storeM l0 l1 p0 p1 n).2.1.length = l1.length := by
  unfold storeM
  split
  · exact ⟨writeMem_length _ _ _, rfl⟩
  · split <;> simp
theorem specStore_ok (l0 l1 l6 l7 : List Int) (b2 b3 b4 b5 : Bool) (s p0 p1 n : Int) (h : l0.length + l1.length + l6.length + l7.length ≤ 1048576) :
    spec_Store.f l0 l1 b2 b3 b4 b5 l6 l7 s p0 p1 n = some ((storeM l0 l1 p0 p1 n).1, (storeM l0 l1 p0 p1 n).2.1, b2, b3, b4, b5, l6, l7, s, (storeM l0 l1 p0 p1 n).2.2) := by
  unfold spec_Store.f storeM
  by_cases e : p0 = -1
  · rw [if_pos e, if_pos e, specWriteW_ok l0 l1 l6 l7 b2 b3 b4 b5 s p1 n h]; rfl
  rw [if_neg e, if_neg e]
  simp only [l5Copy_ok l0 l1 l6 l7 b2 b3 b4 b5 s h, l1In_reg l1 (by omega), Option.bind_some, spec_Wrap.f, and65535]
  by_cases h1 : 0 ≤ p0 ∧ p0 < l1.length
  · rw [if_pos (decide_eq_true h1)]
    by_cases h2 : p1 = -1
    · rw [if_pos h2, if_pos h1.1, if_pos h1.2, if_pos (show regOk l1 p0 p1 = true from decide_eq_true ⟨h1, h2⟩)]
    · rw [if_neg h2, if_neg (by rw [show regOk l1 p0 p1 = false from decide_eq_false (fun h => h2 h.2)]; simp)]
  · rw [if_neg (by simpa using h1), if_neg (by rw [show regOk l1 p0 p1 = false from decide_eq_false (fun h => h1 h.1)]; simp)]
theorem isRegPlace_ok (l0 l1 l6 l7 : List Int) (b2 b3 b4 b5 : Bool) (s p0 p1 : Int) (h : l1.length ≤ 1048576) : impl_isRegPlace.f l0 l1 b2 b3 b4 b5 l6 l7 s p0 p1 = some (regOk l1 p0 p1) := by
  unfold impl_isRegPlace.f
  simp only [within_reg l1 h, Option.bind_some]
  by_cases h1 : 0 ≤ p0 ∧ p0 < l1.length
  · rw [if_pos (decide_eq_true h1)]; congr 1; rw [Bool.eq_iff_iff]; unfold regOk; simp; omega
  · rw [if_neg (by simpa using h1)]; congr 1; symm; exact decide_eq_false (fun h => h1 h.1)
theorem implStore_ok (l0 l1 l6 l7 : List Int) (b2 b3 b4 b5 : Bool) (s p0 p1 n : Int) (h : l0.length + l1.length + l6.length + l7.length ≤ 1048576) :
    impl_Store.f l0 l1 b2 b3 b4 b5 l6 l7 s p0 p1 n = some ((storeM l0 l1 p0 p1 n).1, (storeM l0 l1 p0 p1 n).2.1, b2, b3, b4, b5, l6, l7, s, (storeM l0 l1 p0 p1 n).2.2) := by
  unfold impl_Store.f storeM
  simp only [isRegPlace_ok l0 l1 l6 l7 b2 b3 b4 b5 s p0 p1 (by omega), copyMach_ok l0 l1 l6 l7 b2 b3 b4 b5 s h, implWriteW_ok l0 l1 l6 l7 b2 b3 b4 b5 s p1 n h, Option.bind_some, impl_Wrap.f, and65535]
  cases hr : regOk l1 p0 p1 with
  | true =>
    have hc := hr
    unfold regOk at hc; rw [decide_eq_true_eq] at hc
    rw [if_pos rfl, if_pos hc.1.1, if_pos hc.1.2, if_neg (by omega), if_pos rfl]
  | false =>
    rw [if_neg (by simp)]
    by_cases e : p0 = -1
    · rw [if_pos e, if_pos e]
    · rw [if_neg e, if_neg e, if_neg (by simp)]
/-- what the law's walk asks of the plain functions. -/
def Facts (l0 l1 : List Int) (b2 b3 b4 b5 : Bool) (l6 l7 : List Int) (b8 x y n : Int) : Prop :=
  (∃ s, laws_szMach.f l0 l1 b2 b3 b4 b5 l6 l7 b8 1048576 = some s ∧ decide (s < 0) = true) ∨
  ∃ (k : Nat) (s : Int) (o0 o1 : List Int) (c2 c3 c4 c5 : Bool) (o6 o7 : List Int) (c8 : Int) (ok : Bool) (m0 m1 : Int) (p0 p1 p6 p7 q0 q1 q6 q7 : List Int),
    laws_szMach.f l0 l1 b2 b3 b4 b5 l6 l7 b8 1048576 = some s ∧ decide (s < 0) = false ∧ laws_toMach.f k l0 l1 b2 b3 b4 b5 l6 l7 b8 = some (l0, l1, b2, b3, b4, b5, l6, l7, b8) ∧ laws_toPlace.f x y = some (x, y) ∧
    spec_Store.f l0 l1 b2 b3 b4 b5 l6 l7 b8 x y n = some (o0, o1, c2, c3, c4, c5, o6, o7, c8, ok) ∧ impl_Store.f l0 l1 b2 b3 b4 b5 l6 l7 b8 x y n = some (o0, o1, c2, c3, c4, c5, o6, o7, c8, ok) ∧
    laws_eqMach.f k o0 o1 c2 c3 c4 c5 o6 o7 c8 o0 o1 c2 c3 c4 c5 o6 o7 c8 = some true ∧ laws_eqMach.f k l0 l1 b2 b3 b4 b5 l6 l7 b8 l0 l1 b2 b3 b4 b5 l6 l7 b8 = some true ∧
    laws_markMach.f k l0 l1 b2 b3 b4 b5 l6 l7 b8 1 = some (m0, p0, p1, p6, p7) ∧ decide (m0 < 0) = false ∧
    laws_markMach.f k o0 o1 c2 c3 c4 c5 o6 o7 c8 1 = some (m1, q0, q1, q6, q7) ∧ decide (m1 < 0) = false ∧ laws_heldMach.f k q0 q1 c2 c3 c4 c5 q6 q7 c8 1 = some m1
theorem FnExactStore (l0 l1 : List Int) (b2 b3 b4 b5 : Bool) (l6 l7 : List Int) (b8 x y n : Int) (h0 : l0.length ≤ maxLen) (_ : ∀ x ∈ l0, (Lit.int .i64 x).wf = true) (h1 : l1.length ≤ maxLen) (_ : ∀ x ∈ l1, (Lit.int .i64 x).wf = true) (h6 : l6.length ≤ maxLen) (_ : ∀ x ∈ l6, (Lit.int .i64 x).wf = true) (h7 : l7.length ≤ maxLen) (_ : ∀ x ∈ l7, (Lit.int .i64 x).wf = true) (_ : (Lit.int .i64 b8).wf = true) (_ : (Lit.int .i64 x).wf = true) (_ : (Lit.int .i64 y).wf = true) (_ : (Lit.int .i64 n).wf = true) :
    Facts l0 l1 b2 b3 b4 b5 l6 l7 b8 x y n := by
  obtain ⟨t, ht, hc⟩ := szMach_ok l0 l1 l6 l7 b2 b3 b4 b5 b8 h0 h1 h6 h7
  by_cases hn : t < 0
  · exact .inl ⟨t, ht, decide_eq_true hn⟩
  have hl : l0.length + l1.length + l6.length + l7.length ≤ 1048576 := hc.resolve_left hn
  have e1 := specStore_ok l0 l1 l6 l7 b2 b3 b4 b5 b8 x y n hl
  have e2 := implStore_ok l0 l1 l6 l7 b2 b3 b4 b5 b8 x y n hl
  obtain ⟨z0, z1⟩ := storeM_length l0 l1 x y n
  generalize (storeM l0 l1 x y n).1 = o0 at *
  generalize (storeM l0 l1 x y n).2.1 = o1 at *
  generalize (storeM l0 l1 x y n).2.2 = ok at *
  have ho : o0.length + o1.length + l6.length + l7.length ≤ 1048576 := by omega
  exact .inr ⟨1048580, t, o0, o1, b2, b3, b4, b5, l6, l7, b8, ok, _, _, _, _, _, _, _, _, _, _, ht, decide_eq_false hn, toMach_ok l0 l1 l6 l7 b2 b3 b4 b5 b8 hl 1048580 (by omega), rfl,
    e1, e2, eqMach_self _ _ l6 l7 b2 b3 b4 b5 b8 ho 1048580 (by omega), eqMach_self l0 l1 l6 l7 b2 b3 b4 b5 b8 hl 1048580 (by omega),
    markMach_ok l0 l1 l6 l7 b2 b3 b4 b5 b8 hl 1048580 (by omega), decide_eq_false (by omega), markMach_ok _ _ l6 l7 b2 b3 b4 b5 b8 ho 1048580 (by omega), decide_eq_false (by omega), heldMach_ok _ _ _ _ b2 b3 b4 b5 b8 ho 1048580 (by omega)⟩

end Go.Proofs.Ytiagbfilffbljaa.Pure
