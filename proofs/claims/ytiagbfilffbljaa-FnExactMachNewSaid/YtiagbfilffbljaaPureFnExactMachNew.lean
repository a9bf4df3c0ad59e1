/- Proved: what the plain functions of the law FnExactMachNew tell at each image, address, start and row of inputs; no further conditions. -/
import Derived.Test.YtiagbfilffbljaaPFnExactMachNewx1
import Derived.Test.YtiagbfilffbljaaPFnExactMachNewx2
import Derived.Test.YtiagbfilffbljaaPFnExactMachNewx3
import Derived.Test.YtiagbfilffbljaaPFnExactMachNewx4
import Derived.Test.YtiagbfilffbljaaPFnExactMachNewx5
import Derived.Test.YtiagbfilffbljaaVCFnExactMachNew
namespace Go.Proofs.Ytiagbfilffbljaa.Pure
open Go.RowKit Go.Proofs.Ytiagbfilffbljaa.PFnExactMachNew Go.Proofs.YtiagbfilffbljaaW.PrintWords Go.Proofs.YtiagbfilffbljaaW.PrintLast Go.Proofs.Ytiagbfilffbljaa.Common
set_option linter.unusedVariables false
set_option linter.unusedSimpArgs false
def readW (mem : List Int) (a : Int) : Int × Bool := if (0 ≤ a ∧ a ≤ 510 ∧ a % 2 = 0) ∧ a / 2 < mem.length then (rd mem (a / 2), true) else (0, false)
theorem half_ok (a : Int) (h0 : 0 ≤ a) (h1 : a ≤ 510) : wrap64 (Int.tdiv a 2) = a / 2 ∧ Int.tmod a 2 = a % 2 := by
  rw [Int.tdiv_eq_ediv_of_nonneg h0, Int.tmod_eq_emod_of_nonneg h0]
  exact ⟨w64 (by omega) (by omega), rfl⟩
def isWd (x : Int) : Bool := decide (0 ≤ x ∧ x ≤ 65535)
def newOk (l0 : List Int) (a1 a2 : Int) (l3 : List Int) : Bool := decide (((0 ≤ a1 ∧ a1 ≤ 510) ∧ a1 % 2 = 0) ∧ (l0.length : Int) ≤ 256 - a1 / 2 ∧ l0.all isWd = true ∧ l3.all isWd = true ∧ (0 ≤ a2 ∧ a2 ≤ 65535) ∧ l3.length ≤ 50)
def newM (l0 : List Int) (a1 a2 : Int) (l3 : List Int) : List Int × List Int × Bool × Bool × Bool × Bool × List Int × List Int × Int :=
  if newOk l0 a1 a2 l3 = true then (newMem l0 (a1 / 2).toNat, newRegs a2, false, false, false, false, l3, [], 0) else ([], [], false, false, false, false, [], [], 0)
theorem newM_ok {l0 : List Int} {a1 a2 : Int} {l3 : List Int} (h1 : (0 ≤ a1 ∧ a1 ≤ 510) ∧ a1 % 2 = 0) (h2 : (l0.length : Int) ≤ 256 - a1 / 2) (h3 : l0.all isWd = true) (h4 : l3.all isWd = true) (h5 : 0 ≤ a2 ∧ a2 ≤ 65535) (h6 : l3.length ≤ 50) :
    newM l0 a1 a2 l3 = (newMem l0 (a1 / 2).toNat, newRegs a2, false, false, false, false, l3, [], 0) := if_pos (decide_eq_true ⟨h1, h2, h3, h4, h5, h6⟩)
theorem newM_not {l0 : List Int} {a1 a2 : Int} {l3 : List Int} (h : ¬ (((0 ≤ a1 ∧ a1 ≤ 510) ∧ a1 % 2 = 0) ∧ (l0.length : Int) ≤ 256 - a1 / 2 ∧ l0.all isWd = true ∧ l3.all isWd = true ∧ (0 ≤ a2 ∧ a2 ≤ 65535) ∧ l3.length ≤ 50)) :
    newM l0 a1 a2 l3 = ([], [], false, false, false, false, [], [], 0) := if_neg (fun e => h (of_decide_eq_true e))
theorem newMem_length (l0 : List Int) (q : Nat) (h : q + l0.length ≤ 256) : (newMem l0 q).length = 256 := by
  unfold newMem
  simp only [List.length_append, List.length_take, List.length_drop, List.length_replicate]
  omega
theorem newRegs_length (a2 : Int) : (newRegs a2).length = 8 := by simp [newRegs]
theorem l1In_ok (a b c : Int) : spec_l1In.f a b c = some (decide (b ≤ a ∧ a ≤ c)) := by
  unfold spec_l1In.f
  by_cases h : a ≥ b
  · have h' : b ≤ a := h
    rw [if_pos h]; simp [h']
  · have h' : ¬ b ≤ a := h
    rw [if_neg h]; simp [h']
theorem specWords_ok (l : List Int) (hl : l.length ≤ 4611686018427387904) (k : Nat) (hk : l.length < k) : spec_l5Words.f k l = some (l.all isWd) := by
  unfold spec_l5Words.f
  have H : ∀ (r k i : Nat), l.length - i = r → i ≤ l.length → r < k → spec_l5Words.l0 k l i = some ((l.drop i).all isWd) := by
    intro r
    induction r with
    | zero =>
      intro k i hr hi hk
      obtain ⟨k, rfl⟩ : ∃ m, k = m + 1 := ⟨k - 1, by omega⟩
      simp only [spec_l5Words.l0]
      rw [if_neg (by omega), List.drop_of_length_le (by omega)]; rfl
    | succ r ih =>
      intro k i hr hi hk
      obtain ⟨k, rfl⟩ : ∃ m, k = m + 1 := ⟨k - 1, by omega⟩
      have hlt : i < l.length := by omega
      simp only [spec_l5Words.l0, l1In_ok, Option.bind_some]
      rw [if_pos (by omega), if_pos (by omega), rd_at l i hlt, w64 (by omega) (by omega), List.drop_eq_getElem_cons hlt, List.all_cons]
      have e : ((i : Int) + 1) = ((i + 1 : Nat) : Int) := by omega
      rw [e, ih k (i + 1) (by omega) (by omega) (by omega)]
      unfold isWd
      cases decide (0 ≤ l[i] ∧ l[i] ≤ 65535) <;> simp
  have := H l.length k 0 (by omega) (by omega) hk
  simpa using this
def memAt (l0 : List Int) (q i : Nat) : List Int := (List.replicate 256 0).take q ++ (l0.take i ++ (List.replicate 256 0).drop (q + i))
theorem memAt_length (l0 : List Int) (q i : Nat) (hi : i ≤ l0.length) (h : q + l0.length ≤ 256) : (memAt l0 q i).length = 256 := by
  unfold memAt
  simp only [List.length_append, List.length_take, List.length_drop, List.length_replicate]
  omega
theorem memAt_set (l0 : List Int) (q i : Nat) (hi : i < l0.length) (h : q + l0.length ≤ 256) : (memAt l0 q i).set (q + i) (rd l0 (i : Int)) = memAt l0 q (i + 1) := by
  unfold memAt
  have h1 : ((List.replicate 256 (0 : Int)).take q).length = q := by rw [List.length_take, List.length_replicate]; omega
  have h2 : (l0.take i).length = i := by rw [List.length_take]; omega
  have h3 : q + i < (List.replicate 256 (0 : Int)).length := by rw [List.length_replicate]; omega
  have h4 : rd l0 (i : Int) = l0[i] := by simp [rd, List.getD_eq_getElem?_getD, hi]
  rw [List.set_append_right _ _ (by omega), h1, Nat.add_sub_cancel_left, List.set_append_right _ _ (by omega), h2, Nat.sub_self, List.drop_eq_getElem_cons h3, List.set_cons_zero, h4, List.take_succ_eq_append_getElem hi, List.append_assoc, List.singleton_append, Nat.add_assoc]
theorem newLoop (l0 : List Int) (a1 a2 : Int) (l3 : List Int) (q : Nat) (hq : wrap64 (Int.tdiv a1 2) = (q : Int)) (h : q + l0.length ≤ 256) : ∀ (d i k : Nat), l0.length - i = d → i ≤ l0.length → d < k →
    spec_MachNew.l0 k l0 a1 a2 (i : Int) (memAt l0 q i) (List.replicate 8 0) false false false false l3 0 = some (newMem l0 q, newRegs a2, false, false, false, false, l3, [], 0) := by
  intro d
  induction d with
  | zero =>
    intro i k hd hi hk
    obtain ⟨k, rfl⟩ : ∃ m, k = m + 1 := ⟨k - 1, by omega⟩
    simp only [spec_MachNew.l0]
    rw [if_neg (by omega), if_pos (by simp), if_pos (by simp)]
    have e : i = l0.length := by omega
    subst e
    simp only [memAt, List.take_length]
    rfl
  | succ d ih =>
    intro i k hd hi hk
    obtain ⟨k, rfl⟩ : ∃ m, k = m + 1 := ⟨k - 1, by omega⟩
    simp only [spec_MachNew.l0]
    have w1 : wrap64 ((q : Int) + (i : Int)) = ((q + i : Nat) : Int) := by rw [w64 (by omega) (by omega)]; omega
    have w2 : wrap64 ((i : Int) + 1) = ((i + 1 : Nat) : Int) := by rw [w64 (by omega) (by omega)]; omega
    rw [hq, w1, w2, if_pos (by omega), if_pos (by omega), if_pos (by omega), if_pos (by rw [memAt_length l0 q i hi h]; omega), Int.toNat_natCast, memAt_set l0 q i (by omega) h]
    exact ih (i + 1) k (by omega) (by omega) (by omega)
theorem specNew_ok (l0 : List Int) (a1 a2 : Int) (l3 : List Int) (h0 : l0.length ≤ 1048576) (h3 : l3.length ≤ 1048576) (k : Nat) (hk : 1048578 < k) : spec_MachNew.f k l0 a1 a2 l3 = some (newM l0 a1 a2 l3) := by
  obtain ⟨k', rfl⟩ : ∃ m, k = m + 1 := ⟨k - 1, by omega⟩
  have bad : spec_MachNew.j0 (k' + 1) l0 a1 a2 l3 true = some ([], [], false, false, false, false, [], [], 0) := rfl
  unfold spec_MachNew.f
  simp only [l1In_ok, Option.bind_some, decide_eq_true_eq, specWords_ok l0 (by omega) (k' + 1) (by omega), specWords_ok l3 (by omega) (k' + 1) (by omega), bad]
  by_cases c1 : 0 ≤ a1 ∧ a1 ≤ 510
  · obtain ⟨e1, e2⟩ := half_ok a1 c1.1 c1.2
    have e3 : wrap64 (256 - a1 / 2) = 256 - a1 / 2 := w64 (by omega) (by omega)
    rw [if_pos c1, e1, e2, e3]
    by_cases c2 : a1 % 2 = 0
    · rw [if_pos c2]
      by_cases c3 : (l0.length : Int) > 256 - a1 / 2
      · rw [if_pos c3, newM_not (fun h => by omega)]
      · rw [if_neg c3]
        by_cases c4 : l0.all isWd = true
        · rw [if_pos c4]
          by_cases c5 : 0 ≤ a2 ∧ a2 ≤ 65535
          · rw [if_pos c5]
            by_cases c6 : (l3.length : Int) > 50
            · rw [if_pos c6, newM_not (fun h => by omega)]
            · rw [if_neg c6]
              cases c7 : l3.all isWd with
              | false => rw [newM_not (fun h => by rw [c7] at h; exact absurd h.2.2.2.1 (by decide))]; exact bad
              | true =>
                rw [newM_ok ⟨c1, c2⟩ (by omega) c4 c7 c5 (by omega)]
                obtain ⟨q, hq⟩ := Int.eq_ofNat_of_zero_le (show 0 ≤ a1 / 2 by omega)
                rw [hq] at e1 ⊢
                rw [Int.toNat_natCast]
                have hm : (List.replicate 256 (0 : Int)) = memAt l0 q 0 := by unfold memAt; rw [List.take_zero, List.nil_append, Nat.add_zero, List.take_append_drop]
                show spec_MachNew.j0 (k' + 1) l0 a1 a2 l3 false = _
                simp only [spec_MachNew.j0]
                rw [if_neg (by decide), if_pos (by decide), if_pos (by decide)]
                simp only [Option.bind_some, List.nil_append, List.length_nil]
                rw [if_pos (by omega), hm]
                exact newLoop l0 a1 a2 l3 q e1 (by omega) l0.length 0 k' (by omega) (by omega) (by omega)
          · rw [if_neg c5, newM_not (fun h => c5 h.2.2.2.2.1)]
        · rw [if_neg c4, newM_not (fun h => c4 h.2.2.1)]
    · rw [if_neg c2, newM_not (fun h => c2 h.1.2)]
  · rw [if_neg c1, newM_not (fun h => c1 h.1.1)]
theorem within_ok (a b c : Int) : impl_within.f a b c = some (decide (b ≤ a ∧ a ≤ c)) := by
  unfold impl_within.f
  by_cases h : a ≥ b
  · have h' : b ≤ a := h
    rw [if_pos h]; simp [h']
  · have h' : ¬ b ≤ a := h
    rw [if_neg h]; simp [h']
theorem isAddr_ok (a : Int) : impl_isAddr.f a = some (decide (0 ≤ a ∧ a ≤ 510 ∧ a % 2 = 0)) := by
  unfold impl_isAddr.f
  simp only [within_ok, Option.bind_some]
  by_cases h : 0 ≤ a ∧ a ≤ 510
  · rw [if_pos (decide_eq_true h), (half_ok a h.1 h.2).2]
    congr 1; rw [Bool.eq_iff_iff]; simp; omega
  · rw [if_neg (by simpa using h)]; congr 1; symm; rw [decide_eq_false_iff_not]; omega
theorem implWordsOk_ok (l : List Int) (hl : l.length ≤ 4611686018427387904) (k : Nat) (hk : l.length < k) : impl_wordsOk.f k l = some (l.all isWd) := by
  unfold impl_wordsOk.f
  have H : ∀ (r k i : Nat), l.length - i = r → i ≤ l.length → r < k → impl_wordsOk.l0 k l (l.length : Int) i = some ((l.drop i).all isWd) := by
    intro r
    induction r with
    | zero =>
      intro k i hr hi hk
      obtain ⟨k, rfl⟩ : ∃ m, k = m + 1 := ⟨k - 1, by omega⟩
      simp only [impl_wordsOk.l0]
      rw [if_neg (by omega), List.drop_of_length_le (by omega)]; rfl
    | succ r ih =>
      intro k i hr hi hk
      obtain ⟨k, rfl⟩ : ∃ m, k = m + 1 := ⟨k - 1, by omega⟩
      have hlt : i < l.length := by omega
      simp only [impl_wordsOk.l0, impl_isWord.f, within_ok, Option.bind_some]
      rw [if_pos (by omega), if_pos (by omega), if_pos (by omega), rd_at l i hlt, w64 (by omega) (by omega), List.drop_eq_getElem_cons hlt, List.all_cons]
      have e : ((i : Int) + 1) = ((i + 1 : Nat) : Int) := by omega
      rw [e, ih k (i + 1) (by omega) (by omega) (by omega)]
      unfold isWd
      cases decide (0 ≤ l[i] ∧ l[i] ≤ 65535) <;> simp
  have := H l.length k 0 (by omega) (by omega) hk
  simpa using this
theorem isWord_ok' (a : Int) : impl_isWord.f a = some (decide (0 ≤ a ∧ a ≤ 65535)) := by unfold impl_isWord.f; rw [within_ok]; rfl
theorem implNew_ok (l0 : List Int) (a1 a2 : Int) (l3 : List Int) (h0 : l0.length ≤ 1048576) (h3 : l3.length ≤ 1048576) (k : Nat) (hk : 1048576 < k) : impl_MachNew.f k l0 a1 a2 l3 = some (newM l0 a1 a2 l3) := by
  unfold impl_MachNew.f
  simp only [isAddr_ok, isWord_ok', Option.bind_some, decide_eq_true_eq, implWordsOk_ok l0 (by omega) k (by omega), implWordsOk_ok l3 (by omega) k (by omega)]
  by_cases c1 : 0 ≤ a1 ∧ a1 ≤ 510 ∧ a1 % 2 = 0
  · obtain ⟨e1, e2⟩ := half_ok a1 c1.1 c1.2.1
    have e3 : wrap64 (256 - a1 / 2) = 256 - a1 / 2 := w64 (by omega) (by omega)
    rw [if_pos c1, e1, e3]
    by_cases c3 : (l0.length : Int) > 256 - a1 / 2
    · rw [if_pos c3, newM_not (fun h => by omega)]
    · rw [if_neg c3]
      by_cases c4 : l0.all isWd = true
      · rw [if_pos c4]
        by_cases c7 : l3.all isWd = true
        · rw [if_pos c7]
          by_cases c5 : 0 ≤ a2 ∧ a2 ≤ 65535
          · rw [if_pos c5]
            by_cases c6 : (l3.length : Int) > 50
            · rw [if_pos c6, newM_not (fun h => by omega)]
            · rw [if_neg c6, newM_ok ⟨⟨c1.1, c1.2.1⟩, c1.2.2⟩ (by omega) c4 c7 c5 (by omega)]
              unfold impl_MachNew.mk impl_copyInts.f
              rw [e1, if_pos ⟨by omega, by omega, by omega⟩]
              simp only [Option.bind_some, List.length_nil, List.nil_append]
              rw [if_pos (by omega)]
              rfl
          · rw [if_neg c5, newM_not (fun h => c5 h.2.2.2.2.1)]
        · rw [if_neg c7, newM_not (fun h => c7 h.2.2.2.1)]
      · rw [if_neg c4, newM_not (fun h => c4 h.2.2.1)]
  · rw [if_neg c1, newM_not (fun h => c1 ⟨h.1.1.1, h.1.1.2, h.1.2⟩)]
theorem toIntS_ok (l : List Int) (h : l.length ≤ 35184372088832) (k : Nat) (hk : l.length < k) : laws_toIntS.f k l = some l := by
  unfold laws_toIntS.f
  rw [if_pos (by omega), if_pos (by omega)]
  exact copy_loop 0 l (by omega) (fun k z i => laws_toIntS.l0 k l z i) (fun _ _ _ => rfl) k _ (by simp) hk
theorem eqIntS_ok (a b : List Int) (h : a.length ≤ 4611686018427387904) (k : Nat) (hk : a.length < k) : laws_eqIntS.f k a b = some (decide (a = b)) := by
  unfold laws_eqIntS.f
  by_cases e : (a.length : Int) = (b.length : Int)
  · rw [if_pos e]; exact eq_loop 0 a b (by omega) h (fun k x => laws_eqIntS.l0 k a b x) (fun _ _ => rfl) k hk
  · rw [if_neg e]; congr 1; symm; rw [decide_eq_false_iff_not]; intro h; subst h; exact e rfl
theorem eqIntS_self (a : List Int) (h : a.length ≤ 4611686018427387904) (k : Nat) (hk : a.length < k) : laws_eqIntS.f k a a = some true := by
  rw [eqIntS_ok a a h k hk]; simp
theorem eqMach_self (l0 l1 l6 l7 : List Int) (b2 b3 b4 b5 : Bool) (s : Int) (h : l0.length + l1.length + l6.length + l7.length ≤ 1048576) (k : Nat) (hk : 1048576 < k) : laws_eqMach.f k l0 l1 b2 b3 b4 b5 l6 l7 s l0 l1 b2 b3 b4 b5 l6 l7 s = some true := by
  unfold laws_eqMach.f
  simp only [eqIntS_self l0 (by omega) k (by omega), eqIntS_self l1 (by omega) k (by omega), eqIntS_self l6 (by omega) k (by omega), eqIntS_self l7 (by omega) k (by omega), Option.bind_some, bne_self_eq_false, Bool.false_eq_true, if_false, if_true]
theorem markIntS_ok (l : List Int) (m : Int) (h0 : 0 ≤ m) (h1 : m ≤ 2305843009213693952) (h : l.length ≤ 2305843009213693952) (k : Nat) (hk : l.length < k) : laws_markIntS.f k l m = some (m + l.length, marks id l.length m) := by
  unfold laws_markIntS.f
  exact mark_loop id (fun k a b c => laws_markIntS.l0 k a b c) (fun _ _ _ _ => rfl) m h0 h1 k l h hk
theorem heldIntS_ok (n : Nat) (m : Int) (h0 : 0 ≤ m) (h1 : m ≤ 2305843009213693952) (h : n ≤ 2305843009213693952) (k : Nat) (hk : n < k) : laws_heldIntS.f k (marks id n m) m = some (m + n) := by
  unfold laws_heldIntS.f
  exact held_loop id (fun k a b c => laws_heldIntS.l0 k a b c) (fun _ _ _ _ => rfl) m h0 h1 k n h hk
theorem markMach_ok (l0 l1 l6 l7 : List Int) (b2 b3 b4 b5 : Bool) (s : Int) (h : l0.length + l1.length + l6.length + l7.length ≤ 1048576) (k : Nat) (hk : 1048576 < k) :
    laws_markMach.f k l0 l1 b2 b3 b4 b5 l6 l7 s 1 = some ((1 : Int) + l0.length + l1.length + l6.length + l7.length, marks id l0.length 1, marks id l1.length (1 + l0.length), marks id l6.length (1 + l0.length + l1.length), marks id l7.length (1 + l0.length + l1.length + l6.length)) := by
  unfold laws_markMach.f
  rw [markIntS_ok l0 1 (by omega) (by omega) (by omega) k (by omega)]; simp only [Option.bind_some]
  rw [markIntS_ok l1 _ (by omega) (by omega) (by omega) k (by omega)]; simp only [Option.bind_some]
  rw [markIntS_ok l6 _ (by omega) (by omega) (by omega) k (by omega)]; simp only [Option.bind_some]
  rw [markIntS_ok l7 _ (by omega) (by omega) (by omega) k (by omega)]; simp only [Option.bind_some]
theorem heldMach_ok (n0 n1 n6 n7 : Nat) (b2 b3 b4 b5 : Bool) (s : Int) (h : n0 + n1 + n6 + n7 ≤ 1048576) (k : Nat) (hk : 1048576 < k) :
    laws_heldMach.f k (marks id n0 1) (marks id n1 (1 + n0)) b2 b3 b4 b5 (marks id n6 (1 + n0 + n1)) (marks id n7 (1 + n0 + n1 + n6)) s 1 = some ((1 : Int) + n0 + n1 + n6 + n7) := by
  unfold laws_heldMach.f
  rw [heldIntS_ok n0 1 (by omega) (by omega) (by omega) k (by omega)]; simp only [Option.bind_some]; rw [if_neg (by omega)]
  rw [heldIntS_ok n1 _ (by omega) (by omega) (by omega) k (by omega)]; simp only [Option.bind_some]; rw [if_neg (by omega)]
  rw [heldIntS_ok n6 _ (by omega) (by omega) (by omega) k (by omega)]; simp only [Option.bind_some]; rw [if_neg (by omega)]
  rw [heldIntS_ok n7 _ (by omega) (by omega) (by omega) k (by omega)]; simp only [Option.bind_some]; rw [if_neg (by omega)]
theorem FnExactMachNew : laws_FnExactMachNew.Pure := by
  intro l0 a1 a2 l3 _ _ _ _ _ _ _ _
  by_cases c0 : (l0.length : Int) > 1048576
  · exact ⟨0, by unfold laws_FnExactMachNew.f; rw [if_pos c0]⟩
  by_cases c3 : (l3.length : Int) > 1048576
  · exact ⟨0, by unfold laws_FnExactMachNew.f; rw [if_neg c0, if_pos c3]⟩
  refine ⟨4194306, ?_⟩
  have h0 : l0.length ≤ 1048576 := by omega
  have h3 : l3.length ≤ 1048576 := by omega
  obtain ⟨m0, m1, b2, b3, b4, b5, m6, m7, b8, hm, hl⟩ : ∃ m0 m1 b2 b3 b4 b5 m6 m7 b8, newM l0 a1 a2 l3 = (m0, m1, b2, b3, b4, b5, m6, m7, b8) ∧ m0.length + m1.length + m6.length + m7.length ≤ 1048576 := by
    by_cases h : ((0 ≤ a1 ∧ a1 ≤ 510) ∧ a1 % 2 = 0) ∧ (l0.length : Int) ≤ 256 - a1 / 2 ∧ l0.all isWd = true ∧ l3.all isWd = true ∧ (0 ≤ a2 ∧ a2 ≤ 65535) ∧ l3.length ≤ 50
    · refine ⟨_, _, _, _, _, _, _, _, _, newM_ok h.1 h.2.1 h.2.2.1 h.2.2.2.1 h.2.2.2.2.1 h.2.2.2.2.2, ?_⟩
      have := h.2.2.2.2.2
      rw [newMem_length l0 _ (by omega), newRegs_length, List.length_nil]
      omega
    · exact ⟨_, _, _, _, _, _, _, _, _, newM_not h, by decide⟩
  unfold laws_FnExactMachNew.f
  rw [if_neg c0, if_neg c3]
  simp only [toIntS_ok l0 (by omega) 4194306 (by omega), toIntS_ok l3 (by omega) 4194306 (by omega), Option.bind_some, specNew_ok l0 a1 a2 l3 h0 h3 4194306 (by omega), implNew_ok l0 a1 a2 l3 h0 h3 4194306 (by omega), hm,
    eqMach_self m0 m1 m6 m7 b2 b3 b4 b5 b8 hl 4194306 (by omega), eqIntS_self l0 (by omega) 4194306 (by omega), eqIntS_self l3 (by omega) 4194306 (by omega), if_true,
    markIntS_ok l0 1 (by omega) (by omega) (by omega) 4194306 (by omega), markIntS_ok l3 (1 + (l0.length : Int)) (by omega) (by omega) (by omega) 4194306 (by omega)]
  rw [if_neg (by omega)]
  have hj : laws_FnExactMachNew.j0 (4194305 + 1) l0 a1 a2 l3 false m0 m1 b2 b3 b4 b5 m6 m7 b8 m0 m1 b2 b3 b4 b5 m6 m7 b8 = some true := by
    simp only [laws_FnExactMachNew.j0]
    rw [if_neg (by decide)]
    simp only [markMach_ok m0 m1 m6 m7 b2 b3 b4 b5 b8 hl 4194305 (by omega), heldMach_ok m0.length m1.length m6.length m7.length b2 b3 b4 b5 b8 hl 4194305 (by omega), toIntS_ok l0 (by omega) 4194305 (by omega), toIntS_ok l3 (by omega) 4194305 (by omega), Option.bind_some, implNew_ok l0 a1 a2 l3 h0 h3 4194305 (by omega), hm,
      eqMach_self m0 m1 m6 m7 b2 b3 b4 b5 b8 hl 4194305 (by omega), if_true]
    rw [if_neg (by omega), if_neg (by omega)]
  exact hj

end Go.Proofs.Ytiagbfilffbljaa.Pure
