/- Proved: the law FnExactLoad, as a plain function, answers true at each machine and each place; no further conditions. -/
import Derived.Test.YtiagbfilffbljaaPFnExactLoadx3
import Derived.Test.YtiagbfilffbljaaCommon
namespace Go.Proofs.Ytiagbfilffbljaa.Pure
open Go.RowKit Go.Proofs.Ytiagbfilffbljaa.PFnExactLoad Go.Proofs.YtiagbfilffbljaaW.PrintWords Go.Proofs.YtiagbfilffbljaaW.PrintLast Go.Proofs.Ytiagbfilffbljaa.Common
set_option linter.unusedVariables false
set_option linter.unusedSimpArgs false
theorem toIntS_ok (l : List Int) (h : l.length ≤ 35184372088832) (k : Nat) (hk : l.length < k) : laws_toIntS.f k l = some l := by
  unfold laws_toIntS.f
  rw [if_pos (by omega), if_pos (by omega)]
  exact copy_loop 0 l (by omega) (fun k z i => laws_toIntS.l0 k l z i) (fun _ _ _ => rfl) k _ (by simp) hk
theorem eqIntS_ok (a b : List Int) (h : a.length ≤ 4611686018427387904) (k : Nat) (hk : a.length < k) : laws_eqIntS.f k a b = some (decide (a = b)) := by
  unfold laws_eqIntS.f
  by_cases e : (a.length : Int) = (b.length : Int)
  · rw [if_pos e]; exact eq_loop 0 a b (by omega) h (fun k x => laws_eqIntS.l0 k a b x) (fun _ _ => rfl) k hk
  · rw [if_neg e]; congr 1; symm; rw [decide_eq_false_iff_not]; intro h; subst h; exact e rfl
theorem eqIntS_self (a : List Int) (h : a.length ≤ 4611686018427387904) (k : Nat) (hk : a.length < k) : laws_eqIntS.f k a a = some true := by
  rw [eqIntS_ok a a h k hk]; simp
theorem szIntS_ok (l : List Int) (a : Int) (h0 : 0 ≤ a) (h1 : a ≤ 1048576) (hl : l.length ≤ maxLen) : laws_szIntS.f l a = some (if (l.length : Int) ≤ a then a - l.length else -1) := by
  have hm : maxLen = 9223372036854775807 := rfl
  unfold laws_szIntS.f
  rw [w64 (x := a - (l.length : Int)) (by omega) (by omega)]
  by_cases h : (l.length : Int) ≤ a
  · rw [if_neg (by omega), if_pos h]
  · rw [if_pos (by omega), if_neg h]
theorem szMach_ok (l0 l1 l6 l7 : List Int) (b2 b3 b4 b5 : Bool) (s : Int) (h0 : l0.length ≤ maxLen) (h1 : l1.length ≤ maxLen) (h6 : l6.length ≤ maxLen) (h7 : l7.length ≤ maxLen) :
    ∃ t, laws_szMach.f l0 l1 b2 b3 b4 b5 l6 l7 s 1048576 = some t ∧ (t < 0 ∨ (l0.length + l1.length + l6.length + l7.length ≤ 1048576)) := by
  unfold laws_szMach.f
  rw [szIntS_ok l0 _ (by omega) (by omega) h0]; simp only [Option.bind_some]
  by_cases c0 : (l0.length : Int) ≤ 1048576
  · rw [if_pos c0, if_neg (by omega), szIntS_ok l1 _ (by omega) (by omega) h1]; simp only [Option.bind_some]
    by_cases c1 : (l1.length : Int) ≤ 1048576 - l0.length
    · rw [if_pos c1, if_neg (by omega), szIntS_ok l6 _ (by omega) (by omega) h6]; simp only [Option.bind_some]
      by_cases c6 : (l6.length : Int) ≤ 1048576 - l0.length - l1.length
      · rw [if_pos c6, if_neg (by omega), szIntS_ok l7 _ (by omega) (by omega) h7]; simp only [Option.bind_some]
        by_cases c7 : (l7.length : Int) ≤ 1048576 - l0.length - l1.length - l6.length
        · rw [if_pos c7, if_neg (by omega)]; exact ⟨_, rfl, .inr (by omega)⟩
        · rw [if_neg c7, if_pos (by omega)]; exact ⟨_, rfl, .inl (by omega)⟩
      · rw [if_neg c6, if_pos (by omega)]; exact ⟨_, rfl, .inl (by omega)⟩
    · rw [if_neg c1, if_pos (by omega)]; exact ⟨_, rfl, .inl (by omega)⟩
  · rw [if_neg c0, if_pos (by omega)]; exact ⟨_, rfl, .inl (by omega)⟩
theorem toMach_ok (l0 l1 l6 l7 : List Int) (b2 b3 b4 b5 : Bool) (s : Int) (h : l0.length + l1.length + l6.length + l7.length ≤ 1048576) (k : Nat) (hk : 1048576 < k) : laws_toMach.f k l0 l1 b2 b3 b4 b5 l6 l7 s = some (l0, l1, b2, b3, b4, b5, l6, l7, s) := by
  unfold laws_toMach.f
  simp only [toIntS_ok l0 (by omega) k (by omega), toIntS_ok l1 (by omega) k (by omega), toIntS_ok l6 (by omega) k (by omega), toIntS_ok l7 (by omega) k (by omega), Option.bind_some]
theorem eqMach_self (l0 l1 l6 l7 : List Int) (b2 b3 b4 b5 : Bool) (s : Int) (h : l0.length + l1.length + l6.length + l7.length ≤ 1048576) (k : Nat) (hk : 1048576 < k) : laws_eqMach.f k l0 l1 b2 b3 b4 b5 l6 l7 s l0 l1 b2 b3 b4 b5 l6 l7 s = some true := by
  unfold laws_eqMach.f
  simp only [eqIntS_self l0 (by omega) k (by omega), eqIntS_self l1 (by omega) k (by omega), eqIntS_self l6 (by omega) k (by omega), eqIntS_self l7 (by omega) k (by omega), Option.bind_some, bne_self_eq_false, Bool.false_eq_true, if_false, if_true]
def readW (mem : List Int) (a : Int) : Int × Bool := if (0 ≤ a ∧ a ≤ 510 ∧ a % 2 = 0) ∧ a / 2 < mem.length then (rd mem (a / 2), true) else (0, false)
theorem half_ok (a : Int) (h0 : 0 ≤ a) (h1 : a ≤ 510) : wrap64 (Int.tdiv a 2) = a / 2 ∧ Int.tmod a 2 = a % 2 := by
  rw [Int.tdiv_eq_ediv_of_nonneg h0, Int.tmod_eq_emod_of_nonneg h0]
  exact ⟨w64 (by omega) (by omega), rfl⟩
def load (mem r : List Int) (pr pa : Int) : Int × Bool := if pr = -1 then readW mem pa else if (0 ≤ pr ∧ pr < r.length) ∧ pa = -1 then (rd r pr, true) else (0, false)
theorem l1In_ok (a b c : Int) : spec_l1In.f a b c = some (decide (b ≤ a ∧ a ≤ c)) := by
  unfold spec_l1In.f
  by_cases h : a ≥ b
  · have h' : b ≤ a := h
    rw [if_pos h]; simp [h']
  · have h' : ¬ b ≤ a := h
    rw [if_neg h]; simp [h']
theorem specReadW_ok (l0 l1 l6 l7 : List Int) (b2 b3 b4 b5 : Bool) (s a : Int) : spec_ReadW.f l0 l1 b2 b3 b4 b5 l6 l7 s a = some (readW l0 a) := by
  unfold spec_ReadW.f readW
  simp only [l1In_ok, Option.bind_some]
  by_cases h : 0 ≤ a ∧ a ≤ 510
  · obtain ⟨e1, e2⟩ := half_ok a h.1 h.2
    rw [if_pos (decide_eq_true h), e1, e2]
    by_cases h2 : a % 2 = 0
    · rw [if_pos h2]
      by_cases h3 : a / 2 < l0.length
      · rw [if_neg (by omega), if_pos (by omega), if_pos h3, if_pos (by omega)]
      · rw [if_pos (by omega), if_neg (by omega)]
    · rw [if_neg h2, if_neg (by omega)]
  · rw [if_neg (by simpa using h), if_neg (by omega)]
theorem specLoad_ok (l0 l1 l6 l7 : List Int) (b2 b3 b4 b5 : Bool) (s pr pa : Int) (hl : l1.length ≤ 1048578) : spec_Load.f l0 l1 b2 b3 b4 b5 l6 l7 s pr pa = some (load l0 l1 pr pa) := by
  unfold spec_Load.f load
  simp only [specReadW_ok, l1In_ok, Option.bind_some]
  by_cases h : pr = -1
  · rw [if_pos h, if_pos h]
  rw [if_neg h, if_neg h, w64 (by omega) (by omega)]
  by_cases h2 : 0 ≤ pr ∧ pr < l1.length
  · rw [if_pos (by simp; omega)]
    by_cases h3 : pa = -1
    · rw [if_pos h3, if_pos h2.1, if_pos h2.2, if_pos ⟨h2, h3⟩]
    · rw [if_neg h3, if_neg (fun h' => h3 h'.2)]
  · rw [if_neg (by simp; omega), if_neg (fun h' => h2 h'.1)]
theorem within_ok (a b c : Int) : impl_within.f a b c = some (decide (b ≤ a ∧ a ≤ c)) := by
  unfold impl_within.f
  by_cases h : a ≥ b
  · have h' : b ≤ a := h
    rw [if_pos h]; simp [h']
  · have h' : ¬ b ≤ a := h
    rw [if_neg h]; simp [h']
theorem isAddr_ok (a : Int) : impl_isAddr.f a = some (decide (0 ≤ a ∧ a ≤ 510 ∧ a % 2 = 0)) := by
  unfold impl_isAddr.f
  simp only [within_ok, Option.bind_some]
  by_cases h : 0 ≤ a ∧ a ≤ 510
  · rw [if_pos (decide_eq_true h), (half_ok a h.1 h.2).2]
    congr 1; rw [Bool.eq_iff_iff]; simp; omega
  · rw [if_neg (by simpa using h)]; congr 1; symm; rw [decide_eq_false_iff_not]; omega
theorem implReadW_ok (l0 l1 l6 l7 : List Int) (b2 b3 b4 b5 : Bool) (s a : Int) : impl_ReadW.f l0 l1 b2 b3 b4 b5 l6 l7 s a = some (readW l0 a) := by
  unfold impl_ReadW.f readW
  simp only [isAddr_ok, Option.bind_some]
  by_cases h : 0 ≤ a ∧ a ≤ 510 ∧ a % 2 = 0
  · obtain ⟨e1, e2⟩ := half_ok a h.1 h.2.1
    rw [if_pos (decide_eq_true h), e1]
    by_cases h3 : a / 2 < l0.length
    · rw [if_neg (by omega), if_pos (by omega), if_pos h3, if_pos ⟨h, h3⟩]
    · rw [if_pos (by omega), if_neg (by omega)]
  · rw [if_neg (by simpa using h), if_neg (fun h' => h h'.1)]
theorem isRegPlace_ok (l0 l1 l6 l7 : List Int) (b2 b3 b4 b5 : Bool) (s pr pa : Int) (hl : l1.length ≤ 1048578) : impl_isRegPlace.f l0 l1 b2 b3 b4 b5 l6 l7 s pr pa = some (decide ((0 ≤ pr ∧ pr < l1.length) ∧ pa = -1)) := by
  unfold impl_isRegPlace.f
  simp only [within_ok, Option.bind_some]
  rw [w64 (by omega) (by omega)]
  by_cases h2 : 0 ≤ pr ∧ pr < l1.length
  · rw [if_pos (by simp; omega)]; congr 1; rw [Bool.eq_iff_iff]; simp; omega
  · rw [if_neg (by simp; omega)]; congr 1; symm; rw [decide_eq_false_iff_not]; exact fun h' => h2 h'.1
theorem implLoad_ok (l0 l1 l6 l7 : List Int) (b2 b3 b4 b5 : Bool) (s pr pa : Int) (hl : l1.length ≤ 1048578) : impl_Load.f l0 l1 b2 b3 b4 b5 l6 l7 s pr pa = some (load l0 l1 pr pa) := by
  unfold impl_Load.f load
  simp only [implReadW_ok, isRegPlace_ok l0 l1 l6 l7 b2 b3 b4 b5 s pr pa hl, Option.bind_some]
  by_cases h : (0 ≤ pr ∧ pr < l1.length) ∧ pa = -1
  · rw [if_pos (decide_eq_true h), if_pos h.1.1, if_pos h.1.2, if_neg (by omega), if_pos h]
  · rw [if_neg (by simpa using h)]
    by_cases h1 : pr = -1
    · rw [if_pos h1, if_pos h1]
    · rw [if_neg h1, if_neg h1, if_neg h]
theorem FnExactLoad (l0 l1 : List Int) (b2 b3 b4 b5 : Bool) (l6 l7 : List Int) (s pr pa : Int) (h0 : l0.length ≤ maxLen) (_ : ∀ x ∈ l0, (Lit.int .i64 x).wf = true) (h1 : l1.length ≤ maxLen) (_ : ∀ x ∈ l1, (Lit.int .i64 x).wf = true) (h6 : l6.length ≤ maxLen) (_ : ∀ x ∈ l6, (Lit.int .i64 x).wf = true) (h7 : l7.length ≤ maxLen) (_ : ∀ x ∈ l7, (Lit.int .i64 x).wf = true) (_ : (Lit.int .i64 s).wf = true) (_ : (Lit.int .i64 pr).wf = true) (_ : (Lit.int .i64 pa).wf = true) :
    ∃ k, laws_FnExactLoad.f k l0 l1 b2 b3 b4 b5 l6 l7 s pr pa = some true := by
  refine ⟨1048580, ?_⟩
  unfold laws_FnExactLoad.f
  obtain ⟨t, ht, hc⟩ := szMach_ok l0 l1 l6 l7 b2 b3 b4 b5 s h0 h1 h6 h7
  rw [ht]; simp only [Option.bind_some]
  by_cases hn : t < 0
  · rw [if_pos hn]
  rw [if_neg hn]
  have hl : l0.length + l1.length + l6.length + l7.length ≤ 1048576 := hc.resolve_left hn
  simp only [laws_toPlace.f, toMach_ok l0 l1 l6 l7 b2 b3 b4 b5 s hl 1048580 (by omega), Option.bind_some, specLoad_ok l0 l1 l6 l7 b2 b3 b4 b5 s pr pa (by omega), implLoad_ok l0 l1 l6 l7 b2 b3 b4 b5 s pr pa (by omega), if_true, bne_self_eq_false, laws_FnExactLoad.j0, toMach_ok l0 l1 l6 l7 b2 b3 b4 b5 s hl 1048579 (by omega), eqMach_self l0 l1 l6 l7 b2 b3 b4 b5 s hl 1048579 (by omega), Bool.false_eq_true, if_false]

end Go.Proofs.Ytiagbfilffbljaa.Pure
