/- Plain lemmas on numbers, lists and loops that the pure statements of this seat share. No program in sight. -/
import Derived.Test.YtiagbfilffbljaaVFnStored
import Derived.Laws.BytesArg
import Derived.Laws.BitsLemmas
import Derived.RowKit
namespace Go.Proofs.Ytiagbfilffbljaa.Common
open Go.RowKit Go.Proofs.YtiagbfilffbljaaW.PrintWords Go.Proofs.YtiagbfilffbljaaW.PrintLast

theorem wf8 {x : Int} (h : (Lit.int .u8 x).wf = true) : 0 ≤ x ∧ x ≤ 255 := by
  simp [Lit.wf, IntKind.min, IntKind.max, IntKind.bits, IntKind.signed] at h; omega
theorem w64 {x : Int} (h0 : -9223372036854775808 ≤ x) (h1 : x ≤ 9223372036854775807) : wrap64 x = x := by
  unfold wrap64; omega
theorem wsucc {i : Int} {n : Nat} (h0 : 0 ≤ i) (h : i < (n : Int)) (hn : n ≤ 4611686018427387904) : wrap64 (i + 1) = i + 1 := by
  unfold wrap64; omega
theorem and_mask (n : Int) (i : Nat) (hi : i ≤ 62) : bits .and .i64 n (((2 ^ i - 1 : Nat) : Nat) : Int) = n % ((2 ^ i : Nat) : Int) := by
  have hp : 0 < 2 ^ i := Nat.two_pow_pos i
  have hle : 2 ^ i ≤ 2 ^ 62 := Nat.pow_le_pow_right (by decide) hi
  have hm : (BitVec.ofInt 64 (((2 ^ i - 1 : Nat) : Nat) : Int)).toNat = 2 ^ i - 1 := by
    rw [BitVec.toNat_ofInt]
    have : ((2 ^ i - 1 : Nat) : Int) % ((2 ^ 64 : Nat) : Int) = ((2 ^ i - 1 : Nat) : Int) := by
      apply Int.emod_eq_of_lt <;> omega
    rw [this]; simp
  have key : (BitVec.ofInt 64 n &&& BitVec.ofInt 64 (((2 ^ i - 1 : Nat) : Nat) : Int)).toNat = (n % ((2 ^ 64 : Nat) : Int)).toNat % 2 ^ i := by
    rw [BitVec.toNat_and, hm, BitVec.toNat_ofInt, Nat.and_two_pow_sub_one_eq_mod]
  have hd : (2 ^ i) ∣ 2 ^ 64 := Nat.pow_dvd_pow 2 (by omega)
  show IntKind.i64.wrap ((BitVec.ofInt 64 n &&& BitVec.ofInt 64 (((2 ^ i - 1 : Nat) : Nat) : Int)).toNat : Nat) = _
  rw [key]
  have e : (((n % ((2 ^ 64 : Nat) : Int)).toNat % 2 ^ i : Nat) : Int) = n % ((2 ^ i : Nat) : Int) := by
    rw [Int.natCast_emod, Int.toNat_of_nonneg (Int.emod_nonneg _ (by decide))]
    exact Int.emod_emod_of_dvd _ (by exact_mod_cast hd)
  rw [e, IntKind.wrap_i64]
  have h1 := Int.emod_nonneg n (b := ((2 ^ i : Nat) : Int)) (by omega)
  have h2 := Int.emod_lt_of_pos n (b := ((2 ^ i : Nat) : Int)) (by omega)
  generalize n % ((2 ^ i : Nat) : Int) = m at *
  have : ((2 ^ i : Nat) : Int) ≤ 4611686018427387904 := by
    have : (2 ^ 62 : Nat) = 4611686018427387904 := by decide
    omega
  omega
theorem and65535 (n : Int) : bits .and .i64 n 65535 = n % 65536 := and_mask n 16 (by decide)
theorem and255 (n : Int) : bits .and .i64 n 255 = n % 256 := and_mask n 8 (by decide)
section
variable {α : Type}
theorem ext_getD {a b : List α} (d : α) (hl : a.length = b.length) (h : ∀ j, j < b.length → a.getD j d = b.getD j d) : a = b := by
  apply List.ext_getElem hl
  intro j h1 h2
  have := h j h2
  simpa [List.getD_eq_getElem?_getD, h1, h2] using this

/-- a loop that compares element by element; `p`: what is asked of two elements. -/
theorem all_loop (p : α → α → Prop) [DecidableRel p] (d : α) (x0 x1 : List α) (hl : x0.length = x1.length) (hn : x0.length ≤ 4611686018427387904) (L : Nat → Int → Option Bool)
    (hs : ∀ k x5, L (k + 1) x5 = if x5 < (x0.length : Int) then (if 0 ≤ x5 then (if x5 < (x1.length : Int) then (if p (x0.getD x5.toNat d) (x1.getD x5.toNat d) then (L k (wrap64 (x5 + 1))) else (some false)) else (none)) else (none)) else (some true)) :
    ∀ k, x0.length < k → ∃ b : Bool, L k 0 = some b ∧ (b = true ↔ ∀ j, j < x0.length → p (x0.getD j d) (x1.getD j d)) := by
  have H : ∀ (m : Nat) k (i : Nat), x0.length - i = m → i ≤ x0.length → m < k → ∃ b : Bool, L k (i : Int) = some b ∧ (b = true ↔ ∀ j, i ≤ j → j < x0.length → p (x0.getD j d) (x1.getD j d)) := by
    intro m
    induction m with
    | zero =>
      intro k i hm hi hk
      obtain ⟨k, rfl⟩ : ∃ m, k = m + 1 := ⟨k - 1, by omega⟩
      refine ⟨true, by rw [hs, if_neg (by omega)], ?_⟩
      simp only [true_iff]; intro j h1 h2; omega
    | succ m ih =>
      intro k i hm hi hk
      obtain ⟨k, rfl⟩ : ∃ m, k = m + 1 := ⟨k - 1, by omega⟩
      obtain ⟨b, hb, hbi⟩ := ih k (i + 1) (by omega) (by omega) (by omega)
      rw [hs, if_pos (by omega), if_pos (by omega), if_pos (by omega), wsucc (n := x0.length) (by omega) (by omega) hn, Int.toNat_natCast]
      by_cases e : p (x0.getD i d) (x1.getD i d)
      · rw [if_pos e]
        have h2 : ((i : Int) + 1) = ((i + 1 : Nat) : Int) := by omega
        refine ⟨b, by rw [h2, hb], ?_⟩
        rw [hbi]
        constructor
        · intro h j h1 h3
          rcases Nat.eq_or_lt_of_le h1 with h4 | h4
          · subst h4; exact e
          · exact h j h4 h3
        · intro h j h1 h3; exact h j (by omega) h3
      · rw [if_neg e]
        refine ⟨false, rfl, ?_⟩
        simp only [Bool.false_eq_true, false_iff]
        intro h; exact e (h i (Nat.le_refl _) (by omega))
  intro k hk
  obtain ⟨b, hb, hbi⟩ := H x0.length k 0 (by omega) (by omega) hk
  exact ⟨b, by simpa using hb, by rw [hbi]; simp⟩
theorem eq_loop [DecidableEq α] (d : α) (x0 x1 : List α) (hl : x0.length = x1.length) (hn : x0.length ≤ 4611686018427387904) (L : Nat → Int → Option Bool)
    (hs : ∀ k x5, L (k + 1) x5 = if x5 < (x0.length : Int) then (if 0 ≤ x5 then (if x5 < (x1.length : Int) then (if (x0.getD x5.toNat d) = (x1.getD x5.toNat d) then (L k (wrap64 (x5 + 1))) else (some false)) else (none)) else (none)) else (some true)) :
    ∀ k, x0.length < k → L k 0 = some (decide (x0 = x1)) := by
  intro k hk
  obtain ⟨b, hb, hbi⟩ := all_loop (fun a b => a = b) d x0 x1 hl hn L hs k hk
  rw [hb]; congr 1; rw [Bool.eq_iff_iff, hbi, decide_eq_true_eq]
  constructor
  · intro h; exact ext_getD d hl (fun j hj => h j (by omega))
  · intro h j _; rw [h]
end

/-- what marking a row of n from m on makes. -/
theorem rd_at (l : List Int) (i : Nat) (h : i < l.length) : rd l (i : Int) = l[i] := by
  simp [rd, List.getD_eq_getElem?_getD, h]
end Go.Proofs.Ytiagbfilffbljaa.Common
