/- Plain lemmas on numbers, lists and loops that the pure statements of this seat share. No program in sight. -/
import Derived.Test.YtiagbfilffbljaaVFnExactPlaceOf
import Derived.Laws.BytesArg
import Derived.Laws.BitsLemmas
import Derived.RowKit
namespace Go.Proofs.Ytiagbfilffbljaa.Common
open Go.RowKit Go.Proofs.YtiagbfilffbljaaW.PrintWords Go.Proofs.YtiagbfilffbljaaW.PrintLast

theorem wf64 {x : Int} (h : (Lit.int .i64 x).wf = true) : -9223372036854775808 ≤ x ∧ x ≤ 9223372036854775807 := by
  simp [Lit.wf, IntKind.min, IntKind.max, IntKind.bits, IntKind.signed] at h; omega
theorem wf8 {x : Int} (h : (Lit.int .u8 x).wf = true) : 0 ≤ x ∧ x ≤ 255 := by
  simp [Lit.wf, IntKind.min, IntKind.max, IntKind.bits, IntKind.signed] at h; omega
theorem w64 {x : Int} (h0 : -9223372036854775808 ≤ x) (h1 : x ≤ 9223372036854775807) : wrap64 x = x := by
  unfold wrap64; omega
theorem wsucc {i : Int} {n : Nat} (h0 : 0 ≤ i) (h : i < (n : Int)) (hn : n ≤ 4611686018427387904) : wrap64 (i + 1) = i + 1 := by
  unfold wrap64; omega
theorem wrap64_range (x : Int) : -9223372036854775808 ≤ wrap64 x ∧ wrap64 x ≤ 9223372036854775807 := by
  unfold wrap64; omega

theorem and_mask (n : Int) (i : Nat) (hi : i ≤ 62) : bits .and .i64 n (((2 ^ i - 1 : Nat) : Nat) : Int) = n % ((2 ^ i : Nat) : Int) := by
  have hp : 0 < 2 ^ i := Nat.two_pow_pos i
  have hle : 2 ^ i ≤ 2 ^ 62 := Nat.pow_le_pow_right (by decide) hi
  have hm : (BitVec.ofInt 64 (((2 ^ i - 1 : Nat) : Nat) : Int)).toNat = 2 ^ i - 1 := by
    rw [BitVec.toNat_ofInt]
    have : ((2 ^ i - 1 : Nat) : Int) % ((2 ^ 64 : Nat) : Int) = ((2 ^ i - 1 : Nat) : Int) := by
      apply Int.emod_eq_of_lt <;> omega
    rw [this]; simp
  have key : (BitVec.ofInt 64 n &&& BitVec.ofInt 64 (((2 ^ i - 1 : Nat) : Nat) : Int)).toNat = (n % ((2 ^ 64 : Nat) : Int)).toNat % 2 ^ i := by
    rw [BitVec.toNat_and, hm, BitVec.toNat_ofInt, Nat.and_two_pow_sub_one_eq_mod]
  have hd : (2 ^ i) ∣ 2 ^ 64 := Nat.pow_dvd_pow 2 (by omega)
  show IntKind.i64.wrap ((BitVec.ofInt 64 n &&& BitVec.ofInt 64 (((2 ^ i - 1 : Nat) : Nat) : Int)).toNat : Nat) = _
  rw [key]
  have e : (((n % ((2 ^ 64 : Nat) : Int)).toNat % 2 ^ i : Nat) : Int) = n % ((2 ^ i : Nat) : Int) := by
    rw [Int.natCast_emod, Int.toNat_of_nonneg (Int.emod_nonneg _ (by decide))]
    exact Int.emod_emod_of_dvd _ (by exact_mod_cast hd)
  rw [e, IntKind.wrap_i64]
  have h1 := Int.emod_nonneg n (b := ((2 ^ i : Nat) : Int)) (by omega)
  have h2 := Int.emod_lt_of_pos n (b := ((2 ^ i : Nat) : Int)) (by omega)
  generalize n % ((2 ^ i : Nat) : Int) = m at *
  have : ((2 ^ i : Nat) : Int) ≤ 4611686018427387904 := by
    have : (2 ^ 62 : Nat) = 4611686018427387904 := by decide
    omega
  omega
theorem and65535 (n : Int) : bits .and .i64 n 65535 = n % 65536 := and_mask n 16 (by decide)
theorem and255 (n : Int) : bits .and .i64 n 255 = n % 256 := and_mask n 8 (by decide)
theorem and7 (n : Int) : bits .and .i64 n 7 = n % 8 := and_mask n 3 (by decide)
theorem and30 (n : Int) : bits .and .i64 n 1073741823 = n % 1073741824 := and_mask n 30 (by decide)

section
variable {α : Type}
theorem getD_set_self (l : List α) (i : Nat) (v d : α) (h : i < l.length) : (l.set i v).getD i d = v := by
  simp [List.getD_eq_getElem?_getD, h]
theorem getD_set_ne (l : List α) (i j : Nat) (v d : α) (h : i ≠ j) : (l.set i v).getD j d = l.getD j d := by
  simp [List.getD_eq_getElem?_getD, List.getElem?_set_ne h]
theorem ext_getD {a b : List α} (d : α) (hl : a.length = b.length) (h : ∀ j, j < b.length → a.getD j d = b.getD j d) : a = b := by
  apply List.ext_getElem hl
  intro j h1 h2
  have := h j h2
  simpa [List.getD_eq_getElem?_getD, h1, h2] using this

/-- a loop that copies element by element. -/
theorem copy_loop (d : α) (x0 : List α) (hn : x0.length ≤ 4611686018427387904) (L : Nat → List α → Int → Option (List α))
    (hs : ∀ k x3 x4, L (k + 1) x3 x4 = if x4 < (x0.length : Int) then (if 0 ≤ x4 then (if x4 < (x3.length : Int) then (L k (x3.set (x4 : Int).toNat (x0.getD x4.toNat d)) (wrap64 (x4 + 1))) else (none)) else (none)) else (some x3)) :
    ∀ k z, z.length = x0.length → x0.length < k → L k z 0 = some x0 := by
  have H : ∀ (m : Nat) k z (i : Nat), x0.length - i = m → i ≤ x0.length → z.length = x0.length → (∀ j, j < i → z.getD j d = x0.getD j d) → m < k → L k z (i : Int) = some x0 := by
    intro m
    induction m with
    | zero =>
      intro k z i hm hi hz hj hk
      obtain ⟨k, rfl⟩ : ∃ m, k = m + 1 := ⟨k - 1, by omega⟩
      rw [hs, if_neg (by omega)]
      rw [ext_getD d hz (fun j hj' => hj j (by omega))]
    | succ m ih =>
      intro k z i hm hi hz hj hk
      obtain ⟨k, rfl⟩ : ∃ m, k = m + 1 := ⟨k - 1, by omega⟩
      rw [hs, if_pos (by omega), if_pos (by omega), if_pos (by omega), wsucc (n := x0.length) (by omega) (by omega) hn]
      have := ih k (z.set i (x0.getD i d)) (i + 1) (by omega) (by omega) (by simpa using hz) (fun j hj' => by
        by_cases e : i = j
        · subst e; rw [getD_set_self _ _ _ _ (by omega)]
        · rw [getD_set_ne _ _ _ _ _ e]; exact hj j (by omega)) (by omega)
      simpa using this
  intro k z hz hk
  exact H x0.length k z 0 (by omega) (by omega) hz (fun j hj => by omega) hk

/-- a loop that compares element by element; `p`: what is asked of two elements. -/
theorem all_loop (p : α → α → Prop) [DecidableRel p] (d : α) (x0 x1 : List α) (hl : x0.length = x1.length) (hn : x0.length ≤ 4611686018427387904) (L : Nat → Int → Option Bool)
    (hs : ∀ k x5, L (k + 1) x5 = if x5 < (x0.length : Int) then (if 0 ≤ x5 then (if x5 < (x1.length : Int) then (if p (x0.getD x5.toNat d) (x1.getD x5.toNat d) then (L k (wrap64 (x5 + 1))) else (some false)) else (none)) else (none)) else (some true)) :
    ∀ k, x0.length < k → ∃ b : Bool, L k 0 = some b ∧ (b = true ↔ ∀ j, j < x0.length → p (x0.getD j d) (x1.getD j d)) := by
  have H : ∀ (m : Nat) k (i : Nat), x0.length - i = m → i ≤ x0.length → m < k → ∃ b : Bool, L k (i : Int) = some b ∧ (b = true ↔ ∀ j, i ≤ j → j < x0.length → p (x0.getD j d) (x1.getD j d)) := by
    intro m
    induction m with
    | zero =>
      intro k i hm hi hk
      obtain ⟨k, rfl⟩ : ∃ m, k = m + 1 := ⟨k - 1, by omega⟩
      refine ⟨true, by rw [hs, if_neg (by omega)], ?_⟩
      simp only [true_iff]; intro j h1 h2; omega
    | succ m ih =>
      intro k i hm hi hk
      obtain ⟨k, rfl⟩ : ∃ m, k = m + 1 := ⟨k - 1, by omega⟩
      obtain ⟨b, hb, hbi⟩ := ih k (i + 1) (by omega) (by omega) (by omega)
      rw [hs, if_pos (by omega), if_pos (by omega), if_pos (by omega), wsucc (n := x0.length) (by omega) (by omega) hn, Int.toNat_natCast]
      by_cases e : p (x0.getD i d) (x1.getD i d)
      · rw [if_pos e]
        have h2 : ((i : Int) + 1) = ((i + 1 : Nat) : Int) := by omega
        refine ⟨b, by rw [h2, hb], ?_⟩
        rw [hbi]
        constructor
        · intro h j h1 h3
          rcases Nat.eq_or_lt_of_le h1 with h4 | h4
          · subst h4; exact e
          · exact h j h4 h3
        · intro h j h1 h3; exact h j (by omega) h3
      · rw [if_neg e]
        refine ⟨false, rfl, ?_⟩
        simp only [Bool.false_eq_true, false_iff]
        intro h; exact e (h i (Nat.le_refl _) (by omega))
  intro k hk
  obtain ⟨b, hb, hbi⟩ := H x0.length k 0 (by omega) (by omega) hk
  exact ⟨b, by simpa using hb, by rw [hbi]; simp⟩
theorem eq_loop [DecidableEq α] (d : α) (x0 x1 : List α) (hl : x0.length = x1.length) (hn : x0.length ≤ 4611686018427387904) (L : Nat → Int → Option Bool)
    (hs : ∀ k x5, L (k + 1) x5 = if x5 < (x0.length : Int) then (if 0 ≤ x5 then (if x5 < (x1.length : Int) then (if (x0.getD x5.toNat d) = (x1.getD x5.toNat d) then (L k (wrap64 (x5 + 1))) else (some false)) else (none)) else (none)) else (some true)) :
    ∀ k, x0.length < k → L k 0 = some (decide (x0 = x1)) := by
  intro k hk
  obtain ⟨b, hb, hbi⟩ := all_loop (fun a b => a = b) d x0 x1 hl hn L hs k hk
  rw [hb]; congr 1; rw [Bool.eq_iff_iff, hbi, decide_eq_true_eq]
  constructor
  · intro h; exact ext_getD d hl (fun j hj => h j (by omega))
  · intro h j _; rw [h]
end

/-- what marking a row of n from m on makes. -/
def marks (enc : Int → Int) (n : Nat) (m : Int) : List Int := (List.range n).map fun (j : Nat) => enc (m + (j : Int))
theorem marks_length (enc : Int → Int) (n : Nat) (m : Int) : (marks enc n m).length = n := by simp [marks]
theorem marks_getD (enc : Int → Int) (n : Nat) (m : Int) (j : Nat) (h : j < n) : (marks enc n m).getD j 0 = enc (m + j) := by
  simp [marks, List.getD_eq_getElem?_getD, h]
theorem mark_loop (enc : Int → Int) (L : Nat → List Int → Int → Int → Option (Int × List Int))
    (hs : ∀ k x0 x1 x5, L (k + 1) x0 x1 x5 = if x5 < (x0.length : Int) then (if 0 ≤ x5 then (L k (x0.set (x5 : Int).toNat (enc x1)) (wrap64 (x1 + 1)) (wrap64 (x5 + 1))) else (none)) else (some (x1, x0))) (m : Int) (h0 : 0 ≤ m) (h1 : m ≤ 2305843009213693952) :
    ∀ k x0, x0.length ≤ 2305843009213693952 → x0.length < k → L k x0 m 0 = some (m + x0.length, marks enc x0.length m) := by
  have H : ∀ (r : Nat) k (n : Nat) x0 (i : Nat), n ≤ 2305843009213693952 → n - i = r → i ≤ n → x0.length = n → (∀ j, j < i → x0.getD j 0 = enc (m + j)) → r < k → L k x0 (m + i) (i : Int) = some (m + n, marks enc n m) := by
    intro r
    induction r with
    | zero =>
      intro k n x0 i hn hm hi hz hj hk
      obtain ⟨k, rfl⟩ : ∃ m, k = m + 1 := ⟨k - 1, by omega⟩
      rw [hs, if_neg (by omega)]
      have e : x0 = marks enc n m := ext_getD 0 (by rw [marks_length, hz]) (fun j hj' => by
        rw [marks_length] at hj'; rw [marks_getD _ _ _ _ hj']; exact hj j (by omega))
      rw [e]; congr 2; omega
    | succ r ih =>
      intro k n x0 i hn hm hi hz hj hk
      obtain ⟨k, rfl⟩ : ∃ m, k = m + 1 := ⟨k - 1, by omega⟩
      rw [hs, if_pos (by omega), if_pos (by omega), wsucc (i := (i : Int)) (n := n) (by omega) (by omega) (by omega), w64 (x := m + i + 1) (by omega) (by omega)]
      have := ih k n (x0.set i (enc (m + i))) (i + 1) hn (by omega) (by omega) (by simpa using hz) (fun j hj' => by
        by_cases e : i = j
        · subst e; rw [getD_set_self _ _ _ _ (by omega)]
        · rw [getD_set_ne _ _ _ _ _ e]; exact hj j (by omega)) (by omega)
      have h2 : m + (i : Int) + 1 = m + ((i + 1 : Nat) : Int) := by omega
      have h3 : ((i : Int) + 1) = ((i + 1 : Nat) : Int) := by omega
      rw [h2, h3, Int.toNat_natCast]; exact this
  intro k x0 hn hk
  have := H x0.length k x0.length x0 0 hn (by omega) (by omega) rfl (fun j hj => by omega) hk
  simpa using this
theorem held_loop (enc : Int → Int) (L : Nat → List Int → Int → Int → Option Int)
    (hs : ∀ k x0 x1 x5, L (k + 1) x0 x1 x5 = if x5 < (x0.length : Int) then (if 0 ≤ x5 then (if (x0.getD x5.toNat 0) = (enc x1) then (L k x0 (wrap64 (x1 + 1)) (wrap64 (x5 + 1))) else (some (-1))) else (none)) else (some x1)) (m : Int) (h0 : 0 ≤ m) (h1 : m ≤ 2305843009213693952) :
    ∀ k (n : Nat), n ≤ 2305843009213693952 → n < k → L k (marks enc n m) m 0 = some (m + n) := by
  have H : ∀ (r : Nat) k (n : Nat) (i : Nat), n ≤ 2305843009213693952 → n - i = r → i ≤ n → r < k → L k (marks enc n m) (m + i) (i : Int) = some (m + n) := by
    intro r
    induction r with
    | zero =>
      intro k n i hn hm hi hk
      obtain ⟨k, rfl⟩ : ∃ m, k = m + 1 := ⟨k - 1, by omega⟩
      rw [hs, if_neg (by rw [marks_length]; omega)]
      congr 2; omega
    | succ r ih =>
      intro k n i hn hm hi hk
      obtain ⟨k, rfl⟩ : ∃ m, k = m + 1 := ⟨k - 1, by omega⟩
      rw [hs, if_pos (by rw [marks_length]; omega), if_pos (by omega), Int.toNat_natCast, marks_getD _ _ _ _ (by omega), if_pos rfl, wsucc (i := (i : Int)) (n := n) (by omega) (by omega) (by omega), w64 (x := m + i + 1) (by omega) (by omega)]
      have := ih k n (i + 1) hn (by omega) (by omega) (by omega)
      have h2 : m + (i : Int) + 1 = m + ((i + 1 : Nat) : Int) := by omega
      have h3 : ((i : Int) + 1) = ((i + 1 : Nat) : Int) := by omega
      rw [h2, h3]; exact this
  intro k n hn hk
  have := H n k n 0 hn (by omega) (by omega) hk
  simpa using this
theorem or_bytes (a b : Int) (h0 : 0 ≤ a) (h1 : a ≤ 255) (h2 : 0 ≤ b) (h3 : b ≤ 255) : bits .or .i64 a (b * 256) = a + b * 256 := by
  have hc : bits .or .i64 a (b * 256) = bits .or .i64 (b * 256) a := by simp only [bits, BitVec.or_comm]
  rw [hc, bits_join .i64 62 (by decide) (fun n _ _ => by rw [IntKind.wrap_i64]; omega) 8 (b * 256) a (by omega) (by omega) (by omega) h0 (by omega) (by omega)]
  omega
theorem high_bits (a i : Nat) (j : Nat) : (a / 2 ^ i * 2 ^ i).testBit j = (decide (i ≤ j) && a.testBit j) := by
  rw [← Nat.shiftRight_eq_div_pow, ← Nat.shiftLeft_eq, Nat.testBit_shiftLeft]
  by_cases h : i ≤ j
  · simp [h, Nat.testBit_shiftRight]
  · simp [h]
theorem andNot_mask (w : Int) (h0 : 0 ≤ w) (h1 : w < 4611686018427387904) (i : Nat) : bits .andNot .i64 w (((2 ^ i - 1 : Nat) : Nat) : Int) = w - w % ((2 ^ i : Nat) : Int) := by
  obtain ⟨a, rfl⟩ := Int.eq_ofNat_of_zero_le h0
  have ha : a < 2 ^ 62 := by
    have : (2 : Nat) ^ 62 = 4611686018427387904 := by decide
    omega
  have hp : 0 < 2 ^ i := Nat.two_pow_pos i
  have key : (BitVec.ofInt 64 (a : Int) &&& ~~~(BitVec.ofInt 64 (((2 ^ i - 1 : Nat) : Nat) : Int))).toNat = a / 2 ^ i * 2 ^ i := by
    rw [BitVec.ofInt_natCast, BitVec.ofInt_natCast]
    apply Nat.eq_of_testBit_eq
    intro j
    rw [high_bits]
    rw [← BitVec.getLsbD, BitVec.getLsbD_and, BitVec.getLsbD_not, BitVec.getLsbD_ofNat, BitVec.getLsbD_ofNat, Nat.testBit_two_pow_sub_one]
    by_cases hj : j < 64
    · by_cases hij : i ≤ j
      · simp [hj, hij, Nat.not_lt.2 hij]
      · simp [hj, hij, Nat.lt_of_not_le hij]
    · have : a.testBit j = false := Nat.testBit_lt_two_pow (Nat.lt_of_lt_of_le ha (Nat.pow_le_pow_right (by decide) (by omega)))
      simp [hj, this]
  show IntKind.i64.wrap ((BitVec.ofInt 64 (a : Int) &&& ~~~(BitVec.ofInt 64 (((2 ^ i - 1 : Nat) : Nat) : Int))).toNat : Nat) = _
  rw [key, IntKind.wrap_i64]
  have e := Nat.div_add_mod a (2 ^ i)
  have e2 : a / 2 ^ i * 2 ^ i + a % 2 ^ i = a := by rw [Nat.mul_comm]; exact e
  have hle : a / 2 ^ i * 2 ^ i ≤ a := by omega
  have e3 : ((a : Int) % ((2 ^ i : Nat) : Int)) = ((a % 2 ^ i : Nat) : Int) := by rw [Int.natCast_emod]
  have : (2 : Nat) ^ 62 = 4611686018427387904 := by decide
  rw [e3]
  generalize a / 2 ^ i * 2 ^ i = q at *
  omega
theorem and_high (w : Int) (h0 : 0 ≤ w) (h1 : w < 65536) (i : Nat) (hi : i ≤ 16) : bits .and .i64 w (((2 ^ 16 - 2 ^ i : Nat) : Nat) : Int) = w - w % ((2 ^ i : Nat) : Int) := by
  obtain ⟨a, rfl⟩ := Int.eq_ofNat_of_zero_le h0
  have ha : a < 2 ^ 16 := by omega
  have hp : 0 < 2 ^ i := Nat.two_pow_pos i
  have hm : (2 ^ 16 - 2 ^ i : Nat) = (2 ^ (16 - i) - 1) * 2 ^ i := by
    rw [Nat.sub_mul, ← Nat.pow_add, Nat.one_mul, show 16 - i + i = 16 by omega]
  have key : (BitVec.ofInt 64 (a : Int) &&& (BitVec.ofInt 64 (((2 ^ 16 - 2 ^ i : Nat) : Nat) : Int))).toNat = a / 2 ^ i * 2 ^ i := by
    rw [BitVec.ofInt_natCast, BitVec.ofInt_natCast]
    apply Nat.eq_of_testBit_eq
    intro j
    rw [high_bits, ← BitVec.getLsbD, BitVec.getLsbD_and, BitVec.getLsbD_ofNat, BitVec.getLsbD_ofNat, hm, ← Nat.shiftLeft_eq, Nat.testBit_shiftLeft, Nat.testBit_two_pow_sub_one]
    by_cases hj : j < 16
    · by_cases hij : i ≤ j
      · have : j - i < 16 - i := by omega
        have : j < 64 := by omega
        simp [*]
      · simp [hij]
    · have : a.testBit j = false := Nat.testBit_lt_two_pow (Nat.lt_of_lt_of_le ha (Nat.pow_le_pow_right (by decide) (by omega)))
      simp [this]
  show IntKind.i64.wrap ((BitVec.ofInt 64 (a : Int) &&& (BitVec.ofInt 64 (((2 ^ 16 - 2 ^ i : Nat) : Nat) : Int))).toNat : Nat) = _
  rw [key, IntKind.wrap_i64]
  have e := Nat.div_add_mod a (2 ^ i)
  have e2 : a / 2 ^ i * 2 ^ i + a % 2 ^ i = a := by rw [Nat.mul_comm]; exact e
  have e3 : ((a : Int) % ((2 ^ i : Nat) : Int)) = ((a % 2 ^ i : Nat) : Int) := by rw [Int.natCast_emod]
  rw [e3]
  generalize a / 2 ^ i * 2 ^ i = q at *
  omega
theorem getD_at {α : Type} (l : List α) (d : α) (i : Nat) (h : i < l.length) : l.getD i d = l[i] := by
  simp [List.getD_eq_getElem?_getD, h]
theorem rd_at (l : List Int) (i : Nat) (h : i < l.length) : rd l (i : Int) = l[i] := by
  simp [rd, List.getD_eq_getElem?_getD, h]
theorem cut1 (l : List Int) (a : Nat) (h : a + 1 ≤ l.length) : (l.take (a + 1)).drop a = [l.getD a 0] := by
  apply List.ext_getElem
  · simp; omega
  · intro j h1 h2
    have : j = 0 := by simp at h2; omega
    subst this
    simp [List.getD_eq_getElem?_getD, show a < l.length by omega]
theorem cut2 (l : List Int) (a : Nat) (h : a + 2 ≤ l.length) : (l.take (a + 2)).drop a = [l.getD a 0, l.getD (a + 1) 0] := by
  apply List.ext_getElem
  · simp; omega
  · intro j h1 h2
    have : j = 0 ∨ j = 1 := by simp at h2; omega
    rcases this with rfl | rfl <;> simp [List.getD_eq_getElem?_getD, show a < l.length by omega, show a + 1 < l.length by omega]
theorem cut3 (l : List Int) (a : Nat) (h : a + 3 ≤ l.length) : (l.take (a + 3)).drop a = [l.getD a 0, l.getD (a + 1) 0, l.getD (a + 2) 0] := by
  apply List.ext_getElem
  · simp; omega
  · intro j h1 h2
    have : j = 0 ∨ j = 1 ∨ j = 2 := by simp at h2; omega
    rcases this with rfl | rfl | rfl <;> simp [List.getD_eq_getElem?_getD, show a < l.length by omega, show a + 1 < l.length by omega, show a + 2 < l.length by omega]
end Go.Proofs.Ytiagbfilffbljaa.Common
