/- Proved: the law FnExactEncode, as a plain function, answers true at each instruction of ints; no further conditions. -/
import Derived.Test.YtajkjkdfcegdpaaPFnExactEncodex10
import Derived.Test.YtajkjkdfcegdpaaCommon
namespace Go.Proofs.Ytajkjkdfcegdpaa.Pure
open Go.RowKit Go.Proofs.Ytajkjkdfcegdpaa.PFnExactEncode Go.Proofs.YtajkjkdfcegdpaaW.PrintWords Go.Proofs.YtajkjkdfcegdpaaW.PrintLast Go.Proofs.Ytajkjkdfcegdpaa.Common
set_option linter.unusedVariables false
set_option linter.unusedSimpArgs false
def hasX (m r : Int) : Bool := m == 6 || (m == 7 || (r == 7 && (m == 2 || m == 3)))
def opdOk (m r x : Int) : Bool := decide (0 ≤ m ∧ m ≤ 7 ∧ 0 ≤ r ∧ r ≤ 7 ∧ 0 ≤ x ∧ x ≤ 65535) && (hasX m r || x == 0)
def zr (m r x : Int) : Bool := m == 0 && (r == 0 && (x == 0))
theorem zr_iff {m r x : Int} : zr m r x = true ↔ m = 0 ∧ r = 0 ∧ x = 0 := by simp [zr]
theorem zr_ok {m r x : Int} (h : zr m r x = true) : opdOk m r x = true := by
  obtain ⟨rfl, rfl, rfl⟩ := zr_iff.1 h; decide
def insB (op n : Int) (a b c d : Bool) : Bool :=
  if 1 ≤ op ∧ op ≤ 6 then a && b && decide (n = 0) else if 7 ≤ op ∧ op ≤ 14 then c && b && decide (n = 0) else if op = 15 then c && b && decide (0 ≤ n ∧ n ≤ 7)
  else if op = 16 then c && d && decide (0 ≤ n ∧ n ≤ 7) else if 17 ≤ op ∧ op ≤ 21 then c && d && decide (-128 ≤ n ∧ n ≤ 127) else if op = 22 then c && d && decide (n = 0)
  else if op = 23 then c && d && decide (0 ≤ n ∧ n ≤ 255) else false
def insOk (op sm sr sx dm dr dx n : Int) : Bool := insB op n (opdOk sm sr sx) (opdOk dm dr dx) (zr sm sr sx) (zr dm dr dx)
theorem opdOk_bounds {m r x : Int} (h : opdOk m r x = true) : 0 ≤ m ∧ m ≤ 7 ∧ 0 ≤ r ∧ r ≤ 7 ∧ 0 ≤ x ∧ x ≤ 65535 := by
  unfold opdOk at h; simp only [Bool.and_eq_true, decide_eq_true_eq] at h; exact h.1
/-- what a right instruction has. -/
theorem insOk_elim {op sm sr sx dm dr dx n : Int} (h : insOk op sm sr sx dm dr dx n = true) :
    1 ≤ op ∧ op ≤ 23 ∧ (0 ≤ sm ∧ sm ≤ 7 ∧ 0 ≤ sr ∧ sr ≤ 7 ∧ 0 ≤ sx ∧ sx ≤ 65535) ∧ (0 ≤ dm ∧ dm ≤ 7 ∧ 0 ≤ dr ∧ dr ≤ 7 ∧ 0 ≤ dx ∧ dx ≤ 65535) ∧ (7 ≤ op → sm = 0 ∧ sr = 0 ∧ sx = 0) ∧ (16 ≤ op → dm = 0 ∧ dr = 0 ∧ dx = 0) ∧
    (op ≤ 14 → n = 0) ∧ (op = 15 → 0 ≤ n ∧ n ≤ 7) ∧ (op = 16 → 0 ≤ n ∧ n ≤ 7) ∧ (17 ≤ op → op ≤ 21 → -128 ≤ n ∧ n ≤ 127) ∧ (op = 22 → n = 0) ∧ (op = 23 → 0 ≤ n ∧ n ≤ 255) := by
  unfold insOk insB at h
  split at h
  · simp only [Bool.and_eq_true, decide_eq_true_eq] at h
    have a := opdOk_bounds h.1.1; have b := opdOk_bounds h.1.2
    refine ⟨by omega, by omega, a, b, ?_, ?_, ?_, ?_, ?_, ?_, ?_, ?_⟩ <;> omega
  split at h
  · simp only [Bool.and_eq_true, decide_eq_true_eq, zr_iff] at h
    have b := opdOk_bounds h.1.2
    refine ⟨by omega, by omega, by omega, b, ?_, ?_, ?_, ?_, ?_, ?_, ?_, ?_⟩ <;> omega
  split at h
  · simp only [Bool.and_eq_true, decide_eq_true_eq, zr_iff] at h
    have b := opdOk_bounds h.1.2
    refine ⟨by omega, by omega, by omega, b, ?_, ?_, ?_, ?_, ?_, ?_, ?_, ?_⟩ <;> omega
  split at h
  · simp only [Bool.and_eq_true, decide_eq_true_eq, zr_iff] at h
    refine ⟨by omega, by omega, by omega, by omega, ?_, ?_, ?_, ?_, ?_, ?_, ?_, ?_⟩ <;> omega
  split at h
  · simp only [Bool.and_eq_true, decide_eq_true_eq, zr_iff] at h
    refine ⟨by omega, by omega, by omega, by omega, ?_, ?_, ?_, ?_, ?_, ?_, ?_, ?_⟩ <;> omega
  split at h
  · simp only [Bool.and_eq_true, decide_eq_true_eq, zr_iff] at h
    refine ⟨by omega, by omega, by omega, by omega, ?_, ?_, ?_, ?_, ?_, ?_, ?_, ?_⟩ <;> omega
  split at h
  · simp only [Bool.and_eq_true, decide_eq_true_eq, zr_iff] at h
    refine ⟨by omega, by omega, by omega, by omega, ?_, ?_, ?_, ?_, ?_, ?_, ?_, ?_⟩ <;> omega
  · exact absurd h (by decide)
def bases : List Int := [0, 4096, 8192, 16384, 20480, 24576, 57344, 2560, 2688, 2752, 2816, 3008, 3200, 3264, 64, 2048, 128, 256, 512, 768, 1024, 1280, 0, 34816]
def codeW (op sm sr dm dr n : Int) : Int :=
  bases.getD op.toNat 0 + (if op ≤ 6 then (sm * 8 + sr) * 64 else 0) + (if op ≤ 15 then dm * 8 + dr else 0) + (if op = 15 then n * 64 else if op = 16 then n else if op = 23 then n else if 17 ≤ op ∧ op ≤ 21 then n % 256 else 0)
def tails (op sm sr sx dm dr dx : Int) : List Int := (if (decide (op ≤ 6) && hasX sm sr) = true then [sx] else []) ++ (if (decide (op ≤ 15) && hasX dm dr) = true then [dx] else [])
def encode (op sm sr sx dm dr dx n : Int) : List Int := if insOk op sm sr sx dm dr dx n = true then codeW op sm sr dm dr n :: tails op sm sr sx dm dr dx else []
theorem encode_length (op sm sr sx dm dr dx n : Int) : (encode op sm sr sx dm dr dx n).length ≤ 3 := by
  unfold encode tails; split
  · split <;> split <;> simp
  · simp
theorem specHasX_ok (m r x : Int) : spec_HasX.f m r x = some (hasX m r) := by
  unfold spec_HasX.f hasX
  by_cases h6 : m = 6
  · simp [h6]
  by_cases h7 : m = 7
  · simp [h7]
  by_cases h : r = 7
  · by_cases h2 : m = 2
    · simp [h, h2]
    · have a6 : (m == 6) = false := by simpa using h6
      have a7 : (m == 7) = false := by simpa using h7
      have a2 : (m == 2) = false := by simpa using h2
      simp [h6, h7, h, h2, a6, a7, a2]
  simp [h6, h7, h]
theorem l1In_ok (a b c : Int) : spec_l1In.f a b c = some (decide (b ≤ a ∧ a ≤ c)) := by
  unfold spec_l1In.f
  by_cases h : a ≥ b
  · have h' : b ≤ a := h
    rw [if_pos h]; simp [h']
  · have h' : ¬ b ≤ a := h
    rw [if_neg h]; simp [h']
theorem specOpdOk_ok (m r x : Int) : spec_OpdOk.f m r x = some (opdOk m r x) := by
  unfold spec_OpdOk.f opdOk
  simp only [l1In_ok, specHasX_ok, Option.bind_some]
  by_cases h1 : 0 ≤ m ∧ m ≤ 7
  · by_cases h2 : 0 ≤ r ∧ r ≤ 7
    · by_cases h3 : 0 ≤ x ∧ x ≤ 65535
      · cases hasX m r <;> simp [h1, h2, h3]
      · have : ¬ (0 ≤ m ∧ m ≤ 7 ∧ 0 ≤ r ∧ r ≤ 7 ∧ 0 ≤ x ∧ x ≤ 65535) := by omega
        simp only [decide_eq_false this, Bool.false_and]; simp [h1, h2, h3]
    · have : ¬ (0 ≤ m ∧ m ≤ 7 ∧ 0 ≤ r ∧ r ≤ 7 ∧ 0 ≤ x ∧ x ≤ 65535) := by omega
      simp only [decide_eq_false this, Bool.false_and]; simp [h1, h2]
  · have : ¬ (0 ≤ m ∧ m ≤ 7 ∧ 0 ≤ r ∧ r ≤ 7 ∧ 0 ≤ x ∧ x ≤ 65535) := by omega
    simp only [decide_eq_false this, Bool.false_and]; simp [h1]
theorem l3Zero_ok (m r x : Int) : spec_l3Zero.f m r x = some (zr m r x) := rfl
set_option maxHeartbeats 4000000 in
theorem specInsOk_ok (op sm sr sx dm dr dx n : Int) (k : Nat) (hk : 2 ≤ k) : spec_InsOk.f k op sm sr sx dm dr dx n = some (insOk op sm sr sx dm dr dx n) := by
  obtain ⟨k, rfl⟩ : ∃ m, k = m + 1 := ⟨k - 1, by omega⟩
  unfold spec_InsOk.f insOk insB
  simp only [l1In_ok, specOpdOk_ok, l3Zero_ok, Option.bind_some, spec_InsOk.j0]
  generalize opdOk sm sr sx = a
  generalize opdOk dm dr dx = b
  generalize zr sm sr sx = c
  generalize zr dm dr dx = d
  cases a <;> cases b <;> cases c <;> cases d <;> simp only [if_true, Bool.false_eq_true, if_false, Bool.true_and, Bool.false_and, Bool.and_false, Bool.not_true, Bool.not_false, decide_eq_true_eq]
  all_goals repeat' split
  all_goals first | rfl | omega | (congr 1; rw [Bool.eq_iff_iff]; simp only [beq_iff_eq, decide_eq_true_eq, Bool.false_eq_true]; omega) | (simp; omega)
theorem specBase_ok (op : Int) (h0 : 0 ≤ op) (h1 : op ≤ 23) : spec_l4Base.f op = some (bases.getD op.toNat 0) := by
  unfold spec_l4Base.f
  simp only [Option.bind_some]
  rw [if_pos h0, if_pos (by simp; omega)]; rfl
theorem specSix_ok (m r x : Int) (h : 0 ≤ m ∧ m ≤ 7 ∧ 0 ≤ r ∧ r ≤ 7) : spec_l4Six.f m r x = some (m * 8 + r) := by
  unfold spec_l4Six.f
  rw [w64 (x := m * 8) (by omega) (by omega), w64 (by omega) (by omega)]
theorem bases_range (op : Int) : 0 ≤ bases.getD op.toNat 0 ∧ bases.getD op.toNat 0 ≤ 57344 := by
  have h : ∀ i, i < 24 → 0 ≤ bases.getD i 0 ∧ bases.getD i 0 ≤ 57344 := by decide
  rcases Nat.lt_or_ge op.toNat 24 with h1 | h1
  · exact h _ h1
  · have : bases.getD op.toNat 0 = 0 := by simp [bases, List.getD_eq_getElem?_getD]; rw [List.getElem?_eq_none (by simpa using h1)]; rfl
    omega
theorem specTail_ok (op sm sr sx dm dr dx n c : Int) (k : Nat) (hk : 2 ≤ k) : spec_Encode.j1 k c op sm sr sx dm dr dx n = some (c :: tails op sm sr sx dm dr dx) := by
  obtain ⟨k, rfl⟩ : ∃ m, k = m + 2 := ⟨k - 2, by omega⟩
  simp only [spec_Encode.j1, spec_Encode.j2, Option.bind_some, specHasX_ok, tails]
  by_cases h6 : op ≤ 6 <;> by_cases h15 : op ≤ 15 <;> cases hasX sm sr <;> cases hasX dm dr <;> simp [h6, h15]
set_option maxHeartbeats 4000000 in
theorem specEncode_ok (op sm sr sx dm dr dx n : Int) (k : Nat) (hk : 5 ≤ k) : spec_Encode.f k op sm sr sx dm dr dx n = some (encode op sm sr sx dm dr dx n) := by
  unfold spec_Encode.f encode
  rw [specInsOk_ok _ _ _ _ _ _ _ _ k (by omega)]
  simp only [Option.bind_some]
  by_cases hi : insOk op sm sr sx dm dr dx n = true
  · obtain ⟨h1, h23, hs, hd, _, _, hn⟩ := insOk_elim hi
    rw [if_pos hi, if_pos hi, specBase_ok op (by omega) h23]
    simp only [Option.bind_some]
    have hb := bases_range op
    unfold codeW
    generalize bases.getD op.toNat 0 = b at *
    by_cases h6 : op ≤ 6
    · rw [if_pos h6, specSix_ok sm sr sx (by omega), specSix_ok dm dr dx (by omega)]
      simp only [Option.bind_some]
      rw [specTail_ok _ _ _ _ _ _ _ _ _ k (by omega), w64 (x := (sm * 8 + sr) * 64) (by omega) (by omega), w64 (x := b + (sm * 8 + sr) * 64) (by omega) (by omega), w64 (by omega) (by omega), if_pos h6, if_pos (by omega), if_neg (by omega), if_neg (by omega), if_neg (by omega), if_neg (by omega)]
      simp
    rw [if_neg h6]
    by_cases h14 : op ≤ 14
    · rw [if_pos h14, specSix_ok dm dr dx (by omega)]
      simp only [Option.bind_some]
      rw [specTail_ok _ _ _ _ _ _ _ _ _ k (by omega), w64 (by omega) (by omega), if_neg h6, if_pos (by omega), if_neg (by omega), if_neg (by omega), if_neg (by omega), if_neg (by omega)]
      simp
    rw [if_neg h14]
    by_cases h15 : op = 15
    · rw [if_pos h15, specSix_ok dm dr dx (by omega)]
      simp only [Option.bind_some]
      rw [specTail_ok _ _ _ _ _ _ _ _ _ k (by omega), w64 (x := n * 64) (by omega) (by omega), w64 (x := b + n * 64) (by omega) (by omega), w64 (by omega) (by omega), if_neg h6, if_pos (by omega), if_pos h15]
      congr 2; omega
    rw [if_neg h15]
    obtain ⟨k, rfl⟩ : ∃ m, k = m + 1 := ⟨k - 1, by omega⟩
    by_cases h16 : op = 16
    · rw [if_pos h16]
      simp only [spec_Encode.j0, if_true]
      rw [specTail_ok _ _ _ _ _ _ _ _ _ k (by omega), w64 (by omega) (by omega), if_neg h6, if_neg (by omega), if_neg h15, if_pos h16]
      simp
    rw [if_neg h16]
    by_cases h23' : op = 23
    · simp only [spec_Encode.j0]
      rw [if_pos (by simpa using h23'), specTail_ok _ _ _ _ _ _ _ _ _ k (by omega), w64 (by omega) (by omega), if_neg h6, if_neg (by omega), if_neg h15, if_neg h16, if_pos h23']
      simp
    simp only [spec_Encode.j0, and255]
    rw [if_neg (by simpa using h23')]
    by_cases h21 : op ≤ 21
    · rw [if_pos h21, specTail_ok _ _ _ _ _ _ _ _ _ k (by omega), w64 (by omega) (by omega), if_neg h6, if_neg (by omega), if_neg h15, if_neg h16, if_neg h23', if_pos (by omega)]
      simp
    · rw [if_neg h21, specTail_ok _ _ _ _ _ _ _ _ _ k (by omega), if_neg h6, if_neg (by omega), if_neg h15, if_neg h16, if_neg h23', if_neg (by omega)]
      simp
  · rw [if_neg hi, if_neg hi]
theorem implHasX_ok (m r x : Int) : impl_HasX.f m r x = some (hasX m r) := by
  unfold impl_HasX.f hasX
  by_cases h6 : m = 6
  · simp [h6]
  by_cases h7 : m = 7
  · simp [h7]
  by_cases h2 : m = 2
  · simp [h2]
  by_cases h3 : m = 3
  · simp [h3]
  simp [h6, h7, h2, h3]
theorem within_ok (a b c : Int) : impl_within.f a b c = some (decide (b ≤ a ∧ a ≤ c)) := by
  unfold impl_within.f
  by_cases h : a ≥ b
  · have h' : b ≤ a := h
    rw [if_pos h]; simp [h']
  · have h' : ¬ b ≤ a := h
    rw [if_neg h]; simp [h']
theorem implOpdOk_ok (m r x : Int) : impl_OpdOk.f m r x = some (opdOk m r x) := by
  unfold impl_OpdOk.f impl_isReg.f impl_isWord.f opdOk
  simp only [within_ok, implHasX_ok, Option.bind_some]
  by_cases h1 : 0 ≤ m ∧ m ≤ 7
  · by_cases h2 : 0 ≤ r ∧ r ≤ 7
    · by_cases h3 : 0 ≤ x ∧ x ≤ 65535
      · by_cases h4 : x = 0
        · cases hasX m r <;> simp [h1, h2, h4]
        · cases hasX m r <;> simp [h1, h2, h3, h4]
      · have : ¬ (0 ≤ m ∧ m ≤ 7 ∧ 0 ≤ r ∧ r ≤ 7 ∧ 0 ≤ x ∧ x ≤ 65535) := by omega
        simp only [decide_eq_false this, Bool.false_and]; simp [h1, h2, h3]
    · have : ¬ (0 ≤ m ∧ m ≤ 7 ∧ 0 ≤ r ∧ r ≤ 7 ∧ 0 ≤ x ∧ x ≤ 65535) := by omega
      simp only [decide_eq_false this, Bool.false_and]; simp [h1, h2]
  · have : ¬ (0 ≤ m ∧ m ≤ 7 ∧ 0 ≤ r ∧ r ≤ 7 ∧ 0 ≤ x ∧ x ≤ 65535) := by omega
    simp only [decide_eq_false this, Bool.false_and]; simp [h1]
theorem nz_ok (m r x : Int) : (!(m == 0) || (!(r == 0) || (!(x == 0)))) = !zr m r x := by
  unfold zr
  cases m == 0 <;> cases r == 0 <;> cases x == 0 <;> rfl
set_option maxHeartbeats 4000000 in
theorem implInsOk_ok (op sm sr sx dm dr dx n : Int) (k : Nat) (hk : 4 ≤ k) : impl_InsOk.f k op sm sr sx dm dr dx n = some (insOk op sm sr sx dm dr dx n) := by
  obtain ⟨k, rfl⟩ : ∃ m, k = m + 3 := ⟨k - 3, by omega⟩
  unfold impl_InsOk.f insOk insB
  simp only [within_ok, implOpdOk_ok, nz_ok, Option.bind_some, impl_InsOk.j0, impl_InsOk.j1, impl_InsOk.j2, impl_hasSrc.f, impl_hasDst.f, impl_isBranch.f, impl_isReg.f]
  have ha : zr sm sr sx = true → opdOk sm sr sx = true := zr_ok
  have hb : zr dm dr dx = true → opdOk dm dr dx = true := zr_ok
  generalize opdOk sm sr sx = a at *
  generalize opdOk dm dr dx = b at *
  generalize zr sm sr sx = c at *
  generalize zr dm dr dx = d at *
  cases a <;> cases b <;> cases c <;> cases d <;> (first | (exact absurd (ha rfl) (by decide)) | (exact absurd (hb rfl) (by decide)) | skip) <;> clear ha hb <;> simp only [if_true, Bool.false_eq_true, if_false, Bool.true_and, Bool.false_and, Bool.and_false, Bool.not_true, Bool.not_false, decide_eq_true_eq]
  all_goals repeat' split
  all_goals first | rfl | omega | (congr 1; rw [Bool.eq_iff_iff]; simp only [beq_iff_eq, decide_eq_true_eq, Bool.false_eq_true]; omega) | (simp at *; omega)
theorem implBase_ok (op : Int) (h0 : 0 ≤ op) (h1 : op ≤ 23) : impl_baseOf.f op = some (bases.getD op.toNat 0) := by
  unfold impl_baseOf.f
  simp only [Option.bind_some]
  rw [if_pos h0, if_pos (by simp; omega)]; rfl
theorem or_add (i : Nat) (x y : Int) (hx0 : 0 ≤ x) (hx : x % 2 ^ i = 0) (hx1 : x < 4611686018427387904) (hy0 : 0 ≤ y) (hy : y < 2 ^ i) (hi : i ≤ 32) : bits .or .i64 x y = x + y := by
  have hp : (2 : Int) ^ i ≤ 2 ^ 32 := by
    have := Nat.pow_le_pow_right (n := 2) (by decide) hi
    exact_mod_cast this
  exact bits_join .i64 62 (by decide) (fun n _ _ => by rw [IntKind.wrap_i64]; omega) i x y hx0 hx (by omega) hy0 hy (by omega)
theorem bases_mod : (∀ i, i < 7 → bases.getD i 0 % 4096 = 0) ∧ (∀ i, i < 15 → bases.getD i 0 % 64 = 0) ∧ (∀ i, i < 24 → 0 ≤ bases.getD i 0 ∧ bases.getD i 0 ≤ 57344) ∧ (∀ i, 17 ≤ i → i < 24 → bases.getD i 0 % 256 = 0) := by
  refine ⟨by decide, by decide, by decide, ?_⟩
  intro i h1 h2
  have : i = 17 ∨ i = 18 ∨ i = 19 ∨ i = 20 ∨ i = 21 ∨ i = 22 ∨ i = 23 := by omega
  rcases this with rfl | rfl | rfl | rfl | rfl | rfl | rfl <;> decide
set_option maxHeartbeats 4000000 in
theorem implWord_ok (op sm sr sx dm dr dx n : Int) (hi : insOk op sm sr sx dm dr dx n = true) (k : Nat) (hk : 2 ≤ k) : impl_codeWord.f k op sm sr sx dm dr dx n = some (codeW op sm sr dm dr n) := by
  obtain ⟨k, rfl⟩ : ∃ m, k = m + 1 := ⟨k - 1, by omega⟩
  obtain ⟨h1, h23, hs, hd, _, _, hn⟩ := insOk_elim hi
  unfold impl_codeWord.f codeW
  rw [implBase_ok op (by omega) h23]
  simp only [Option.bind_some, impl_isBranch.f, impl_hasSrc.f, impl_hasDst.f, within_ok, impl_codeWord.j0, and255]
  have hb := bases_mod.2.2.1 op.toNat (by omega)
  have hb7 := bases_mod.1 op.toNat
  have hb15 := bases_mod.2.1 op.toNat
  have hb17 := bases_mod.2.2.2 op.toNat
  have e15 : op = 15 → bases.getD op.toNat 0 = 2048 := by intro h; subst h; decide
  have e16 : op = 16 → bases.getD op.toNat 0 = 128 := by intro h; subst h; decide
  have ws := w64 (x := (8 * sm + sr) * 64) (by omega) (by omega)
  have wd := w64 (x := 8 * dm + dr) (by omega) (by omega)
  rw [w64 (x := 8 * sm) (by omega) (by omega), w64 (x := 8 * sm + sr) (by omega) (by omega), w64 (x := 8 * dm) (by omega) (by omega), ws, wd]
  generalize bases.getD op.toNat 0 = b at *
  by_cases h6 : op ≤ 6
  · have hm := hb7 (by omega)
    rw [if_neg (by omega), if_neg (by omega), if_neg (by simp; omega), if_neg (by omega), if_pos (by simp; omega), if_pos (by simp; omega)]
    rw [or_add 12 b ((8 * sm + sr) * 64) (by omega) (by omega) (by omega) (by omega) (by omega) (by decide), or_add 6 (b + (8 * sm + sr) * 64) (8 * dm + dr) (by omega) (by omega) (by omega) (by omega) (by omega) (by decide)]
    rw [if_pos h6, if_pos (by omega), if_neg (by omega), if_neg (by omega), if_neg (by omega), if_neg (by omega)]
    congr 1; omega
  by_cases h14 : op ≤ 14
  · have hm := hb15 (by omega)
    rw [if_neg (by omega), if_neg (by omega), if_neg (by simp; omega), if_neg (by omega), if_neg (by simp; omega), if_pos (by simp; omega)]
    rw [or_add 6 b (8 * dm + dr) (by omega) (by omega) (by omega) (by omega) (by omega) (by decide)]
    rw [if_neg h6, if_pos (by omega), if_neg (by omega), if_neg (by omega), if_neg (by omega), if_neg (by omega)]
    congr 1; omega
  by_cases h15 : op = 15
  · have hm := e15 h15
    rw [if_pos h15, if_neg (by simp; omega), if_pos (by simp; omega), w64 (x := n * 64) (by omega) (by omega)]
    rw [or_add 9 b (n * 64) (by omega) (by omega) (by omega) (by omega) (by omega) (by decide), or_add 6 (b + n * 64) (8 * dm + dr) (by omega) (by omega) (by omega) (by omega) (by omega) (by decide)]
    rw [if_neg h6, if_pos (by omega), if_pos h15]
    congr 1; omega
  rw [if_neg h15]
  by_cases h16 : op = 16
  · have hm := e16 h16
    rw [if_pos h16, if_neg (by simp; omega), if_neg (by simp; omega), or_add 3 b n (by omega) (by omega) (by omega) (by omega) (by omega) (by decide)]
    rw [if_neg h6, if_neg (by omega), if_neg h15, if_pos h16]
    congr 1; omega
  rw [if_neg h16]
  have hm := hb17 (by omega) (by omega)
  have hor := or_add 8 b (n % 256) (by omega) (by omega) (by omega) (by omega) (by omega) (by decide)
  by_cases h21 : op ≤ 21
  · rw [if_pos (by simp; omega), if_neg (by simp; omega), if_neg (by simp; omega), hor]
    rw [if_neg h6, if_neg (by omega), if_neg h15, if_neg h16, if_neg (by omega), if_pos (by omega)]
    congr 1; omega
  by_cases h23' : op = 23
  · rw [if_neg (by simp; omega), if_pos h23', if_neg (by simp; omega), if_neg (by simp; omega), hor]
    rw [if_neg h6, if_neg (by omega), if_neg h15, if_neg h16, if_pos h23']
    congr 1; omega
  · rw [if_neg (by simp; omega), if_neg h23', if_neg (by simp; omega), if_neg (by simp; omega)]
    rw [if_neg h6, if_neg (by omega), if_neg h15, if_neg h16, if_neg h23', if_neg (by omega)]
    congr 1; omega
theorem implEncode_ok (op sm sr sx dm dr dx n : Int) (k : Nat) (hk : 5 ≤ k) : impl_Encode.f k op sm sr sx dm dr dx n = some (encode op sm sr sx dm dr dx n) := by
  obtain ⟨k, rfl⟩ : ∃ m, k = m + 2 := ⟨k - 2, by omega⟩
  unfold impl_Encode.f encode
  rw [implInsOk_ok _ _ _ _ _ _ _ _ (k + 2) (by omega)]
  simp only [Option.bind_some]
  by_cases hi : insOk op sm sr sx dm dr dx n = true
  · obtain ⟨h1, h23, _⟩ := insOk_elim hi
    rw [if_pos hi, if_pos hi, implWord_ok _ _ _ _ _ _ _ _ hi (k + 2) (by omega)]
    simp only [Option.bind_some, impl_hasSrc.f, impl_hasDst.f, within_ok, implHasX_ok, impl_Encode.j0, impl_Encode.j1, tails]
    have e6 : (1 ≤ op ∧ op ≤ 6) ↔ op ≤ 6 := by omega
    have e15 : (1 ≤ op ∧ op ≤ 15) ↔ op ≤ 15 := by omega
    simp only [e6, e15]
    by_cases h6 : op ≤ 6 <;> by_cases h15 : op ≤ 15 <;> cases hasX sm sr <;> cases hasX dm dr <;> simp [h6, h15]
  · rw [if_neg hi, if_neg hi]
theorem eqIntS_ok (a b : List Int) (h : a.length ≤ 4611686018427387904) (k : Nat) (hk : a.length < k) : laws_eqIntS.f k a b = some (decide (a = b)) := by
  unfold laws_eqIntS.f
  by_cases e : (a.length : Int) = (b.length : Int)
  · rw [if_pos e]; exact eq_loop 0 a b (by omega) h (fun k x => laws_eqIntS.l0 k a b x) (fun _ _ => rfl) k hk
  · rw [if_neg e]; congr 1; symm; rw [decide_eq_false_iff_not]; intro h; subst h; exact e rfl
theorem eqIntS_self (a : List Int) (h : a.length ≤ 4611686018427387904) (k : Nat) (hk : a.length < k) : laws_eqIntS.f k a a = some true := by
  rw [eqIntS_ok a a h k hk]; simp
theorem markIntS_ok (l : List Int) (m : Int) (h0 : 0 ≤ m) (h1 : m ≤ 2305843009213693952) (h : l.length ≤ 2305843009213693952) (k : Nat) (hk : l.length < k) : laws_markIntS.f k l m = some (m + l.length, marks id l.length m) := by
  unfold laws_markIntS.f
  exact mark_loop id (fun k a b c => laws_markIntS.l0 k a b c) (fun _ _ _ _ => rfl) m h0 h1 k l h hk
theorem heldIntS_ok (n : Nat) (m : Int) (h0 : 0 ≤ m) (h1 : m ≤ 2305843009213693952) (h : n ≤ 2305843009213693952) (k : Nat) (hk : n < k) : laws_heldIntS.f k (marks id n m) m = some (m + n) := by
  unfold laws_heldIntS.f
  exact held_loop id (fun k a b c => laws_heldIntS.l0 k a b c) (fun _ _ _ _ => rfl) m h0 h1 k n h hk
theorem FnExactEncode (op sm sr sx dm dr dx n : Int) (_ : (Lit.int .i64 op).wf = true) (_ : (Lit.int .i64 sm).wf = true) (_ : (Lit.int .i64 sr).wf = true) (_ : (Lit.int .i64 sx).wf = true) (_ : (Lit.int .i64 dm).wf = true) (_ : (Lit.int .i64 dr).wf = true) (_ : (Lit.int .i64 dx).wf = true) (_ : (Lit.int .i64 n).wf = true) :
    ∃ k, laws_FnExactEncode.f k op sm sr sx dm dr dx n = some true := by
  refine ⟨9, ?_⟩
  have hl := encode_length op sm sr sx dm dr dx n
  simp only [laws_FnExactEncode.f, laws_toIns.f, laws_toOpd.f, Option.bind_some, specEncode_ok op sm sr sx dm dr dx n 9 (by decide), implEncode_ok op sm sr sx dm dr dx n 9 (by decide)]
  generalize encode op sm sr sx dm dr dx n = l at *
  simp only [eqIntS_self l (by omega) 9 (by omega), markIntS_ok l 1 (by omega) (by omega) (by omega) 9 (by omega), Option.bind_some, heldIntS_ok l.length 1 (by omega) (by omega) (by omega) 9 (by omega), if_true]
  have hneg : ¬ (1 + (l.length : Int) < 0) := by omega
  simp only [if_neg hneg]

end Go.Proofs.Ytajkjkdfcegdpaa.Pure
