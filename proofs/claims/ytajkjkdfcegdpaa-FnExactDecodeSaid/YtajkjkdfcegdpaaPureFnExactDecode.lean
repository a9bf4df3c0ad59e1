/- Proved: the law FnExactDecode, as a plain function, answers true at all words and each int; no further conditions. -/
import Derived.Test.YtajkjkdfcegdpaaPFnExactDecodex10
import Derived.Test.YtajkjkdfcegdpaaCommon
namespace Go.Proofs.Ytajkjkdfcegdpaa.Pure
open Go.RowKit Go.Proofs.Ytajkjkdfcegdpaa.PFnExactDecode Go.Proofs.YtajkjkdfcegdpaaW.PrintWords Go.Proofs.YtajkjkdfcegdpaaW.PrintLast Go.Proofs.Ytajkjkdfcegdpaa.Common
set_option linter.unusedVariables false
set_option linter.unusedSimpArgs false
def hasX (m r : Int) : Bool := m == 6 || (m == 7 || (r == 7 && (m == 2 || m == 3)))
def opdOk (m r x : Int) : Bool := decide (0 ≤ m ∧ m ≤ 7 ∧ 0 ≤ r ∧ r ≤ 7 ∧ 0 ≤ x ∧ x ≤ 65535) && (hasX m r || x == 0)
def zr (m r x : Int) : Bool := m == 0 && (r == 0 && (x == 0))
theorem zr_iff {m r x : Int} : zr m r x = true ↔ m = 0 ∧ r = 0 ∧ x = 0 := by simp [zr]
theorem zr_ok {m r x : Int} (h : zr m r x = true) : opdOk m r x = true := by
  obtain ⟨rfl, rfl, rfl⟩ := zr_iff.1 h; decide
def insB (op n : Int) (a b c d : Bool) : Bool :=
  if 1 ≤ op ∧ op ≤ 6 then a && b && decide (n = 0) else if 7 ≤ op ∧ op ≤ 14 then c && b && decide (n = 0) else if op = 15 then c && b && decide (0 ≤ n ∧ n ≤ 7)
  else if op = 16 then c && d && decide (0 ≤ n ∧ n ≤ 7) else if 17 ≤ op ∧ op ≤ 21 then c && d && decide (-128 ≤ n ∧ n ≤ 127) else if op = 22 then c && d && decide (n = 0)
  else if op = 23 then c && d && decide (0 ≤ n ∧ n ≤ 255) else false
def insOk (op sm sr sx dm dr dx n : Int) : Bool := insB op n (opdOk sm sr sx) (opdOk dm dr dx) (zr sm sr sx) (zr dm dr dx)
theorem opdOk_bounds {m r x : Int} (h : opdOk m r x = true) : 0 ≤ m ∧ m ≤ 7 ∧ 0 ≤ r ∧ r ≤ 7 ∧ 0 ≤ x ∧ x ≤ 65535 := by
  unfold opdOk at h; simp only [Bool.and_eq_true, decide_eq_true_eq] at h; exact h.1
/-- what a right instruction has. -/
theorem insOk_elim {op sm sr sx dm dr dx n : Int} (h : insOk op sm sr sx dm dr dx n = true) :
    1 ≤ op ∧ op ≤ 23 ∧ (0 ≤ sm ∧ sm ≤ 7 ∧ 0 ≤ sr ∧ sr ≤ 7 ∧ 0 ≤ sx ∧ sx ≤ 65535) ∧ (0 ≤ dm ∧ dm ≤ 7 ∧ 0 ≤ dr ∧ dr ≤ 7 ∧ 0 ≤ dx ∧ dx ≤ 65535) ∧ (7 ≤ op → sm = 0 ∧ sr = 0 ∧ sx = 0) ∧ (16 ≤ op → dm = 0 ∧ dr = 0 ∧ dx = 0) ∧
    (op ≤ 14 → n = 0) ∧ (op = 15 → 0 ≤ n ∧ n ≤ 7) ∧ (op = 16 → 0 ≤ n ∧ n ≤ 7) ∧ (17 ≤ op → op ≤ 21 → -128 ≤ n ∧ n ≤ 127) ∧ (op = 22 → n = 0) ∧ (op = 23 → 0 ≤ n ∧ n ≤ 255) := by
  unfold insOk insB at h
  split at h
  · simp only [Bool.and_eq_true, decide_eq_true_eq] at h
    have a := opdOk_bounds h.1.1; have b := opdOk_bounds h.1.2
    refine ⟨by omega, by omega, a, b, ?_, ?_, ?_, ?_, ?_, ?_, ?_, ?_⟩ <;> omega
  split at h
  · simp only [Bool.and_eq_true, decide_eq_true_eq, zr_iff] at h
    have b := opdOk_bounds h.1.2
    refine ⟨by omega, by omega, by omega, b, ?_, ?_, ?_, ?_, ?_, ?_, ?_, ?_⟩ <;> omega
  split at h
  · simp only [Bool.and_eq_true, decide_eq_true_eq, zr_iff] at h
    have b := opdOk_bounds h.1.2
    refine ⟨by omega, by omega, by omega, b, ?_, ?_, ?_, ?_, ?_, ?_, ?_, ?_⟩ <;> omega
  split at h
  · simp only [Bool.and_eq_true, decide_eq_true_eq, zr_iff] at h
    refine ⟨by omega, by omega, by omega, by omega, ?_, ?_, ?_, ?_, ?_, ?_, ?_, ?_⟩ <;> omega
  split at h
  · simp only [Bool.and_eq_true, decide_eq_true_eq, zr_iff] at h
    refine ⟨by omega, by omega, by omega, by omega, ?_, ?_, ?_, ?_, ?_, ?_, ?_, ?_⟩ <;> omega
  split at h
  · simp only [Bool.and_eq_true, decide_eq_true_eq, zr_iff] at h
    refine ⟨by omega, by omega, by omega, by omega, ?_, ?_, ?_, ?_, ?_, ?_, ?_, ?_⟩ <;> omega
  split at h
  · simp only [Bool.and_eq_true, decide_eq_true_eq, zr_iff] at h
    refine ⟨by omega, by omega, by omega, by omega, ?_, ?_, ?_, ?_, ?_, ?_, ?_, ?_⟩ <;> omega
  · exact absurd h (by decide)
def bases : List Int := [0, 4096, 8192, 16384, 20480, 24576, 57344, 2560, 2688, 2752, 2816, 3008, 3200, 3264, 64, 2048, 128, 256, 512, 768, 1024, 1280, 0, 34816]
def codeW (op sm sr dm dr n : Int) : Int :=
  bases.getD op.toNat 0 + (if op ≤ 6 then (sm * 8 + sr) * 64 else 0) + (if op ≤ 15 then dm * 8 + dr else 0) + (if op = 15 then n * 64 else if op = 16 then n else if op = 23 then n else if 17 ≤ op ∧ op ≤ 21 then n % 256 else 0)
def tails (op sm sr sx dm dr dx : Int) : List Int := (if (decide (op ≤ 6) && hasX sm sr) = true then [sx] else []) ++ (if (decide (op ≤ 15) && hasX dm dr) = true then [dx] else [])
def encode (op sm sr sx dm dr dx n : Int) : List Int := if insOk op sm sr sx dm dr dx n = true then codeW op sm sr dm dr n :: tails op sm sr sx dm dr dx else []
theorem encode_length (op sm sr sx dm dr dx n : Int) : (encode op sm sr sx dm dr dx n).length ≤ 3 := by
  unfold encode tails; split
  · split <;> split <;> simp
  · simp
def Msk (op : Int) : Int := if op ≤ 6 then 4096 else if op = 15 then 512 else if op ≤ 15 then 64 else if op = 16 then 8 else if op ≤ 21 then 256 else if op = 23 then 256 else 1
def opFrom : Nat → Int → Int
  | 0, _ => 0
  | m + 1, w => if w - w % Msk (23 - m) = bases.getD (23 - (m : Int)).toNat 0 then 23 - m else opFrom m w
theorem opFrom_succ (m : Nat) (w : Int) : opFrom (m + 1) w = if w - w % Msk (23 - m) = bases.getD (23 - (m : Int)).toNat 0 then 23 - (m : Int) else opFrom m w := rfl
def opW (w : Int) : Int := opFrom 23 w
theorem opFrom_range : ∀ m w, m ≤ 23 → (opFrom m w = 0 ∨ (1 ≤ opFrom m w ∧ opFrom m w ≤ 23)) := by
  intro m
  induction m with
  | zero => intro w _; left; rfl
  | succ m ih =>
    intro w hm
    rw [opFrom_succ]
    split
    · right; omega
    · exact ih w (by omega)
theorem opFrom_base : ∀ m w, m ≤ 23 → opFrom m w ≠ 0 → w - w % Msk (opFrom m w) = bases.getD (opFrom m w).toNat 0 := by
  intro m
  induction m with
  | zero => intro w _ h; exact absurd rfl h
  | succ m ih =>
    intro w hm
    rw [opFrom_succ]
    split
    · intro _; assumption
    · exact ih w (by omega)
theorem opW_expand (w : Int) : opW w = if w - w % 4096 = 4096 then 1 else if w - w % 4096 = 8192 then 2 else if w - w % 4096 = 16384 then 3 else if w - w % 4096 = 20480 then 4 else if w - w % 4096 = 24576 then 5 else if w - w % 4096 = 57344 then 6
    else if w - w % 64 = 2560 then 7 else if w - w % 64 = 2688 then 8 else if w - w % 64 = 2752 then 9 else if w - w % 64 = 2816 then 10 else if w - w % 64 = 3008 then 11 else if w - w % 64 = 3200 then 12 else if w - w % 64 = 3264 then 13 else if w - w % 64 = 64 then 14
    else if w - w % 512 = 2048 then 15 else if w - w % 8 = 128 then 16 else if w - w % 256 = 256 then 17 else if w - w % 256 = 512 then 18 else if w - w % 256 = 768 then 19 else if w - w % 256 = 1024 then 20 else if w - w % 256 = 1280 then 21 else if w - w % 1 = 0 then 22 else if w - w % 256 = 34816 then 23 else 0 := rfl
def nW (op w : Int) : Int := if op = 15 then w / 64 % 8 else if op = 16 then w % 8 else if op = 23 then w % 256 else if 17 ≤ op ∧ op ≤ 21 then (if w % 256 > 127 then w % 256 - 256 else w % 256) else 0
def smW (op w : Int) : Int := if op ≤ 6 then w / 512 % 8 else 0
def srW (op w : Int) : Int := if op ≤ 6 then w / 64 % 8 else 0
def dmW (op w : Int) : Int := if op ≤ 15 then w / 8 % 8 else 0
def drW (op w : Int) : Int := if op ≤ 15 then w % 8 else 0
def insW (op w : Int) : Int × Int × Int × Int × Int × Int × Int × Int := (op, smW op w, srW op w, 0, dmW op w, drW op w, 0, nW op w)
def isW (x : Int) : Bool := decide (0 ≤ x ∧ x ≤ 65535)
/-- does the instruction of this word and these X stand? -/
theorem insOk_W (op w sx dx : Int) (ho : 1 ≤ op ∧ op ≤ 23) (hs : isW sx = true) (hd : isW dx = true) (h1 : (decide (op ≤ 6) && hasX (smW op w) (srW op w)) = false → sx = 0) (h2 : (decide (op ≤ 15) && hasX (dmW op w) (drW op w)) = false → dx = 0) :
    insOk op (smW op w) (srW op w) sx (dmW op w) (drW op w) dx (nW op w) = true := by
  simp only [isW, decide_eq_true_eq] at hs hd
  have oS : op ≤ 6 → opdOk (smW op w) (srW op w) sx = true := by
    intro h
    unfold opdOk
    have b1 : 0 ≤ smW op w ∧ smW op w ≤ 7 := by unfold smW; split <;> omega
    have b2 : 0 ≤ srW op w ∧ srW op w ≤ 7 := by unfold srW; split <;> omega
    rw [decide_eq_true (by omega)]
    cases hx : hasX (smW op w) (srW op w) with
    | true => rfl
    | false => rw [h1 (by simp [hx])]; rfl
  have oD : op ≤ 15 → opdOk (dmW op w) (drW op w) dx = true := by
    intro h
    unfold opdOk
    have b1 : 0 ≤ dmW op w ∧ dmW op w ≤ 7 := by unfold dmW; split <;> omega
    have b2 : 0 ≤ drW op w ∧ drW op w ≤ 7 := by unfold drW; split <;> omega
    rw [decide_eq_true (by omega)]
    cases hx : hasX (dmW op w) (drW op w) with
    | true => rfl
    | false => rw [h2 (by simp [hx])]; rfl
  have zS : ¬ op ≤ 6 → zr (smW op w) (srW op w) sx = true := by
    intro h
    rw [zr_iff]; exact ⟨by simp [smW, h], by simp [srW, h], h1 (by simp [h])⟩
  have zD : ¬ op ≤ 15 → zr (dmW op w) (drW op w) dx = true := by
    intro h
    rw [zr_iff]; exact ⟨by simp [dmW, h], by simp [drW, h], h2 (by simp [h])⟩
  unfold insOk insB
  by_cases h6 : op ≤ 6
  · rw [if_pos (by omega), oS h6, oD (by omega)]; simp [nW]; omega
  rw [if_neg (by omega), zS h6]
  by_cases h14 : op ≤ 14
  · rw [if_pos (by omega), oD (by omega)]; simp [nW]; omega
  rw [if_neg (by omega)]
  by_cases h15 : op = 15
  · rw [if_pos h15, oD (by omega)]; simp [nW, h15]; omega
  rw [if_neg h15, zD (by omega)]
  by_cases h16 : op = 16
  · rw [if_pos h16]; simp [nW, h16]; omega
  rw [if_neg h16]
  by_cases h21 : op ≤ 21
  · rw [if_pos (by omega)]
    have : nW op w = if w % 256 > 127 then w % 256 - 256 else w % 256 := by unfold nW; rw [if_neg h15, if_neg h16, if_neg (by omega), if_pos (by omega)]
    rw [this]; split <;> simp <;> omega
  rw [if_neg (by omega)]
  by_cases h22 : op = 22
  · rw [if_pos h22]; simp [nW, h22]
  · rw [if_neg h22, if_pos (by omega)]
    have : op = 23 := by omega
    simp [nW, this]; omega
/-- what Decode finds. -/
def dec (l : List Int) (a : Nat) : Int × Int × Int × Int × Int × Int × Int × Int × Int × Bool :=
  let w := l.getD a 0
  let op := opW w
  let hs := decide (op ≤ 6) && hasX (smW op w) (srW op w)
  let hd := decide (op ≤ 15) && hasX (dmW op w) (drW op w)
  if op = 0 then (0, 0, 0, 0, 0, 0, 0, 0, 0, false) else
  match hs, hd with
  | false, false => (op, smW op w, srW op w, 0, dmW op w, drW op w, 0, nW op w, 1, true)
  | true, false => if a + 2 ≤ l.length ∧ isW (l.getD (a + 1) 0) = true then (op, smW op w, srW op w, l.getD (a + 1) 0, dmW op w, drW op w, 0, nW op w, 2, true) else (0, 0, 0, 0, 0, 0, 0, 0, 0, false)
  | false, true => if a + 2 ≤ l.length ∧ isW (l.getD (a + 1) 0) = true then (op, smW op w, srW op w, 0, dmW op w, drW op w, l.getD (a + 1) 0, nW op w, 2, true) else (0, 0, 0, 0, 0, 0, 0, 0, 0, false)
  | true, true => if a + 3 ≤ l.length ∧ isW (l.getD (a + 1) 0) = true ∧ isW (l.getD (a + 2) 0) = true then (op, smW op w, srW op w, l.getD (a + 1) 0, dmW op w, drW op w, l.getD (a + 2) 0, nW op w, 3, true) else (0, 0, 0, 0, 0, 0, 0, 0, 0, false)
def decAt (l : List Int) (a : Int) : Int × Int × Int × Int × Int × Int × Int × Int × Int × Bool :=
  if (0 ≤ a ∧ a < l.length) ∧ isW (l.getD a.toNat 0) = true then dec l a.toNat else (0, 0, 0, 0, 0, 0, 0, 0, 0, false)
theorem within_ok (a b c : Int) : impl_within.f a b c = some (decide (b ≤ a ∧ a ≤ c)) := by
  unfold impl_within.f
  by_cases h : a ≥ b
  · have h' : b ≤ a := h
    rw [if_pos h]; simp [h']
  · have h' : ¬ b ≤ a := h
    rw [if_neg h]; simp [h']
theorem implBase_ok (op : Int) (h0 : 0 ≤ op) (h1 : op ≤ 23) : impl_baseOf.f op = some (bases.getD op.toNat 0) := by
  unfold impl_baseOf.f
  simp only [Option.bind_some]
  rw [if_pos h0, if_pos (by simp; omega)]; rfl
theorem msk_ok (w : Int) (h0 : 0 ≤ w) (h1 : w ≤ 65535) : bits .andNot .i64 w 4095 = w - w % 4096 ∧ bits .andNot .i64 w 511 = w - w % 512 ∧ bits .andNot .i64 w 63 = w - w % 64 ∧ bits .andNot .i64 w 7 = w - w % 8 ∧ bits .andNot .i64 w 255 = w - w % 256 ∧ bits .andNot .i64 w 0 = w - w % 1 :=
  ⟨andNot_mask w h0 (by omega) 12, andNot_mask w h0 (by omega) 9, andNot_mask w h0 (by omega) 6, andNot_mask w h0 (by omega) 3, andNot_mask w h0 (by omega) 8, andNot_mask w h0 (by omega) 0⟩
theorem implOpOf_loop (w : Int) (h0 : 0 ≤ w) (h1 : w ≤ 65535) : ∀ (m k : Nat), m ≤ 23 → 2 * m < k → impl_opOf.l0 k w (24 - (m : Int)) = some (opFrom m w) := by
  intro m
  induction m with
  | zero =>
    intro k _ hk
    obtain ⟨k, rfl⟩ : ∃ m, k = m + 1 := ⟨k - 1, by omega⟩
    simp only [impl_opOf.l0]
    rw [if_neg (by omega)]; rfl
  | succ m ih =>
    intro k hm hk
    obtain ⟨k, rfl⟩ : ∃ m, k = m + 2 := ⟨k - 2, by omega⟩
    obtain ⟨e1, e2, e3, e4, e5, e6⟩ := msk_ok w h0 h1
    have hn : (24 - ((m + 1 : Nat) : Int)) = 23 - (m : Int) := by omega
    rw [hn]
    have hw : wrap64 (23 - (m : Int) + 1) = 24 - (m : Int) := by rw [w64 (by omega) (by omega)]; omega
    have r1 := ih (k + 1) (by omega) (by omega)
    have r0 := ih k (by omega) (by omega)
    rw [impl_opOf.l0]
    simp only [impl_opOf.j1, impl_hasSrc.f, impl_hasDst.f, impl_isBranch.f, within_ok, Option.bind_some, hw, r1, r0]
    rw [implBase_ok (23 - (m : Int)) (by omega) (by omega)]
    simp only [Option.bind_some, e1, e2, e3, e4, e5, e6]
    rw [if_pos (by omega)]
    rw [opFrom_succ]
    unfold Msk
    generalize hop : (23 - (m : Int)) = op at *
    have hr : 1 ≤ op ∧ op ≤ 23 := by omega
    by_cases h6 : op ≤ 6
    · rw [if_pos (by simp; omega), if_pos h6]; split <;> rfl
    rw [if_neg (by simp; omega), if_neg h6]
    by_cases h15 : op = 15
    · rw [if_pos h15, if_pos h15]; split <;> rfl
    rw [if_neg h15, if_neg h15]
    by_cases h14 : op ≤ 15
    · rw [if_pos (by simp; omega), if_pos h14]; split <;> rfl
    rw [if_neg (by simp; omega), if_neg h14]
    by_cases h16 : op = 16
    · rw [if_pos h16, if_pos h16]; split <;> rfl
    rw [if_neg h16, if_neg h16]
    by_cases h21 : op ≤ 21
    · rw [if_pos (by simp; omega), if_pos h21]; simp only [if_true]; split <;> rfl
    rw [if_neg (by simp; omega), if_neg h21]
    by_cases h23 : op = 23
    · rw [if_pos (by simpa using h23), if_pos h23]; split <;> rfl
    · rw [if_neg (by simpa using h23), if_neg h23]; split <;> rfl
theorem implOpOf_ok (w : Int) (h0 : 0 ≤ w) (h1 : w ≤ 65535) (k : Nat) (hk : 46 < k) : impl_opOf.f k w = some (opW w) := by
  unfold impl_opOf.f opW
  exact implOpOf_loop w h0 h1 23 k (by omega) (by omega)
theorem implInsOf_ok (w op : Int) (h1 : w ≤ 65535) (ho : 1 ≤ op ∧ op ≤ 23) (k : Nat) (hk : 3 ≤ k) : impl_insOf.f k w op = some (insW op w) := by
  obtain ⟨k, rfl⟩ : ∃ m, k = m + 2 := ⟨k - 2, by omega⟩
  unfold impl_insOf.f insW smW srW dmW drW nW
  simp only [impl_insOf.j0, impl_insOf.j1, impl_hasSrc.f, impl_hasDst.f, impl_isBranch.f, within_ok, Option.bind_some, and7, and255]
  have hw : wrap64 (w % 256 - 256) = w % 256 - 256 := w64 (by omega) (by omega)
  rw [hw]
  have e6 : (1 ≤ op ∧ op ≤ 6) ↔ op ≤ 6 := by omega
  have e15 : (1 ≤ op ∧ op ≤ 15) ↔ op ≤ 15 := by omega
  simp only [e6, e15, decide_eq_true_eq]
  by_cases h6 : op ≤ 6
  · have a15 : op ≤ 15 := by omega
    have b1 : ¬ op = 15 := by omega
    have b2 : ¬ op = 16 := by omega
    have b3 : ¬ op = 23 := by omega
    have b4 : ¬ (17 ≤ op ∧ op ≤ 21) := by omega
    simp only [if_pos h6, if_pos a15, if_neg b1, if_neg b2, if_neg b3, if_neg b4]
  by_cases h15 : op ≤ 15
  · simp only [if_neg h6, if_pos h15]
    by_cases b1 : op = 15
    · simp only [if_pos b1]
    have b2 : ¬ op = 16 := by omega
    have b3 : ¬ op = 23 := by omega
    have b4 : ¬ (17 ≤ op ∧ op ≤ 21) := by omega
    simp only [if_neg b1, if_neg b2, if_neg b3, if_neg b4]
  have b1 : ¬ op = 15 := by omega
  simp only [if_neg h6, if_neg h15, if_neg b1]
  by_cases b2 : op = 16
  · simp only [if_pos b2]
  by_cases b3 : op = 23
  · simp only [if_neg b2, if_pos b3]
  by_cases b4 : 17 ≤ op ∧ op ≤ 21
  · simp only [if_neg b2, if_neg b3, if_pos b4]
    by_cases b5 : w % 256 > 127
    · simp only [if_pos b5]
    · simp only [if_neg b5]
  · simp only [if_neg b2, if_neg b3, if_neg b4]
theorem specBase_ok (op : Int) (h0 : 0 ≤ op) (h1 : op ≤ 23) : spec_l4Base.f op = some (bases.getD op.toNat 0) := by
  unfold spec_l4Base.f
  simp only [Option.bind_some]
  rw [if_pos h0, if_pos (by simp; omega)]; rfl
theorem specHasX_ok (m r x : Int) : spec_HasX.f m r x = some (hasX m r) := by
  unfold spec_HasX.f hasX
  by_cases h6 : m = 6
  · simp [h6]
  by_cases h7 : m = 7
  · simp [h7]
  by_cases h : r = 7
  · by_cases h2 : m = 2
    · simp [h, h2]
    · have a6 : (m == 6) = false := by simpa using h6
      have a7 : (m == 7) = false := by simpa using h7
      have a2 : (m == 2) = false := by simpa using h2
      simp [h6, h7, h, h2, a6, a7, a2]
  simp [h6, h7, h]
theorem l1In_ok (a b c : Int) : spec_l1In.f a b c = some (decide (b ≤ a ∧ a ≤ c)) := by
  unfold spec_l1In.f
  by_cases h : a ≥ b
  · have h' : b ≤ a := h
    rw [if_pos h]; simp [h']
  · have h' : ¬ b ≤ a := h
    rw [if_neg h]; simp [h']
theorem specOpdOk_ok (m r x : Int) : spec_OpdOk.f m r x = some (opdOk m r x) := by
  unfold spec_OpdOk.f opdOk
  simp only [l1In_ok, specHasX_ok, Option.bind_some]
  by_cases h1 : 0 ≤ m ∧ m ≤ 7
  · by_cases h2 : 0 ≤ r ∧ r ≤ 7
    · by_cases h3 : 0 ≤ x ∧ x ≤ 65535
      · cases hasX m r <;> simp [h1, h2, h3]
      · have : ¬ (0 ≤ m ∧ m ≤ 7 ∧ 0 ≤ r ∧ r ≤ 7 ∧ 0 ≤ x ∧ x ≤ 65535) := by omega
        simp only [decide_eq_false this, Bool.false_and]; simp [h1, h2, h3]
    · have : ¬ (0 ≤ m ∧ m ≤ 7 ∧ 0 ≤ r ∧ r ≤ 7 ∧ 0 ≤ x ∧ x ≤ 65535) := by omega
      simp only [decide_eq_false this, Bool.false_and]; simp [h1, h2]
  · have : ¬ (0 ≤ m ∧ m ≤ 7 ∧ 0 ≤ r ∧ r ≤ 7 ∧ 0 ≤ x ∧ x ≤ 65535) := by omega
    simp only [decide_eq_false this, Bool.false_and]; simp [h1]
theorem l3Zero_ok (m r x : Int) : spec_l3Zero.f m r x = some (zr m r x) := rfl
set_option maxHeartbeats 4000000 in
theorem specInsOk_ok (op sm sr sx dm dr dx n : Int) (k : Nat) (hk : 2 ≤ k) : spec_InsOk.f k op sm sr sx dm dr dx n = some (insOk op sm sr sx dm dr dx n) := by
  obtain ⟨k, rfl⟩ : ∃ m, k = m + 1 := ⟨k - 1, by omega⟩
  unfold spec_InsOk.f insOk insB
  simp only [l1In_ok, specOpdOk_ok, l3Zero_ok, Option.bind_some, spec_InsOk.j0]
  generalize opdOk sm sr sx = a
  generalize opdOk dm dr dx = b
  generalize zr sm sr sx = c
  generalize zr dm dr dx = d
  cases a <;> cases b <;> cases c <;> cases d <;> simp only [if_true, Bool.false_eq_true, if_false, Bool.true_and, Bool.false_and, Bool.and_false, Bool.not_true, Bool.not_false, decide_eq_true_eq]
  all_goals repeat' split
  all_goals first | rfl | omega | (congr 1; rw [Bool.eq_iff_iff]; simp only [beq_iff_eq, decide_eq_true_eq, Bool.false_eq_true]; omega) | (simp; omega)
theorem mskS_ok (w : Int) (h0 : 0 ≤ w) (h1 : w ≤ 65535) : bits .and .i64 w 61440 = w - w % 4096 ∧ bits .and .i64 w 65472 = w - w % 64 ∧ bits .and .i64 w 65024 = w - w % 512 ∧ bits .and .i64 w 65528 = w - w % 8 ∧ bits .and .i64 w 65280 = w - w % 256 :=
  ⟨and_high w h0 (by omega) 12 (by decide), and_high w h0 (by omega) 6 (by decide), and_high w h0 (by omega) 9 (by decide), and_high w h0 (by omega) 3 (by decide), and_high w h0 (by omega) 8 (by decide)⟩
theorem specBases (i : Int) (h0 : 0 ≤ i) (h1 : i ≤ 23) (b : Int) (h : bases.getD i.toNat 0 = b) : spec_l4Base.f i = some b := h ▸ specBase_ok i h0 h1
set_option maxHeartbeats 4000000 in
theorem specOp2_ok (w : Int) (h0 : 0 ≤ w) (h1 : w ≤ 65535) (k : Nat) (hk : 8 ≤ k) : spec_l4Op.l2 k w 17 = some (
    if w - w % 256 = 256 then insW 17 w else if w - w % 256 = 512 then insW 18 w else if w - w % 256 = 768 then insW 19 w else if w - w % 256 = 1024 then insW 20 w else if w - w % 256 = 1280 then insW 21 w else (0, 0, 0, 0, 0, 0, 0, 0)) := by
  obtain ⟨k, rfl⟩ : ∃ m, k = m + 6 := ⟨k - 6, by omega⟩
  obtain ⟨e1, e2, e3, e4, e5⟩ := mskS_ok w h0 h1
  have w17 : wrap64 (17 + 1) = 18 := by simp [wrap64]
  have w18 : wrap64 (18 + 1) = 19 := by simp [wrap64]
  have w19 : wrap64 (19 + 1) = 20 := by simp [wrap64]
  have w20 : wrap64 (20 + 1) = 21 := by simp [wrap64]
  have w21 : wrap64 (21 + 1) = 22 := by simp [wrap64]
  have hw : wrap64 (w % 256 - 256) = w % 256 - 256 := w64 (by omega) (by omega)
  simp only [spec_l4Op.l2, specBases 17 (by decide) (by decide) 256 rfl, specBases 18 (by decide) (by decide) 512 rfl, specBases 19 (by decide) (by decide) 768 rfl, specBases 20 (by decide) (by decide) 1024 rfl, specBases 21 (by decide) (by decide) 1280 rfl, Option.bind_some, e5, and255, w17, w18, w19, w20, w21, hw]
  have n : ∀ op : Int, 17 ≤ op → op ≤ 21 → (if w % 256 > 127 then some (op, (0 : Int), (0 : Int), (0 : Int), (0 : Int), (0 : Int), (0 : Int), w % 256 - 256) else some (op, 0, 0, 0, 0, 0, 0, w % 256)) = some (insW op w) := by
    intro op h17 h21
    unfold insW smW srW dmW drW nW
    rw [if_neg (show ¬ op ≤ 6 by omega), if_neg (show ¬ op ≤ 6 by omega), if_neg (show ¬ op ≤ 15 by omega), if_neg (show ¬ op ≤ 15 by omega), if_neg (show ¬ op = 15 by omega), if_neg (show ¬ op = 16 by omega), if_neg (show ¬ op = 23 by omega), if_pos (show 17 ≤ op ∧ op ≤ 21 by omega)]
    split <;> rfl
  rw [n 17 (by decide) (by decide), n 18 (by decide) (by decide), n 19 (by decide) (by decide), n 20 (by decide) (by decide), n 21 (by decide) (by decide)]
  simp only [show ((17 : Int) ≤ 21) = True by simp, show ((18 : Int) ≤ 21) = True by simp, show ((19 : Int) ≤ 21) = True by simp, show ((20 : Int) ≤ 21) = True by simp, show ((21 : Int) ≤ 21) = True by simp, show ((22 : Int) ≤ 21) = False by simp, if_true, if_false]
  repeat' split
  all_goals first | rfl | omega
set_option maxHeartbeats 4000000 in
theorem specOp1_ok (w : Int) (h0 : 0 ≤ w) (h1 : w ≤ 65535) (k : Nat) (hk : 20 ≤ k) : spec_l4Op.l1 k w 7 = some (
    if w - w % 64 = 2560 then insW 7 w else if w - w % 64 = 2688 then insW 8 w else if w - w % 64 = 2752 then insW 9 w else if w - w % 64 = 2816 then insW 10 w else if w - w % 64 = 3008 then insW 11 w else if w - w % 64 = 3200 then insW 12 w else if w - w % 64 = 3264 then insW 13 w else if w - w % 64 = 64 then insW 14 w
    else if w - w % 512 = 2048 then insW 15 w else if w - w % 8 = 128 then insW 16 w else if w - w % 256 = 34816 then insW 23 w else 
    if w - w % 256 = 256 then insW 17 w else if w - w % 256 = 512 then insW 18 w else if w - w % 256 = 768 then insW 19 w else if w - w % 256 = 1024 then insW 20 w else if w - w % 256 = 1280 then insW 21 w else (0, 0, 0, 0, 0, 0, 0, 0)) := by
  obtain ⟨k, rfl⟩ : ∃ m, k = m + 9 := ⟨k - 9, by omega⟩
  obtain ⟨e1, e2, e3, e4, e5⟩ := mskS_ok w h0 h1
  have w7 : wrap64 (7 + 1) = 8 := by simp [wrap64]
  have w8 : wrap64 (8 + 1) = 9 := by simp [wrap64]
  have w9 : wrap64 (9 + 1) = 10 := by simp [wrap64]
  have w10 : wrap64 (10 + 1) = 11 := by simp [wrap64]
  have w11 : wrap64 (11 + 1) = 12 := by simp [wrap64]
  have w12 : wrap64 (12 + 1) = 13 := by simp [wrap64]
  have w13 : wrap64 (13 + 1) = 14 := by simp [wrap64]
  have w14 : wrap64 (14 + 1) = 15 := by simp [wrap64]
  simp only [spec_l4Op.l1, specOp2_ok w h0 h1 k (by omega), spec_l4Opd.f, specBases 7 (by decide) (by decide) 2560 rfl, specBases 8 (by decide) (by decide) 2688 rfl, specBases 9 (by decide) (by decide) 2752 rfl, specBases 10 (by decide) (by decide) 2816 rfl, specBases 11 (by decide) (by decide) 3008 rfl, specBases 12 (by decide) (by decide) 3200 rfl, specBases 13 (by decide) (by decide) 3264 rfl, specBases 14 (by decide) (by decide) 64 rfl, Option.bind_some, e2, e3, e4, e5, and7, and255, w7, w8, w9, w10, w11, w12, w13, w14]
  simp only [show ((7 : Int) ≤ 14) = True by simp, show ((8 : Int) ≤ 14) = True by simp, show ((9 : Int) ≤ 14) = True by simp, show ((10 : Int) ≤ 14) = True by simp, show ((11 : Int) ≤ 14) = True by simp, show ((12 : Int) ≤ 14) = True by simp, show ((13 : Int) ≤ 14) = True by simp, show ((14 : Int) ≤ 14) = True by simp, show ((15 : Int) ≤ 14) = False by simp, if_true, if_false]
  simp only [apply_ite some]
  rfl
set_option maxHeartbeats 4000000 in
theorem specOp_ok (w : Int) (h0 : 0 ≤ w) (h1 : w ≤ 65535) (k : Nat) (hk : 30 ≤ k) : spec_l4Op.f k w = some (if opW w = 0 then (0, 0, 0, 0, 0, 0, 0, 0) else insW (opW w) w) := by
  obtain ⟨k, rfl⟩ : ∃ m, k = m + 7 := ⟨k - 7, by omega⟩
  obtain ⟨e1, e2, e3, e4, e5⟩ := mskS_ok w h0 h1
  have w1 : wrap64 (1 + 1) = 2 := by simp [wrap64]
  have w2 : wrap64 (2 + 1) = 3 := by simp [wrap64]
  have w3 : wrap64 (3 + 1) = 4 := by simp [wrap64]
  have w4 : wrap64 (4 + 1) = 5 := by simp [wrap64]
  have w5 : wrap64 (5 + 1) = 6 := by simp [wrap64]
  have w6 : wrap64 (6 + 1) = 7 := by simp [wrap64]
  unfold spec_l4Op.f
  simp only [spec_l4Op.l0, specOp1_ok w h0 h1 k (by omega), spec_l4Opd.f, specBases 1 (by decide) (by decide) 4096 rfl, specBases 2 (by decide) (by decide) 8192 rfl, specBases 3 (by decide) (by decide) 16384 rfl, specBases 4 (by decide) (by decide) 20480 rfl, specBases 5 (by decide) (by decide) 24576 rfl, specBases 6 (by decide) (by decide) 57344 rfl, Option.bind_some, e1, and7, w1, w2, w3, w4, w5, w6]
  simp only [show ((1 : Int) ≤ 6) = True by simp, show ((2 : Int) ≤ 6) = True by simp, show ((3 : Int) ≤ 6) = True by simp, show ((4 : Int) ≤ 6) = True by simp, show ((5 : Int) ≤ 6) = True by simp, show ((6 : Int) ≤ 6) = True by simp, show ((7 : Int) ≤ 6) = False by simp, if_true, if_false]
  have d1 : w / 64 / 8 = w / 512 := by omega
  rw [d1, opW_expand]
  by_cases hz : w = 0
  · subst hz; rfl
  rw [if_neg hz]
  simp only [apply_ite some]
  by_cases c0 : w - w % 4096 = 4096
  · simp only [if_pos c0]; rfl
  simp only [if_neg c0]
  by_cases c1 : w - w % 4096 = 8192
  · simp only [if_pos c1]; rfl
  simp only [if_neg c1]
  by_cases c2 : w - w % 4096 = 16384
  · simp only [if_pos c2]; rfl
  simp only [if_neg c2]
  by_cases c3 : w - w % 4096 = 20480
  · simp only [if_pos c3]; rfl
  simp only [if_neg c3]
  by_cases c4 : w - w % 4096 = 24576
  · simp only [if_pos c4]; rfl
  simp only [if_neg c4]
  by_cases c5 : w - w % 4096 = 57344
  · simp only [if_pos c5]; rfl
  simp only [if_neg c5]
  by_cases c6 : w - w % 64 = 2560
  · simp only [if_pos c6]; rfl
  simp only [if_neg c6]
  by_cases c7 : w - w % 64 = 2688
  · simp only [if_pos c7]; rfl
  simp only [if_neg c7]
  by_cases c8 : w - w % 64 = 2752
  · simp only [if_pos c8]; rfl
  simp only [if_neg c8]
  by_cases c9 : w - w % 64 = 2816
  · simp only [if_pos c9]; rfl
  simp only [if_neg c9]
  by_cases c10 : w - w % 64 = 3008
  · simp only [if_pos c10]; rfl
  simp only [if_neg c10]
  by_cases c11 : w - w % 64 = 3200
  · simp only [if_pos c11]; rfl
  simp only [if_neg c11]
  by_cases c12 : w - w % 64 = 3264
  · simp only [if_pos c12]; rfl
  simp only [if_neg c12]
  by_cases c13 : w - w % 64 = 64
  · simp only [if_pos c13]; rfl
  simp only [if_neg c13]
  by_cases c14 : w - w % 512 = 2048
  · simp only [if_pos c14]; rfl
  simp only [if_neg c14]
  by_cases c15 : w - w % 8 = 128
  · simp only [if_pos c15]; rfl
  simp only [if_neg c15]
  have z : ¬ w - w % 1 = 0 := by omega
  by_cases c23 : w - w % 256 = 34816
  · have z1 : ¬ w - w % 256 = 256 := by omega
    have z2 : ¬ w - w % 256 = 512 := by omega
    have z3 : ¬ w - w % 256 = 768 := by omega
    have z4 : ¬ w - w % 256 = 1024 := by omega
    have z5 : ¬ w - w % 256 = 1280 := by omega
    simp only [if_pos c23, if_neg z, if_neg z1, if_neg z2, if_neg z3, if_neg z4, if_neg z5]; rfl
  simp only [if_neg c23, if_neg z]
  by_cases c17 : w - w % 256 = 256
  · simp only [if_pos c17]; rfl
  simp only [if_neg c17]
  by_cases c18 : w - w % 256 = 512
  · simp only [if_pos c18]; rfl
  simp only [if_neg c18]
  by_cases c19 : w - w % 256 = 768
  · simp only [if_pos c19]; rfl
  simp only [if_neg c19]
  by_cases c20 : w - w % 256 = 1024
  · simp only [if_pos c20]; rfl
  simp only [if_neg c20]
  by_cases c21 : w - w % 256 = 1280
  · simp only [if_pos c21]; rfl
  simp only [if_neg c21]
  rfl
def isWd (x : Int) : Bool := decide (0 ≤ x ∧ x ≤ 65535)
theorem implWordsOk_ok (l : List Int) (hl : l.length ≤ 4611686018427387904) (k : Nat) (hk : l.length < k) : impl_wordsOk.f k l = some (l.all isWd) := by
  unfold impl_wordsOk.f
  have H : ∀ (r k i : Nat), l.length - i = r → i ≤ l.length → r < k → impl_wordsOk.l0 k l (l.length : Int) i = some ((l.drop i).all isWd) := by
    intro r
    induction r with
    | zero =>
      intro k i hr hi hk
      obtain ⟨k, rfl⟩ : ∃ m, k = m + 1 := ⟨k - 1, by omega⟩
      simp only [impl_wordsOk.l0]
      rw [if_neg (by omega), List.drop_of_length_le (by omega)]; rfl
    | succ r ih =>
      intro k i hr hi hk
      obtain ⟨k, rfl⟩ : ∃ m, k = m + 1 := ⟨k - 1, by omega⟩
      have hlt : i < l.length := by omega
      simp only [impl_wordsOk.l0, impl_isWord.f, within_ok, Option.bind_some]
      rw [if_pos (by omega), if_pos (by omega), if_pos (by omega), rd_at l i hlt, w64 (by omega) (by omega), List.drop_eq_getElem_cons hlt, List.all_cons]
      have e : ((i : Int) + 1) = ((i + 1 : Nat) : Int) := by omega
      rw [e, ih k (i + 1) (by omega) (by omega) (by omega)]
      unfold isWd
      cases decide (0 ≤ l[i] ∧ l[i] ≤ 65535) <;> simp
  have := H l.length k 0 (by omega) (by omega) hk
  simpa using this
theorem implHasX_ok (m r x : Int) : impl_HasX.f m r x = some (hasX m r) := by
  unfold impl_HasX.f hasX
  by_cases h6 : m = 6
  · simp [h6]
  by_cases h7 : m = 7
  · simp [h7]
  by_cases h2 : m = 2
  · simp [h2]
  by_cases h3 : m = 3
  · simp [h3]
  simp [h6, h7, h2, h3]
theorem isWd_isW (x : Int) : isWd x = isW x := rfl
theorem wnat (i c : Nat) (h : i + c ≤ 1048600) : wrap64 ((i : Int) + (c : Int)) = ((i + c : Nat) : Int) := by
  rw [w64 (by omega) (by omega)]; omega
theorem wdiff (i c : Nat) (h : i + c ≤ 1048600) : wrap64 (((i + c : Nat) : Int) - (i : Int)) = (c : Int) := by
  rw [w64 (by omega) (by omega)]; omega
theorem wordsOk1 (a : Int) (k : Nat) (hk : 5 ≤ k) : impl_wordsOk.f k [a] = some (isWd a) := by
  rw [implWordsOk_ok [a] (Nat.le_trans (show [a].length ≤ 5 by simp) (by decide)) k (Nat.lt_of_lt_of_le (show [a].length < 5 by simp) hk)]
  simp only [List.all_cons, List.all_nil, Bool.and_true]
theorem wordsOk2 (a b : Int) (k : Nat) (hk : 5 ≤ k) : impl_wordsOk.f k [a, b] = some (isWd a && isWd b) := by
  rw [implWordsOk_ok [a, b] (Nat.le_trans (show [a, b].length ≤ 5 by simp) (by decide)) k (Nat.lt_of_lt_of_le (show [a, b].length < 5 by simp) hk)]
  simp only [List.all_cons, List.all_nil, Bool.and_true]
theorem wordsOk3 (a b c : Int) (k : Nat) (hk : 5 ≤ k) : impl_wordsOk.f k [a, b, c] = some (isWd a && (isWd b && isWd c)) := by
  rw [implWordsOk_ok [a, b, c] (Nat.le_trans (show [a, b, c].length ≤ 5 by simp) (by decide)) k (Nat.lt_of_lt_of_le (show [a, b, c].length < 5 by simp) hk)]
  simp only [List.all_cons, List.all_nil, Bool.and_true]
theorem implWords_ok (op sm sr sx dm dr dx n : Int) (h : 1 ≤ op) (k : Nat) (hk : 3 ≤ k) : impl_Words.f k op sm sr sx dm dr dx n = some (1 + (if (decide (op ≤ 6) && hasX sm sr) = true then 1 else 0) + (if (decide (op ≤ 15) && hasX dm dr) = true then 1 else 0)) := by
  obtain ⟨k, rfl⟩ : ∃ m, k = m + 2 := ⟨k - 2, by omega⟩
  simp only [impl_Words.f, impl_hasSrc.f, impl_hasDst.f, within_ok, implHasX_ok, impl_Words.j0, impl_Words.j1, Option.bind_some]
  have e6 : (1 ≤ op ∧ op ≤ 6) ↔ op ≤ 6 := by omega
  have e15 : (1 ≤ op ∧ op ≤ 15) ↔ op ≤ 15 := by omega
  simp only [e6, e15]
  cases decide (op ≤ 6) <;> cases decide (op ≤ 15) <;> cases hasX sm sr <;> cases hasX dm dr <;> simp [wrap64]
theorem implD1 (k : Nat) (l : List Int) (a op c : Int) (h : 1 ≤ op) (f : Bool) (sm sr sx dm dr dx n : Int) : impl_Decode.j1 (k + 1) l a op c f op sm sr sx dm dr dx n =
    if f = true then some (0, 0, 0, 0, 0, 0, 0, 0, 0, false) else impl_Decode.j2 k l op c (wrap64 (a + 1)) (decide (op ≤ 6) && hasX sm sr) op sm sr sx dm dr dx n := by
  rw [impl_Decode.j1]
  simp only [impl_hasSrc.f, within_ok, implHasX_ok, Option.bind_some]
  have e6 : (1 ≤ op ∧ op ≤ 6) ↔ op ≤ 6 := by omega
  simp only [e6]
  cases decide (op ≤ 6) <;> simp
theorem implD3 (k : Nat) (l : List Int) (op c x : Int) (h : 1 ≤ op) (sm sr sx dm dr dx n : Int) : impl_Decode.j3 (k + 1) l op c x op sm sr sx dm dr dx n =
    if (decide (op ≤ 15) && hasX dm dr) = true then (if 0 ≤ x then (if x < (l.length : Int) then some (op, sm, sr, sx, dm, dr, rd l x, n, c, true) else none) else none) else some (op, sm, sr, sx, dm, dr, dx, n, c, true) := by
  rw [impl_Decode.j3]
  simp only [impl_hasDst.f, within_ok, implHasX_ok, Option.bind_some]
  have e15 : (1 ≤ op ∧ op ≤ 15) ↔ op ≤ 15 := by omega
  simp only [e15]
  cases decide (op ≤ 15) <;> cases hasX dm dr <;> simp
set_option maxHeartbeats 1000000 in
theorem implDecode_ok (l : List Int) (hl : l.length ≤ 1048578) (a : Int) (k : Nat) (hk : 60 < k) : impl_Decode.f k l a = some (decAt l a) := by
  obtain ⟨k, rfl⟩ : ∃ m, k = m + 4 := ⟨k - 4, by omega⟩
  unfold impl_Decode.f decAt
  simp only [within_ok, impl_isWord.f, Option.bind_some]
  rw [w64 (x := (l.length : Int) - 1) (by omega) (by omega)]
  by_cases h : 0 ≤ a ∧ a < l.length
  · obtain ⟨h0, h1⟩ := h
    obtain ⟨i, rfl⟩ := Int.eq_ofNat_of_zero_le h0
    have hi : i < l.length := by omega
    rw [if_pos (by simp; omega), if_pos h0, if_pos h1, impl_Decode.j0, Int.toNat_natCast]
    have hrd : rd l (i : Int) = l.getD i 0 := by simp [rd]
    rw [hrd, if_pos h0, if_pos h1]
    unfold dec
    generalize hwd : l.getD i 0 = w
    by_cases hw : 0 ≤ w ∧ w ≤ 65535
    · have hW : isW w = true := by simpa [isW] using hw
      rw [if_neg (by simp; omega), if_pos ⟨⟨h0, h1⟩, hW⟩, implOpOf_ok w hw.1 hw.2 (k + 3) (by omega)]
      simp only [Option.bind_some]
      have hr : opW w = 0 ∨ (1 ≤ opW w ∧ opW w ≤ 23) := opFrom_range 23 w (Nat.le_refl 23)
      by_cases ho : opW w = 0
      · rw [if_pos ho, if_pos ho]
      rw [if_neg ho, if_neg ho]
      have hop : 1 ≤ opW w ∧ opW w ≤ 23 := hr.resolve_left ho
      clear hr
      generalize opW w = op at *
      rw [implInsOf_ok w op hw.2 hop (k + 3) (by omega)]
      unfold insW
      simp only [Option.bind_some]
      rw [implWords_ok _ _ _ _ _ _ _ _ hop.1 (k + 3) (by omega)]
      simp only [Option.bind_some]
      rw [w64 (x := (l.length : Int) - i) (by omega) (by omega)]
      have hW' : isWd (l.getD i 0) = true := by rw [hwd]; exact hW
      have hb1 : i + 1 ≤ 1048600 := by omega
      have hb2 : i + 1 + 1 ≤ 1048600 := by omega
      have hb3 : i + 2 + 1 ≤ 1048600 := by omega
      have w1 : wrap64 ((i : Int) + 1) = ((i + 1 : Nat) : Int) := wnat i 1 hb1
      have w2 : wrap64 (((i + 1 : Nat) : Int) + 1) = ((i + 2 : Nat) : Int) := wnat (i + 1) 1 hb2
      have r1 : rd l ((i + 1 : Nat) : Int) = l.getD (i + 1) 0 := rfl
      have r2 : rd l ((i + 2 : Nat) : Int) = l.getD (i + 2) 0 := rfl
      have d1 := fun (c : Int) (f : Bool) => implD1 (k + 2) l (i : Int) op c hop.1 f (smW op w) (srW op w) 0 (dmW op w) (drW op w) 0 (nW op w)
      have d3 := fun (c x sx : Int) => implD3 k l op c x hop.1 (smW op w) (srW op w) sx (dmW op w) (drW op w) 0 (nW op w)
      simp only [d1, w1, impl_Decode.j2, d3, w2, r1, r2]
      clear d1 d3
      generalize smW op w = sm
      generalize srW op w = sr
      generalize dmW op w = dm
      generalize drW op w = dr
      generalize nW op w = n
      generalize (decide (op ≤ 6) && hasX sm sr) = hs
      generalize (decide (op ≤ 15) && hasX dm dr) = hd
      have c1 : Aside0 (∀ _ : i + 1 ≤ l.length, impl_wordsOk.f (k + 3) ((l.take (i + 1)).drop i) = some true) := by
        refine Aside0.mk fun h => ?_; rw [cut1 l i h, wordsOk1 _ (k + 3) (by omega), hW']
      have c2 : Aside0 (∀ _ : i + 2 ≤ l.length, impl_wordsOk.f (k + 3) ((l.take (i + 2)).drop i) = some (isW (l.getD (i + 1) 0))) := by
        refine Aside0.mk fun h => ?_; rw [cut2 l i h, wordsOk2 _ _ (k + 3) (by omega), hW', Bool.true_and, isWd_isW]
      have c3 : Aside0 (∀ _ : i + 3 ≤ l.length, impl_wordsOk.f (k + 3) ((l.take (i + 3)).drop i) = some (isW (l.getD (i + 1) 0) && isW (l.getD (i + 2) 0))) := by
        refine Aside0.mk fun h => ?_; rw [cut3 l i h, wordsOk3 _ _ _ (k + 3) (by omega), hW', Bool.true_and, isWd_isW, isWd_isW]
      have t2 : wrap64 ((i : Int) + 2) = ((i + 2 : Nat) : Int) := wnat i 2 hb2
      have t3 : wrap64 ((i : Int) + 3) = ((i + 3 : Nat) : Int) := wnat i 3 hb3
      have n1 : (1 : Int) + 0 + 0 = 1 := rfl
      have n2 : (1 : Int) + 0 + 1 = 2 := rfl
      have n2' : (1 : Int) + 1 + 0 = 2 := rfl
      have n3 : (1 : Int) + 1 + 1 = 3 := rfl
      cases hs <;> cases hd <;> simp only [if_true, Bool.false_eq_true, if_false, n1, n2, n2', n3, w1, t2, t3, Int.toNat_natCast] <;> clear w1 w2 t2 t3 r1 r2
      · rw [if_neg (by omega), if_pos (by omega), if_pos (by omega), c1.out (by omega)]; simp
      · by_cases h2 : i + 2 ≤ l.length
        · rw [if_neg (by omega), if_pos (by omega), if_pos (by omega), c2.out h2, if_pos (by omega), if_pos (by omega)]
          cases hx : isW (l.getD (i + 1) 0) <;> simp [h2]
        · rw [if_pos (by omega), if_neg (fun h' => h2 h'.1)]
      · by_cases h2 : i + 2 ≤ l.length
        · rw [if_neg (by omega), if_pos (by omega), if_pos (by omega), c2.out h2, if_pos (by omega), if_pos (by omega)]
          cases hx : isW (l.getD (i + 1) 0) <;> simp [h2]
        · rw [if_pos (by omega), if_neg (fun h' => h2 h'.1)]
      · by_cases h2 : i + 3 ≤ l.length
        · rw [if_neg (by omega), if_pos (by omega), if_pos (by omega), c3.out h2, if_pos (by omega), if_pos (by omega), if_pos (by omega), if_pos (by omega)]
          cases hx : isW (l.getD (i + 1) 0) <;> cases hy : isW (l.getD (i + 2) 0) <;> simp [h2]
        · rw [if_pos (by omega), if_neg (fun h' => h2 h'.1)]
    · have hW : ¬ isW w = true := by simpa [isW] using hw
      rw [if_pos (by simp; omega), if_neg (fun h' => hW h'.2)]
  · rw [if_neg (by simp; omega), if_neg (fun h' => h h'.1), impl_Decode.j0]
    rfl
theorem specD3 (k : Nat) (hk : 2 ≤ k) (l : List Int) (a x op : Int) (b : Bool) (sm sr sx dm dr dx n : Int) : spec_Decode.j3 (k + 1) l a x b op sm sr sx dm dr dx n =
    if b = true then (if x ≥ (l.length : Int) then some (0, 0, 0, 0, 0, 0, 0, 0, 0, false) else if 0 ≤ x then (if x < (l.length : Int) then (if insOk op sm sr sx dm dr (rd l x) n = true then some (op, sm, sr, sx, dm, dr, rd l x, n, wrap64 (wrap64 (x + 1) - a), true) else some (0, 0, 0, 0, 0, 0, 0, 0, 0, false)) else none) else none)
    else if insOk op sm sr sx dm dr dx n = true then some (op, sm, sr, sx, dm, dr, dx, n, wrap64 (x - a), true) else some (0, 0, 0, 0, 0, 0, 0, 0, 0, false) := by
  rw [spec_Decode.j3]
  simp only [specInsOk_ok _ _ _ _ _ _ _ _ k hk, Option.bind_some]
theorem specD2 (k : Nat) (l : List Int) (a x op : Int) (sm sr sx dm dr dx n : Int) : spec_Decode.j2 (k + 1) l a x op sm sr sx dm dr dx n = spec_Decode.j3 k l a x (decide (op ≤ 15) && hasX dm dr) op sm sr sx dm dr dx n := by
  rw [spec_Decode.j2]
  simp only [specHasX_ok, Option.bind_some]
  by_cases h : op ≤ 15 <;> simp [h]
set_option maxHeartbeats 1000000 in
theorem specDecode_ok (l : List Int) (hl : l.length ≤ 1048578) (a : Int) (k : Nat) (hk : 60 < k) : spec_Decode.f k l a = some (decAt l a) := by
  obtain ⟨k, rfl⟩ : ∃ m, k = m + 4 := ⟨k - 4, by omega⟩
  unfold spec_Decode.f decAt
  simp only [l1In_ok, Option.bind_some]
  rw [w64 (x := (l.length : Int) - 1) (by omega) (by omega)]
  by_cases h : 0 ≤ a ∧ a < l.length
  · obtain ⟨h0, h1⟩ := h
    obtain ⟨i, rfl⟩ := Int.eq_ofNat_of_zero_le h0
    have hi : i < l.length := by omega
    rw [if_pos (by simp; omega), if_pos h0, if_pos h1, spec_Decode.j0, Int.toNat_natCast]
    have hrd : rd l (i : Int) = l.getD i 0 := by simp [rd]
    rw [hrd, if_pos h0, if_pos h1]
    unfold dec
    generalize hwd : l.getD i 0 = w
    by_cases hw : 0 ≤ w ∧ w ≤ 65535
    · have hW : isW w = true := by simpa [isW] using hw
      rw [if_neg (by simp; omega), if_pos ⟨⟨h0, h1⟩, hW⟩, specOp_ok w hw.1 hw.2 (k + 3) (by omega)]
      have hb1 : i + 1 ≤ 1048600 := by omega
      have hb2 : i + 1 + 1 ≤ 1048600 := by omega
      have hb3 : i + 2 + 1 ≤ 1048600 := by omega
      have w1 : wrap64 ((i : Int) + 1) = ((i + 1 : Nat) : Int) := wnat i 1 hb1
      have w2 : wrap64 (((i + 1 : Nat) : Int) + 1) = ((i + 2 : Nat) : Int) := wnat (i + 1) 1 hb2
      have w3 : wrap64 (((i + 2 : Nat) : Int) + 1) = ((i + 3 : Nat) : Int) := wnat (i + 2) 1 hb3
      have s1 : wrap64 (((i + 1 : Nat) : Int) - i) = 1 := wdiff i 1 hb1
      have s2 : wrap64 (((i + 2 : Nat) : Int) - i) = 2 := wdiff i 2 hb2
      have s3 : wrap64 (((i + 3 : Nat) : Int) - i) = 3 := wdiff i 3 hb3
      have r1 : rd l ((i + 1 : Nat) : Int) = l.getD (i + 1) 0 := rfl
      have r2 : rd l ((i + 2 : Nat) : Int) = l.getD (i + 2) 0 := rfl
      have d2 := fun (x op sm sr sx dm dr dx n : Int) => specD2 (k + 1) l i x op sm sr sx dm dr dx n
      have d3 := fun (x op : Int) (b : Bool) (sm sr sx dm dr dx n : Int) => specD3 k (by omega) l i x op b sm sr sx dm dr dx n
      have hr : opW w = 0 ∨ (1 ≤ opW w ∧ opW w ≤ 23) := opFrom_range 23 w (Nat.le_refl 23)
      by_cases ho : opW w = 0
      · rw [if_pos ho, if_pos ho]
        simp only [Option.bind_some, specHasX_ok, spec_Decode.j1, d2, d3]
        simp [hasX, insOk, insB]
      rw [if_neg ho, if_neg ho]
      have hop : 1 ≤ opW w ∧ opW w ≤ 23 := hr.resolve_left ho
      clear hr
      generalize opW w = op at *
      have hI := fun (sx dx : Int) => insOk_W op w sx dx hop
      have hE := fun (sx dx : Int) (h : insOk op (smW op w) (srW op w) sx (dmW op w) (drW op w) dx (nW op w) = true) => insOk_elim h
      unfold insW
      simp only [Option.bind_some, specHasX_ok, spec_Decode.j1, d2, d3, w1, w2, w3, s1, s2, s3, r1, r2]
      clear d2 d3 w1 w2 w3 s1 s2 s3 r1 r2
      generalize smW op w = sm at *
      generalize srW op w = sr at *
      generalize dmW op w = dm at *
      generalize drW op w = dr at *
      generalize nW op w = n at *
      have e6 : ∀ {α : Type} (A B : α), (if op ≤ 6 then (if hasX sm sr = true then A else B) else B) = if (decide (op ≤ 6) && hasX sm sr) = true then A else B := by
        intro α A B; by_cases h : op ≤ 6 <;> simp [h]
      simp only [Bool.false_eq_true, if_false]
      rw [e6]
      generalize hhs : (decide (op ≤ 6) && hasX sm sr) = hs at *
      generalize hhd : (decide (op ≤ 15) && hasX dm dr) = hd at *
      have nW_ : ∀ x, isW x = true ↔ 0 ≤ x ∧ x ≤ 65535 := fun x => by simp [isW]
      have hz : isW 0 = true := by decide
      cases hs <;> cases hd <;> simp only [if_true, Bool.false_eq_true, if_false]
      · rw [if_pos (hI 0 0 hz hz (fun _ => rfl) (fun _ => rfl))]
      · by_cases h2 : i + 2 ≤ l.length
        · rw [if_neg (by omega), if_pos (by omega), if_pos (by omega)]
          by_cases hx : isW (l.getD (i + 1) 0) = true
          · rw [if_pos (hI 0 _ hz hx (fun _ => rfl) (fun h => by cases h)), if_pos ⟨h2, hx⟩]
          · rw [if_neg (fun h => hx ((nW_ _).2 (hE _ _ h).2.2.2.1.2.2.2.2)), if_neg (fun h => hx h.2)]
        · rw [if_pos (by omega), if_neg (fun h' => h2 h'.1)]
      · by_cases h2 : i + 2 ≤ l.length
        · rw [if_neg (by omega), if_pos (by omega), if_pos (by omega)]
          by_cases hx : isW (l.getD (i + 1) 0) = true
          · rw [if_pos (hI _ 0 hx hz (fun h => by cases h) (fun _ => rfl)), if_pos ⟨h2, hx⟩]
          · rw [if_neg (fun h => hx ((nW_ _).2 (hE _ _ h).2.2.1.2.2.2.2)), if_neg (fun h => hx h.2)]
        · rw [if_pos (by omega), if_neg (fun h' => h2 h'.1)]
      · by_cases h2 : i + 3 ≤ l.length
        · rw [if_neg (by omega), if_pos (by omega), if_pos (by omega), if_neg (by omega), if_pos (by omega), if_pos (by omega)]
          by_cases hx : isW (l.getD (i + 1) 0) = true
          · by_cases hy : isW (l.getD (i + 2) 0) = true
            · rw [if_pos (hI _ _ hx hy (fun h => by cases h) (fun h => by cases h)), if_pos ⟨h2, hx, hy⟩]
            · rw [if_neg (fun h => hy ((nW_ _).2 (hE _ _ h).2.2.2.1.2.2.2.2)), if_neg (fun h => hy h.2.2)]
          · rw [if_neg (fun h => hx ((nW_ _).2 (hE _ _ h).2.2.1.2.2.2.2)), if_neg (fun h => hx h.2.1)]
        · have hneg : ¬ (i + 3 ≤ l.length ∧ isW (l.getD (i + 1) 0) = true ∧ isW (l.getD (i + 2) 0) = true) := fun h' => h2 h'.1
          rw [if_neg hneg]
          by_cases h3 : i + 2 ≤ l.length
          · rw [if_neg (by omega), if_pos (by omega), if_pos (by omega), if_pos (by omega)]
          · rw [if_pos (by omega)]
    · have hW : ¬ isW w = true := by simpa [isW] using hw
      rw [if_pos (by simp; omega), if_neg (fun h' => hW h'.2)]
  · rw [if_neg (by simp; omega), if_neg (fun h' => h h'.1), spec_Decode.j0]
    rfl
theorem toIntS_ok (l : List Int) (h : l.length ≤ 35184372088832) (k : Nat) (hk : l.length < k) : laws_toIntS.f k l = some l := by
  unfold laws_toIntS.f
  rw [if_pos (by omega), if_pos (by omega)]
  exact copy_loop 0 l (by omega) (fun k z i => laws_toIntS.l0 k l z i) (fun _ _ _ => rfl) k _ (by simp) hk
theorem eqIntS_ok (a b : List Int) (h : a.length ≤ 4611686018427387904) (k : Nat) (hk : a.length < k) : laws_eqIntS.f k a b = some (decide (a = b)) := by
  unfold laws_eqIntS.f
  by_cases e : (a.length : Int) = (b.length : Int)
  · rw [if_pos e]; exact eq_loop 0 a b (by omega) h (fun k x => laws_eqIntS.l0 k a b x) (fun _ _ => rfl) k hk
  · rw [if_neg e]; congr 1; symm; rw [decide_eq_false_iff_not]; intro h; subst h; exact e rfl
theorem eqIntS_self (a : List Int) (h : a.length ≤ 4611686018427387904) (k : Nat) (hk : a.length < k) : laws_eqIntS.f k a a = some true := by
  rw [eqIntS_ok a a h k hk]; simp
theorem FnExactDecode : laws_FnExactDecode.Pure := by
  intro l0 a1 _ hl hw ha
  refine ⟨1048700, ?_⟩
  unfold laws_FnExactDecode.f
  by_cases hb : (l0.length : Int) > 1048576
  · rw [if_pos hb]
  rw [if_neg hb]
  simp only [toIntS_ok l0 (by omega) 1048700 (by omega), Option.bind_some, specDecode_ok l0 (by omega) a1 1048700 (by omega), implDecode_ok l0 (by omega) a1 1048700 (by omega), laws_eqIns.f, laws_eqOpd.f, if_true, bne_self_eq_false, laws_FnExactDecode.j0, Bool.false_eq_true, if_false, toIntS_ok l0 (by omega) 1048699 (by omega), eqIntS_self l0 (by omega) 1048699 (by omega)]

end Go.Proofs.Ytajkjkdfcegdpaa.Pure
