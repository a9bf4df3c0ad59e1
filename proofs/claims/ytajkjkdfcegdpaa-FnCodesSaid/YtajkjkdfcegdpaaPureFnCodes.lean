/- Proved: the law FnCodes, as a plain function, answers true at all bytes; no further conditions. -/
import Derived.Test.YtajkjkdfcegdpaaPFnCodesx1
import Derived.Test.YtajkjkdfcegdpaaPFnCodesx2
import Derived.Test.YtajkjkdfcegdpaaPFnCodesx3
import Derived.Test.YtajkjkdfcegdpaaPFnCodesx4
import Derived.Test.YtajkjkdfcegdpaaPFnCodesx5
import Derived.Test.YtajkjkdfcegdpaaPFnCodesx6
import Derived.Test.YtajkjkdfcegdpaaPFnCodesx7
import Derived.Test.YtajkjkdfcegdpaaPFnCodesx8
import Derived.Test.YtajkjkdfcegdpaaPFnCodesx9
import Derived.Test.YtajkjkdfcegdpaaPFnCodesx10
import Derived.Test.YtajkjkdfcegdpaaPFnCodesx11
import Derived.Test.YtajkjkdfcegdpaaPFnCodesx12
import Derived.Test.YtajkjkdfcegdpaaPFnCodesx13
import Derived.Test.YtajkjkdfcegdpaaVCFnCodes
namespace Go.Proofs.Ytajkjkdfcegdpaa.Pure
open Go.RowKit Go.Proofs.Ytajkjkdfcegdpaa.PFnCodes Go.Proofs.YtajkjkdfcegdpaaW.PrintWords Go.Proofs.YtajkjkdfcegdpaaW.PrintLast Go.Proofs.Ytajkjkdfcegdpaa.Common
set_option linter.unusedVariables false
set_option linter.unusedSimpArgs false
def hasX (m r : Int) : Bool := m == 6 || (m == 7 || (r == 7 && (m == 2 || m == 3)))
def opdOk (m r x : Int) : Bool := decide (0 ≤ m ∧ m ≤ 7 ∧ 0 ≤ r ∧ r ≤ 7 ∧ 0 ≤ x ∧ x ≤ 65535) && (hasX m r || x == 0)
def zr (m r x : Int) : Bool := m == 0 && (r == 0 && (x == 0))
theorem zr_iff {m r x : Int} : zr m r x = true ↔ m = 0 ∧ r = 0 ∧ x = 0 := by simp [zr]
theorem zr_ok {m r x : Int} (h : zr m r x = true) : opdOk m r x = true := by
  obtain ⟨rfl, rfl, rfl⟩ := zr_iff.1 h; decide
def insB (op n : Int) (a b c d : Bool) : Bool :=
  if 1 ≤ op ∧ op ≤ 6 then a && b && decide (n = 0) else if 7 ≤ op ∧ op ≤ 14 then c && b && decide (n = 0) else if op = 15 then c && b && decide (0 ≤ n ∧ n ≤ 7)
  else if op = 16 then c && d && decide (0 ≤ n ∧ n ≤ 7) else if 17 ≤ op ∧ op ≤ 21 then c && d && decide (-128 ≤ n ∧ n ≤ 127) else if op = 22 then c && d && decide (n = 0)
  else if op = 23 then c && d && decide (0 ≤ n ∧ n ≤ 255) else false
def insOk (op sm sr sx dm dr dx n : Int) : Bool := insB op n (opdOk sm sr sx) (opdOk dm dr dx) (zr sm sr sx) (zr dm dr dx)
theorem opdOk_bounds {m r x : Int} (h : opdOk m r x = true) : 0 ≤ m ∧ m ≤ 7 ∧ 0 ≤ r ∧ r ≤ 7 ∧ 0 ≤ x ∧ x ≤ 65535 := by
  unfold opdOk at h; simp only [Bool.and_eq_true, decide_eq_true_eq] at h; exact h.1
/-- what a right instruction has. -/
theorem insOk_elim {op sm sr sx dm dr dx n : Int} (h : insOk op sm sr sx dm dr dx n = true) :
    1 ≤ op ∧ op ≤ 23 ∧ (0 ≤ sm ∧ sm ≤ 7 ∧ 0 ≤ sr ∧ sr ≤ 7 ∧ 0 ≤ sx ∧ sx ≤ 65535) ∧ (0 ≤ dm ∧ dm ≤ 7 ∧ 0 ≤ dr ∧ dr ≤ 7 ∧ 0 ≤ dx ∧ dx ≤ 65535) ∧ (7 ≤ op → sm = 0 ∧ sr = 0 ∧ sx = 0) ∧ (16 ≤ op → dm = 0 ∧ dr = 0 ∧ dx = 0) ∧
    (op ≤ 14 → n = 0) ∧ (op = 15 → 0 ≤ n ∧ n ≤ 7) ∧ (op = 16 → 0 ≤ n ∧ n ≤ 7) ∧ (17 ≤ op → op ≤ 21 → -128 ≤ n ∧ n ≤ 127) ∧ (op = 22 → n = 0) ∧ (op = 23 → 0 ≤ n ∧ n ≤ 255) := by
  unfold insOk insB at h
  split at h
  · simp only [Bool.and_eq_true, decide_eq_true_eq] at h
    have a := opdOk_bounds h.1.1; have b := opdOk_bounds h.1.2
    refine ⟨by omega, by omega, a, b, ?_, ?_, ?_, ?_, ?_, ?_, ?_, ?_⟩ <;> omega
  split at h
  · simp only [Bool.and_eq_true, decide_eq_true_eq, zr_iff] at h
    have b := opdOk_bounds h.1.2
    refine ⟨by omega, by omega, by omega, b, ?_, ?_, ?_, ?_, ?_, ?_, ?_, ?_⟩ <;> omega
  split at h
  · simp only [Bool.and_eq_true, decide_eq_true_eq, zr_iff] at h
    have b := opdOk_bounds h.1.2
    refine ⟨by omega, by omega, by omega, b, ?_, ?_, ?_, ?_, ?_, ?_, ?_, ?_⟩ <;> omega
  split at h
  · simp only [Bool.and_eq_true, decide_eq_true_eq, zr_iff] at h
    refine ⟨by omega, by omega, by omega, by omega, ?_, ?_, ?_, ?_, ?_, ?_, ?_, ?_⟩ <;> omega
  split at h
  · simp only [Bool.and_eq_true, decide_eq_true_eq, zr_iff] at h
    refine ⟨by omega, by omega, by omega, by omega, ?_, ?_, ?_, ?_, ?_, ?_, ?_, ?_⟩ <;> omega
  split at h
  · simp only [Bool.and_eq_true, decide_eq_true_eq, zr_iff] at h
    refine ⟨by omega, by omega, by omega, by omega, ?_, ?_, ?_, ?_, ?_, ?_, ?_, ?_⟩ <;> omega
  split at h
  · simp only [Bool.and_eq_true, decide_eq_true_eq, zr_iff] at h
    refine ⟨by omega, by omega, by omega, by omega, ?_, ?_, ?_, ?_, ?_, ?_, ?_, ?_⟩ <;> omega
  · exact absurd h (by decide)
def bases : List Int := [0, 4096, 8192, 16384, 20480, 24576, 57344, 2560, 2688, 2752, 2816, 3008, 3200, 3264, 64, 2048, 128, 256, 512, 768, 1024, 1280, 0, 34816]
def codeW (op sm sr dm dr n : Int) : Int :=
  bases.getD op.toNat 0 + (if op ≤ 6 then (sm * 8 + sr) * 64 else 0) + (if op ≤ 15 then dm * 8 + dr else 0) + (if op = 15 then n * 64 else if op = 16 then n else if op = 23 then n else if 17 ≤ op ∧ op ≤ 21 then n % 256 else 0)
def tails (op sm sr sx dm dr dx : Int) : List Int := (if (decide (op ≤ 6) && hasX sm sr) = true then [sx] else []) ++ (if (decide (op ≤ 15) && hasX dm dr) = true then [dx] else [])
def encode (op sm sr sx dm dr dx n : Int) : List Int := if insOk op sm sr sx dm dr dx n = true then codeW op sm sr dm dr n :: tails op sm sr sx dm dr dx else []
theorem encode_length (op sm sr sx dm dr dx n : Int) : (encode op sm sr sx dm dr dx n).length ≤ 3 := by
  unfold encode tails; split
  · split <;> split <;> simp
  · simp
def Msk (op : Int) : Int := if op ≤ 6 then 4096 else if op = 15 then 512 else if op ≤ 15 then 64 else if op = 16 then 8 else if op ≤ 21 then 256 else if op = 23 then 256 else 1
def opFrom : Nat → Int → Int
  | 0, _ => 0
  | m + 1, w => if w - w % Msk (23 - m) = bases.getD (23 - (m : Int)).toNat 0 then 23 - m else opFrom m w
theorem opFrom_succ (m : Nat) (w : Int) : opFrom (m + 1) w = if w - w % Msk (23 - m) = bases.getD (23 - (m : Int)).toNat 0 then 23 - (m : Int) else opFrom m w := rfl
def opW (w : Int) : Int := opFrom 23 w
theorem opFrom_range : ∀ m w, m ≤ 23 → (opFrom m w = 0 ∨ (1 ≤ opFrom m w ∧ opFrom m w ≤ 23)) := by
  intro m
  induction m with
  | zero => intro w _; left; rfl
  | succ m ih =>
    intro w hm
    rw [opFrom_succ]
    split
    · right; omega
    · exact ih w (by omega)
theorem opFrom_base : ∀ m w, m ≤ 23 → opFrom m w ≠ 0 → w - w % Msk (opFrom m w) = bases.getD (opFrom m w).toNat 0 := by
  intro m
  induction m with
  | zero => intro w _ h; exact absurd rfl h
  | succ m ih =>
    intro w hm
    rw [opFrom_succ]
    split
    · intro _; assumption
    · exact ih w (by omega)
theorem opW_expand (w : Int) : opW w = if w - w % 4096 = 4096 then 1 else if w - w % 4096 = 8192 then 2 else if w - w % 4096 = 16384 then 3 else if w - w % 4096 = 20480 then 4 else if w - w % 4096 = 24576 then 5 else if w - w % 4096 = 57344 then 6
    else if w - w % 64 = 2560 then 7 else if w - w % 64 = 2688 then 8 else if w - w % 64 = 2752 then 9 else if w - w % 64 = 2816 then 10 else if w - w % 64 = 3008 then 11 else if w - w % 64 = 3200 then 12 else if w - w % 64 = 3264 then 13 else if w - w % 64 = 64 then 14
    else if w - w % 512 = 2048 then 15 else if w - w % 8 = 128 then 16 else if w - w % 256 = 256 then 17 else if w - w % 256 = 512 then 18 else if w - w % 256 = 768 then 19 else if w - w % 256 = 1024 then 20 else if w - w % 256 = 1280 then 21 else if w - w % 1 = 0 then 22 else if w - w % 256 = 34816 then 23 else 0 := rfl
def nW (op w : Int) : Int := if op = 15 then w / 64 % 8 else if op = 16 then w % 8 else if op = 23 then w % 256 else if 17 ≤ op ∧ op ≤ 21 then (if w % 256 > 127 then w % 256 - 256 else w % 256) else 0
def smW (op w : Int) : Int := if op ≤ 6 then w / 512 % 8 else 0
def srW (op w : Int) : Int := if op ≤ 6 then w / 64 % 8 else 0
def dmW (op w : Int) : Int := if op ≤ 15 then w / 8 % 8 else 0
def drW (op w : Int) : Int := if op ≤ 15 then w % 8 else 0
def insW (op w : Int) : Int × Int × Int × Int × Int × Int × Int × Int := (op, smW op w, srW op w, 0, dmW op w, drW op w, 0, nW op w)
def isW (x : Int) : Bool := decide (0 ≤ x ∧ x ≤ 65535)
/-- does the instruction of this word and these X stand? -/
theorem insOk_W (op w sx dx : Int) (ho : 1 ≤ op ∧ op ≤ 23) (hs : isW sx = true) (hd : isW dx = true) (h1 : (decide (op ≤ 6) && hasX (smW op w) (srW op w)) = false → sx = 0) (h2 : (decide (op ≤ 15) && hasX (dmW op w) (drW op w)) = false → dx = 0) :
    insOk op (smW op w) (srW op w) sx (dmW op w) (drW op w) dx (nW op w) = true := by
  simp only [isW, decide_eq_true_eq] at hs hd
  have oS : op ≤ 6 → opdOk (smW op w) (srW op w) sx = true := by
    intro h
    unfold opdOk
    have b1 : 0 ≤ smW op w ∧ smW op w ≤ 7 := by unfold smW; split <;> omega
    have b2 : 0 ≤ srW op w ∧ srW op w ≤ 7 := by unfold srW; split <;> omega
    rw [decide_eq_true (by omega)]
    cases hx : hasX (smW op w) (srW op w) with
    | true => rfl
    | false => rw [h1 (by simp [hx])]; rfl
  have oD : op ≤ 15 → opdOk (dmW op w) (drW op w) dx = true := by
    intro h
    unfold opdOk
    have b1 : 0 ≤ dmW op w ∧ dmW op w ≤ 7 := by unfold dmW; split <;> omega
    have b2 : 0 ≤ drW op w ∧ drW op w ≤ 7 := by unfold drW; split <;> omega
    rw [decide_eq_true (by omega)]
    cases hx : hasX (dmW op w) (drW op w) with
    | true => rfl
    | false => rw [h2 (by simp [hx])]; rfl
  have zS : ¬ op ≤ 6 → zr (smW op w) (srW op w) sx = true := by
    intro h
    rw [zr_iff]; exact ⟨by simp [smW, h], by simp [srW, h], h1 (by simp [h])⟩
  have zD : ¬ op ≤ 15 → zr (dmW op w) (drW op w) dx = true := by
    intro h
    rw [zr_iff]; exact ⟨by simp [dmW, h], by simp [drW, h], h2 (by simp [h])⟩
  unfold insOk insB
  by_cases h6 : op ≤ 6
  · rw [if_pos (by omega), oS h6, oD (by omega)]; simp [nW]; omega
  rw [if_neg (by omega), zS h6]
  by_cases h14 : op ≤ 14
  · rw [if_pos (by omega), oD (by omega)]; simp [nW]; omega
  rw [if_neg (by omega)]
  by_cases h15 : op = 15
  · rw [if_pos h15, oD (by omega)]; simp [nW, h15]; omega
  rw [if_neg h15, zD (by omega)]
  by_cases h16 : op = 16
  · rw [if_pos h16]; simp [nW, h16]; omega
  rw [if_neg h16]
  by_cases h21 : op ≤ 21
  · rw [if_pos (by omega)]
    have : nW op w = if w % 256 > 127 then w % 256 - 256 else w % 256 := by unfold nW; rw [if_neg h15, if_neg h16, if_neg (by omega), if_pos (by omega)]
    rw [this]; split <;> simp <;> omega
  rw [if_neg (by omega)]
  by_cases h22 : op = 22
  · rw [if_pos h22]; simp [nW, h22]
  · rw [if_neg h22, if_pos (by omega)]
    have : op = 23 := by omega
    simp [nW, this]; omega
/-- what Decode finds. -/
def dec (l : List Int) (a : Nat) : Int × Int × Int × Int × Int × Int × Int × Int × Int × Bool :=
  let w := l.getD a 0
  let op := opW w
  let hs := decide (op ≤ 6) && hasX (smW op w) (srW op w)
  let hd := decide (op ≤ 15) && hasX (dmW op w) (drW op w)
  if op = 0 then (0, 0, 0, 0, 0, 0, 0, 0, 0, false) else
  match hs, hd with
  | false, false => (op, smW op w, srW op w, 0, dmW op w, drW op w, 0, nW op w, 1, true)
  | true, false => if a + 2 ≤ l.length ∧ isW (l.getD (a + 1) 0) = true then (op, smW op w, srW op w, l.getD (a + 1) 0, dmW op w, drW op w, 0, nW op w, 2, true) else (0, 0, 0, 0, 0, 0, 0, 0, 0, false)
  | false, true => if a + 2 ≤ l.length ∧ isW (l.getD (a + 1) 0) = true then (op, smW op w, srW op w, 0, dmW op w, drW op w, l.getD (a + 1) 0, nW op w, 2, true) else (0, 0, 0, 0, 0, 0, 0, 0, 0, false)
  | true, true => if a + 3 ≤ l.length ∧ isW (l.getD (a + 1) 0) = true ∧ isW (l.getD (a + 2) 0) = true then (op, smW op w, srW op w, l.getD (a + 1) 0, dmW op w, drW op w, l.getD (a + 2) 0, nW op w, 3, true) else (0, 0, 0, 0, 0, 0, 0, 0, 0, false)
def decAt (l : List Int) (a : Int) : Int × Int × Int × Int × Int × Int × Int × Int × Int × Bool :=
  if (0 ≤ a ∧ a < l.length) ∧ isW (l.getD a.toNat 0) = true then dec l a.toNat else (0, 0, 0, 0, 0, 0, 0, 0, 0, false)
set_option maxHeartbeats 4000000 in
theorem opW_of (op w : Int) (h0 : 0 ≤ w) (hop : 1 ≤ op ∧ op ≤ 23) (e : w - w % Msk op = bases.getD op.toNat 0) : opW w = op := by
  have hc : op = 1 ∨ op = 2 ∨ op = 3 ∨ op = 4 ∨ op = 5 ∨ op = 6 ∨ op = 7 ∨ op = 8 ∨ op = 9 ∨ op = 10 ∨ op = 11 ∨ op = 12 ∨ op = 13 ∨ op = 14 ∨ op = 15 ∨ op = 16 ∨ op = 17 ∨ op = 18 ∨ op = 19 ∨ op = 20 ∨ op = 21 ∨ op = 22 ∨ op = 23 := by omega
  rcases hc with rfl | rfl | rfl | rfl | rfl | rfl | rfl | rfl | rfl | rfl | rfl | rfl | rfl | rfl | rfl | rfl | rfl | rfl | rfl | rfl | rfl | rfl | rfl
  · have e' : w - w % 4096 = 4096 := e
    clear e hop
    rw [opW_expand, if_pos e']
  · have e' : w - w % 4096 = 8192 := e
    clear e hop
    rw [opW_expand, if_neg (by omega), if_pos e']
  · have e' : w - w % 4096 = 16384 := e
    clear e hop
    rw [opW_expand, if_neg (by omega), if_neg (by omega), if_pos e']
  · have e' : w - w % 4096 = 20480 := e
    clear e hop
    rw [opW_expand, if_neg (by omega), if_neg (by omega), if_neg (by omega), if_pos e']
  · have e' : w - w % 4096 = 24576 := e
    clear e hop
    rw [opW_expand, if_neg (by omega), if_neg (by omega), if_neg (by omega), if_neg (by omega), if_pos e']
  · have e' : w - w % 4096 = 57344 := e
    clear e hop
    rw [opW_expand, if_neg (by omega), if_neg (by omega), if_neg (by omega), if_neg (by omega), if_neg (by omega), if_pos e']
  · have e' : w - w % 64 = 2560 := e
    clear e hop
    rw [opW_expand, if_neg (by omega), if_neg (by omega), if_neg (by omega), if_neg (by omega), if_neg (by omega), if_neg (by omega), if_pos e']
  · have e' : w - w % 64 = 2688 := e
    clear e hop
    rw [opW_expand, if_neg (by omega), if_neg (by omega), if_neg (by omega), if_neg (by omega), if_neg (by omega), if_neg (by omega), if_neg (by omega), if_pos e']
  · have e' : w - w % 64 = 2752 := e
    clear e hop
    rw [opW_expand, if_neg (by omega), if_neg (by omega), if_neg (by omega), if_neg (by omega), if_neg (by omega), if_neg (by omega), if_neg (by omega), if_neg (by omega), if_pos e']
  · have e' : w - w % 64 = 2816 := e
    clear e hop
    rw [opW_expand, if_neg (by omega), if_neg (by omega), if_neg (by omega), if_neg (by omega), if_neg (by omega), if_neg (by omega), if_neg (by omega), if_neg (by omega), if_neg (by omega), if_pos e']
  · have e' : w - w % 64 = 3008 := e
    clear e hop
    rw [opW_expand, if_neg (by omega), if_neg (by omega), if_neg (by omega), if_neg (by omega), if_neg (by omega), if_neg (by omega), if_neg (by omega), if_neg (by omega), if_neg (by omega), if_neg (by omega), if_pos e']
  · have e' : w - w % 64 = 3200 := e
    clear e hop
    rw [opW_expand, if_neg (by omega), if_neg (by omega), if_neg (by omega), if_neg (by omega), if_neg (by omega), if_neg (by omega), if_neg (by omega), if_neg (by omega), if_neg (by omega), if_neg (by omega), if_neg (by omega), if_pos e']
  · have e' : w - w % 64 = 3264 := e
    clear e hop
    rw [opW_expand, if_neg (by omega), if_neg (by omega), if_neg (by omega), if_neg (by omega), if_neg (by omega), if_neg (by omega), if_neg (by omega), if_neg (by omega), if_neg (by omega), if_neg (by omega), if_neg (by omega), if_neg (by omega), if_pos e']
  · have e' : w - w % 64 = 64 := e
    clear e hop
    rw [opW_expand, if_neg (by omega), if_neg (by omega), if_neg (by omega), if_neg (by omega), if_neg (by omega), if_neg (by omega), if_neg (by omega), if_neg (by omega), if_neg (by omega), if_neg (by omega), if_neg (by omega), if_neg (by omega), if_neg (by omega), if_pos e']
  · have e' : w - w % 512 = 2048 := e
    clear e hop
    rw [opW_expand, if_neg (by omega), if_neg (by omega), if_neg (by omega), if_neg (by omega), if_neg (by omega), if_neg (by omega), if_neg (by omega), if_neg (by omega), if_neg (by omega), if_neg (by omega), if_neg (by omega), if_neg (by omega), if_neg (by omega), if_neg (by omega), if_pos e']
  · have e' : w - w % 8 = 128 := e
    clear e hop
    rw [opW_expand, if_neg (by omega), if_neg (by omega), if_neg (by omega), if_neg (by omega), if_neg (by omega), if_neg (by omega), if_neg (by omega), if_neg (by omega), if_neg (by omega), if_neg (by omega), if_neg (by omega), if_neg (by omega), if_neg (by omega), if_neg (by omega), if_neg (by omega), if_pos e']
  · have e' : w - w % 256 = 256 := e
    clear e hop
    rw [opW_expand, if_neg (by omega), if_neg (by omega), if_neg (by omega), if_neg (by omega), if_neg (by omega), if_neg (by omega), if_neg (by omega), if_neg (by omega), if_neg (by omega), if_neg (by omega), if_neg (by omega), if_neg (by omega), if_neg (by omega), if_neg (by omega), if_neg (by omega), if_neg (by omega), if_pos e']
  · have e' : w - w % 256 = 512 := e
    clear e hop
    rw [opW_expand, if_neg (by omega), if_neg (by omega), if_neg (by omega), if_neg (by omega), if_neg (by omega), if_neg (by omega), if_neg (by omega), if_neg (by omega), if_neg (by omega), if_neg (by omega), if_neg (by omega), if_neg (by omega), if_neg (by omega), if_neg (by omega), if_neg (by omega), if_neg (by omega), if_neg (by omega), if_pos e']
  · have e' : w - w % 256 = 768 := e
    clear e hop
    rw [opW_expand, if_neg (by omega), if_neg (by omega), if_neg (by omega), if_neg (by omega), if_neg (by omega), if_neg (by omega), if_neg (by omega), if_neg (by omega), if_neg (by omega), if_neg (by omega), if_neg (by omega), if_neg (by omega), if_neg (by omega), if_neg (by omega), if_neg (by omega), if_neg (by omega), if_neg (by omega), if_neg (by omega), if_pos e']
  · have e' : w - w % 256 = 1024 := e
    clear e hop
    rw [opW_expand, if_neg (by omega), if_neg (by omega), if_neg (by omega), if_neg (by omega), if_neg (by omega), if_neg (by omega), if_neg (by omega), if_neg (by omega), if_neg (by omega), if_neg (by omega), if_neg (by omega), if_neg (by omega), if_neg (by omega), if_neg (by omega), if_neg (by omega), if_neg (by omega), if_neg (by omega), if_neg (by omega), if_neg (by omega), if_pos e']
  · have e' : w - w % 256 = 1280 := e
    clear e hop
    rw [opW_expand, if_neg (by omega), if_neg (by omega), if_neg (by omega), if_neg (by omega), if_neg (by omega), if_neg (by omega), if_neg (by omega), if_neg (by omega), if_neg (by omega), if_neg (by omega), if_neg (by omega), if_neg (by omega), if_neg (by omega), if_neg (by omega), if_neg (by omega), if_neg (by omega), if_neg (by omega), if_neg (by omega), if_neg (by omega), if_neg (by omega), if_pos e']
  · have e' : w - w % 1 = 0 := e
    clear e hop
    rw [opW_expand, if_neg (by omega), if_neg (by omega), if_neg (by omega), if_neg (by omega), if_neg (by omega), if_neg (by omega), if_neg (by omega), if_neg (by omega), if_neg (by omega), if_neg (by omega), if_neg (by omega), if_neg (by omega), if_neg (by omega), if_neg (by omega), if_neg (by omega), if_neg (by omega), if_neg (by omega), if_neg (by omega), if_neg (by omega), if_neg (by omega), if_neg (by omega), if_pos e']
  · have e' : w - w % 256 = 34816 := e
    clear e hop
    rw [opW_expand, if_neg (by omega), if_neg (by omega), if_neg (by omega), if_neg (by omega), if_neg (by omega), if_neg (by omega), if_neg (by omega), if_neg (by omega), if_neg (by omega), if_neg (by omega), if_neg (by omega), if_neg (by omega), if_neg (by omega), if_neg (by omega), if_neg (by omega), if_neg (by omega), if_neg (by omega), if_neg (by omega), if_neg (by omega), if_neg (by omega), if_neg (by omega), if_neg (by omega), if_pos e']
theorem codeW_bases (op : Int) (h1 : 1 ≤ op) (h23 : op ≤ 23) : (0 ≤ bases.getD op.toNat 0 ∧ bases.getD op.toNat 0 ≤ 57344) ∧ (op = 22 → bases.getD op.toNat 0 = 0) ∧ (op ≤ 6 → bases.getD op.toNat 0 % 4096 = 0) ∧ (op ≤ 14 → bases.getD op.toNat 0 % 64 = 0) ∧ (op = 15 → bases.getD op.toNat 0 = 2048) ∧ (op = 16 → bases.getD op.toNat 0 = 128) ∧ (17 ≤ op → bases.getD op.toNat 0 % 256 = 0) := by
  have hc : op = 1 ∨ op = 2 ∨ op = 3 ∨ op = 4 ∨ op = 5 ∨ op = 6 ∨ op = 7 ∨ op = 8 ∨ op = 9 ∨ op = 10 ∨ op = 11 ∨ op = 12 ∨ op = 13 ∨ op = 14 ∨ op = 15 ∨ op = 16 ∨ op = 17 ∨ op = 18 ∨ op = 19 ∨ op = 20 ∨ op = 21 ∨ op = 22 ∨ op = 23 := by omega
  rcases hc with rfl | rfl | rfl | rfl | rfl | rfl | rfl | rfl | rfl | rfl | rfl | rfl | rfl | rfl | rfl | rfl | rfl | rfl | rfl | rfl | rfl | rfl | rfl <;> simp [bases]
/-- a right instruction's word leads back to it. -/
theorem codeW_back (op sm sr sx dm dr dx n : Int) (hi : insOk op sm sr sx dm dr dx n = true) (w : Int) (hw : codeW op sm sr dm dr n = w) :
    0 ≤ w ∧ w ≤ 65535 ∧ opW w = op ∧ smW op w = sm ∧ srW op w = sr ∧ dmW op w = dm ∧ drW op w = dr ∧ nW op w = n := by
  obtain ⟨h1, h23, hs, hd, z1, z2, n1, n2, n3, n4, n5, n6⟩ := insOk_elim hi
  clear hi
  have hb := codeW_bases op h1 h23
  unfold codeW at hw
  have E : Aside0 (∀ (_ : 0 ≤ w), w - w % Msk op = bases.getD op.toNat 0 → opW w = op) := Aside0.mk (fun h e => opW_of op w h ⟨h1, h23⟩ e)
  generalize bases.getD op.toNat 0 = b at *
  unfold smW srW dmW drW nW
  have M : Msk op = if op ≤ 6 then 4096 else if op = 15 then 512 else if op ≤ 15 then 64 else if op = 16 then 8 else if op ≤ 21 then 256 else if op = 23 then 256 else 1 := rfl
  obtain ⟨hb1, hb22, hb6, hb14, hb15, hb16, hb17⟩ := hb
  by_cases g6 : op ≤ 6
  · have m : Msk op = 4096 := by rw [M, if_pos g6]
    have hm := hb6 g6
    have nn := n1 (by omega)
    simp only [if_pos g6, if_pos (show op ≤ 15 by omega), if_neg (show ¬ op = 15 by omega), if_neg (show ¬ op = 16 by omega), if_neg (show ¬ op = 23 by omega), if_neg (show ¬ (17 ≤ op ∧ op ≤ 21) by omega)] at hw ⊢
    clear M hb6 hb14 hb15 hb16 hb17 hb22 n1 n2 n3 n4 n5 n6 z1 z2
    exact ⟨by omega, by omega, E.out (by omega) (by rw [m]; omega), by omega, by omega, by omega, by omega, by omega⟩
  obtain ⟨q1, q2, q3⟩ := z1 (by omega)
  by_cases g15 : op = 15
  · have m : Msk op = 512 := by rw [M, if_neg g6, if_pos g15]
    have hm := hb15 g15
    have nn := n2 g15
    simp only [if_neg g6, if_pos (show op ≤ 15 by omega), if_pos g15] at hw ⊢
    clear M hb6 hb14 hb15 hb16 hb17 hb22 n1 n2 n3 n4 n5 n6 z1 z2
    exact ⟨by omega, by omega, E.out (by omega) (by rw [m]; omega), by omega, by omega, by omega, by omega, by omega⟩
  by_cases g14 : op ≤ 15
  · have m : Msk op = 64 := by rw [M, if_neg g6, if_neg g15, if_pos g14]
    have hm := hb14 (by omega)
    have nn := n1 (by omega)
    simp only [if_neg g6, if_neg g15, if_pos g14, if_neg (show ¬ op = 16 by omega), if_neg (show ¬ op = 23 by omega), if_neg (show ¬ (17 ≤ op ∧ op ≤ 21) by omega)] at hw ⊢
    clear M hb6 hb14 hb15 hb16 hb17 hb22 n1 n2 n3 n4 n5 n6 z1 z2
    exact ⟨by omega, by omega, E.out (by omega) (by rw [m]; omega), by omega, by omega, by omega, by omega, by omega⟩
  obtain ⟨q4, q5, q6⟩ := z2 (by omega)
  by_cases g16 : op = 16
  · have m : Msk op = 8 := by rw [M, if_neg g6, if_neg g15, if_neg g14, if_pos g16]
    have hm := hb16 g16
    have nn := n3 g16
    simp only [if_neg g6, if_neg g15, if_neg g14, if_pos g16] at hw ⊢
    clear M hb6 hb14 hb15 hb16 hb17 hb22 n1 n2 n3 n4 n5 n6 z1 z2
    exact ⟨by omega, by omega, E.out (by omega) (by rw [m]; omega), by omega, by omega, by omega, by omega, by omega⟩
  have hm := hb17 (by omega)
  by_cases g23 : op = 23
  · have m : Msk op = 256 := by rw [M, if_neg g6, if_neg g15, if_neg g14, if_neg g16, if_neg (show ¬ op ≤ 21 by omega), if_pos g23]
    have nn := n6 g23
    simp only [if_neg g6, if_neg g15, if_neg g14, if_neg g16, if_pos g23] at hw ⊢
    clear M hb6 hb14 hb15 hb16 hb17 hb22 n1 n2 n3 n4 n5 n6 z1 z2
    exact ⟨by omega, by omega, E.out (by omega) (by rw [m]; omega), by omega, by omega, by omega, by omega, by omega⟩
  by_cases g21 : op ≤ 21
  · have m : Msk op = 256 := by rw [M, if_neg g6, if_neg g15, if_neg g14, if_neg g16, if_pos g21]
    have nn := n4 (by omega) g21
    simp only [if_neg g6, if_neg g15, if_neg g14, if_neg g16, if_neg g23, if_pos (show 17 ≤ op ∧ op ≤ 21 by omega)] at hw ⊢
    clear M hb6 hb14 hb15 hb16 hb17 hb22 n1 n2 n3 n4 n5 n6 z1 z2
    refine ⟨by omega, by omega, E.out (by omega) (by rw [m]; omega), by omega, by omega, by omega, by omega, ?_⟩
    split <;> omega
  · have m : Msk op = 1 := by rw [M, if_neg g6, if_neg g15, if_neg g14, if_neg g16, if_neg g21, if_neg g23]
    have hm2 := hb22 (by omega)
    have nn := n5 (by omega)
    simp only [if_neg g6, if_neg g15, if_neg g14, if_neg g16, if_neg g23, if_neg (show ¬ (17 ≤ op ∧ op ≤ 21) by omega)] at hw ⊢
    clear M hb6 hb14 hb15 hb16 hb17 hb22 n1 n2 n3 n4 n5 n6 z1 z2
    exact ⟨by omega, by omega, E.out (by omega) (by rw [m]; omega), by omega, by omega, by omega, by omega, by omega⟩
theorem within_ok (a b c : Int) : impl_within.f a b c = some (decide (b ≤ a ∧ a ≤ c)) := by
  unfold impl_within.f
  by_cases h : a ≥ b
  · have h' : b ≤ a := h
    rw [if_pos h]; simp [h']
  · have h' : ¬ b ≤ a := h
    rw [if_neg h]; simp [h']
theorem implBase_ok (op : Int) (h0 : 0 ≤ op) (h1 : op ≤ 23) : impl_baseOf.f op = some (bases.getD op.toNat 0) := by
  unfold impl_baseOf.f
  simp only [Option.bind_some]
  rw [if_pos h0, if_pos (by simp; omega)]; rfl
theorem msk_ok (w : Int) (h0 : 0 ≤ w) (h1 : w ≤ 65535) : bits .andNot .i64 w 4095 = w - w % 4096 ∧ bits .andNot .i64 w 511 = w - w % 512 ∧ bits .andNot .i64 w 63 = w - w % 64 ∧ bits .andNot .i64 w 7 = w - w % 8 ∧ bits .andNot .i64 w 255 = w - w % 256 ∧ bits .andNot .i64 w 0 = w - w % 1 :=
  ⟨andNot_mask w h0 (by omega) 12, andNot_mask w h0 (by omega) 9, andNot_mask w h0 (by omega) 6, andNot_mask w h0 (by omega) 3, andNot_mask w h0 (by omega) 8, andNot_mask w h0 (by omega) 0⟩
theorem implOpOf_loop (w : Int) (h0 : 0 ≤ w) (h1 : w ≤ 65535) : ∀ (m k : Nat), m ≤ 23 → 2 * m < k → impl_opOf.l0 k w (24 - (m : Int)) = some (opFrom m w) := by
  intro m
  induction m with
  | zero =>
    intro k _ hk
    obtain ⟨k, rfl⟩ : ∃ m, k = m + 1 := ⟨k - 1, by omega⟩
    simp only [impl_opOf.l0]
    rw [if_neg (by omega)]; rfl
  | succ m ih =>
    intro k hm hk
    obtain ⟨k, rfl⟩ : ∃ m, k = m + 2 := ⟨k - 2, by omega⟩
    obtain ⟨e1, e2, e3, e4, e5, e6⟩ := msk_ok w h0 h1
    have hn : (24 - ((m + 1 : Nat) : Int)) = 23 - (m : Int) := by omega
    rw [hn]
    have hw : wrap64 (23 - (m : Int) + 1) = 24 - (m : Int) := by rw [w64 (by omega) (by omega)]; omega
    have r1 := ih (k + 1) (by omega) (by omega)
    have r0 := ih k (by omega) (by omega)
    rw [impl_opOf.l0]
    simp only [impl_opOf.j1, impl_hasSrc.f, impl_hasDst.f, impl_isBranch.f, within_ok, Option.bind_some, hw, r1, r0]
    rw [implBase_ok (23 - (m : Int)) (by omega) (by omega)]
    simp only [Option.bind_some, e1, e2, e3, e4, e5, e6]
    rw [if_pos (by omega)]
    rw [opFrom_succ]
    unfold Msk
    generalize hop : (23 - (m : Int)) = op at *
    have hr : 1 ≤ op ∧ op ≤ 23 := by omega
    by_cases h6 : op ≤ 6
    · rw [if_pos (by simp; omega), if_pos h6]; split <;> rfl
    rw [if_neg (by simp; omega), if_neg h6]
    by_cases h15 : op = 15
    · rw [if_pos h15, if_pos h15]; split <;> rfl
    rw [if_neg h15, if_neg h15]
    by_cases h14 : op ≤ 15
    · rw [if_pos (by simp; omega), if_pos h14]; split <;> rfl
    rw [if_neg (by simp; omega), if_neg h14]
    by_cases h16 : op = 16
    · rw [if_pos h16, if_pos h16]; split <;> rfl
    rw [if_neg h16, if_neg h16]
    by_cases h21 : op ≤ 21
    · rw [if_pos (by simp; omega), if_pos h21]; simp only [if_true]; split <;> rfl
    rw [if_neg (by simp; omega), if_neg h21]
    by_cases h23 : op = 23
    · rw [if_pos (by simpa using h23), if_pos h23]; split <;> rfl
    · rw [if_neg (by simpa using h23), if_neg h23]; split <;> rfl
theorem implOpOf_ok (w : Int) (h0 : 0 ≤ w) (h1 : w ≤ 65535) (k : Nat) (hk : 46 < k) : impl_opOf.f k w = some (opW w) := by
  unfold impl_opOf.f opW
  exact implOpOf_loop w h0 h1 23 k (by omega) (by omega)
theorem implInsOf_ok (w op : Int) (h1 : w ≤ 65535) (ho : 1 ≤ op ∧ op ≤ 23) (k : Nat) (hk : 3 ≤ k) : impl_insOf.f k w op = some (insW op w) := by
  obtain ⟨k, rfl⟩ : ∃ m, k = m + 2 := ⟨k - 2, by omega⟩
  unfold impl_insOf.f insW smW srW dmW drW nW
  simp only [impl_insOf.j0, impl_insOf.j1, impl_hasSrc.f, impl_hasDst.f, impl_isBranch.f, within_ok, Option.bind_some, and7, and255]
  have hw : wrap64 (w % 256 - 256) = w % 256 - 256 := w64 (by omega) (by omega)
  rw [hw]
  have e6 : (1 ≤ op ∧ op ≤ 6) ↔ op ≤ 6 := by omega
  have e15 : (1 ≤ op ∧ op ≤ 15) ↔ op ≤ 15 := by omega
  simp only [e6, e15, decide_eq_true_eq]
  by_cases h6 : op ≤ 6
  · have a15 : op ≤ 15 := by omega
    have b1 : ¬ op = 15 := by omega
    have b2 : ¬ op = 16 := by omega
    have b3 : ¬ op = 23 := by omega
    have b4 : ¬ (17 ≤ op ∧ op ≤ 21) := by omega
    simp only [if_pos h6, if_pos a15, if_neg b1, if_neg b2, if_neg b3, if_neg b4]
  by_cases h15 : op ≤ 15
  · simp only [if_neg h6, if_pos h15]
    by_cases b1 : op = 15
    · simp only [if_pos b1]
    have b2 : ¬ op = 16 := by omega
    have b3 : ¬ op = 23 := by omega
    have b4 : ¬ (17 ≤ op ∧ op ≤ 21) := by omega
    simp only [if_neg b1, if_neg b2, if_neg b3, if_neg b4]
  have b1 : ¬ op = 15 := by omega
  simp only [if_neg h6, if_neg h15, if_neg b1]
  by_cases b2 : op = 16
  · simp only [if_pos b2]
  by_cases b3 : op = 23
  · simp only [if_neg b2, if_pos b3]
  by_cases b4 : 17 ≤ op ∧ op ≤ 21
  · simp only [if_neg b2, if_neg b3, if_pos b4]
    by_cases b5 : w % 256 > 127
    · simp only [if_pos b5]
    · simp only [if_neg b5]
  · simp only [if_neg b2, if_neg b3, if_neg b4]
def isWd (x : Int) : Bool := decide (0 ≤ x ∧ x ≤ 65535)
theorem implWordsOk_ok (l : List Int) (hl : l.length ≤ 4611686018427387904) (k : Nat) (hk : l.length < k) : impl_wordsOk.f k l = some (l.all isWd) := by
  unfold impl_wordsOk.f
  have H : ∀ (r k i : Nat), l.length - i = r → i ≤ l.length → r < k → impl_wordsOk.l0 k l (l.length : Int) i = some ((l.drop i).all isWd) := by
    intro r
    induction r with
    | zero =>
      intro k i hr hi hk
      obtain ⟨k, rfl⟩ : ∃ m, k = m + 1 := ⟨k - 1, by omega⟩
      simp only [impl_wordsOk.l0]
      rw [if_neg (by omega), List.drop_of_length_le (by omega)]; rfl
    | succ r ih =>
      intro k i hr hi hk
      obtain ⟨k, rfl⟩ : ∃ m, k = m + 1 := ⟨k - 1, by omega⟩
      have hlt : i < l.length := by omega
      simp only [impl_wordsOk.l0, impl_isWord.f, within_ok, Option.bind_some]
      rw [if_pos (by omega), if_pos (by omega), if_pos (by omega), rd_at l i hlt, w64 (by omega) (by omega), List.drop_eq_getElem_cons hlt, List.all_cons]
      have e : ((i : Int) + 1) = ((i + 1 : Nat) : Int) := by omega
      rw [e, ih k (i + 1) (by omega) (by omega) (by omega)]
      unfold isWd
      cases decide (0 ≤ l[i] ∧ l[i] ≤ 65535) <;> simp
  have := H l.length k 0 (by omega) (by omega) hk
  simpa using this
theorem implHasX_ok (m r x : Int) : impl_HasX.f m r x = some (hasX m r) := by
  unfold impl_HasX.f hasX
  by_cases h6 : m = 6
  · simp [h6]
  by_cases h7 : m = 7
  · simp [h7]
  by_cases h2 : m = 2
  · simp [h2]
  by_cases h3 : m = 3
  · simp [h3]
  simp [h6, h7, h2, h3]
theorem isWd_isW (x : Int) : isWd x = isW x := rfl
theorem wnat (i c : Nat) (h : i + c ≤ 1048600) : wrap64 ((i : Int) + (c : Int)) = ((i + c : Nat) : Int) := by
  rw [w64 (by omega) (by omega)]; omega
theorem wdiff (i c : Nat) (h : i + c ≤ 1048600) : wrap64 (((i + c : Nat) : Int) - (i : Int)) = (c : Int) := by
  rw [w64 (by omega) (by omega)]; omega
theorem wordsOk1 (a : Int) (k : Nat) (hk : 5 ≤ k) : impl_wordsOk.f k [a] = some (isWd a) := by
  rw [implWordsOk_ok [a] (Nat.le_trans (show [a].length ≤ 5 by simp) (by decide)) k (Nat.lt_of_lt_of_le (show [a].length < 5 by simp) hk)]
  simp only [List.all_cons, List.all_nil, Bool.and_true]
theorem wordsOk2 (a b : Int) (k : Nat) (hk : 5 ≤ k) : impl_wordsOk.f k [a, b] = some (isWd a && isWd b) := by
  rw [implWordsOk_ok [a, b] (Nat.le_trans (show [a, b].length ≤ 5 by simp) (by decide)) k (Nat.lt_of_lt_of_le (show [a, b].length < 5 by simp) hk)]
  simp only [List.all_cons, List.all_nil, Bool.and_true]
theorem wordsOk3 (a b c : Int) (k : Nat) (hk : 5 ≤ k) : impl_wordsOk.f k [a, b, c] = some (isWd a && (isWd b && isWd c)) := by
  rw [implWordsOk_ok [a, b, c] (Nat.le_trans (show [a, b, c].length ≤ 5 by simp) (by decide)) k (Nat.lt_of_lt_of_le (show [a, b, c].length < 5 by simp) hk)]
  simp only [List.all_cons, List.all_nil, Bool.and_true]
theorem implWords_ok (op sm sr sx dm dr dx n : Int) (h : 1 ≤ op) (k : Nat) (hk : 3 ≤ k) : impl_Words.f k op sm sr sx dm dr dx n = some (1 + (if (decide (op ≤ 6) && hasX sm sr) = true then 1 else 0) + (if (decide (op ≤ 15) && hasX dm dr) = true then 1 else 0)) := by
  obtain ⟨k, rfl⟩ : ∃ m, k = m + 2 := ⟨k - 2, by omega⟩
  simp only [impl_Words.f, impl_hasSrc.f, impl_hasDst.f, within_ok, implHasX_ok, impl_Words.j0, impl_Words.j1, Option.bind_some]
  have e6 : (1 ≤ op ∧ op ≤ 6) ↔ op ≤ 6 := by omega
  have e15 : (1 ≤ op ∧ op ≤ 15) ↔ op ≤ 15 := by omega
  simp only [e6, e15]
  cases decide (op ≤ 6) <;> cases decide (op ≤ 15) <;> cases hasX sm sr <;> cases hasX dm dr <;> simp [wrap64]
theorem implD1 (k : Nat) (l : List Int) (a op c : Int) (h : 1 ≤ op) (f : Bool) (sm sr sx dm dr dx n : Int) : impl_Decode.j1 (k + 1) l a op c f op sm sr sx dm dr dx n =
    if f = true then some (0, 0, 0, 0, 0, 0, 0, 0, 0, false) else impl_Decode.j2 k l op c (wrap64 (a + 1)) (decide (op ≤ 6) && hasX sm sr) op sm sr sx dm dr dx n := by
  rw [impl_Decode.j1]
  simp only [impl_hasSrc.f, within_ok, implHasX_ok, Option.bind_some]
  have e6 : (1 ≤ op ∧ op ≤ 6) ↔ op ≤ 6 := by omega
  simp only [e6]
  cases decide (op ≤ 6) <;> simp
theorem implD3 (k : Nat) (l : List Int) (op c x : Int) (h : 1 ≤ op) (sm sr sx dm dr dx n : Int) : impl_Decode.j3 (k + 1) l op c x op sm sr sx dm dr dx n =
    if (decide (op ≤ 15) && hasX dm dr) = true then (if 0 ≤ x then (if x < (l.length : Int) then some (op, sm, sr, sx, dm, dr, rd l x, n, c, true) else none) else none) else some (op, sm, sr, sx, dm, dr, dx, n, c, true) := by
  rw [impl_Decode.j3]
  simp only [impl_hasDst.f, within_ok, implHasX_ok, Option.bind_some]
  have e15 : (1 ≤ op ∧ op ≤ 15) ↔ op ≤ 15 := by omega
  simp only [e15]
  cases decide (op ≤ 15) <;> cases hasX dm dr <;> simp
set_option maxHeartbeats 1000000 in
theorem implDecode_ok (l : List Int) (hl : l.length ≤ 1048578) (a : Int) (k : Nat) (hk : 60 < k) : impl_Decode.f k l a = some (decAt l a) := by
  obtain ⟨k, rfl⟩ : ∃ m, k = m + 4 := ⟨k - 4, by omega⟩
  unfold impl_Decode.f decAt
  simp only [within_ok, impl_isWord.f, Option.bind_some]
  rw [w64 (x := (l.length : Int) - 1) (by omega) (by omega)]
  by_cases h : 0 ≤ a ∧ a < l.length
  · obtain ⟨h0, h1⟩ := h
    obtain ⟨i, rfl⟩ := Int.eq_ofNat_of_zero_le h0
    have hi : i < l.length := by omega
    rw [if_pos (by simp; omega), if_pos h0, if_pos h1, impl_Decode.j0, Int.toNat_natCast]
    have hrd : rd l (i : Int) = l.getD i 0 := by simp [rd]
    rw [hrd, if_pos h0, if_pos h1]
    unfold dec
    generalize hwd : l.getD i 0 = w
    by_cases hw : 0 ≤ w ∧ w ≤ 65535
    · have hW : isW w = true := by simpa [isW] using hw
      rw [if_neg (by simp; omega), if_pos ⟨⟨h0, h1⟩, hW⟩, implOpOf_ok w hw.1 hw.2 (k + 3) (by omega)]
      simp only [Option.bind_some]
      have hr : opW w = 0 ∨ (1 ≤ opW w ∧ opW w ≤ 23) := opFrom_range 23 w (Nat.le_refl 23)
      by_cases ho : opW w = 0
      · rw [if_pos ho, if_pos ho]
      rw [if_neg ho, if_neg ho]
      have hop : 1 ≤ opW w ∧ opW w ≤ 23 := hr.resolve_left ho
      clear hr
      generalize opW w = op at *
      rw [implInsOf_ok w op hw.2 hop (k + 3) (by omega)]
      unfold insW
      simp only [Option.bind_some]
      rw [implWords_ok _ _ _ _ _ _ _ _ hop.1 (k + 3) (by omega)]
      simp only [Option.bind_some]
      rw [w64 (x := (l.length : Int) - i) (by omega) (by omega)]
      have hW' : isWd (l.getD i 0) = true := by rw [hwd]; exact hW
      have hb1 : i + 1 ≤ 1048600 := by omega
      have hb2 : i + 1 + 1 ≤ 1048600 := by omega
      have hb3 : i + 2 + 1 ≤ 1048600 := by omega
      have w1 : wrap64 ((i : Int) + 1) = ((i + 1 : Nat) : Int) := wnat i 1 hb1
      have w2 : wrap64 (((i + 1 : Nat) : Int) + 1) = ((i + 2 : Nat) : Int) := wnat (i + 1) 1 hb2
      have r1 : rd l ((i + 1 : Nat) : Int) = l.getD (i + 1) 0 := rfl
      have r2 : rd l ((i + 2 : Nat) : Int) = l.getD (i + 2) 0 := rfl
      have d1 := fun (c : Int) (f : Bool) => implD1 (k + 2) l (i : Int) op c hop.1 f (smW op w) (srW op w) 0 (dmW op w) (drW op w) 0 (nW op w)
      have d3 := fun (c x sx : Int) => implD3 k l op c x hop.1 (smW op w) (srW op w) sx (dmW op w) (drW op w) 0 (nW op w)
      simp only [d1, w1, impl_Decode.j2, d3, w2, r1, r2]
      clear d1 d3
      generalize smW op w = sm
      generalize srW op w = sr
      generalize dmW op w = dm
      generalize drW op w = dr
      generalize nW op w = n
      generalize (decide (op ≤ 6) && hasX sm sr) = hs
      generalize (decide (op ≤ 15) && hasX dm dr) = hd
      have c1 : Aside0 (∀ _ : i + 1 ≤ l.length, impl_wordsOk.f (k + 3) ((l.take (i + 1)).drop i) = some true) := by
        refine Aside0.mk fun h => ?_; rw [cut1 l i h, wordsOk1 _ (k + 3) (by omega), hW']
      have c2 : Aside0 (∀ _ : i + 2 ≤ l.length, impl_wordsOk.f (k + 3) ((l.take (i + 2)).drop i) = some (isW (l.getD (i + 1) 0))) := by
        refine Aside0.mk fun h => ?_; rw [cut2 l i h, wordsOk2 _ _ (k + 3) (by omega), hW', Bool.true_and, isWd_isW]
      have c3 : Aside0 (∀ _ : i + 3 ≤ l.length, impl_wordsOk.f (k + 3) ((l.take (i + 3)).drop i) = some (isW (l.getD (i + 1) 0) && isW (l.getD (i + 2) 0))) := by
        refine Aside0.mk fun h => ?_; rw [cut3 l i h, wordsOk3 _ _ _ (k + 3) (by omega), hW', Bool.true_and, isWd_isW, isWd_isW]
      have t2 : wrap64 ((i : Int) + 2) = ((i + 2 : Nat) : Int) := wnat i 2 hb2
      have t3 : wrap64 ((i : Int) + 3) = ((i + 3 : Nat) : Int) := wnat i 3 hb3
      have n1 : (1 : Int) + 0 + 0 = 1 := rfl
      have n2 : (1 : Int) + 0 + 1 = 2 := rfl
      have n2' : (1 : Int) + 1 + 0 = 2 := rfl
      have n3 : (1 : Int) + 1 + 1 = 3 := rfl
      cases hs <;> cases hd <;> simp only [if_true, Bool.false_eq_true, if_false, n1, n2, n2', n3, w1, t2, t3, Int.toNat_natCast] <;> clear w1 w2 t2 t3 r1 r2
      · rw [if_neg (by omega), if_pos (by omega), if_pos (by omega), c1.out (by omega)]; simp
      · by_cases h2 : i + 2 ≤ l.length
        · rw [if_neg (by omega), if_pos (by omega), if_pos (by omega), c2.out h2, if_pos (by omega), if_pos (by omega)]
          cases hx : isW (l.getD (i + 1) 0) <;> simp [h2]
        · rw [if_pos (by omega), if_neg (fun h' => h2 h'.1)]
      · by_cases h2 : i + 2 ≤ l.length
        · rw [if_neg (by omega), if_pos (by omega), if_pos (by omega), c2.out h2, if_pos (by omega), if_pos (by omega)]
          cases hx : isW (l.getD (i + 1) 0) <;> simp [h2]
        · rw [if_pos (by omega), if_neg (fun h' => h2 h'.1)]
      · by_cases h2 : i + 3 ≤ l.length
        · rw [if_neg (by omega), if_pos (by omega), if_pos (by omega), c3.out h2, if_pos (by omega), if_pos (by omega), if_pos (by omega), if_pos (by omega)]
          cases hx : isW (l.getD (i + 1) 0) <;> cases hy : isW (l.getD (i + 2) 0) <;> simp [h2]
        · rw [if_pos (by omega), if_neg (fun h' => h2 h'.1)]
    · have hW : ¬ isW w = true := by simpa [isW] using hw
      rw [if_pos (by simp; omega), if_neg (fun h' => hW h'.2)]
  · rw [if_neg (by simp; omega), if_neg (fun h' => h h'.1), impl_Decode.j0]
    rfl
theorem implOpdOk_ok (m r x : Int) : impl_OpdOk.f m r x = some (opdOk m r x) := by
  unfold impl_OpdOk.f impl_isReg.f impl_isWord.f opdOk
  simp only [within_ok, implHasX_ok, Option.bind_some]
  by_cases h1 : 0 ≤ m ∧ m ≤ 7
  · by_cases h2 : 0 ≤ r ∧ r ≤ 7
    · by_cases h3 : 0 ≤ x ∧ x ≤ 65535
      · by_cases h4 : x = 0
        · cases hasX m r <;> simp [h1, h2, h4]
        · cases hasX m r <;> simp [h1, h2, h3, h4]
      · have : ¬ (0 ≤ m ∧ m ≤ 7 ∧ 0 ≤ r ∧ r ≤ 7 ∧ 0 ≤ x ∧ x ≤ 65535) := by omega
        simp only [decide_eq_false this, Bool.false_and]; simp [h1, h2, h3]
    · have : ¬ (0 ≤ m ∧ m ≤ 7 ∧ 0 ≤ r ∧ r ≤ 7 ∧ 0 ≤ x ∧ x ≤ 65535) := by omega
      simp only [decide_eq_false this, Bool.false_and]; simp [h1, h2]
  · have : ¬ (0 ≤ m ∧ m ≤ 7 ∧ 0 ≤ r ∧ r ≤ 7 ∧ 0 ≤ x ∧ x ≤ 65535) := by omega
    simp only [decide_eq_false this, Bool.false_and]; simp [h1]
theorem nz_ok (m r x : Int) : (!(m == 0) || (!(r == 0) || (!(x == 0)))) = !zr m r x := by
  unfold zr
  cases m == 0 <;> cases r == 0 <;> cases x == 0 <;> rfl
set_option maxHeartbeats 4000000 in
theorem implInsOk_ok (op sm sr sx dm dr dx n : Int) (k : Nat) (hk : 4 ≤ k) : impl_InsOk.f k op sm sr sx dm dr dx n = some (insOk op sm sr sx dm dr dx n) := by
  obtain ⟨k, rfl⟩ : ∃ m, k = m + 3 := ⟨k - 3, by omega⟩
  unfold impl_InsOk.f insOk insB
  simp only [within_ok, implOpdOk_ok, nz_ok, Option.bind_some, impl_InsOk.j0, impl_InsOk.j1, impl_InsOk.j2, impl_hasSrc.f, impl_hasDst.f, impl_isBranch.f, impl_isReg.f]
  have ha : zr sm sr sx = true → opdOk sm sr sx = true := zr_ok
  have hb : zr dm dr dx = true → opdOk dm dr dx = true := zr_ok
  generalize opdOk sm sr sx = a at *
  generalize opdOk dm dr dx = b at *
  generalize zr sm sr sx = c at *
  generalize zr dm dr dx = d at *
  cases a <;> cases b <;> cases c <;> cases d <;> (first | (exact absurd (ha rfl) (by decide)) | (exact absurd (hb rfl) (by decide)) | skip) <;> clear ha hb <;> simp only [if_true, Bool.false_eq_true, if_false, Bool.true_and, Bool.false_and, Bool.and_false, Bool.not_true, Bool.not_false, decide_eq_true_eq]
  all_goals repeat' split
  all_goals first | rfl | omega | (congr 1; rw [Bool.eq_iff_iff]; simp only [beq_iff_eq, decide_eq_true_eq, Bool.false_eq_true]; omega) | (simp at *; omega)
theorem or_add (i : Nat) (x y : Int) (hx0 : 0 ≤ x) (hx : x % 2 ^ i = 0) (hx1 : x < 4611686018427387904) (hy0 : 0 ≤ y) (hy : y < 2 ^ i) (hi : i ≤ 32) : bits .or .i64 x y = x + y := by
  have hp : (2 : Int) ^ i ≤ 2 ^ 32 := by
    have := Nat.pow_le_pow_right (n := 2) (by decide) hi
    exact_mod_cast this
  exact bits_join .i64 62 (by decide) (fun n _ _ => by rw [IntKind.wrap_i64]; omega) i x y hx0 hx (by omega) hy0 hy (by omega)
theorem bases_mod : (∀ i, i < 7 → bases.getD i 0 % 4096 = 0) ∧ (∀ i, i < 15 → bases.getD i 0 % 64 = 0) ∧ (∀ i, i < 24 → 0 ≤ bases.getD i 0 ∧ bases.getD i 0 ≤ 57344) ∧ (∀ i, 17 ≤ i → i < 24 → bases.getD i 0 % 256 = 0) := by
  refine ⟨by decide, by decide, by decide, ?_⟩
  intro i h1 h2
  have : i = 17 ∨ i = 18 ∨ i = 19 ∨ i = 20 ∨ i = 21 ∨ i = 22 ∨ i = 23 := by omega
  rcases this with rfl | rfl | rfl | rfl | rfl | rfl | rfl <;> decide
set_option maxHeartbeats 4000000 in
theorem implWord_ok (op sm sr sx dm dr dx n : Int) (hi : insOk op sm sr sx dm dr dx n = true) (k : Nat) (hk : 2 ≤ k) : impl_codeWord.f k op sm sr sx dm dr dx n = some (codeW op sm sr dm dr n) := by
  obtain ⟨k, rfl⟩ : ∃ m, k = m + 1 := ⟨k - 1, by omega⟩
  obtain ⟨h1, h23, hs, hd, _, _, hn⟩ := insOk_elim hi
  unfold impl_codeWord.f codeW
  rw [implBase_ok op (by omega) h23]
  simp only [Option.bind_some, impl_isBranch.f, impl_hasSrc.f, impl_hasDst.f, within_ok, impl_codeWord.j0, and255]
  have hb := bases_mod.2.2.1 op.toNat (by omega)
  have hb7 := bases_mod.1 op.toNat
  have hb15 := bases_mod.2.1 op.toNat
  have hb17 := bases_mod.2.2.2 op.toNat
  have e15 : op = 15 → bases.getD op.toNat 0 = 2048 := by intro h; subst h; decide
  have e16 : op = 16 → bases.getD op.toNat 0 = 128 := by intro h; subst h; decide
  have ws := w64 (x := (8 * sm + sr) * 64) (by omega) (by omega)
  have wd := w64 (x := 8 * dm + dr) (by omega) (by omega)
  rw [w64 (x := 8 * sm) (by omega) (by omega), w64 (x := 8 * sm + sr) (by omega) (by omega), w64 (x := 8 * dm) (by omega) (by omega), ws, wd]
  generalize bases.getD op.toNat 0 = b at *
  by_cases h6 : op ≤ 6
  · have hm := hb7 (by omega)
    rw [if_neg (by omega), if_neg (by omega), if_neg (by simp; omega), if_neg (by omega), if_pos (by simp; omega), if_pos (by simp; omega)]
    rw [or_add 12 b ((8 * sm + sr) * 64) (by omega) (by omega) (by omega) (by omega) (by omega) (by decide), or_add 6 (b + (8 * sm + sr) * 64) (8 * dm + dr) (by omega) (by omega) (by omega) (by omega) (by omega) (by decide)]
    rw [if_pos h6, if_pos (by omega), if_neg (by omega), if_neg (by omega), if_neg (by omega), if_neg (by omega)]
    congr 1; omega
  by_cases h14 : op ≤ 14
  · have hm := hb15 (by omega)
    rw [if_neg (by omega), if_neg (by omega), if_neg (by simp; omega), if_neg (by omega), if_neg (by simp; omega), if_pos (by simp; omega)]
    rw [or_add 6 b (8 * dm + dr) (by omega) (by omega) (by omega) (by omega) (by omega) (by decide)]
    rw [if_neg h6, if_pos (by omega), if_neg (by omega), if_neg (by omega), if_neg (by omega), if_neg (by omega)]
    congr 1; omega
  by_cases h15 : op = 15
  · have hm := e15 h15
    rw [if_pos h15, if_neg (by simp; omega), if_pos (by simp; omega), w64 (x := n * 64) (by omega) (by omega)]
    rw [or_add 9 b (n * 64) (by omega) (by omega) (by omega) (by omega) (by omega) (by decide), or_add 6 (b + n * 64) (8 * dm + dr) (by omega) (by omega) (by omega) (by omega) (by omega) (by decide)]
    rw [if_neg h6, if_pos (by omega), if_pos h15]
    congr 1; omega
  rw [if_neg h15]
  by_cases h16 : op = 16
  · have hm := e16 h16
    rw [if_pos h16, if_neg (by simp; omega), if_neg (by simp; omega), or_add 3 b n (by omega) (by omega) (by omega) (by omega) (by omega) (by decide)]
    rw [if_neg h6, if_neg (by omega), if_neg h15, if_pos h16]
    congr 1; omega
  rw [if_neg h16]
  have hm := hb17 (by omega) (by omega)
  have hor := or_add 8 b (n % 256) (by omega) (by omega) (by omega) (by omega) (by omega) (by decide)
  by_cases h21 : op ≤ 21
  · rw [if_pos (by simp; omega), if_neg (by simp; omega), if_neg (by simp; omega), hor]
    rw [if_neg h6, if_neg (by omega), if_neg h15, if_neg h16, if_neg (by omega), if_pos (by omega)]
    congr 1; omega
  by_cases h23' : op = 23
  · rw [if_neg (by simp; omega), if_pos h23', if_neg (by simp; omega), if_neg (by simp; omega), hor]
    rw [if_neg h6, if_neg (by omega), if_neg h15, if_neg h16, if_pos h23']
    congr 1; omega
  · rw [if_neg (by simp; omega), if_neg h23', if_neg (by simp; omega), if_neg (by simp; omega)]
    rw [if_neg h6, if_neg (by omega), if_neg h15, if_neg h16, if_neg h23', if_neg (by omega)]
    congr 1; omega
theorem implEncode_ok (op sm sr sx dm dr dx n : Int) (k : Nat) (hk : 5 ≤ k) : impl_Encode.f k op sm sr sx dm dr dx n = some (encode op sm sr sx dm dr dx n) := by
  obtain ⟨k, rfl⟩ : ∃ m, k = m + 2 := ⟨k - 2, by omega⟩
  unfold impl_Encode.f encode
  rw [implInsOk_ok _ _ _ _ _ _ _ _ (k + 2) (by omega)]
  simp only [Option.bind_some]
  by_cases hi : insOk op sm sr sx dm dr dx n = true
  · obtain ⟨h1, h23, _⟩ := insOk_elim hi
    rw [if_pos hi, if_pos hi, implWord_ok _ _ _ _ _ _ _ _ hi (k + 2) (by omega)]
    simp only [Option.bind_some, impl_hasSrc.f, impl_hasDst.f, within_ok, implHasX_ok, impl_Encode.j0, impl_Encode.j1, tails]
    have e6 : (1 ≤ op ∧ op ≤ 6) ↔ op ≤ 6 := by omega
    have e15 : (1 ≤ op ∧ op ≤ 15) ↔ op ≤ 15 := by omega
    simp only [e6, e15]
    by_cases h6 : op ≤ 6 <;> by_cases h15 : op ≤ 15 <;> cases hasX sm sr <;> cases hasX dm dr <;> simp [h6, h15]
  · rw [if_neg hi, if_neg hi]
/-- Decode finds what Encode made, whatever stands behind. -/
theorem dec_encode (op sm sr sx dm dr dx n : Int) (hi : insOk op sm sr sx dm dr dx n = true) (t : List Int) :
    decAt (encode op sm sr sx dm dr dx n ++ t) 0 = (op, sm, sr, sx, dm, dr, dx, n, ((encode op sm sr sx dm dr dx n).length : Int), true) := by
  obtain ⟨h1, h23, hs, hd, z1, z2, _⟩ := insOk_elim hi
  have hsx : (decide (op ≤ 6) && hasX sm sr) = false → sx = 0 := by
    intro h
    by_cases h6 : op ≤ 6
    · have h' : hasX sm sr = false := by simpa [h6] using h
      have hi' := hi
      unfold insOk insB at hi'
      rw [if_pos (by omega)] at hi'
      simp only [Bool.and_eq_true] at hi'
      have := hi'.1.1
      unfold opdOk at this
      simp only [h', Bool.and_eq_true, Bool.false_or, Bool.or_false, decide_eq_true_eq, beq_iff_eq] at this
      exact this.2
    · exact (z1 (by omega)).2.2
  have hdx : (decide (op ≤ 15) && hasX dm dr) = false → dx = 0 := by
    intro h
    by_cases h6 : op ≤ 15
    · have h' : hasX dm dr = false := by simpa [h6] using h
      have hok : opdOk dm dr dx = true := by
        have hi' := hi
        unfold insOk insB at hi'
        split at hi'
        · simp only [Bool.and_eq_true] at hi'; exact hi'.1.2
        split at hi'
        · simp only [Bool.and_eq_true] at hi'; exact hi'.1.2
        split at hi'
        · simp only [Bool.and_eq_true] at hi'; exact hi'.1.2
        · omega
      unfold opdOk at hok
      simp only [h', Bool.and_eq_true, Bool.false_or, Bool.or_false, decide_eq_true_eq, beq_iff_eq] at hok
      exact hok.2
    · exact (z2 (by omega)).2.2
  obtain ⟨w0, w1, e1, e2, e3, e4, e5, e6⟩ := codeW_back op sm sr dm dr n |> fun f => codeW_back op sm sr sx dm dr dx n hi (codeW op sm sr dm dr n) rfl
  unfold encode
  rw [if_pos hi]
  generalize codeW op sm sr dm dr n = w at *
  have bsx : isW sx = true := by unfold isW; exact decide_eq_true (by omega)
  have bdx : isW dx = true := by unfold isW; exact decide_eq_true (by omega)
  have hw : isW w = true := by unfold isW; exact decide_eq_true (by omega)
  unfold decAt
  have g0 : (w :: tails op sm sr sx dm dr dx ++ t).getD (0 : Int).toNat 0 = w := rfl
  rw [g0, if_pos ⟨⟨by omega, by simp; omega⟩, hw⟩]
  unfold dec
  have g0' : (w :: tails op sm sr sx dm dr dx ++ t).getD (0 : Int).toNat 0 = w := rfl
  simp only [g0', e1, e2, e3, e4, e5, e6]
  rw [if_neg (by omega)]
  unfold tails
  generalize (decide (op ≤ 6) && hasX sm sr) = bs at *
  generalize (decide (op ≤ 15) && hasX dm dr) = bd at *
  cases bs <;> cases bd <;> simp_all
/-- without its last word nothing is found. -/
theorem dec_cut (op sm sr sx dm dr dx n : Int) (hi : insOk op sm sr sx dm dr dx n = true) :
    (decAt ((encode op sm sr sx dm dr dx n).take ((encode op sm sr sx dm dr dx n).length - 1)) 0).2.2.2.2.2.2.2.2.2 = false := by
  obtain ⟨h1, h23, _⟩ := insOk_elim hi
  obtain ⟨w0, w1, e1, e2, e3, e4, e5, e6⟩ := codeW_back op sm sr sx dm dr dx n hi (codeW op sm sr dm dr n) rfl
  unfold encode
  rw [if_pos hi]
  generalize codeW op sm sr dm dr n = w at *
  have hw : isW w = true := by unfold isW; exact decide_eq_true (by omega)
  unfold decAt
  by_cases ht : tails op sm sr sx dm dr dx = []
  · rw [ht]; simp
  obtain ⟨a, t, hat⟩ : ∃ a t, tails op sm sr sx dm dr dx = a :: t := by
    cases h : tails op sm sr sx dm dr dx with
    | nil => exact absurd h ht
    | cons a t => exact ⟨a, t, rfl⟩
  have g0 : ((w :: tails op sm sr sx dm dr dx).take ((w :: tails op sm sr sx dm dr dx).length - 1)).getD (0 : Int).toNat 0 = w := by rw [hat]; rfl
  rw [g0, if_pos ⟨⟨by omega, by rw [hat]; simp⟩, hw⟩]
  unfold dec
  simp only [g0, e1, e2, e3, e4, e5, e6]
  rw [if_neg (by omega)]
  clear g0 hat
  unfold tails at *
  generalize (decide (op ≤ 6) && hasX sm sr) = bs at *
  generalize (decide (op ≤ 15) && hasX dm dr) = bd at *
  cases bs <;> cases bd <;> simp_all
theorem specBase_ok (op : Int) (h0 : 0 ≤ op) (h1 : op ≤ 23) : spec_l4Base.f op = some (bases.getD op.toNat 0) := by
  unfold spec_l4Base.f
  simp only [Option.bind_some]
  rw [if_pos h0, if_pos (by simp; omega)]; rfl
theorem specHasX_ok (m r x : Int) : spec_HasX.f m r x = some (hasX m r) := by
  unfold spec_HasX.f hasX
  by_cases h6 : m = 6
  · simp [h6]
  by_cases h7 : m = 7
  · simp [h7]
  by_cases h : r = 7
  · by_cases h2 : m = 2
    · simp [h, h2]
    · have a6 : (m == 6) = false := by simpa using h6
      have a7 : (m == 7) = false := by simpa using h7
      have a2 : (m == 2) = false := by simpa using h2
      simp [h6, h7, h, h2, a6, a7, a2]
  simp [h6, h7, h]
theorem l1In_ok (a b c : Int) : spec_l1In.f a b c = some (decide (b ≤ a ∧ a ≤ c)) := by
  unfold spec_l1In.f
  by_cases h : a ≥ b
  · have h' : b ≤ a := h
    rw [if_pos h]; simp [h']
  · have h' : ¬ b ≤ a := h
    rw [if_neg h]; simp [h']
theorem specOpdOk_ok (m r x : Int) : spec_OpdOk.f m r x = some (opdOk m r x) := by
  unfold spec_OpdOk.f opdOk
  simp only [l1In_ok, specHasX_ok, Option.bind_some]
  by_cases h1 : 0 ≤ m ∧ m ≤ 7
  · by_cases h2 : 0 ≤ r ∧ r ≤ 7
    · by_cases h3 : 0 ≤ x ∧ x ≤ 65535
      · cases hasX m r <;> simp [h1, h2, h3]
      · have : ¬ (0 ≤ m ∧ m ≤ 7 ∧ 0 ≤ r ∧ r ≤ 7 ∧ 0 ≤ x ∧ x ≤ 65535) := by omega
        simp only [decide_eq_false this, Bool.false_and]; simp [h1, h2, h3]
    · have : ¬ (0 ≤ m ∧ m ≤ 7 ∧ 0 ≤ r ∧ r ≤ 7 ∧ 0 ≤ x ∧ x ≤ 65535) := by omega
      simp only [decide_eq_false this, Bool.false_and]; simp [h1, h2]
  · have : ¬ (0 ≤ m ∧ m ≤ 7 ∧ 0 ≤ r ∧ r ≤ 7 ∧ 0 ≤ x ∧ x ≤ 65535) := by omega
    simp only [decide_eq_false this, Bool.false_and]; simp [h1]
theorem l3Zero_ok (m r x : Int) : spec_l3Zero.f m r x = some (zr m r x) := rfl
set_option maxHeartbeats 4000000 in
theorem specInsOk_ok (op sm sr sx dm dr dx n : Int) (k : Nat) (hk : 2 ≤ k) : spec_InsOk.f k op sm sr sx dm dr dx n = some (insOk op sm sr sx dm dr dx n) := by
  obtain ⟨k, rfl⟩ : ∃ m, k = m + 1 := ⟨k - 1, by omega⟩
  unfold spec_InsOk.f insOk insB
  simp only [l1In_ok, specOpdOk_ok, l3Zero_ok, Option.bind_some, spec_InsOk.j0]
  generalize opdOk sm sr sx = a
  generalize opdOk dm dr dx = b
  generalize zr sm sr sx = c
  generalize zr dm dr dx = d
  cases a <;> cases b <;> cases c <;> cases d <;> simp only [if_true, Bool.false_eq_true, if_false, Bool.true_and, Bool.false_and, Bool.and_false, Bool.not_true, Bool.not_false, decide_eq_true_eq]
  all_goals repeat' split
  all_goals first | rfl | omega | (congr 1; rw [Bool.eq_iff_iff]; simp only [beq_iff_eq, decide_eq_true_eq, Bool.false_eq_true]; omega) | (simp; omega)
theorem mskS_ok (w : Int) (h0 : 0 ≤ w) (h1 : w ≤ 65535) : bits .and .i64 w 61440 = w - w % 4096 ∧ bits .and .i64 w 65472 = w - w % 64 ∧ bits .and .i64 w 65024 = w - w % 512 ∧ bits .and .i64 w 65528 = w - w % 8 ∧ bits .and .i64 w 65280 = w - w % 256 :=
  ⟨and_high w h0 (by omega) 12 (by decide), and_high w h0 (by omega) 6 (by decide), and_high w h0 (by omega) 9 (by decide), and_high w h0 (by omega) 3 (by decide), and_high w h0 (by omega) 8 (by decide)⟩
theorem specBases (i : Int) (h0 : 0 ≤ i) (h1 : i ≤ 23) (b : Int) (h : bases.getD i.toNat 0 = b) : spec_l4Base.f i = some b := h ▸ specBase_ok i h0 h1
set_option maxHeartbeats 4000000 in
theorem specOp2_ok (w : Int) (h0 : 0 ≤ w) (h1 : w ≤ 65535) (k : Nat) (hk : 8 ≤ k) : spec_l4Op.l2 k w 17 = some (
    if w - w % 256 = 256 then insW 17 w else if w - w % 256 = 512 then insW 18 w else if w - w % 256 = 768 then insW 19 w else if w - w % 256 = 1024 then insW 20 w else if w - w % 256 = 1280 then insW 21 w else (0, 0, 0, 0, 0, 0, 0, 0)) := by
  obtain ⟨k, rfl⟩ : ∃ m, k = m + 6 := ⟨k - 6, by omega⟩
  obtain ⟨e1, e2, e3, e4, e5⟩ := mskS_ok w h0 h1
  have w17 : wrap64 (17 + 1) = 18 := by simp [wrap64]
  have w18 : wrap64 (18 + 1) = 19 := by simp [wrap64]
  have w19 : wrap64 (19 + 1) = 20 := by simp [wrap64]
  have w20 : wrap64 (20 + 1) = 21 := by simp [wrap64]
  have w21 : wrap64 (21 + 1) = 22 := by simp [wrap64]
  have hw : wrap64 (w % 256 - 256) = w % 256 - 256 := w64 (by omega) (by omega)
  simp only [spec_l4Op.l2, specBases 17 (by decide) (by decide) 256 rfl, specBases 18 (by decide) (by decide) 512 rfl, specBases 19 (by decide) (by decide) 768 rfl, specBases 20 (by decide) (by decide) 1024 rfl, specBases 21 (by decide) (by decide) 1280 rfl, Option.bind_some, e5, and255, w17, w18, w19, w20, w21, hw]
  have n : ∀ op : Int, 17 ≤ op → op ≤ 21 → (if w % 256 > 127 then some (op, (0 : Int), (0 : Int), (0 : Int), (0 : Int), (0 : Int), (0 : Int), w % 256 - 256) else some (op, 0, 0, 0, 0, 0, 0, w % 256)) = some (insW op w) := by
    intro op h17 h21
    unfold insW smW srW dmW drW nW
    rw [if_neg (show ¬ op ≤ 6 by omega), if_neg (show ¬ op ≤ 6 by omega), if_neg (show ¬ op ≤ 15 by omega), if_neg (show ¬ op ≤ 15 by omega), if_neg (show ¬ op = 15 by omega), if_neg (show ¬ op = 16 by omega), if_neg (show ¬ op = 23 by omega), if_pos (show 17 ≤ op ∧ op ≤ 21 by omega)]
    split <;> rfl
  rw [n 17 (by decide) (by decide), n 18 (by decide) (by decide), n 19 (by decide) (by decide), n 20 (by decide) (by decide), n 21 (by decide) (by decide)]
  simp only [show ((17 : Int) ≤ 21) = True by simp, show ((18 : Int) ≤ 21) = True by simp, show ((19 : Int) ≤ 21) = True by simp, show ((20 : Int) ≤ 21) = True by simp, show ((21 : Int) ≤ 21) = True by simp, show ((22 : Int) ≤ 21) = False by simp, if_true, if_false]
  repeat' split
  all_goals first | rfl | omega
set_option maxHeartbeats 4000000 in
theorem specOp1_ok (w : Int) (h0 : 0 ≤ w) (h1 : w ≤ 65535) (k : Nat) (hk : 20 ≤ k) : spec_l4Op.l1 k w 7 = some (
    if w - w % 64 = 2560 then insW 7 w else if w - w % 64 = 2688 then insW 8 w else if w - w % 64 = 2752 then insW 9 w else if w - w % 64 = 2816 then insW 10 w else if w - w % 64 = 3008 then insW 11 w else if w - w % 64 = 3200 then insW 12 w else if w - w % 64 = 3264 then insW 13 w else if w - w % 64 = 64 then insW 14 w
    else if w - w % 512 = 2048 then insW 15 w else if w - w % 8 = 128 then insW 16 w else if w - w % 256 = 34816 then insW 23 w else 
    if w - w % 256 = 256 then insW 17 w else if w - w % 256 = 512 then insW 18 w else if w - w % 256 = 768 then insW 19 w else if w - w % 256 = 1024 then insW 20 w else if w - w % 256 = 1280 then insW 21 w else (0, 0, 0, 0, 0, 0, 0, 0)) := by
  obtain ⟨k, rfl⟩ : ∃ m, k = m + 9 := ⟨k - 9, by omega⟩
  obtain ⟨e1, e2, e3, e4, e5⟩ := mskS_ok w h0 h1
  have w7 : wrap64 (7 + 1) = 8 := by simp [wrap64]
  have w8 : wrap64 (8 + 1) = 9 := by simp [wrap64]
  have w9 : wrap64 (9 + 1) = 10 := by simp [wrap64]
  have w10 : wrap64 (10 + 1) = 11 := by simp [wrap64]
  have w11 : wrap64 (11 + 1) = 12 := by simp [wrap64]
  have w12 : wrap64 (12 + 1) = 13 := by simp [wrap64]
  have w13 : wrap64 (13 + 1) = 14 := by simp [wrap64]
  have w14 : wrap64 (14 + 1) = 15 := by simp [wrap64]
  simp only [spec_l4Op.l1, specOp2_ok w h0 h1 k (by omega), spec_l4Opd.f, specBases 7 (by decide) (by decide) 2560 rfl, specBases 8 (by decide) (by decide) 2688 rfl, specBases 9 (by decide) (by decide) 2752 rfl, specBases 10 (by decide) (by decide) 2816 rfl, specBases 11 (by decide) (by decide) 3008 rfl, specBases 12 (by decide) (by decide) 3200 rfl, specBases 13 (by decide) (by decide) 3264 rfl, specBases 14 (by decide) (by decide) 64 rfl, Option.bind_some, e2, e3, e4, e5, and7, and255, w7, w8, w9, w10, w11, w12, w13, w14]
  simp only [show ((7 : Int) ≤ 14) = True by simp, show ((8 : Int) ≤ 14) = True by simp, show ((9 : Int) ≤ 14) = True by simp, show ((10 : Int) ≤ 14) = True by simp, show ((11 : Int) ≤ 14) = True by simp, show ((12 : Int) ≤ 14) = True by simp, show ((13 : Int) ≤ 14) = True by simp, show ((14 : Int) ≤ 14) = True by simp, show ((15 : Int) ≤ 14) = False by simp, if_true, if_false]
  simp only [apply_ite some]
  rfl
set_option maxHeartbeats 4000000 in
theorem specOp_ok (w : Int) (h0 : 0 ≤ w) (h1 : w ≤ 65535) (k : Nat) (hk : 30 ≤ k) : spec_l4Op.f k w = some (if opW w = 0 then (0, 0, 0, 0, 0, 0, 0, 0) else insW (opW w) w) := by
  obtain ⟨k, rfl⟩ : ∃ m, k = m + 7 := ⟨k - 7, by omega⟩
  obtain ⟨e1, e2, e3, e4, e5⟩ := mskS_ok w h0 h1
  have w1 : wrap64 (1 + 1) = 2 := by simp [wrap64]
  have w2 : wrap64 (2 + 1) = 3 := by simp [wrap64]
  have w3 : wrap64 (3 + 1) = 4 := by simp [wrap64]
  have w4 : wrap64 (4 + 1) = 5 := by simp [wrap64]
  have w5 : wrap64 (5 + 1) = 6 := by simp [wrap64]
  have w6 : wrap64 (6 + 1) = 7 := by simp [wrap64]
  unfold spec_l4Op.f
  simp only [spec_l4Op.l0, specOp1_ok w h0 h1 k (by omega), spec_l4Opd.f, specBases 1 (by decide) (by decide) 4096 rfl, specBases 2 (by decide) (by decide) 8192 rfl, specBases 3 (by decide) (by decide) 16384 rfl, specBases 4 (by decide) (by decide) 20480 rfl, specBases 5 (by decide) (by decide) 24576 rfl, specBases 6 (by decide) (by decide) 57344 rfl, Option.bind_some, e1, and7, w1, w2, w3, w4, w5, w6]
  simp only [show ((1 : Int) ≤ 6) = True by simp, show ((2 : Int) ≤ 6) = True by simp, show ((3 : Int) ≤ 6) = True by simp, show ((4 : Int) ≤ 6) = True by simp, show ((5 : Int) ≤ 6) = True by simp, show ((6 : Int) ≤ 6) = True by simp, show ((7 : Int) ≤ 6) = False by simp, if_true, if_false]
  have d1 : w / 64 / 8 = w / 512 := by omega
  rw [d1, opW_expand]
  by_cases hz : w = 0
  · subst hz; rfl
  rw [if_neg hz]
  simp only [apply_ite some]
  by_cases c0 : w - w % 4096 = 4096
  · simp only [if_pos c0]; rfl
  simp only [if_neg c0]
  by_cases c1 : w - w % 4096 = 8192
  · simp only [if_pos c1]; rfl
  simp only [if_neg c1]
  by_cases c2 : w - w % 4096 = 16384
  · simp only [if_pos c2]; rfl
  simp only [if_neg c2]
  by_cases c3 : w - w % 4096 = 20480
  · simp only [if_pos c3]; rfl
  simp only [if_neg c3]
  by_cases c4 : w - w % 4096 = 24576
  · simp only [if_pos c4]; rfl
  simp only [if_neg c4]
  by_cases c5 : w - w % 4096 = 57344
  · simp only [if_pos c5]; rfl
  simp only [if_neg c5]
  by_cases c6 : w - w % 64 = 2560
  · simp only [if_pos c6]; rfl
  simp only [if_neg c6]
  by_cases c7 : w - w % 64 = 2688
  · simp only [if_pos c7]; rfl
  simp only [if_neg c7]
  by_cases c8 : w - w % 64 = 2752
  · simp only [if_pos c8]; rfl
  simp only [if_neg c8]
  by_cases c9 : w - w % 64 = 2816
  · simp only [if_pos c9]; rfl
  simp only [if_neg c9]
  by_cases c10 : w - w % 64 = 3008
  · simp only [if_pos c10]; rfl
  simp only [if_neg c10]
  by_cases c11 : w - w % 64 = 3200
  · simp only [if_pos c11]; rfl
  simp only [if_neg c11]
  by_cases c12 : w - w % 64 = 3264
  · simp only [if_pos c12]; rfl
  simp only [if_neg c12]
  by_cases c13 : w - w % 64 = 64
  · simp only [if_pos c13]; rfl
  simp only [if_neg c13]
  by_cases c14 : w - w % 512 = 2048
  · simp only [if_pos c14]; rfl
  simp only [if_neg c14]
  by_cases c15 : w - w % 8 = 128
  · simp only [if_pos c15]; rfl
  simp only [if_neg c15]
  have z : ¬ w - w % 1 = 0 := by omega
  by_cases c23 : w - w % 256 = 34816
  · have z1 : ¬ w - w % 256 = 256 := by omega
    have z2 : ¬ w - w % 256 = 512 := by omega
    have z3 : ¬ w - w % 256 = 768 := by omega
    have z4 : ¬ w - w % 256 = 1024 := by omega
    have z5 : ¬ w - w % 256 = 1280 := by omega
    simp only [if_pos c23, if_neg z, if_neg z1, if_neg z2, if_neg z3, if_neg z4, if_neg z5]; rfl
  simp only [if_neg c23, if_neg z]
  by_cases c17 : w - w % 256 = 256
  · simp only [if_pos c17]; rfl
  simp only [if_neg c17]
  by_cases c18 : w - w % 256 = 512
  · simp only [if_pos c18]; rfl
  simp only [if_neg c18]
  by_cases c19 : w - w % 256 = 768
  · simp only [if_pos c19]; rfl
  simp only [if_neg c19]
  by_cases c20 : w - w % 256 = 1024
  · simp only [if_pos c20]; rfl
  simp only [if_neg c20]
  by_cases c21 : w - w % 256 = 1280
  · simp only [if_pos c21]; rfl
  simp only [if_neg c21]
  rfl
theorem specD3 (k : Nat) (hk : 2 ≤ k) (l : List Int) (a x op : Int) (b : Bool) (sm sr sx dm dr dx n : Int) : spec_Decode.j3 (k + 1) l a x b op sm sr sx dm dr dx n =
    if b = true then (if x ≥ (l.length : Int) then some (0, 0, 0, 0, 0, 0, 0, 0, 0, false) else if 0 ≤ x then (if x < (l.length : Int) then (if insOk op sm sr sx dm dr (rd l x) n = true then some (op, sm, sr, sx, dm, dr, rd l x, n, wrap64 (wrap64 (x + 1) - a), true) else some (0, 0, 0, 0, 0, 0, 0, 0, 0, false)) else none) else none)
    else if insOk op sm sr sx dm dr dx n = true then some (op, sm, sr, sx, dm, dr, dx, n, wrap64 (x - a), true) else some (0, 0, 0, 0, 0, 0, 0, 0, 0, false) := by
  rw [spec_Decode.j3]
  simp only [specInsOk_ok _ _ _ _ _ _ _ _ k hk, Option.bind_some]
theorem specD2 (k : Nat) (l : List Int) (a x op : Int) (sm sr sx dm dr dx n : Int) : spec_Decode.j2 (k + 1) l a x op sm sr sx dm dr dx n = spec_Decode.j3 k l a x (decide (op ≤ 15) && hasX dm dr) op sm sr sx dm dr dx n := by
  rw [spec_Decode.j2]
  simp only [specHasX_ok, Option.bind_some]
  by_cases h : op ≤ 15 <;> simp [h]
set_option maxHeartbeats 1000000 in
theorem specDecode_ok (l : List Int) (hl : l.length ≤ 1048578) (a : Int) (k : Nat) (hk : 60 < k) : spec_Decode.f k l a = some (decAt l a) := by
  obtain ⟨k, rfl⟩ : ∃ m, k = m + 4 := ⟨k - 4, by omega⟩
  unfold spec_Decode.f decAt
  simp only [l1In_ok, Option.bind_some]
  rw [w64 (x := (l.length : Int) - 1) (by omega) (by omega)]
  by_cases h : 0 ≤ a ∧ a < l.length
  · obtain ⟨h0, h1⟩ := h
    obtain ⟨i, rfl⟩ := Int.eq_ofNat_of_zero_le h0
    have hi : i < l.length := by omega
    rw [if_pos (by simp; omega), if_pos h0, if_pos h1, spec_Decode.j0, Int.toNat_natCast]
    have hrd : rd l (i : Int) = l.getD i 0 := by simp [rd]
    rw [hrd, if_pos h0, if_pos h1]
    unfold dec
    generalize hwd : l.getD i 0 = w
    by_cases hw : 0 ≤ w ∧ w ≤ 65535
    · have hW : isW w = true := by simpa [isW] using hw
      rw [if_neg (by simp; omega), if_pos ⟨⟨h0, h1⟩, hW⟩, specOp_ok w hw.1 hw.2 (k + 3) (by omega)]
      have hb1 : i + 1 ≤ 1048600 := by omega
      have hb2 : i + 1 + 1 ≤ 1048600 := by omega
      have hb3 : i + 2 + 1 ≤ 1048600 := by omega
      have w1 : wrap64 ((i : Int) + 1) = ((i + 1 : Nat) : Int) := wnat i 1 hb1
      have w2 : wrap64 (((i + 1 : Nat) : Int) + 1) = ((i + 2 : Nat) : Int) := wnat (i + 1) 1 hb2
      have w3 : wrap64 (((i + 2 : Nat) : Int) + 1) = ((i + 3 : Nat) : Int) := wnat (i + 2) 1 hb3
      have s1 : wrap64 (((i + 1 : Nat) : Int) - i) = 1 := wdiff i 1 hb1
      have s2 : wrap64 (((i + 2 : Nat) : Int) - i) = 2 := wdiff i 2 hb2
      have s3 : wrap64 (((i + 3 : Nat) : Int) - i) = 3 := wdiff i 3 hb3
      have r1 : rd l ((i + 1 : Nat) : Int) = l.getD (i + 1) 0 := rfl
      have r2 : rd l ((i + 2 : Nat) : Int) = l.getD (i + 2) 0 := rfl
      have d2 := fun (x op sm sr sx dm dr dx n : Int) => specD2 (k + 1) l i x op sm sr sx dm dr dx n
      have d3 := fun (x op : Int) (b : Bool) (sm sr sx dm dr dx n : Int) => specD3 k (by omega) l i x op b sm sr sx dm dr dx n
      have hr : opW w = 0 ∨ (1 ≤ opW w ∧ opW w ≤ 23) := opFrom_range 23 w (Nat.le_refl 23)
      by_cases ho : opW w = 0
      · rw [if_pos ho, if_pos ho]
        simp only [Option.bind_some, specHasX_ok, spec_Decode.j1, d2, d3]
        simp [hasX, insOk, insB]
      rw [if_neg ho, if_neg ho]
      have hop : 1 ≤ opW w ∧ opW w ≤ 23 := hr.resolve_left ho
      clear hr
      generalize opW w = op at *
      have hI := fun (sx dx : Int) => insOk_W op w sx dx hop
      have hE := fun (sx dx : Int) (h : insOk op (smW op w) (srW op w) sx (dmW op w) (drW op w) dx (nW op w) = true) => insOk_elim h
      unfold insW
      simp only [Option.bind_some, specHasX_ok, spec_Decode.j1, d2, d3, w1, w2, w3, s1, s2, s3, r1, r2]
      clear d2 d3 w1 w2 w3 s1 s2 s3 r1 r2
      generalize smW op w = sm at *
      generalize srW op w = sr at *
      generalize dmW op w = dm at *
      generalize drW op w = dr at *
      generalize nW op w = n at *
      have e6 : ∀ {α : Type} (A B : α), (if op ≤ 6 then (if hasX sm sr = true then A else B) else B) = if (decide (op ≤ 6) && hasX sm sr) = true then A else B := by
        intro α A B; by_cases h : op ≤ 6 <;> simp [h]
      simp only [Bool.false_eq_true, if_false]
      rw [e6]
      generalize hhs : (decide (op ≤ 6) && hasX sm sr) = hs at *
      generalize hhd : (decide (op ≤ 15) && hasX dm dr) = hd at *
      have nW_ : ∀ x, isW x = true ↔ 0 ≤ x ∧ x ≤ 65535 := fun x => by simp [isW]
      have hz : isW 0 = true := by decide
      cases hs <;> cases hd <;> simp only [if_true, Bool.false_eq_true, if_false]
      · rw [if_pos (hI 0 0 hz hz (fun _ => rfl) (fun _ => rfl))]
      · by_cases h2 : i + 2 ≤ l.length
        · rw [if_neg (by omega), if_pos (by omega), if_pos (by omega)]
          by_cases hx : isW (l.getD (i + 1) 0) = true
          · rw [if_pos (hI 0 _ hz hx (fun _ => rfl) (fun h => by cases h)), if_pos ⟨h2, hx⟩]
          · rw [if_neg (fun h => hx ((nW_ _).2 (hE _ _ h).2.2.2.1.2.2.2.2)), if_neg (fun h => hx h.2)]
        · rw [if_pos (by omega), if_neg (fun h' => h2 h'.1)]
      · by_cases h2 : i + 2 ≤ l.length
        · rw [if_neg (by omega), if_pos (by omega), if_pos (by omega)]
          by_cases hx : isW (l.getD (i + 1) 0) = true
          · rw [if_pos (hI _ 0 hx hz (fun h => by cases h) (fun _ => rfl)), if_pos ⟨h2, hx⟩]
          · rw [if_neg (fun h => hx ((nW_ _).2 (hE _ _ h).2.2.1.2.2.2.2)), if_neg (fun h => hx h.2)]
        · rw [if_pos (by omega), if_neg (fun h' => h2 h'.1)]
      · by_cases h2 : i + 3 ≤ l.length
        · rw [if_neg (by omega), if_pos (by omega), if_pos (by omega), if_neg (by omega), if_pos (by omega), if_pos (by omega)]
          by_cases hx : isW (l.getD (i + 1) 0) = true
          · by_cases hy : isW (l.getD (i + 2) 0) = true
            · rw [if_pos (hI _ _ hx hy (fun h => by cases h) (fun h => by cases h)), if_pos ⟨h2, hx, hy⟩]
            · rw [if_neg (fun h => hy ((nW_ _).2 (hE _ _ h).2.2.2.1.2.2.2.2)), if_neg (fun h => hy h.2.2)]
          · rw [if_neg (fun h => hx ((nW_ _).2 (hE _ _ h).2.2.1.2.2.2.2)), if_neg (fun h => hx h.2.1)]
        · have hneg : ¬ (i + 3 ≤ l.length ∧ isW (l.getD (i + 1) 0) = true ∧ isW (l.getD (i + 2) 0) = true) := fun h' => h2 h'.1
          rw [if_neg hneg]
          by_cases h3 : i + 2 ≤ l.length
          · rw [if_neg (by omega), if_pos (by omega), if_pos (by omega), if_pos (by omega)]
          · rw [if_pos (by omega)]
    · have hW : ¬ isW w = true := by simpa [isW] using hw
      rw [if_pos (by simp; omega), if_neg (fun h' => hW h'.2)]
  · rw [if_neg (by simp; omega), if_neg (fun h' => h h'.1), spec_Decode.j0]
    rfl
theorem rd_in (l : List Int) (i : Int) (h0 : 0 ≤ i) (h1 : i < l.length) : rd l i ∈ l := by
  have hlt : i.toNat < l.length := by omega
  have : rd l i = l[i.toNat] := by simp [rd, List.getD_eq_getElem?_getD, hlt]
  rw [this]; exact List.getElem_mem hlt
theorem l1New_ok (l : List Int) (hl : l.length ≤ 1048576) (k : Nat) (hk : l.length < k) : ∃ h, spec_l1New.f k l = some (l, 0, h) := by
  unfold spec_l1New.f
  generalize wrap64 (766766 + (l.length : Int)) = h
  have H : ∀ (r : Nat) k (h : Int) (i : Nat), l.length - i = r → i ≤ l.length → r < k → ∃ h', spec_l1New.l0 k l h i = some (l, 0, h') := by
    intro r
    induction r with
    | zero =>
      intro k h i hr hi hk
      obtain ⟨k, rfl⟩ : ∃ m, k = m + 1 := ⟨k - 1, by omega⟩
      exact ⟨h, by simp only [spec_l1New.l0]; rw [if_neg (by omega)]⟩
    | succ r ih =>
      intro k h i hr hi hk
      obtain ⟨k, rfl⟩ : ∃ m, k = m + 1 := ⟨k - 1, by omega⟩
      simp only [spec_l1New.l0]
      rw [if_pos (by omega)]
      by_cases h4 : (i : Int) < 4000
      · rw [if_pos h4, if_pos (by omega), w64 (x := (i : Int) + 1) (by omega) (by omega)]
        exact ih k _ (i + 1) (by omega) (by omega) (by omega)
      · rw [if_neg h4]; exact ⟨h, rfl⟩
  exact H l.length k h 0 (by omega) (by omega) hk
theorem l1Byte_ok (l : List Int) (hl : l.length ≤ 1048576) (i : Int) (h0 : 0 ≤ i) (h1 : i ≤ l.length) (h : Int) :
    ∃ x i' h', spec_l1Byte.f l i h = some (x, i', h') ∧ 0 ≤ x ∧ x ≤ 255 ∧ 0 ≤ i' ∧ i' ≤ l.length := by
  unfold spec_l1Byte.f
  simp only [and255]
  by_cases hi : i < (l.length : Int)
  · rw [if_pos hi, if_pos h0, w64 (x := i + 1) (by omega) (by omega)]
    exact ⟨_, _, _, rfl, by omega, by omega, by omega, by omega⟩
  · rw [if_neg hi]
    exact ⟨_, _, _, rfl, by omega, by omega, by omega, by omega⟩
theorem l1Below_ok (l : List Int) (hl : l.length ≤ 1048576) (i : Int) (h0 : 0 ≤ i) (h1 : i ≤ l.length) (h : Int) (n : Int) :
    ∃ x i' h', spec_l1Below.f l i h n = some (x, i', h') ∧ 0 ≤ x ∧ (0 < n → x < n) ∧ (n ≤ 0 → x = 0) ∧ 0 ≤ i' ∧ i' ≤ l.length := by
  unfold spec_l1Below.f
  by_cases hn : n ≤ 0
  · rw [if_pos hn]; exact ⟨_, _, _, rfl, by omega, by omega, by omega, by omega, by omega⟩
  rw [if_neg hn]
  by_cases hn2 : n ≤ 256
  · rw [if_pos hn2]
    obtain ⟨x, i', h', e, x0, x1, i0, i1⟩ := l1Byte_ok l hl i h0 h1 h
    rw [e]; simp only [Option.bind_some]; rw [if_neg (by omega), Int.tmod_eq_emod_of_nonneg x0]
    exact ⟨_, _, _, rfl, Int.emod_nonneg _ (by omega), fun _ => Int.emod_lt_of_pos _ (by omega), by omega, i0, i1⟩
  · rw [if_neg hn2]
    obtain ⟨x, i', h', e, x0, x1, i0, i1⟩ := l1Byte_ok l hl i h0 h1 h
    rw [e]; simp only [Option.bind_some]
    obtain ⟨y, j', g', e, y0, y1, j0, j1⟩ := l1Byte_ok l hl i' i0 i1 h'
    rw [e]; simp only [Option.bind_some]
    obtain ⟨z, k', f', e, z0, z1, k0, k1⟩ := l1Byte_ok l hl j' j0 j1 g'
    rw [e]; simp only [Option.bind_some]
    rw [if_neg (by omega), w64 (x := x * 65536) (by omega) (by omega), w64 (x := y * 256) (by omega) (by omega), w64 (x := x * 65536 + y * 256) (by omega) (by omega), w64 (x := x * 65536 + y * 256 + z) (by omega) (by omega), Int.tmod_eq_emod_of_nonneg (by omega)]
    exact ⟨_, _, _, rfl, Int.emod_nonneg _ (by omega), fun _ => Int.emod_lt_of_pos _ (by omega), by omega, k0, k1⟩
theorem l1Int_ok (l : List Int) (hl : l.length ≤ 1048576) (i : Int) (h0 : 0 ≤ i) (h1 : i ≤ l.length) (h : Int) (xs : List Int) (hx : 0 < xs.length) :
    ∃ x i' h', spec_l1Int.f l i h xs = some (x, i', h') ∧ x ∈ xs ∧ 0 ≤ i' ∧ i' ≤ l.length := by
  unfold spec_l1Int.f
  obtain ⟨x, i', h', e, x0, x1, _, i0, i1⟩ := l1Below_ok l hl i h0 h1 h (xs.length : Int)
  rw [e]; simp only [Option.bind_some]
  have := x1 (by omega)
  rw [if_pos x0, if_pos this]
  exact ⟨_, _, _, rfl, rd_in xs x x0 this, i0, i1⟩
theorem l1Word_ok (l : List Int) (hl : l.length ≤ 1048576) (i : Int) (h0 : 0 ≤ i) (h1 : i ≤ l.length) (h : Int) :
    ∃ x i' h', spec_l1Word.f l i h = some (x, i', h') ∧ 0 ≤ x ∧ x ≤ 65535 ∧ 0 ≤ i' ∧ i' ≤ l.length := by
  unfold spec_l1Word.f
  obtain ⟨x, i', h', e, x0, x1, _, i0, i1⟩ := l1Below_ok l hl i h0 h1 h 65536
  rw [e]; simp only [Option.bind_some]
  have := x1 (by omega)
  obtain ⟨y, j, g, e, hy, j0, j1⟩ := l1Int_ok l hl i' i0 i1 h' [0, 1, 2, 3, 5, 8, 255, 32767, 32768, 65535, x] (by simp)
  rw [e]; simp only [Option.bind_some]
  refine ⟨_, _, _, rfl, ?_, ?_, j0, j1⟩ <;> (simp at hy; omega)
theorem l3Opd_ok (l : List Int) (hl : l.length ≤ 1048576) (i : Int) (h0 : 0 ≤ i) (h1 : i ≤ l.length) (h : Int) :
    ∃ m r x i' h', spec_l3Opd.f l i h = some (m, r, x, i', h') ∧ opdOk m r x = true ∧ 0 ≤ i' ∧ i' ≤ l.length := by
  unfold spec_l3Opd.f
  obtain ⟨m, i', h', e, hm, i0, i1⟩ := l1Int_ok l hl i h0 h1 h [0, 0, 1, 2, 3, 4, 5, 6, 7, 2] (by simp)
  rw [e]; simp only [Option.bind_some]
  obtain ⟨r, j, g, e, hr, j0, j1⟩ := l1Int_ok l hl i' i0 i1 h' [0, 1, 2, 5, 6, 7, 7] (by simp)
  rw [e]; simp only [Option.bind_some, specHasX_ok]
  have bm : 0 ≤ m ∧ m ≤ 7 := by simp at hm; omega
  have br : 0 ≤ r ∧ r ≤ 7 := by simp at hr; omega
  cases hx : hasX m r with
  | true =>
    rw [if_pos rfl]
    obtain ⟨x, k, f, e, x0, x1, k0, k1⟩ := l1Word_ok l hl j j0 j1 g
    rw [e]; simp only [Option.bind_some]
    refine ⟨_, _, _, _, _, rfl, ?_, k0, k1⟩
    unfold opdOk; rw [hx, decide_eq_true (by omega)]; rfl
  | false =>
    rw [if_neg (by simp)]
    refine ⟨_, _, _, _, _, rfl, ?_, j0, j1⟩
    unfold opdOk; rw [hx, decide_eq_true (by omega)]; rfl
theorem insOk_mk (op sm sr sx dm dr dx n : Int) (h1 : 1 ≤ op ∧ op ≤ 23) (hs : if op ≤ 6 then opdOk sm sr sx = true else sm = 0 ∧ sr = 0 ∧ sx = 0) (hd : if op ≤ 15 then opdOk dm dr dx = true else dm = 0 ∧ dr = 0 ∧ dx = 0)
    (hn : if op = 15 ∨ op = 16 then 0 ≤ n ∧ n ≤ 7 else if 17 ≤ op ∧ op ≤ 21 then -128 ≤ n ∧ n ≤ 127 else if op = 23 then 0 ≤ n ∧ n ≤ 255 else n = 0) : insOk op sm sr sx dm dr dx n = true := by
  unfold insOk insB
  by_cases h6 : op ≤ 6
  · rw [if_pos h6] at hs; rw [if_pos (by omega)] at hd; rw [if_neg (by omega), if_neg (by omega), if_neg (by omega)] at hn
    rw [if_pos (by omega), hs, hd]; simp [hn]
  rw [if_neg h6] at hs
  have zs : zr sm sr sx = true := zr_iff.2 hs
  rw [if_neg (by omega), zs]
  by_cases h14 : op ≤ 14
  · rw [if_pos (by omega)] at hd; rw [if_neg (by omega), if_neg (by omega), if_neg (by omega)] at hn
    rw [if_pos (by omega), hd]; simp [hn]
  rw [if_neg (by omega)]
  by_cases h15 : op = 15
  · rw [if_pos (by omega)] at hd; rw [if_pos (by omega)] at hn
    rw [if_pos h15, hd]; simp [hn]
  rw [if_neg (by omega)] at hd
  have zd : zr dm dr dx = true := zr_iff.2 hd
  rw [if_neg h15, zd]
  by_cases h16 : op = 16
  · rw [if_pos (by omega)] at hn; rw [if_pos h16]; simp [hn]
  rw [if_neg h16]
  rw [if_neg (by omega)] at hn
  by_cases h21 : op ≤ 21
  · rw [if_pos (by omega)] at hn; rw [if_pos (by omega)]; simp [hn]
  rw [if_neg (by omega)] at hn; rw [if_neg (by omega)]
  by_cases h23 : op = 23
  · rw [if_pos h23] at hn; rw [if_neg (by omega), if_pos h23]; simp [hn]
  · rw [if_neg h23] at hn; rw [if_pos (by omega)]; simp [hn]
theorem l3J2_ok (l : List Int) (hl : l.length ≤ 1048576) (i : Int) (h0 : 0 ≤ i) (h1 : i ≤ l.length) (h : Int) (op sm sr sx dm dr dx : Int) (ho : 1 ≤ op ∧ op ≤ 23) (hs : if op ≤ 6 then opdOk sm sr sx = true else sm = 0 ∧ sr = 0 ∧ sx = 0) (hd : if op ≤ 15 then opdOk dm dr dx = true else dm = 0 ∧ dr = 0 ∧ dx = 0) (k : Nat) (hk : 2 ≤ k) :
    ∃ n i' h', spec_l3Draw.j1 k l i h op sm sr sx dm dr dx 0 = some (op, sm, sr, sx, dm, dr, dx, n, i', h') ∧ insOk op sm sr sx dm dr dx n = true ∧ 0 ≤ i' ∧ i' ≤ l.length := by
  obtain ⟨k, rfl⟩ : ∃ m, k = m + 2 := ⟨k - 2, by omega⟩
  have e : spec_l3Draw.j1 (k + 2) l i h op sm sr sx dm dr dx 0 = spec_l3Draw.j2 (k + 1) (decide (op = 15 ∨ op = 16)) l i h op sm sr sx dm dr dx 0 := by
    rw [spec_l3Draw.j1]
    by_cases a : op = 15
    · rw [if_pos a]; simp [a]
    · rw [if_neg a]; congr 1; rw [Bool.eq_iff_iff]; simp [a]
  rw [e, spec_l3Draw.j2]
  by_cases a : op = 15 ∨ op = 16
  · rw [if_pos (decide_eq_true a)]
    obtain ⟨x, i', h', e, x0, x1, _, i0, i1⟩ := l1Below_ok l hl i h0 h1 h 8
    rw [e]; simp only [Option.bind_some]
    have := x1 (by omega)
    exact ⟨x, _, _, rfl, insOk_mk _ _ _ _ _ _ _ _ ho hs hd (by rw [if_pos a]; omega), i0, i1⟩
  rw [if_neg (by simpa using a)]
  simp only [l1In_ok, Option.bind_some]
  by_cases b : 17 ≤ op ∧ op ≤ 21
  · rw [if_pos (decide_eq_true b)]
    obtain ⟨x, i', h', e, hx, i0, i1⟩ := l1Int_ok l hl i h0 h1 h [(-128), 127, 0, (-1), 1, 2, (-3)] (by simp)
    rw [e]; simp only [Option.bind_some]
    have : -128 ≤ x ∧ x ≤ 127 := by simp at hx; omega
    exact ⟨x, _, _, rfl, insOk_mk _ _ _ _ _ _ _ _ ho hs hd (by rw [if_neg a, if_pos b]; exact this), i0, i1⟩
  rw [if_neg (by simpa using b)]
  by_cases c : op = 23
  · rw [if_pos c]
    obtain ⟨x, i', h', e, hx, i0, i1⟩ := l1Int_ok l hl i h0 h1 h [0, 1, 2, 255] (by simp)
    rw [e]; simp only [Option.bind_some]
    have : 0 ≤ x ∧ x ≤ 255 := by simp at hx; omega
    exact ⟨x, _, _, rfl, insOk_mk _ _ _ _ _ _ _ _ ho hs hd (by rw [if_neg a, if_neg b, if_pos c]; exact this), i0, i1⟩
  · rw [if_neg c]
    exact ⟨0, _, _, rfl, insOk_mk _ _ _ _ _ _ _ _ ho hs hd (by rw [if_neg a, if_neg b, if_neg c]), h0, h1⟩
theorem l3J0_ok (l : List Int) (hl : l.length ≤ 1048576) (i : Int) (h0 : 0 ≤ i) (h1 : i ≤ l.length) (h : Int) (op sm sr sx : Int) (ho : 1 ≤ op ∧ op ≤ 23) (hs : if op ≤ 6 then opdOk sm sr sx = true else sm = 0 ∧ sr = 0 ∧ sx = 0) (k : Nat) (hk : 3 ≤ k) :
    ∃ dm dr dx n i' h', spec_l3Draw.j0 k l i h op sm sr sx 0 0 0 0 = some (op, sm, sr, sx, dm, dr, dx, n, i', h') ∧ insOk op sm sr sx dm dr dx n = true ∧ 0 ≤ i' ∧ i' ≤ l.length := by
  obtain ⟨k, rfl⟩ : ∃ m, k = m + 1 := ⟨k - 1, by omega⟩
  rw [spec_l3Draw.j0]
  by_cases a : op ≤ 15
  · rw [if_pos a]
    obtain ⟨m, r, x, i', h', e, hok, i0, i1⟩ := l3Opd_ok l hl i h0 h1 h
    rw [e]; simp only [Option.bind_some]
    obtain ⟨n, i2, h2, e, hi, j0, j1⟩ := l3J2_ok l hl i' i0 i1 h' op sm sr sx m r x ho hs (by rw [if_pos a]; exact hok) k (by omega)
    exact ⟨m, r, x, n, i2, h2, e, hi, j0, j1⟩
  · rw [if_neg a]
    obtain ⟨n, i2, h2, e, hi, j0, j1⟩ := l3J2_ok l hl i h0 h1 h op sm sr sx 0 0 0 ho hs (by rw [if_neg a]; exact ⟨rfl, rfl, rfl⟩) k (by omega)
    exact ⟨0, 0, 0, n, i2, h2, e, hi, j0, j1⟩
theorem l3Draw_ok (l : List Int) (hl : l.length ≤ 1048576) (i : Int) (h0 : 0 ≤ i) (h1 : i ≤ l.length) (h : Int) (k : Nat) (hk : 3 ≤ k) :
    ∃ op sm sr sx dm dr dx n i' h', spec_l3Draw.f k l i h = some (op, sm, sr, sx, dm, dr, dx, n, i', h') ∧ insOk op sm sr sx dm dr dx n = true ∧ 0 ≤ i' ∧ i' ≤ l.length := by
  unfold spec_l3Draw.f
  obtain ⟨x, i', h', e, x0, x1, _, i0, i1⟩ := l1Below_ok l hl i h0 h1 h 23
  rw [e]; simp only [Option.bind_some]
  have := x1 (by omega)
  rw [w64 (x := 1 + x) (by omega) (by omega)]
  by_cases a : 1 + x ≤ 6
  · rw [if_pos a]
    obtain ⟨m, r, y, i2, h2, e, hok, j0, j1⟩ := l3Opd_ok l hl i' i0 i1 h'
    rw [e]; simp only [Option.bind_some]
    obtain ⟨dm, dr, dx, n, i3, h3, e, hi, k0, k1⟩ := l3J0_ok l hl i2 j0 j1 h2 (1 + x) m r y (by omega) (by rw [if_pos a]; exact hok) k hk
    exact ⟨_, _, _, _, _, _, _, _, _, _, e, hi, k0, k1⟩
  · rw [if_neg a]
    obtain ⟨dm, dr, dx, n, i3, h3, e, hi, k0, k1⟩ := l3J0_ok l hl i' i0 i1 h' (1 + x) 0 0 0 (by omega) (by rw [if_neg a]; exact ⟨rfl, rfl, rfl⟩) k hk
    exact ⟨_, _, _, _, _, _, _, _, _, _, e, hi, k0, k1⟩
theorem specSix_ok (m r x : Int) (h : 0 ≤ m ∧ m ≤ 7 ∧ 0 ≤ r ∧ r ≤ 7) : spec_l4Six.f m r x = some (m * 8 + r) := by
  unfold spec_l4Six.f
  rw [w64 (x := m * 8) (by omega) (by omega), w64 (by omega) (by omega)]
theorem bases_range (op : Int) : 0 ≤ bases.getD op.toNat 0 ∧ bases.getD op.toNat 0 ≤ 57344 := by
  have h : ∀ i, i < 24 → 0 ≤ bases.getD i 0 ∧ bases.getD i 0 ≤ 57344 := by decide
  rcases Nat.lt_or_ge op.toNat 24 with h1 | h1
  · exact h _ h1
  · have : bases.getD op.toNat 0 = 0 := by simp [bases, List.getD_eq_getElem?_getD]; rw [List.getElem?_eq_none (by simpa using h1)]; rfl
    omega
theorem specTail_ok (op sm sr sx dm dr dx n c : Int) (k : Nat) (hk : 2 ≤ k) : spec_Encode.j1 k c op sm sr sx dm dr dx n = some (c :: tails op sm sr sx dm dr dx) := by
  obtain ⟨k, rfl⟩ : ∃ m, k = m + 2 := ⟨k - 2, by omega⟩
  simp only [spec_Encode.j1, spec_Encode.j2, Option.bind_some, specHasX_ok, tails]
  by_cases h6 : op ≤ 6 <;> by_cases h15 : op ≤ 15 <;> cases hasX sm sr <;> cases hasX dm dr <;> simp [h6, h15]
set_option maxHeartbeats 4000000 in
theorem specEncode_ok (op sm sr sx dm dr dx n : Int) (k : Nat) (hk : 5 ≤ k) : spec_Encode.f k op sm sr sx dm dr dx n = some (encode op sm sr sx dm dr dx n) := by
  unfold spec_Encode.f encode
  rw [specInsOk_ok _ _ _ _ _ _ _ _ k (by omega)]
  simp only [Option.bind_some]
  by_cases hi : insOk op sm sr sx dm dr dx n = true
  · obtain ⟨h1, h23, hs, hd, _, _, hn⟩ := insOk_elim hi
    rw [if_pos hi, if_pos hi, specBase_ok op (by omega) h23]
    simp only [Option.bind_some]
    have hb := bases_range op
    unfold codeW
    generalize bases.getD op.toNat 0 = b at *
    by_cases h6 : op ≤ 6
    · rw [if_pos h6, specSix_ok sm sr sx (by omega), specSix_ok dm dr dx (by omega)]
      simp only [Option.bind_some]
      rw [specTail_ok _ _ _ _ _ _ _ _ _ k (by omega), w64 (x := (sm * 8 + sr) * 64) (by omega) (by omega), w64 (x := b + (sm * 8 + sr) * 64) (by omega) (by omega), w64 (by omega) (by omega), if_pos h6, if_pos (by omega), if_neg (by omega), if_neg (by omega), if_neg (by omega), if_neg (by omega)]
      simp
    rw [if_neg h6]
    by_cases h14 : op ≤ 14
    · rw [if_pos h14, specSix_ok dm dr dx (by omega)]
      simp only [Option.bind_some]
      rw [specTail_ok _ _ _ _ _ _ _ _ _ k (by omega), w64 (by omega) (by omega), if_neg h6, if_pos (by omega), if_neg (by omega), if_neg (by omega), if_neg (by omega), if_neg (by omega)]
      simp
    rw [if_neg h14]
    by_cases h15 : op = 15
    · rw [if_pos h15, specSix_ok dm dr dx (by omega)]
      simp only [Option.bind_some]
      rw [specTail_ok _ _ _ _ _ _ _ _ _ k (by omega), w64 (x := n * 64) (by omega) (by omega), w64 (x := b + n * 64) (by omega) (by omega), w64 (by omega) (by omega), if_neg h6, if_pos (by omega), if_pos h15]
      congr 2; omega
    rw [if_neg h15]
    obtain ⟨k, rfl⟩ : ∃ m, k = m + 1 := ⟨k - 1, by omega⟩
    by_cases h16 : op = 16
    · rw [if_pos h16]
      simp only [spec_Encode.j0, if_true]
      rw [specTail_ok _ _ _ _ _ _ _ _ _ k (by omega), w64 (by omega) (by omega), if_neg h6, if_neg (by omega), if_neg h15, if_pos h16]
      simp
    rw [if_neg h16]
    by_cases h23' : op = 23
    · simp only [spec_Encode.j0]
      rw [if_pos (by simpa using h23'), specTail_ok _ _ _ _ _ _ _ _ _ k (by omega), w64 (by omega) (by omega), if_neg h6, if_neg (by omega), if_neg h15, if_neg h16, if_pos h23']
      simp
    simp only [spec_Encode.j0, and255]
    rw [if_neg (by simpa using h23')]
    by_cases h21 : op ≤ 21
    · rw [if_pos h21, specTail_ok _ _ _ _ _ _ _ _ _ k (by omega), w64 (by omega) (by omega), if_neg h6, if_neg (by omega), if_neg h15, if_neg h16, if_neg h23', if_pos (by omega)]
      simp
    · rw [if_neg h21, specTail_ok _ _ _ _ _ _ _ _ _ k (by omega), if_neg h6, if_neg (by omega), if_neg h15, if_neg h16, if_neg h23', if_neg (by omega)]
      simp
  · rw [if_neg hi, if_neg hi]
theorem l1Once_ok (l : List Int) (hl : l.length ≤ 1048576) (i : Int) (h0 : 0 ≤ i) (h1 : i ≤ l.length) (h : Int) (n : Int) :
    ∃ b i' h', spec_l1Once.f l i h n = some (b, i', h') ∧ 0 ≤ i' ∧ i' ≤ l.length := by
  unfold spec_l1Once.f
  obtain ⟨x, i', h', e, x0, x1, _, i0, i1⟩ := l1Below_ok l hl i h0 h1 h n
  rw [e]; simp only [Option.bind_some]
  exact ⟨_, _, _, rfl, i0, i1⟩
theorem l4Words_loop (l : List Int) (hl : l.length ≤ 1048576) : ∀ (r k : Nat) (d : List Int) (i h : Int), d.length ≤ 1000 - 3 * r → r ≤ 300 → 0 ≤ i → i ≤ l.length → r + 5 < k →
    ∃ d' i' h', spec_l4Words.l0 k d (r : Int) l i h = some (d', i', h') ∧ d'.length ≤ 1000 ∧ 0 ≤ i' ∧ i' ≤ l.length := by
  intro r
  induction r with
  | zero =>
    intro k d i h hd hr h0 h1 hk
    obtain ⟨k, rfl⟩ : ∃ m, k = m + 1 := ⟨k - 1, by omega⟩
    rw [spec_l4Words.l0, if_neg (by omega)]
    exact ⟨d, i, h, rfl, by omega, h0, h1⟩
  | succ r ih =>
    intro k d i h hd hr h0 h1 hk
    obtain ⟨k, rfl⟩ : ∃ m, k = m + 1 := ⟨k - 1, by omega⟩
    have hw : wrap64 (((r + 1 : Nat) : Int) - 1) = (r : Int) := by rw [w64 (by omega) (by omega)]; omega
    rw [spec_l4Words.l0, if_pos (by omega), hw]
    obtain ⟨b, i', h', e, i0, i1⟩ := l1Once_ok l hl i h0 h1 h 8
    rw [e]; simp only [Option.bind_some]
    cases b with
    | true =>
      obtain ⟨x, j, g, e, x0, x1, j0, j1⟩ := l1Word_ok l hl i' i0 i1 h'
      rw [if_pos rfl, e]; simp only [Option.bind_some]
      rw [if_pos (by omega)]
      exact ih k (d ++ [x]) j g (by simp; omega) (by omega) j0 j1 (by omega)
    | false =>
      obtain ⟨op, sm, sr, sx, dm, dr, dx, n, j, g, e, hi, j0, j1⟩ := l3Draw_ok l hl i' i0 i1 h' k (by omega)
      rw [if_neg (by simp), e]; simp only [Option.bind_some]
      rw [specEncode_ok _ _ _ _ _ _ _ _ k (by omega)]; simp only [Option.bind_some]
      have hel := encode_length op sm sr sx dm dr dx n
      rw [if_pos (by omega)]
      exact ih k (d ++ encode op sm sr sx dm dr dx n) j g (by simp; omega) (by omega) j0 j1 (by omega)
theorem codeW_W (w op : Int) (h0 : 0 ≤ w) (h1 : w ≤ 65535) (ho : 1 ≤ op ∧ op ≤ 23) (hb : w - w % Msk op = bases.getD op.toNat 0) : codeW op (smW op w) (srW op w) (dmW op w) (drW op w) (nW op w) = w := by
  unfold codeW smW srW dmW drW nW
  rw [← hb]
  have M : Msk op = if op ≤ 6 then 4096 else if op = 15 then 512 else if op ≤ 15 then 64 else if op = 16 then 8 else if op ≤ 21 then 256 else if op = 23 then 256 else 1 := rfl
  by_cases g6 : op ≤ 6
  · have m : Msk op = 4096 := by rw [M, if_pos g6]
    rw [m]
    simp only [if_pos g6, if_pos (show op ≤ 15 by omega), if_neg (show ¬ op = 15 by omega), if_neg (show ¬ op = 16 by omega), if_neg (show ¬ op = 23 by omega), if_neg (show ¬ (17 ≤ op ∧ op ≤ 21) by omega)]
    omega
  by_cases g15 : op = 15
  · have m : Msk op = 512 := by rw [M, if_neg g6, if_pos g15]
    rw [m]
    simp only [if_neg g6, if_pos (show op ≤ 15 by omega), if_pos g15]
    omega
  by_cases g14 : op ≤ 15
  · have m : Msk op = 64 := by rw [M, if_neg g6, if_neg g15, if_pos g14]
    rw [m]
    simp only [if_neg g6, if_neg g15, if_pos g14, if_neg (show ¬ op = 16 by omega), if_neg (show ¬ op = 23 by omega), if_neg (show ¬ (17 ≤ op ∧ op ≤ 21) by omega)]
    omega
  by_cases g16 : op = 16
  · have m : Msk op = 8 := by rw [M, if_neg g6, if_neg g15, if_neg g14, if_pos g16]
    rw [m]
    simp only [if_neg g6, if_neg g15, if_neg g14, if_pos g16]
    omega
  by_cases g21 : op ≤ 21
  · have m : Msk op = 256 := by rw [M, if_neg g6, if_neg g15, if_neg g14, if_neg g16, if_pos g21]
    rw [m]
    simp only [if_neg g6, if_neg g15, if_neg g14, if_neg g16, if_neg (show ¬ op = 23 by omega), if_pos (show 17 ≤ op ∧ op ≤ 21 by omega)]
    split <;> omega
  by_cases g23 : op = 23
  · have m : Msk op = 256 := by rw [M, if_neg g6, if_neg g15, if_neg g14, if_neg g16, if_neg g21, if_pos g23]
    rw [m]
    simp only [if_neg g6, if_neg g15, if_neg g14, if_neg g16, if_pos g23]
    omega
  · have m : Msk op = 1 := by rw [M, if_neg g6, if_neg g15, if_neg g14, if_neg g16, if_neg g21, if_neg g23]
    rw [m]
    simp only [if_neg g6, if_neg g15, if_neg g14, if_neg g16, if_neg g23, if_neg (show ¬ (17 ≤ op ∧ op ≤ 21) by omega)]
    omega
/-- how many words an instruction has. -/
def cntB (op sm sr dm dr : Int) : Int := 1 + (if (decide (op ≤ 6) && hasX sm sr) = true then 1 else 0) + (if (decide (op ≤ 15) && hasX dm dr) = true then 1 else 0)
theorem encode_W (w op sx dx : Int) (h0 : isW w = true) (hz : op ≠ 0) (e : opW w = op) (hs : isW sx = true) (hd : isW dx = true) (h1 : (decide (op ≤ 6) && hasX (smW op w) (srW op w)) = false → sx = 0) (h2 : (decide (op ≤ 15) && hasX (dmW op w) (drW op w)) = false → dx = 0) :
    (1 ≤ op ∧ op ≤ 23) ∧ insOk op (smW op w) (srW op w) sx (dmW op w) (drW op w) dx (nW op w) = true ∧ encode op (smW op w) (srW op w) sx (dmW op w) (drW op w) dx (nW op w) = w :: tails op (smW op w) (srW op w) sx (dmW op w) (drW op w) dx := by
  have ho : 1 ≤ op ∧ op ≤ 23 := by
    have := opFrom_range 23 w (by omega)
    have e2 : opFrom 23 w = op := e
    rw [e2] at this
    rcases this with q | q
    · exact absurd q hz
    · exact q
  have hb : w - w % Msk op = bases.getD op.toNat 0 := by
    have := opFrom_base 23 w (by omega) (by show opW w ≠ 0; rw [e]; exact hz)
    have e2 : opFrom 23 w = op := e
    rw [e2] at this
    exact this
  have hi := insOk_W op w sx dx ho hs hd h1 h2
  simp only [isW, decide_eq_true_eq] at h0
  refine ⟨ho, hi, ?_⟩
  unfold encode
  rw [if_pos hi, codeW_W w op h0.1 h0.2 ho hb]
theorem dec_back (l : List Int) (a : Nat) (ha : a < l.length) (hw : isW (l.getD a 0) = true) (op sm sr sx dm dr dx n c : Int) (h : dec l a = (op, sm, sr, sx, dm, dr, dx, n, c, true)) :
    ∃ m : Nat, c = m ∧ a + m ≤ l.length ∧ (1 ≤ op ∧ op ≤ 23) ∧ insOk op sm sr sx dm dr dx n = true ∧ encode op sm sr sx dm dr dx n = (l.take (a + m)).drop a ∧ cntB op sm sr dm dr = c := by
  unfold dec at h
  simp only [] at h
  obtain ⟨w, hwe⟩ : ∃ w, l.getD a 0 = w := ⟨_, rfl⟩
  rw [hwe] at h hw
  obtain ⟨p, hpe⟩ : ∃ p, opW w = p := ⟨_, rfl⟩
  rw [hpe] at h
  by_cases z : p = 0
  · rw [if_pos z] at h; simp at h
  rw [if_neg z] at h
  have w0 : isW 0 = true := by decide
  cases hs : (decide (p ≤ 6) && hasX (smW p w) (srW p w)) with
  | false =>
    cases hd : (decide (p ≤ 15) && hasX (dmW p w) (drW p w)) with
    | false =>
      rw [hs, hd] at h
      simp only [Prod.mk.injEq] at h
      obtain ⟨rfl, rfl, rfl, rfl, rfl, rfl, rfl, rfl, rfl, _⟩ := h
      obtain ⟨q1, q2, q3⟩ := encode_W w p 0 0 hw z hpe w0 w0 (fun _ => rfl) (fun _ => rfl)
      refine ⟨1, rfl, by omega, q1, q2, ?_, ?_⟩
      · rw [q3, cut1 l a (by omega), hwe]; unfold tails; rw [hs, hd]; rfl
      · unfold cntB; rw [hs, hd]; rfl
    | true =>
      rw [hs, hd] at h
      simp only [] at h
      by_cases g : a + 2 ≤ l.length ∧ isW (l.getD (a + 1) 0) = true
      · rw [if_pos g] at h
        simp only [Prod.mk.injEq] at h
        obtain ⟨rfl, rfl, rfl, rfl, rfl, rfl, rfl, rfl, rfl, _⟩ := h
        obtain ⟨q1, q2, q3⟩ := encode_W w p 0 (l.getD (a + 1) 0) hw z hpe w0 g.2 (fun _ => rfl) (fun q => by rw [hd] at q; cases q)
        refine ⟨2, rfl, g.1, q1, q2, ?_, ?_⟩
        · rw [q3, cut2 l a g.1, hwe]; unfold tails; rw [hs, hd]; rfl
        · unfold cntB; rw [hs, hd]; rfl
      · rw [if_neg g] at h; simp at h
  | true =>
    cases hd : (decide (p ≤ 15) && hasX (dmW p w) (drW p w)) with
    | false =>
      rw [hs, hd] at h
      simp only [] at h
      by_cases g : a + 2 ≤ l.length ∧ isW (l.getD (a + 1) 0) = true
      · rw [if_pos g] at h
        simp only [Prod.mk.injEq] at h
        obtain ⟨rfl, rfl, rfl, rfl, rfl, rfl, rfl, rfl, rfl, _⟩ := h
        obtain ⟨q1, q2, q3⟩ := encode_W w p (l.getD (a + 1) 0) 0 hw z hpe g.2 w0 (fun q => by rw [hs] at q; cases q) (fun _ => rfl)
        refine ⟨2, rfl, g.1, q1, q2, ?_, ?_⟩
        · rw [q3, cut2 l a g.1, hwe]; unfold tails; rw [hs, hd]; rfl
        · unfold cntB; rw [hs, hd]; rfl
      · rw [if_neg g] at h; simp at h
    | true =>
      rw [hs, hd] at h
      simp only [] at h
      by_cases g : a + 3 ≤ l.length ∧ isW (l.getD (a + 1) 0) = true ∧ isW (l.getD (a + 2) 0) = true
      · rw [if_pos g] at h
        simp only [Prod.mk.injEq] at h
        obtain ⟨rfl, rfl, rfl, rfl, rfl, rfl, rfl, rfl, rfl, _⟩ := h
        obtain ⟨q1, q2, q3⟩ := encode_W w p (l.getD (a + 1) 0) (l.getD (a + 2) 0) hw z hpe g.2.1 g.2.2 (fun q => by rw [hs] at q; cases q) (fun q => by rw [hd] at q; cases q)
        refine ⟨3, rfl, g.1, q1, q2, ?_, ?_⟩
        · rw [q3, cut3 l a g.1, hwe]; unfold tails; rw [hs, hd]; rfl
        · unfold cntB; rw [hs, hd]; rfl
      · rw [if_neg g] at h; simp at h
theorem decAt_back (l : List Int) (a : Int) (op sm sr sx dm dr dx n c : Int) (h : decAt l a = (op, sm, sr, sx, dm, dr, dx, n, c, true)) :
    ∃ m : Nat, 0 ≤ a ∧ c = m ∧ a.toNat + m ≤ l.length ∧ (1 ≤ op ∧ op ≤ 23) ∧ insOk op sm sr sx dm dr dx n = true ∧ encode op sm sr sx dm dr dx n = (l.take (a.toNat + m)).drop a.toNat ∧ cntB op sm sr dm dr = c := by
  unfold decAt at h
  by_cases g : (0 ≤ a ∧ a < l.length) ∧ isW (l.getD a.toNat 0) = true
  · rw [if_pos g] at h
    obtain ⟨m, h1, h2, h3⟩ := dec_back l a.toNat (by omega) g.2 op sm sr sx dm dr dx n c h
    exact ⟨m, g.1.1, h1, h2, h3⟩
  · rw [if_neg g] at h; simp at h
theorem drawIns_ok (l : List Int) (hl : l.length ≤ 1048576) (k : Nat) (hk : 1048576 < k) : ∃ op sm sr sx dm dr dx n, spec_DrawEncode.f k l = some (op, sm, sr, sx, dm, dr, dx, n) := by
  unfold spec_DrawEncode.f spec_l3Any.f
  obtain ⟨h, e⟩ := l1New_ok l hl k (by omega)
  rw [e]; simp only [Option.bind_some]
  obtain ⟨op, sm, sr, sx, dm, dr, dx, n, i1, h1, e, _, a0, a1⟩ := l3Draw_ok l hl 0 (by omega) (by omega) h k (by omega)
  rw [e]; simp only [Option.bind_some]
  obtain ⟨x, i2, h2, e, _, _, _, b0, b1⟩ := l1Below_ok l hl i1 a0 a1 h1 12
  rw [e]; simp only [Option.bind_some]
  by_cases k0 : x = 0
  · obtain ⟨y, i3, h3, e, _⟩ := l1Int_ok l hl i2 b0 b1 h2 [0, 24, 1, 14, 22] (by decide)
    rw [if_pos k0, e]; exact ⟨_, _, _, _, _, _, _, _, rfl⟩
  rw [if_neg k0]
  by_cases k1 : x = 1
  · obtain ⟨y, i3, h3, e, _⟩ := l1Int_ok l hl i2 b0 b1 h2 [(-129), 128, 256, (-1), 8, 0] (by decide)
    rw [if_pos k1, e]; exact ⟨_, _, _, _, _, _, _, _, rfl⟩
  rw [if_neg k1]
  by_cases k2 : x = 2
  · obtain ⟨y, i3, h3, e, _, c0, c1⟩ := l1Int_ok l hl i2 b0 b1 h2 [(-1), 0, 6, 8] (by decide)
    rw [if_pos k2, e]; simp only [Option.bind_some]
    obtain ⟨y2, i4, h4, e, _, d0, d1⟩ := l1Int_ok l hl i3 c0 c1 h3 [(-1), 7, 8] (by decide)
    rw [e]; simp only [Option.bind_some]
    obtain ⟨y3, i5, h5, e, _⟩ := l1Int_ok l hl i4 d0 d1 h4 [(-1), 0, 5, 65536] (by decide)
    rw [e]; exact ⟨_, _, _, _, _, _, _, _, rfl⟩
  rw [if_neg k2]
  by_cases k3 : x = 3
  · obtain ⟨y, i3, h3, e, _⟩ := l1Int_ok l hl i2 b0 b1 h2 [(-1), 1, 65536] (by decide)
    rw [if_pos k3, e]; exact ⟨_, _, _, _, _, _, _, _, rfl⟩
  · rw [if_neg k3]; exact ⟨_, _, _, _, _, _, _, _, rfl⟩
theorem drawRow_ok (l : List Int) (hl : l.length ≤ 1048576) (k : Nat) (hk : 1048576 < k) : ∃ d i, spec_DrawDecode.f k l = some (d, i) ∧ d.length ≤ 1001 := by
  unfold spec_DrawDecode.f spec_l4Words.f
  obtain ⟨h, e⟩ := l1New_ok l hl k (by omega)
  rw [e]; simp only [Option.bind_some]
  obtain ⟨x, i1, h1, e, x0, x1, _, a0, a1⟩ := l1Below_ok l hl 0 (by omega) (by omega) h 4
  have x1 := x1 (by omega)
  rw [e]; simp only [Option.bind_some]
  obtain ⟨m, rfl⟩ := Int.eq_ofNat_of_zero_le x0
  obtain ⟨d, i2, h2, e, hd, b0, b1⟩ := l4Words_loop l hl m k [] i1 h1 (by rw [List.length_nil]; omega) (by omega) a0 a1 (by omega)
  rw [e]; simp only [Option.bind_some]
  obtain ⟨y, i3, h3, e, _, _, _, c0, c1⟩ := l1Below_ok l hl i2 b0 b1 h2 10
  rw [e]; simp only [Option.bind_some]
  by_cases k0 : y = 0
  · obtain ⟨z, i4, h4, e, _, d0, d1⟩ := l1Int_ok l hl i3 c0 c1 h3 [(-1), 65536] (by decide)
    rw [if_pos k0, e]; simp only [Option.bind_some]
    rw [if_pos (by omega)]
    obtain ⟨z2, i5, h5, e, _⟩ := l1Int_ok l hl i4 d0 d1 h4 [0, 0, 0, 1, ((d ++ [z]).length : Int), (-1)] (by simp)
    rw [e]; exact ⟨_, _, rfl, by rw [List.length_append, List.length_singleton]; omega⟩
  rw [if_neg k0]
  have plain : ∀ q : List Int, q.length ≤ 1001 → ∃ d i, ((spec_l1Int.f l i3 h3 (([0, 0, 0, 1, (q.length : Int), (-1)] : List Int))).bind fun bt503 => (some (q, bt503.1))) = some (d, i) ∧ d.length ≤ 1001 := by
    intro q hq
    obtain ⟨z, i4, h4, e, _⟩ := l1Int_ok l hl i3 c0 c1 h3 [0, 0, 0, 1, (q.length : Int), (-1)] (by simp)
    rw [e]; exact ⟨_, _, rfl, hq⟩
  by_cases k1 : y = 1
  · rw [if_pos k1]
    by_cases g : (d.length : Int) > 0
    · have w : wrap64 ((d.length : Int) - 1) = ((d.length - 1 : Nat) : Int) := by rw [w64 (by omega) (by omega)]; omega
      rw [if_pos g, w, if_pos (by clear w; omega), if_pos (by clear w; omega), Int.toNat_natCast]
      exact plain (d.take (d.length - 1)) (by rw [List.length_take]; omega)
    · rw [if_neg g]; exact plain d (by omega)
  · rw [if_neg k1]; exact plain d (by omega)
theorem cnt_len (op sm sr sx dm dr dx n : Int) (hi : insOk op sm sr sx dm dr dx n = true) : ((encode op sm sr sx dm dr dx n).length : Int) = cntB op sm sr dm dr := by
  unfold encode cntB tails
  rw [if_pos hi]
  cases (decide (op ≤ 6) && hasX sm sr) <;> cases (decide (op ≤ 15) && hasX dm dr) <;> simp
theorem codesEnd_ok (op sm sr sx dm dr dx n : Int) (k : Nat) (hk : 100 < k) : laws_FnCodes.j0 k (encode op sm sr sx dm dr dx n) false op sm sr sx dm dr dx n = some true := by
  obtain ⟨k, rfl⟩ : ∃ m, k = m + 1 := ⟨k - 1, by omega⟩
  rw [laws_FnCodes.j0.eq_def]; simp only []
  rw [if_neg (by decide), specInsOk_ok op sm sr sx dm dr dx n k (by omega), Option.bind_some]
  have hel := encode_length op sm sr sx dm dr dx n
  by_cases hi : insOk op sm sr sx dm dr dx n = true
  · have hd := dec_encode op sm sr sx dm dr dx n hi []
    rw [List.append_nil] at hd
    have ho := insOk_elim hi
    have hc := cnt_len op sm sr sx dm dr dx n hi
    unfold cntB at hc
    rw [if_pos hi, implDecode_ok _ (by omega) 0 k (by omega), hd, Option.bind_some, if_pos rfl, if_pos (by simp), if_pos rfl, implWords_ok op sm sr sx dm dr dx n ho.1 k (by omega), Option.bind_some, if_pos hc, implInsOk_ok op sm sr sx dm dr dx n k (by omega), Option.bind_some, hi]
  · have he : encode op sm sr sx dm dr dx n = [] := by unfold encode; exact if_neg hi
    rw [if_neg hi, he, if_pos (show ((([] : List Int).length : Nat) : Int) = 0 from rfl), implInsOk_ok op sm sr sx dm dr dx n k (by omega), Option.bind_some]
    have : insOk op sm sr sx dm dr dx n = false := by simpa using hi
    rw [this]; rfl
theorem sameInts_k (a : List Int) (h : a.length ≤ 1000000) (k : Nat) (hk : a.length < k) : laws_sameInts.f k a a = some true := by
  simp only [laws_sameInts.f]
  rw [if_pos trivial]
  have := eq_loop 0 a a rfl (by omega) (fun k x => laws_sameInts.l0 k a a x) (fun _ _ => rfl) k hk
  rw [this]; simp
theorem FnCodes : laws_FnCodes.Pure := by
  intro l0 _ hl hw
  refine ⟨1048700, ?_⟩
  unfold laws_FnCodes.f laws_big.f
  simp only [Option.bind_some]
  by_cases hb : (l0.length : Int) > 1048576
  · rw [if_pos (by simpa using hb)]
  rw [if_neg (by simpa using hb)]
  obtain ⟨op, sm, sr, sx, dm, dr, dx, n, e⟩ := drawIns_ok l0 (by omega) 1048700 (by omega)
  rw [e]; simp only [Option.bind_some]
  rw [implEncode_ok op sm sr sx dm dr dx n 1048700 (by omega)]; simp only [Option.bind_some]
  obtain ⟨w, i, e2, hwl⟩ := drawRow_ok l0 (by omega) 1048700 (by omega)
  rw [e2]; simp only [Option.bind_some]
  rw [implDecode_ok w (by omega) i 1048700 (by omega), specDecode_ok w (by omega) i 1048700 (by omega)]
  simp only [Option.bind_some]
  rw [if_neg (by simp)]
  obtain ⟨⟨op', sm', sr', sx', dm', dr', dx', n', c', b'⟩, hd⟩ : ∃ q, decAt w i = q := ⟨_, rfl⟩
  rw [hd]
  cases b' with
  | false =>
    rw [if_neg (by simp)]
    exact codesEnd_ok op sm sr sx dm dr dx n 1048700 (by omega)
  | true =>
    obtain ⟨m, i0, rfl, hm, ho, hi, he, hc⟩ := decAt_back w i op' sm' sr' sx' dm' dr' dx' n' c' hd
    have hc2 : (1 : Int) + (if (decide (op' ≤ 6) && hasX sm' sr') = true then 1 else 0) + (if (decide (op' ≤ 15) && hasX dm' dr') = true then 1 else 0) = m := hc
    have wm : wrap64 (i + (m : Int)) = i + m := w64 (by omega) (by omega)
    have tm : (i + (m : Int)).toNat = i.toNat + m := by omega
    have hel := encode_length op' sm' sr' sx' dm' dr' dx' n'
    simp only [if_true]
    rw [implInsOk_ok op' sm' sr' sx' dm' dr' dx' n' 1048700 (by omega), Option.bind_some, if_pos hi, implWords_ok op' sm' sr' sx' dm' dr' dx' n' ho.1 1048700 (by omega), Option.bind_some, if_pos hc2, implEncode_ok op' sm' sr' sx' dm' dr' dx' n' 1048700 (by omega), Option.bind_some, wm, if_pos i0, if_pos (by clear wm tm; omega), if_pos (by clear wm tm; omega), tm, ← he, sameInts_k _ (by omega) 1048700 (by omega), Option.bind_some]
    exact codesEnd_ok op sm sr sx dm dr dx n 1048700 (by omega)

end Go.Proofs.Ytajkjkdfcegdpaa.Pure
