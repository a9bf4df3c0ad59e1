/- Proved: what the plain functions of the law FnStored tell at all bytes; no further conditions. -/
import Derived.Test.YtiagbfilffbljaaPFnStoredx1
import Derived.Test.YtiagbfilffbljaaPFnStoredx2
import Derived.Test.YtiagbfilffbljaaPFnStoredx3
import Derived.Test.YtiagbfilffbljaaPFnStoredx4
import Derived.Test.YtiagbfilffbljaaPFnStoredx5
import Derived.Test.YtiagbfilffbljaaPFnStoredx6
import Derived.Test.YtiagbfilffbljaaPFnStoredx7
import Derived.Test.YtiagbfilffbljaaPFnStoredx8
import Derived.Test.YtiagbfilffbljaaPFnStoredx9
import Derived.Test.YtiagbfilffbljaaPFnStoredx10
import Derived.Test.YtiagbfilffbljaaPFnStoredx11
import Derived.Test.YtiagbfilffbljaaPFnStoredx12
import Derived.Test.YtiagbfilffbljaaPFnStoredx13
import Derived.Test.YtiagbfilffbljaaPFnStoredx14
import Derived.Test.YtiagbfilffbljaaVCFnStored
namespace Go.Proofs.Ytiagbfilffbljaa.Pure
open Go.RowKit Go.Proofs.Ytiagbfilffbljaa.PFnStored Go.Proofs.YtiagbfilffbljaaW.PrintWords Go.Proofs.YtiagbfilffbljaaW.PrintLast Go.Proofs.Ytiagbfilffbljaa.Common
set_option linter.unusedVariables false
set_option linter.unusedSimpArgs false
theorem sameInts_self (a : List Int) (h : a.length ≤ 4611686018427387904) (k : Nat) (hk : a.length < k) : laws_sameInts.f k a a = some true := by
  unfold laws_sameInts.f
  rw [if_pos rfl]
  have := eq_loop 0 a a rfl h (fun k x => laws_sameInts.l0 k a a x) (fun _ _ => rfl) k hk
  simpa using this
theorem sameMach_self (l0 l1 l6 l7 : List Int) (b2 b3 b4 b5 : Bool) (s : Int) (h : l0.length + l1.length + l6.length + l7.length ≤ 1048576) (k : Nat) (hk : 1048576 < k) : laws_sameMach.f k l0 l1 b2 b3 b4 b5 l6 l7 s l0 l1 b2 b3 b4 b5 l6 l7 s = some true := by
  unfold laws_sameMach.f
  simp only [sameInts_self l0 (by omega) k (by omega), sameInts_self l1 (by omega) k (by omega), sameInts_self l6 (by omega) k (by omega), sameInts_self l7 (by omega) k (by omega), Option.bind_some, if_true, beq_self_eq_true]
theorem rd_in (l : List Int) (i : Int) (h0 : 0 ≤ i) (h1 : i < l.length) : rd l i ∈ l := by
  have hlt : i.toNat < l.length := by omega
  have : rd l i = l[i.toNat] := by simp [rd, List.getD_eq_getElem?_getD, hlt]
  rw [this]; exact List.getElem_mem hlt
theorem l1New_ok (l : List Int) (hl : l.length ≤ 1048576) (k : Nat) (hk : l.length < k) : ∃ h, spec_l1New.f k l = some (l, 0, h) := by
  unfold spec_l1New.f
  generalize wrap64 (766766 + (l.length : Int)) = h
  have H : ∀ (r : Nat) k (h : Int) (i : Nat), l.length - i = r → i ≤ l.length → r < k → ∃ h', spec_l1New.l0 k l h i = some (l, 0, h') := by
    intro r
    induction r with
    | zero =>
      intro k h i hr hi hk
      obtain ⟨k, rfl⟩ : ∃ m, k = m + 1 := ⟨k - 1, by omega⟩
      exact ⟨h, by simp only [spec_l1New.l0]; rw [if_neg (by omega)]⟩
    | succ r ih =>
      intro k h i hr hi hk
      obtain ⟨k, rfl⟩ : ∃ m, k = m + 1 := ⟨k - 1, by omega⟩
      simp only [spec_l1New.l0]
      rw [if_pos (by omega)]
      by_cases h4 : (i : Int) < 4000
      · rw [if_pos h4, if_pos (by omega), w64 (x := (i : Int) + 1) (by omega) (by omega)]
        exact ih k _ (i + 1) (by omega) (by omega) (by omega)
      · rw [if_neg h4]; exact ⟨h, rfl⟩
  exact H l.length k h 0 (by omega) (by omega) hk
theorem l1Byte_ok (l : List Int) (hl : l.length ≤ 1048576) (i : Int) (h0 : 0 ≤ i) (h1 : i ≤ l.length) (h : Int) :
    ∃ x i' h', spec_l1Byte.f l i h = some (x, i', h') ∧ 0 ≤ x ∧ x ≤ 255 ∧ 0 ≤ i' ∧ i' ≤ l.length := by
  unfold spec_l1Byte.f
  simp only [and255]
  by_cases hi : i < (l.length : Int)
  · rw [if_pos hi, if_pos h0, w64 (x := i + 1) (by omega) (by omega)]
    exact ⟨_, _, _, rfl, by omega, by omega, by omega, by omega⟩
  · rw [if_neg hi]
    exact ⟨_, _, _, rfl, by omega, by omega, by omega, by omega⟩
theorem l1Below_ok (l : List Int) (hl : l.length ≤ 1048576) (i : Int) (h0 : 0 ≤ i) (h1 : i ≤ l.length) (h : Int) (n : Int) :
    ∃ x i' h', spec_l1Below.f l i h n = some (x, i', h') ∧ 0 ≤ x ∧ (0 < n → x < n) ∧ (n ≤ 0 → x = 0) ∧ 0 ≤ i' ∧ i' ≤ l.length := by
  unfold spec_l1Below.f
  by_cases hn : n ≤ 0
  · rw [if_pos hn]; exact ⟨_, _, _, rfl, by omega, by omega, by omega, by omega, by omega⟩
  rw [if_neg hn]
  by_cases hn2 : n ≤ 256
  · rw [if_pos hn2]
    obtain ⟨x, i', h', e, x0, x1, i0, i1⟩ := l1Byte_ok l hl i h0 h1 h
    rw [e]; simp only [Option.bind_some]; rw [if_neg (by omega), Int.tmod_eq_emod_of_nonneg x0]
    exact ⟨_, _, _, rfl, Int.emod_nonneg _ (by omega), fun _ => Int.emod_lt_of_pos _ (by omega), by omega, i0, i1⟩
  · rw [if_neg hn2]
    obtain ⟨x, i', h', e, x0, x1, i0, i1⟩ := l1Byte_ok l hl i h0 h1 h
    rw [e]; simp only [Option.bind_some]
    obtain ⟨y, j', g', e, y0, y1, j0, j1⟩ := l1Byte_ok l hl i' i0 i1 h'
    rw [e]; simp only [Option.bind_some]
    obtain ⟨z, k', f', e, z0, z1, k0, k1⟩ := l1Byte_ok l hl j' j0 j1 g'
    rw [e]; simp only [Option.bind_some]
    rw [if_neg (by omega), w64 (x := x * 65536) (by omega) (by omega), w64 (x := y * 256) (by omega) (by omega), w64 (x := x * 65536 + y * 256) (by omega) (by omega), w64 (x := x * 65536 + y * 256 + z) (by omega) (by omega), Int.tmod_eq_emod_of_nonneg (by omega)]
    exact ⟨_, _, _, rfl, Int.emod_nonneg _ (by omega), fun _ => Int.emod_lt_of_pos _ (by omega), by omega, k0, k1⟩
theorem l1Int_ok (l : List Int) (hl : l.length ≤ 1048576) (i : Int) (h0 : 0 ≤ i) (h1 : i ≤ l.length) (h : Int) (xs : List Int) (hx : 0 < xs.length) :
    ∃ x i' h', spec_l1Int.f l i h xs = some (x, i', h') ∧ x ∈ xs ∧ 0 ≤ i' ∧ i' ≤ l.length := by
  unfold spec_l1Int.f
  obtain ⟨x, i', h', e, x0, x1, _, i0, i1⟩ := l1Below_ok l hl i h0 h1 h (xs.length : Int)
  rw [e]; simp only [Option.bind_some]
  have := x1 (by omega)
  rw [if_pos x0, if_pos this]
  exact ⟨_, _, _, rfl, rd_in xs x x0 this, i0, i1⟩
def hasX (m r : Int) : Bool := m == 6 || (m == 7 || (r == 7 && (m == 2 || m == 3)))
def opdOk (m r x : Int) : Bool := decide (0 ≤ m ∧ m ≤ 7 ∧ 0 ≤ r ∧ r ≤ 7 ∧ 0 ≤ x ∧ x ≤ 65535) && (hasX m r || x == 0)
def zr (m r x : Int) : Bool := m == 0 && (r == 0 && (x == 0))
theorem zr_iff {m r x : Int} : zr m r x = true ↔ m = 0 ∧ r = 0 ∧ x = 0 := by simp [zr]
def insB (op n : Int) (a b c d : Bool) : Bool :=
  if 1 ≤ op ∧ op ≤ 6 then a && b && decide (n = 0) else if 7 ≤ op ∧ op ≤ 14 then c && b && decide (n = 0) else if op = 15 then c && b && decide (0 ≤ n ∧ n ≤ 7)
  else if op = 16 then c && d && decide (0 ≤ n ∧ n ≤ 7) else if 17 ≤ op ∧ op ≤ 21 then c && d && decide (-128 ≤ n ∧ n ≤ 127) else if op = 22 then c && d && decide (n = 0)
  else if op = 23 then c && d && decide (0 ≤ n ∧ n ≤ 255) else false
def insOk (op sm sr sx dm dr dx n : Int) : Bool := insB op n (opdOk sm sr sx) (opdOk dm dr dx) (zr sm sr sx) (zr dm dr dx)
theorem specHasX_ok (m r x : Int) : spec_HasX.f m r x = some (hasX m r) := by
  unfold spec_HasX.f hasX
  by_cases h6 : m = 6
  · simp [h6]
  by_cases h7 : m = 7
  · simp [h7]
  by_cases h : r = 7
  · by_cases h2 : m = 2
    · simp [h, h2]
    · have a6 : (m == 6) = false := by simpa using h6
      have a7 : (m == 7) = false := by simpa using h7
      have a2 : (m == 2) = false := by simpa using h2
      simp [h6, h7, h, h2, a6, a7, a2]
  simp [h6, h7, h]
theorem l1In_ok (a b c : Int) : spec_l1In.f a b c = some (decide (b ≤ a ∧ a ≤ c)) := by
  unfold spec_l1In.f
  by_cases h : a ≥ b
  · have h' : b ≤ a := h
    rw [if_pos h]; simp [h']
  · have h' : ¬ b ≤ a := h
    rw [if_neg h]; simp [h']
theorem l1Word_ok (l : List Int) (hl : l.length ≤ 1048576) (i : Int) (h0 : 0 ≤ i) (h1 : i ≤ l.length) (h : Int) :
    ∃ x i' h', spec_l1Word.f l i h = some (x, i', h') ∧ 0 ≤ x ∧ x ≤ 65535 ∧ 0 ≤ i' ∧ i' ≤ l.length := by
  unfold spec_l1Word.f
  obtain ⟨x, i', h', e, x0, x1, _, i0, i1⟩ := l1Below_ok l hl i h0 h1 h 65536
  rw [e]; simp only [Option.bind_some]
  have := x1 (by omega)
  obtain ⟨y, j, g, e, hy, j0, j1⟩ := l1Int_ok l hl i' i0 i1 h' [0, 1, 2, 3, 5, 8, 255, 32767, 32768, 65535, x] (by simp)
  rw [e]; simp only [Option.bind_some]
  refine ⟨_, _, _, rfl, ?_, ?_, j0, j1⟩ <;> (simp at hy; omega)
theorem l3Opd_ok (l : List Int) (hl : l.length ≤ 1048576) (i : Int) (h0 : 0 ≤ i) (h1 : i ≤ l.length) (h : Int) :
    ∃ m r x i' h', spec_l3Opd.f l i h = some (m, r, x, i', h') ∧ opdOk m r x = true ∧ 0 ≤ i' ∧ i' ≤ l.length := by
  unfold spec_l3Opd.f
  obtain ⟨m, i', h', e, hm, i0, i1⟩ := l1Int_ok l hl i h0 h1 h [0, 0, 1, 2, 3, 4, 5, 6, 7, 2] (by simp)
  rw [e]; simp only [Option.bind_some]
  obtain ⟨r, j, g, e, hr, j0, j1⟩ := l1Int_ok l hl i' i0 i1 h' [0, 1, 2, 5, 6, 7, 7] (by simp)
  rw [e]; simp only [Option.bind_some, specHasX_ok]
  have bm : 0 ≤ m ∧ m ≤ 7 := by simp at hm; omega
  have br : 0 ≤ r ∧ r ≤ 7 := by simp at hr; omega
  cases hx : hasX m r with
  | true =>
    rw [if_pos rfl]
    obtain ⟨x, k, f, e, x0, x1, k0, k1⟩ := l1Word_ok l hl j j0 j1 g
    rw [e]; simp only [Option.bind_some]
    refine ⟨_, _, _, _, _, rfl, ?_, k0, k1⟩
    unfold opdOk; rw [hx, decide_eq_true (by omega)]; rfl
  | false =>
    rw [if_neg (by simp)]
    refine ⟨_, _, _, _, _, rfl, ?_, j0, j1⟩
    unfold opdOk; rw [hx, decide_eq_true (by omega)]; rfl
theorem insOk_mk (op sm sr sx dm dr dx n : Int) (h1 : 1 ≤ op ∧ op ≤ 23) (hs : if op ≤ 6 then opdOk sm sr sx = true else sm = 0 ∧ sr = 0 ∧ sx = 0) (hd : if op ≤ 15 then opdOk dm dr dx = true else dm = 0 ∧ dr = 0 ∧ dx = 0)
    (hn : if op = 15 ∨ op = 16 then 0 ≤ n ∧ n ≤ 7 else if 17 ≤ op ∧ op ≤ 21 then -128 ≤ n ∧ n ≤ 127 else if op = 23 then 0 ≤ n ∧ n ≤ 255 else n = 0) : insOk op sm sr sx dm dr dx n = true := by
  unfold insOk insB
  by_cases h6 : op ≤ 6
  · rw [if_pos h6] at hs; rw [if_pos (by omega)] at hd; rw [if_neg (by omega), if_neg (by omega), if_neg (by omega)] at hn
    rw [if_pos (by omega), hs, hd]; simp [hn]
  rw [if_neg h6] at hs
  have zs : zr sm sr sx = true := zr_iff.2 hs
  rw [if_neg (by omega), zs]
  by_cases h14 : op ≤ 14
  · rw [if_pos (by omega)] at hd; rw [if_neg (by omega), if_neg (by omega), if_neg (by omega)] at hn
    rw [if_pos (by omega), hd]; simp [hn]
  rw [if_neg (by omega)]
  by_cases h15 : op = 15
  · rw [if_pos (by omega)] at hd; rw [if_pos (by omega)] at hn
    rw [if_pos h15, hd]; simp [hn]
  rw [if_neg (by omega)] at hd
  have zd : zr dm dr dx = true := zr_iff.2 hd
  rw [if_neg h15, zd]
  by_cases h16 : op = 16
  · rw [if_pos (by omega)] at hn; rw [if_pos h16]; simp [hn]
  rw [if_neg h16]
  rw [if_neg (by omega)] at hn
  by_cases h21 : op ≤ 21
  · rw [if_pos (by omega)] at hn; rw [if_pos (by omega)]; simp [hn]
  rw [if_neg (by omega)] at hn; rw [if_neg (by omega)]
  by_cases h23 : op = 23
  · rw [if_pos h23] at hn; rw [if_neg (by omega), if_pos h23]; simp [hn]
  · rw [if_neg h23] at hn; rw [if_pos (by omega)]; simp [hn]
theorem l3J2_ok (l : List Int) (hl : l.length ≤ 1048576) (i : Int) (h0 : 0 ≤ i) (h1 : i ≤ l.length) (h : Int) (op sm sr sx dm dr dx : Int) (ho : 1 ≤ op ∧ op ≤ 23) (hs : if op ≤ 6 then opdOk sm sr sx = true else sm = 0 ∧ sr = 0 ∧ sx = 0) (hd : if op ≤ 15 then opdOk dm dr dx = true else dm = 0 ∧ dr = 0 ∧ dx = 0) (k : Nat) (hk : 2 ≤ k) :
    ∃ n i' h', spec_l3Draw.j1 k l i h op sm sr sx dm dr dx 0 = some (op, sm, sr, sx, dm, dr, dx, n, i', h') ∧ insOk op sm sr sx dm dr dx n = true ∧ 0 ≤ i' ∧ i' ≤ l.length := by
  obtain ⟨k, rfl⟩ : ∃ m, k = m + 2 := ⟨k - 2, by omega⟩
  have e : spec_l3Draw.j1 (k + 2) l i h op sm sr sx dm dr dx 0 = spec_l3Draw.j2 (k + 1) (decide (op = 15 ∨ op = 16)) l i h op sm sr sx dm dr dx 0 := by
    rw [spec_l3Draw.j1]
    by_cases a : op = 15
    · rw [if_pos a]; simp [a]
    · rw [if_neg a]; congr 1; rw [Bool.eq_iff_iff]; simp [a]
  rw [e, spec_l3Draw.j2]
  by_cases a : op = 15 ∨ op = 16
  · rw [if_pos (decide_eq_true a)]
    obtain ⟨x, i', h', e, x0, x1, _, i0, i1⟩ := l1Below_ok l hl i h0 h1 h 8
    rw [e]; simp only [Option.bind_some]
    have := x1 (by omega)
    exact ⟨x, _, _, rfl, insOk_mk _ _ _ _ _ _ _ _ ho hs hd (by rw [if_pos a]; omega), i0, i1⟩
  rw [if_neg (by simpa using a)]
  simp only [l1In_ok, Option.bind_some]
  by_cases b : 17 ≤ op ∧ op ≤ 21
  · rw [if_pos (decide_eq_true b)]
    obtain ⟨x, i', h', e, hx, i0, i1⟩ := l1Int_ok l hl i h0 h1 h [(-128), 127, 0, (-1), 1, 2, (-3)] (by simp)
    rw [e]; simp only [Option.bind_some]
    have : -128 ≤ x ∧ x ≤ 127 := by simp at hx; omega
    exact ⟨x, _, _, rfl, insOk_mk _ _ _ _ _ _ _ _ ho hs hd (by rw [if_neg a, if_pos b]; exact this), i0, i1⟩
  rw [if_neg (by simpa using b)]
  by_cases c : op = 23
  · rw [if_pos c]
    obtain ⟨x, i', h', e, hx, i0, i1⟩ := l1Int_ok l hl i h0 h1 h [0, 1, 2, 255] (by simp)
    rw [e]; simp only [Option.bind_some]
    have : 0 ≤ x ∧ x ≤ 255 := by simp at hx; omega
    exact ⟨x, _, _, rfl, insOk_mk _ _ _ _ _ _ _ _ ho hs hd (by rw [if_neg a, if_neg b, if_pos c]; exact this), i0, i1⟩
  · rw [if_neg c]
    exact ⟨0, _, _, rfl, insOk_mk _ _ _ _ _ _ _ _ ho hs hd (by rw [if_neg a, if_neg b, if_neg c]), h0, h1⟩
theorem l3J0_ok (l : List Int) (hl : l.length ≤ 1048576) (i : Int) (h0 : 0 ≤ i) (h1 : i ≤ l.length) (h : Int) (op sm sr sx : Int) (ho : 1 ≤ op ∧ op ≤ 23) (hs : if op ≤ 6 then opdOk sm sr sx = true else sm = 0 ∧ sr = 0 ∧ sx = 0) (k : Nat) (hk : 3 ≤ k) :
    ∃ dm dr dx n i' h', spec_l3Draw.j0 k l i h op sm sr sx 0 0 0 0 = some (op, sm, sr, sx, dm, dr, dx, n, i', h') ∧ insOk op sm sr sx dm dr dx n = true ∧ 0 ≤ i' ∧ i' ≤ l.length := by
  obtain ⟨k, rfl⟩ : ∃ m, k = m + 1 := ⟨k - 1, by omega⟩
  rw [spec_l3Draw.j0]
  by_cases a : op ≤ 15
  · rw [if_pos a]
    obtain ⟨m, r, x, i', h', e, hok, i0, i1⟩ := l3Opd_ok l hl i h0 h1 h
    rw [e]; simp only [Option.bind_some]
    obtain ⟨n, i2, h2, e, hi, j0, j1⟩ := l3J2_ok l hl i' i0 i1 h' op sm sr sx m r x ho hs (by rw [if_pos a]; exact hok) k (by omega)
    exact ⟨m, r, x, n, i2, h2, e, hi, j0, j1⟩
  · rw [if_neg a]
    obtain ⟨n, i2, h2, e, hi, j0, j1⟩ := l3J2_ok l hl i h0 h1 h op sm sr sx 0 0 0 ho hs (by rw [if_neg a]; exact ⟨rfl, rfl, rfl⟩) k (by omega)
    exact ⟨0, 0, 0, n, i2, h2, e, hi, j0, j1⟩
theorem l3Draw_ok (l : List Int) (hl : l.length ≤ 1048576) (i : Int) (h0 : 0 ≤ i) (h1 : i ≤ l.length) (h : Int) (k : Nat) (hk : 3 ≤ k) :
    ∃ op sm sr sx dm dr dx n i' h', spec_l3Draw.f k l i h = some (op, sm, sr, sx, dm, dr, dx, n, i', h') ∧ insOk op sm sr sx dm dr dx n = true ∧ 0 ≤ i' ∧ i' ≤ l.length := by
  unfold spec_l3Draw.f
  obtain ⟨x, i', h', e, x0, x1, _, i0, i1⟩ := l1Below_ok l hl i h0 h1 h 23
  rw [e]; simp only [Option.bind_some]
  have := x1 (by omega)
  rw [w64 (x := 1 + x) (by omega) (by omega)]
  by_cases a : 1 + x ≤ 6
  · rw [if_pos a]
    obtain ⟨m, r, y, i2, h2, e, hok, j0, j1⟩ := l3Opd_ok l hl i' i0 i1 h'
    rw [e]; simp only [Option.bind_some]
    obtain ⟨dm, dr, dx, n, i3, h3, e, hi, k0, k1⟩ := l3J0_ok l hl i2 j0 j1 h2 (1 + x) m r y (by omega) (by rw [if_pos a]; exact hok) k hk
    exact ⟨_, _, _, _, _, _, _, _, _, _, e, hi, k0, k1⟩
  · rw [if_neg a]
    obtain ⟨dm, dr, dx, n, i3, h3, e, hi, k0, k1⟩ := l3J0_ok l hl i' i0 i1 h' (1 + x) 0 0 0 (by omega) (by rw [if_neg a]; exact ⟨rfl, rfl, rfl⟩) k hk
    exact ⟨_, _, _, _, _, _, _, _, _, _, e, hi, k0, k1⟩
theorem opdOk_bounds {m r x : Int} (h : opdOk m r x = true) : 0 ≤ m ∧ m ≤ 7 ∧ 0 ≤ r ∧ r ≤ 7 ∧ 0 ≤ x ∧ x ≤ 65535 := by
  unfold opdOk at h; simp only [Bool.and_eq_true, decide_eq_true_eq] at h; exact h.1
theorem insOk_elim {op sm sr sx dm dr dx n : Int} (h : insOk op sm sr sx dm dr dx n = true) :
    1 ≤ op ∧ op ≤ 23 ∧ (0 ≤ sm ∧ sm ≤ 7 ∧ 0 ≤ sr ∧ sr ≤ 7 ∧ 0 ≤ sx ∧ sx ≤ 65535) ∧ (0 ≤ dm ∧ dm ≤ 7 ∧ 0 ≤ dr ∧ dr ≤ 7 ∧ 0 ≤ dx ∧ dx ≤ 65535) ∧ (7 ≤ op → sm = 0 ∧ sr = 0 ∧ sx = 0) ∧ (16 ≤ op → dm = 0 ∧ dr = 0 ∧ dx = 0) ∧
    (op ≤ 14 → n = 0) ∧ (op = 15 → 0 ≤ n ∧ n ≤ 7) ∧ (op = 16 → 0 ≤ n ∧ n ≤ 7) ∧ (17 ≤ op → op ≤ 21 → -128 ≤ n ∧ n ≤ 127) ∧ (op = 22 → n = 0) ∧ (op = 23 → 0 ≤ n ∧ n ≤ 255) := by
  unfold insOk insB at h
  split at h
  · simp only [Bool.and_eq_true, decide_eq_true_eq] at h
    have a := opdOk_bounds h.1.1; have b := opdOk_bounds h.1.2
    refine ⟨by omega, by omega, a, b, ?_, ?_, ?_, ?_, ?_, ?_, ?_, ?_⟩ <;> omega
  split at h
  · simp only [Bool.and_eq_true, decide_eq_true_eq, zr_iff] at h
    have b := opdOk_bounds h.1.2
    refine ⟨by omega, by omega, by omega, b, ?_, ?_, ?_, ?_, ?_, ?_, ?_, ?_⟩ <;> omega
  split at h
  · simp only [Bool.and_eq_true, decide_eq_true_eq, zr_iff] at h
    have b := opdOk_bounds h.1.2
    refine ⟨by omega, by omega, by omega, b, ?_, ?_, ?_, ?_, ?_, ?_, ?_, ?_⟩ <;> omega
  split at h
  · simp only [Bool.and_eq_true, decide_eq_true_eq, zr_iff] at h
    refine ⟨by omega, by omega, by omega, by omega, ?_, ?_, ?_, ?_, ?_, ?_, ?_, ?_⟩ <;> omega
  split at h
  · simp only [Bool.and_eq_true, decide_eq_true_eq, zr_iff] at h
    refine ⟨by omega, by omega, by omega, by omega, ?_, ?_, ?_, ?_, ?_, ?_, ?_, ?_⟩ <;> omega
  split at h
  · simp only [Bool.and_eq_true, decide_eq_true_eq, zr_iff] at h
    refine ⟨by omega, by omega, by omega, by omega, ?_, ?_, ?_, ?_, ?_, ?_, ?_, ?_⟩ <;> omega
  split at h
  · simp only [Bool.and_eq_true, decide_eq_true_eq, zr_iff] at h
    refine ⟨by omega, by omega, by omega, by omega, ?_, ?_, ?_, ?_, ?_, ?_, ?_, ?_⟩ <;> omega
  · exact absurd h (by decide)
def bases : List Int := [0, 4096, 8192, 16384, 20480, 24576, 57344, 2560, 2688, 2752, 2816, 3008, 3200, 3264, 64, 2048, 128, 256, 512, 768, 1024, 1280, 0, 34816]
def codeW (op sm sr dm dr n : Int) : Int :=
  bases.getD op.toNat 0 + (if op ≤ 6 then (sm * 8 + sr) * 64 else 0) + (if op ≤ 15 then dm * 8 + dr else 0) + (if op = 15 then n * 64 else if op = 16 then n else if op = 23 then n else if 17 ≤ op ∧ op ≤ 21 then n % 256 else 0)
def tails (op sm sr sx dm dr dx : Int) : List Int := (if (decide (op ≤ 6) && hasX sm sr) = true then [sx] else []) ++ (if (decide (op ≤ 15) && hasX dm dr) = true then [dx] else [])
def encode (op sm sr sx dm dr dx n : Int) : List Int := if insOk op sm sr sx dm dr dx n = true then codeW op sm sr dm dr n :: tails op sm sr sx dm dr dx else []
theorem encode_length (op sm sr sx dm dr dx n : Int) : (encode op sm sr sx dm dr dx n).length ≤ 3 := by
  unfold encode tails; split
  · split <;> split <;> simp
  · simp
theorem specOpdOk_ok (m r x : Int) : spec_OpdOk.f m r x = some (opdOk m r x) := by
  unfold spec_OpdOk.f opdOk
  simp only [l1In_ok, specHasX_ok, Option.bind_some]
  by_cases h1 : 0 ≤ m ∧ m ≤ 7
  · by_cases h2 : 0 ≤ r ∧ r ≤ 7
    · by_cases h3 : 0 ≤ x ∧ x ≤ 65535
      · cases hasX m r <;> simp [h1, h2, h3]
      · have : ¬ (0 ≤ m ∧ m ≤ 7 ∧ 0 ≤ r ∧ r ≤ 7 ∧ 0 ≤ x ∧ x ≤ 65535) := by omega
        simp only [decide_eq_false this, Bool.false_and]; simp [h1, h2, h3]
    · have : ¬ (0 ≤ m ∧ m ≤ 7 ∧ 0 ≤ r ∧ r ≤ 7 ∧ 0 ≤ x ∧ x ≤ 65535) := by omega
      simp only [decide_eq_false this, Bool.false_and]; simp [h1, h2]
  · have : ¬ (0 ≤ m ∧ m ≤ 7 ∧ 0 ≤ r ∧ r ≤ 7 ∧ 0 ≤ x ∧ x ≤ 65535) := by omega
    simp only [decide_eq_false this, Bool.false_and]; simp [h1]
theorem l3Zero_ok (m r x : Int) : spec_l3Zero.f m r x = some (zr m r x) := rfl
set_option maxHeartbeats 4000000 in
theorem specInsOk_ok (op sm sr sx dm dr dx n : Int) (k : Nat) (hk : 2 ≤ k) : spec_InsOk.f k op sm sr sx dm dr dx n = some (insOk op sm sr sx dm dr dx n) := by
  obtain ⟨k, rfl⟩ : ∃ m, k = m + 1 := ⟨k - 1, by omega⟩
  unfold spec_InsOk.f insOk insB
  simp only [l1In_ok, specOpdOk_ok, l3Zero_ok, Option.bind_some, spec_InsOk.j0]
  generalize opdOk sm sr sx = a
  generalize opdOk dm dr dx = b
  generalize zr sm sr sx = c
  generalize zr dm dr dx = d
  cases a <;> cases b <;> cases c <;> cases d <;> simp only [if_true, Bool.false_eq_true, if_false, Bool.true_and, Bool.false_and, Bool.and_false, Bool.not_true, Bool.not_false, decide_eq_true_eq]
  all_goals repeat' split
  all_goals first | rfl | omega | (congr 1; rw [Bool.eq_iff_iff]; simp only [beq_iff_eq, decide_eq_true_eq, Bool.false_eq_true]; omega) | (simp; omega)
theorem specBase_ok (op : Int) (h0 : 0 ≤ op) (h1 : op ≤ 23) : spec_l4Base.f op = some (bases.getD op.toNat 0) := by
  unfold spec_l4Base.f
  simp only [Option.bind_some]
  rw [if_pos h0, if_pos (by simp; omega)]; rfl
theorem specSix_ok (m r x : Int) (h : 0 ≤ m ∧ m ≤ 7 ∧ 0 ≤ r ∧ r ≤ 7) : spec_l4Six.f m r x = some (m * 8 + r) := by
  unfold spec_l4Six.f
  rw [w64 (x := m * 8) (by omega) (by omega), w64 (by omega) (by omega)]
theorem bases_range (op : Int) : 0 ≤ bases.getD op.toNat 0 ∧ bases.getD op.toNat 0 ≤ 57344 := by
  have h : ∀ i, i < 24 → 0 ≤ bases.getD i 0 ∧ bases.getD i 0 ≤ 57344 := by decide
  rcases Nat.lt_or_ge op.toNat 24 with h1 | h1
  · exact h _ h1
  · have : bases.getD op.toNat 0 = 0 := by simp [bases, List.getD_eq_getElem?_getD]; rw [List.getElem?_eq_none (by simpa using h1)]; rfl
    omega
theorem specTail_ok (op sm sr sx dm dr dx n c : Int) (k : Nat) (hk : 2 ≤ k) : spec_Encode.j1 k c op sm sr sx dm dr dx n = some (c :: tails op sm sr sx dm dr dx) := by
  obtain ⟨k, rfl⟩ : ∃ m, k = m + 2 := ⟨k - 2, by omega⟩
  simp only [spec_Encode.j1, spec_Encode.j2, Option.bind_some, specHasX_ok, tails]
  by_cases h6 : op ≤ 6 <;> by_cases h15 : op ≤ 15 <;> cases hasX sm sr <;> cases hasX dm dr <;> simp [h6, h15]
set_option maxHeartbeats 4000000 in
theorem specEncode_ok (op sm sr sx dm dr dx n : Int) (k : Nat) (hk : 5 ≤ k) : spec_Encode.f k op sm sr sx dm dr dx n = some (encode op sm sr sx dm dr dx n) := by
  unfold spec_Encode.f encode
  rw [specInsOk_ok _ _ _ _ _ _ _ _ k (by omega)]
  simp only [Option.bind_some]
  by_cases hi : insOk op sm sr sx dm dr dx n = true
  · obtain ⟨h1, h23, hs, hd, _, _, hn⟩ := insOk_elim hi
    rw [if_pos hi, if_pos hi, specBase_ok op (by omega) h23]
    simp only [Option.bind_some]
    have hb := bases_range op
    unfold codeW
    generalize bases.getD op.toNat 0 = b at *
    by_cases h6 : op ≤ 6
    · rw [if_pos h6, specSix_ok sm sr sx (by omega), specSix_ok dm dr dx (by omega)]
      simp only [Option.bind_some]
      rw [specTail_ok _ _ _ _ _ _ _ _ _ k (by omega), w64 (x := (sm * 8 + sr) * 64) (by omega) (by omega), w64 (x := b + (sm * 8 + sr) * 64) (by omega) (by omega), w64 (by omega) (by omega), if_pos h6, if_pos (by omega), if_neg (by omega), if_neg (by omega), if_neg (by omega), if_neg (by omega)]
      simp
    rw [if_neg h6]
    by_cases h14 : op ≤ 14
    · rw [if_pos h14, specSix_ok dm dr dx (by omega)]
      simp only [Option.bind_some]
      rw [specTail_ok _ _ _ _ _ _ _ _ _ k (by omega), w64 (by omega) (by omega), if_neg h6, if_pos (by omega), if_neg (by omega), if_neg (by omega), if_neg (by omega), if_neg (by omega)]
      simp
    rw [if_neg h14]
    by_cases h15 : op = 15
    · rw [if_pos h15, specSix_ok dm dr dx (by omega)]
      simp only [Option.bind_some]
      rw [specTail_ok _ _ _ _ _ _ _ _ _ k (by omega), w64 (x := n * 64) (by omega) (by omega), w64 (x := b + n * 64) (by omega) (by omega), w64 (by omega) (by omega), if_neg h6, if_pos (by omega), if_pos h15]
      congr 2; omega
    rw [if_neg h15]
    obtain ⟨k, rfl⟩ : ∃ m, k = m + 1 := ⟨k - 1, by omega⟩
    by_cases h16 : op = 16
    · rw [if_pos h16]
      simp only [spec_Encode.j0, if_true]
      rw [specTail_ok _ _ _ _ _ _ _ _ _ k (by omega), w64 (by omega) (by omega), if_neg h6, if_neg (by omega), if_neg h15, if_pos h16]
      simp
    rw [if_neg h16]
    by_cases h23' : op = 23
    · simp only [spec_Encode.j0]
      rw [if_pos (by simpa using h23'), specTail_ok _ _ _ _ _ _ _ _ _ k (by omega), w64 (by omega) (by omega), if_neg h6, if_neg (by omega), if_neg h15, if_neg h16, if_pos h23']
      simp
    simp only [spec_Encode.j0, and255]
    rw [if_neg (by simpa using h23')]
    by_cases h21 : op ≤ 21
    · rw [if_pos h21, specTail_ok _ _ _ _ _ _ _ _ _ k (by omega), w64 (by omega) (by omega), if_neg h6, if_neg (by omega), if_neg h15, if_neg h16, if_neg h23', if_pos (by omega)]
      simp
    · rw [if_neg h21, specTail_ok _ _ _ _ _ _ _ _ _ k (by omega), if_neg h6, if_neg (by omega), if_neg h15, if_neg h16, if_neg h23', if_neg (by omega)]
      simp
  · rw [if_neg hi, if_neg hi]
theorem l1Once_ok (l : List Int) (hl : l.length ≤ 1048576) (i : Int) (h0 : 0 ≤ i) (h1 : i ≤ l.length) (h : Int) (n : Int) :
    ∃ b i' h', spec_l1Once.f l i h n = some (b, i', h') ∧ 0 ≤ i' ∧ i' ≤ l.length := by
  unfold spec_l1Once.f
  obtain ⟨x, i', h', e, x0, x1, _, i0, i1⟩ := l1Below_ok l hl i h0 h1 h n
  rw [e]; simp only [Option.bind_some]
  exact ⟨_, _, _, rfl, i0, i1⟩
def readW (mem : List Int) (a : Int) : Int × Bool := if (0 ≤ a ∧ a ≤ 510 ∧ a % 2 = 0) ∧ a / 2 < mem.length then (rd mem (a / 2), true) else (0, false)
theorem half_ok (a : Int) (h0 : 0 ≤ a) (h1 : a ≤ 510) : wrap64 (Int.tdiv a 2) = a / 2 ∧ Int.tmod a 2 = a % 2 := by
  rw [Int.tdiv_eq_ediv_of_nonneg h0, Int.tmod_eq_emod_of_nonneg h0]
  exact ⟨w64 (by omega) (by omega), rfl⟩
def isWd (x : Int) : Bool := decide (0 ≤ x ∧ x ≤ 65535)
def newMem (l0 : List Int) (q : Nat) : List Int := (List.replicate 256 0).take q ++ (l0 ++ (List.replicate 256 0).drop (q + l0.length))
def newRegs (a2 : Int) : List Int := ((List.replicate 8 0).set 6 512).set 7 a2
def newOk (l0 : List Int) (a1 a2 : Int) (l3 : List Int) : Bool := decide (((0 ≤ a1 ∧ a1 ≤ 510) ∧ a1 % 2 = 0) ∧ (l0.length : Int) ≤ 256 - a1 / 2 ∧ l0.all isWd = true ∧ l3.all isWd = true ∧ (0 ≤ a2 ∧ a2 ≤ 65535) ∧ l3.length ≤ 50)
def newM (l0 : List Int) (a1 a2 : Int) (l3 : List Int) : List Int × List Int × Bool × Bool × Bool × Bool × List Int × List Int × Int :=
  if newOk l0 a1 a2 l3 = true then (newMem l0 (a1 / 2).toNat, newRegs a2, false, false, false, false, l3, [], 0) else ([], [], false, false, false, false, [], [], 0)
theorem newM_ok {l0 : List Int} {a1 a2 : Int} {l3 : List Int} (h1 : (0 ≤ a1 ∧ a1 ≤ 510) ∧ a1 % 2 = 0) (h2 : (l0.length : Int) ≤ 256 - a1 / 2) (h3 : l0.all isWd = true) (h4 : l3.all isWd = true) (h5 : 0 ≤ a2 ∧ a2 ≤ 65535) (h6 : l3.length ≤ 50) :
    newM l0 a1 a2 l3 = (newMem l0 (a1 / 2).toNat, newRegs a2, false, false, false, false, l3, [], 0) := if_pos (decide_eq_true ⟨h1, h2, h3, h4, h5, h6⟩)
theorem newM_not {l0 : List Int} {a1 a2 : Int} {l3 : List Int} (h : ¬ (((0 ≤ a1 ∧ a1 ≤ 510) ∧ a1 % 2 = 0) ∧ (l0.length : Int) ≤ 256 - a1 / 2 ∧ l0.all isWd = true ∧ l3.all isWd = true ∧ (0 ≤ a2 ∧ a2 ≤ 65535) ∧ l3.length ≤ 50)) :
    newM l0 a1 a2 l3 = ([], [], false, false, false, false, [], [], 0) := if_neg (fun e => h (of_decide_eq_true e))
theorem newMem_length (l0 : List Int) (q : Nat) (h : q + l0.length ≤ 256) : (newMem l0 q).length = 256 := by
  unfold newMem
  simp only [List.length_append, List.length_take, List.length_drop, List.length_replicate]
  omega
theorem newRegs_length (a2 : Int) : (newRegs a2).length = 8 := by simp [newRegs]
theorem specWords_ok (l : List Int) (hl : l.length ≤ 4611686018427387904) (k : Nat) (hk : l.length < k) : spec_l5Words.f k l = some (l.all isWd) := by
  unfold spec_l5Words.f
  have H : ∀ (r k i : Nat), l.length - i = r → i ≤ l.length → r < k → spec_l5Words.l0 k l i = some ((l.drop i).all isWd) := by
    intro r
    induction r with
    | zero =>
      intro k i hr hi hk
      obtain ⟨k, rfl⟩ : ∃ m, k = m + 1 := ⟨k - 1, by omega⟩
      simp only [spec_l5Words.l0]
      rw [if_neg (by omega), List.drop_of_length_le (by omega)]; rfl
    | succ r ih =>
      intro k i hr hi hk
      obtain ⟨k, rfl⟩ : ∃ m, k = m + 1 := ⟨k - 1, by omega⟩
      have hlt : i < l.length := by omega
      simp only [spec_l5Words.l0, l1In_ok, Option.bind_some]
      rw [if_pos (by omega), if_pos (by omega), rd_at l i hlt, w64 (by omega) (by omega), List.drop_eq_getElem_cons hlt, List.all_cons]
      have e : ((i : Int) + 1) = ((i + 1 : Nat) : Int) := by omega
      rw [e, ih k (i + 1) (by omega) (by omega) (by omega)]
      unfold isWd
      cases decide (0 ≤ l[i] ∧ l[i] ≤ 65535) <;> simp
  have := H l.length k 0 (by omega) (by omega) hk
  simpa using this
def memAt (l0 : List Int) (q i : Nat) : List Int := (List.replicate 256 0).take q ++ (l0.take i ++ (List.replicate 256 0).drop (q + i))
theorem memAt_length (l0 : List Int) (q i : Nat) (hi : i ≤ l0.length) (h : q + l0.length ≤ 256) : (memAt l0 q i).length = 256 := by
  unfold memAt
  simp only [List.length_append, List.length_take, List.length_drop, List.length_replicate]
  omega
theorem memAt_set (l0 : List Int) (q i : Nat) (hi : i < l0.length) (h : q + l0.length ≤ 256) : (memAt l0 q i).set (q + i) (rd l0 (i : Int)) = memAt l0 q (i + 1) := by
  unfold memAt
  have h1 : ((List.replicate 256 (0 : Int)).take q).length = q := by rw [List.length_take, List.length_replicate]; omega
  have h2 : (l0.take i).length = i := by rw [List.length_take]; omega
  have h3 : q + i < (List.replicate 256 (0 : Int)).length := by rw [List.length_replicate]; omega
  have h4 : rd l0 (i : Int) = l0[i] := by simp [rd, List.getD_eq_getElem?_getD, hi]
  rw [List.set_append_right _ _ (by omega), h1, Nat.add_sub_cancel_left, List.set_append_right _ _ (by omega), h2, Nat.sub_self, List.drop_eq_getElem_cons h3, List.set_cons_zero, h4, List.take_succ_eq_append_getElem hi, List.append_assoc, List.singleton_append, Nat.add_assoc]
theorem newLoop (l0 : List Int) (a1 a2 : Int) (l3 : List Int) (q : Nat) (hq : wrap64 (Int.tdiv a1 2) = (q : Int)) (h : q + l0.length ≤ 256) : ∀ (d i k : Nat), l0.length - i = d → i ≤ l0.length → d < k →
    spec_MachNew.l0 k l0 a1 a2 (i : Int) (memAt l0 q i) (List.replicate 8 0) false false false false l3 0 = some (newMem l0 q, newRegs a2, false, false, false, false, l3, [], 0) := by
  intro d
  induction d with
  | zero =>
    intro i k hd hi hk
    obtain ⟨k, rfl⟩ : ∃ m, k = m + 1 := ⟨k - 1, by omega⟩
    simp only [spec_MachNew.l0]
    rw [if_neg (by omega), if_pos (by simp), if_pos (by simp)]
    have e : i = l0.length := by omega
    subst e
    simp only [memAt, List.take_length]
    rfl
  | succ d ih =>
    intro i k hd hi hk
    obtain ⟨k, rfl⟩ : ∃ m, k = m + 1 := ⟨k - 1, by omega⟩
    simp only [spec_MachNew.l0]
    have w1 : wrap64 ((q : Int) + (i : Int)) = ((q + i : Nat) : Int) := by rw [w64 (by omega) (by omega)]; omega
    have w2 : wrap64 ((i : Int) + 1) = ((i + 1 : Nat) : Int) := by rw [w64 (by omega) (by omega)]; omega
    rw [hq, w1, w2, if_pos (by omega), if_pos (by omega), if_pos (by omega), if_pos (by rw [memAt_length l0 q i hi h]; omega), Int.toNat_natCast, memAt_set l0 q i (by omega) h]
    exact ih (i + 1) k (by omega) (by omega) (by omega)
theorem specNew_ok (l0 : List Int) (a1 a2 : Int) (l3 : List Int) (h0 : l0.length ≤ 1048576) (h3 : l3.length ≤ 1048576) (k : Nat) (hk : 1048578 < k) : spec_MachNew.f k l0 a1 a2 l3 = some (newM l0 a1 a2 l3) := by
  obtain ⟨k', rfl⟩ : ∃ m, k = m + 1 := ⟨k - 1, by omega⟩
  have bad : spec_MachNew.j0 (k' + 1) l0 a1 a2 l3 true = some ([], [], false, false, false, false, [], [], 0) := rfl
  unfold spec_MachNew.f
  simp only [l1In_ok, Option.bind_some, decide_eq_true_eq, specWords_ok l0 (by omega) (k' + 1) (by omega), specWords_ok l3 (by omega) (k' + 1) (by omega), bad]
  by_cases c1 : 0 ≤ a1 ∧ a1 ≤ 510
  · obtain ⟨e1, e2⟩ := half_ok a1 c1.1 c1.2
    have e3 : wrap64 (256 - a1 / 2) = 256 - a1 / 2 := w64 (by omega) (by omega)
    rw [if_pos c1, e1, e2, e3]
    by_cases c2 : a1 % 2 = 0
    · rw [if_pos c2]
      by_cases c3 : (l0.length : Int) > 256 - a1 / 2
      · rw [if_pos c3, newM_not (fun h => by omega)]
      · rw [if_neg c3]
        by_cases c4 : l0.all isWd = true
        · rw [if_pos c4]
          by_cases c5 : 0 ≤ a2 ∧ a2 ≤ 65535
          · rw [if_pos c5]
            by_cases c6 : (l3.length : Int) > 50
            · rw [if_pos c6, newM_not (fun h => by omega)]
            · rw [if_neg c6]
              cases c7 : l3.all isWd with
              | false => rw [newM_not (fun h => by rw [c7] at h; exact absurd h.2.2.2.1 (by decide))]; exact bad
              | true =>
                rw [newM_ok ⟨c1, c2⟩ (by omega) c4 c7 c5 (by omega)]
                obtain ⟨q, hq⟩ := Int.eq_ofNat_of_zero_le (show 0 ≤ a1 / 2 by omega)
                rw [hq] at e1 ⊢
                rw [Int.toNat_natCast]
                have hm : (List.replicate 256 (0 : Int)) = memAt l0 q 0 := by unfold memAt; rw [List.take_zero, List.nil_append, Nat.add_zero, List.take_append_drop]
                show spec_MachNew.j0 (k' + 1) l0 a1 a2 l3 false = _
                simp only [spec_MachNew.j0]
                rw [if_neg (by decide), if_pos (by decide), if_pos (by decide)]
                simp only [Option.bind_some, List.nil_append, List.length_nil]
                rw [if_pos (by omega), hm]
                exact newLoop l0 a1 a2 l3 q e1 (by omega) l0.length 0 k' (by omega) (by omega) (by omega)
          · rw [if_neg c5, newM_not (fun h => c5 h.2.2.2.2.1)]
        · rw [if_neg c4, newM_not (fun h => c4 h.2.2.1)]
    · rw [if_neg c2, newM_not (fun h => c2 h.1.2)]
  · rw [if_neg c1, newM_not (fun h => c1 h.1.1)]
theorem isWd_of {x : Int} (h0 : 0 ≤ x) (h1 : x ≤ 65535) : isWd x = true := decide_eq_true ⟨h0, h1⟩
theorem all_set {l : List Int} (h : l.all isWd = true) (i : Nat) {v : Int} (hv : isWd v = true) : (l.set i v).all isWd = true := by
  rw [List.all_eq_true] at h ⊢
  intro x hx
  rcases List.mem_or_eq_of_mem_set hx with h1 | h1
  · exact h x h1
  · exact h1 ▸ hv
theorem encode_words (op sm sr sx dm dr dx n : Int) : (encode op sm sr sx dm dr dx n).all isWd = true := by
  unfold encode
  split
  · rename_i hi
    obtain ⟨o1, o2, ⟨s1, s2, s3, s4, s5, s6⟩, ⟨d1, d2, d3, d4, d5, d6⟩, _, _, n1, n2, n3, n4, n5, n6⟩ := insOk_elim hi
    have hc : 0 ≤ codeW op sm sr dm dr n ∧ codeW op sm sr dm dr n ≤ 65535 := by
      have ho : op = 1 ∨ op = 2 ∨ op = 3 ∨ op = 4 ∨ op = 5 ∨ op = 6 ∨ op = 7 ∨ op = 8 ∨ op = 9 ∨ op = 10 ∨ op = 11 ∨ op = 12 ∨ op = 13 ∨ op = 14 ∨ op = 15 ∨ op = 16 ∨ op = 17 ∨ op = 18 ∨ op = 19 ∨ op = 20 ∨ op = 21 ∨ op = 22 ∨ op = 23 := by omega
      clear hi
      rcases ho with rfl | rfl | rfl | rfl | rfl | rfl | rfl | rfl | rfl | rfl | rfl | rfl | rfl | rfl | rfl | rfl | rfl | rfl | rfl | rfl | rfl | rfl | rfl <;> simp [codeW, bases] <;> omega
    unfold tails
    rw [List.all_cons, isWd_of hc.1 hc.2, Bool.true_and, List.all_append, Bool.and_eq_true]
    constructor
    · split
      · simp [isWd_of s5 s6]
      · rfl
    · split
      · simp [isWd_of d5 d6]
      · rfl
  · rfl
theorem l4Words_words (l : List Int) (hl : l.length ≤ 1048576) : ∀ (r k : Nat) (d : List Int) (i h : Int), d.all isWd = true → d.length + 3 * r ≤ 1000 → r ≤ 300 → 0 ≤ i → i ≤ l.length → r + 5 < k →
    ∃ d' i' h', spec_l4Words.l0 k d (r : Int) l i h = some (d', i', h') ∧ d'.all isWd = true ∧ d'.length ≤ d.length + 3 * r ∧ 0 ≤ i' ∧ i' ≤ l.length := by
  intro r
  induction r with
  | zero =>
    intro k d i h hd hn hr h0 h1 hk
    obtain ⟨k, rfl⟩ : ∃ m, k = m + 1 := ⟨k - 1, by omega⟩
    rw [spec_l4Words.l0, if_neg (by omega)]
    exact ⟨d, i, h, rfl, hd, by omega, h0, h1⟩
  | succ r ih =>
    intro k d i h hd hn hr h0 h1 hk
    obtain ⟨k, rfl⟩ : ∃ m, k = m + 1 := ⟨k - 1, by omega⟩
    have hw : wrap64 (((r + 1 : Nat) : Int) - 1) = (r : Int) := by rw [w64 (by omega) (by omega)]; omega
    rw [spec_l4Words.l0, if_pos (by omega), hw]
    obtain ⟨b, i', h', e, i0, i1⟩ := l1Once_ok l hl i h0 h1 h 8
    rw [e]; simp only [Option.bind_some]
    cases b with
    | true =>
      obtain ⟨x, j, g, e, x0, x1, j0, j1⟩ := l1Word_ok l hl i' i0 i1 h'
      rw [if_pos rfl, e]; simp only [Option.bind_some]
      rw [if_pos (by omega)]
      obtain ⟨d', i2, h2, e2, a2, l2, q0, q1⟩ := ih k (d ++ [x]) j g (by simp [hd, isWd_of x0 x1]) (by simp; omega) (by omega) j0 j1 (by omega)
      exact ⟨d', i2, h2, e2, a2, by simp at l2; omega, q0, q1⟩
    | false =>
      obtain ⟨op, sm, sr, sx, dm, dr, dx, n, j, g, e, hi, j0, j1⟩ := l3Draw_ok l hl i' i0 i1 h' k (by omega)
      rw [if_neg (by simp), e]; simp only [Option.bind_some]
      rw [specEncode_ok _ _ _ _ _ _ _ _ k (by omega)]; simp only [Option.bind_some]
      have hel := encode_length op sm sr sx dm dr dx n
      rw [if_pos (by omega)]
      obtain ⟨d', i2, h2, e2, a2, l2, q0, q1⟩ := ih k (d ++ encode op sm sr sx dm dr dx n) j g (by simp [hd, encode_words]) (by simp; omega) (by omega) j0 j1 (by omega)
      exact ⟨d', i2, h2, e2, a2, by simp at l2; omega, q0, q1⟩
theorem l4Words_ok (l : List Int) (hl : l.length ≤ 1048576) (i : Int) (h0 : 0 ≤ i) (h1 : i ≤ l.length) (h : Int) (m : Int) (hm : 0 < m) (hm2 : m ≤ 256) (k : Nat) (hk : 300 < k) :
    ∃ d i' h', spec_l4Words.f k l i h m = some (d, i', h') ∧ d.all isWd = true ∧ (d.length : Int) ≤ 3 * m ∧ 0 ≤ i' ∧ i' ≤ l.length := by
  unfold spec_l4Words.f
  obtain ⟨x, i1, g, e, x0, x1, _, a0, a1⟩ := l1Below_ok l hl i h0 h1 h m
  have x2 := x1 hm
  rw [e]; simp only [Option.bind_some]
  obtain ⟨r, rfl⟩ := Int.eq_ofNat_of_zero_le x0
  obtain ⟨d', i2, h2, e2, a2, l2, q0, q1⟩ := l4Words_words l hl r k [] i1 g rfl (by simp; omega) (by omega) a0 a1 (by omega)
  exact ⟨d', i2, h2, e2, a2, by simp at l2; omega, q0, q1⟩
theorem newMem_words (l0 : List Int) (q : Nat) (h : l0.all isWd = true) : (newMem l0 q).all isWd = true := by
  have hr : (List.replicate 256 (0 : Int)).all isWd = true := by decide +kernel
  rw [List.all_eq_true] at hr h ⊢
  intro x hx
  unfold newMem at hx
  rcases List.mem_append.1 hx with hx | hx
  · exact hr x (List.mem_of_mem_take hx)
  · rcases List.mem_append.1 hx with hx | hx
    · exact h x hx
    · exact hr x (List.mem_of_mem_drop hx)
theorem newRegs_words (a2 : Int) (h : isWd a2 = true) : (newRegs a2).all isWd = true := by
  unfold newRegs
  exact all_set (all_set (by decide) 6 (by decide)) 7 h
theorem l5Mem (l : List Int) (hl : l.length ≤ 1048576) (m1 : List Int) (b2 b3 b4 b5 : Bool) (m6 m7 : List Int) (s : Int) : ∀ (r j k : Nat) (m0 : List Int) (i h : Int), j + r = 8 → m0.length = 256 → m0.all isWd = true → 0 ≤ i → i ≤ l.length → r < k →
    ∃ m0' i' h', spec_l5Draw.l2 k (j : Int) l i h m0 m1 b2 b3 b4 b5 m6 m7 s = some (m0', m1, b2, b3, b4, b5, m6, m7, s, i', h') ∧ m0'.length = 256 ∧ m0'.all isWd = true ∧ 0 ≤ i' ∧ i' ≤ l.length := by
  intro r
  induction r with
  | zero =>
    intro j k m0 i h hj hm hw h0 h1 hk
    obtain ⟨k, rfl⟩ : ∃ m, k = m + 1 := ⟨k - 1, by omega⟩
    rw [spec_l5Draw.l2, if_neg (by omega)]
    exact ⟨m0, i, h, rfl, hm, hw, h0, h1⟩
  | succ r ih =>
    intro j k m0 i h hj hm hw h0 h1 hk
    obtain ⟨k, rfl⟩ : ∃ m, k = m + 1 := ⟨k - 1, by omega⟩
    rw [spec_l5Draw.l2, if_pos (by omega)]
    obtain ⟨x, i1, g1, e1, x0, x1, _, p0, p1⟩ := l1Below_ok l hl i h0 h1 h 32
    have x2 := x1 (by omega)
    rw [e1]; simp only [Option.bind_some]
    obtain ⟨y, i2, g2, e2, y1, q0, q1⟩ := l1Int_ok l hl i1 p0 p1 g1 [0, 2, 100, 64, 65535] (by decide)
    rw [e2]; simp only [Option.bind_some]
    rw [if_pos x0, if_pos (by omega)]
    obtain ⟨z, i3, g3, e3, z0, z1, _, r0, r1⟩ := l1Below_ok l hl i2 q0 q1 g2 60
    have z2 := z1 (by omega)
    rw [e3]; simp only [Option.bind_some]
    obtain ⟨v, i4, g4, e4, v0, v1, t0, t1⟩ := l1Word_ok l hl i3 r0 r1 g3
    rw [e4]; simp only [Option.bind_some]
    have w1 : wrap64 (80 + z) = 80 + z := w64 (by omega) (by omega)
    have w2 : wrap64 ((j : Int) + 1) = ((j + 1 : Nat) : Int) := by rw [w64 (by omega) (by omega)]; omega
    rw [w1, w2]
    clear w1 w2
    rw [if_pos (by omega), if_pos (by omega)]
    have yw : isWd y = true := by
      simp only [List.mem_cons, List.not_mem_nil, or_false] at y1
      exact isWd_of (by omega) (by omega)
    exact ih (j + 1) k _ i4 g4 (by omega) (by simp [hm]) (all_set (all_set hw _ yw) _ (isWd_of v0 v1)) t0 t1 (by omega)
theorem l5Regs (l : List Int) (hl : l.length ≤ 1048576) (m0 : List Int) (hm0 : m0.length = 256) (hw0 : m0.all isWd = true) (b2 b3 b4 b5 : Bool) (m6 m7 : List Int) (s : Int) : ∀ (r j k : Nat) (m1 : List Int) (i h : Int), j + r = 6 → m1.length = 8 → m1.all isWd = true → 0 ≤ i → i ≤ l.length → r + 10 < k →
    ∃ m0' m1' c2 c3 c5 i' h', spec_l5Draw.l1 k (j : Int) l i h m0 m1 b2 b3 b4 b5 m6 m7 s = some (m0', m1', c2, c3, b4, c5, m6, m7, s, i', h') ∧ m0'.length = 256 ∧ m0'.all isWd = true ∧ m1'.length = 8 ∧ m1'.all isWd = true ∧ 0 ≤ i' ∧ i' ≤ l.length := by
  intro r
  induction r with
  | zero =>
    intro j k m1 i h hj hm hw h0 h1 hk
    obtain ⟨k, rfl⟩ : ∃ m, k = m + 1 := ⟨k - 1, by omega⟩
    rw [spec_l5Draw.l1, if_neg (by omega)]
    obtain ⟨y, i1, g1, e1, y1, p0, p1⟩ := l1Int_ok l hl i h0 h1 h [512, 500, 400] (by decide)
    rw [e1]; simp only [Option.bind_some]
    rw [if_pos (by omega)]
    obtain ⟨c2, i2, g2, e2, q0, q1⟩ := l1Once_ok l hl i1 p0 p1 g1 2
    rw [e2]; simp only [Option.bind_some]
    obtain ⟨c3, i3, g3, e3, r0, r1⟩ := l1Once_ok l hl i2 q0 q1 g2 2
    rw [e3]; simp only [Option.bind_some]
    obtain ⟨c5, i4, g4, e4, s0, s1⟩ := l1Once_ok l hl i3 r0 r1 g3 2
    rw [e4]; simp only [Option.bind_some]
    have yw : isWd y = true := by
      simp only [List.mem_cons, List.not_mem_nil, or_false] at y1
      exact isWd_of (by omega) (by omega)
    obtain ⟨m0', i5, g5, e5, a1, a2, t0, t1⟩ := l5Mem l hl (m1.set (6 : Int).toNat y) c2 c3 b4 c5 m6 m7 s 8 0 k m0 i4 g4 rfl hm0 hw0 s0 s1 (by omega)
    exact ⟨m0', _, c2, c3, c5, i5, g5, e5, a1, a2, by simp [hm], all_set hw _ yw, t0, t1⟩
  | succ r ih =>
    intro j k m1 i h hj hm hw h0 h1 hk
    obtain ⟨k, rfl⟩ : ∃ m, k = m + 1 := ⟨k - 1, by omega⟩
    rw [spec_l5Draw.l1, if_pos (by omega)]
    obtain ⟨x, i1, g1, e1, x0, x1, _, p0, p1⟩ := l1Below_ok l hl i h0 h1 h 256
    have x2 := x1 (by omega)
    rw [e1]; simp only [Option.bind_some]
    have w1 : wrap64 (x * 2) = x * 2 := w64 (by omega) (by omega)
    obtain ⟨y, i2, g2, e2, y1, q0, q1⟩ := l1Int_ok l hl i1 p0 p1 g1 [0, 2, 100, 200, 510, 3, wrap64 (x * 2)] (by simp)
    rw [e2]; simp only [Option.bind_some]
    have w2 : wrap64 ((j : Int) + 1) = ((j + 1 : Nat) : Int) := by rw [w64 (by omega) (by omega)]; omega
    rw [w1] at y1
    clear w1
    rw [w2]
    clear w2
    rw [if_pos (by omega), if_pos (by omega)]
    have yw : isWd y = true := by
      simp only [List.mem_cons, List.not_mem_nil, or_false] at y1
      exact isWd_of (by omega) (by omega)
    exact ih (j + 1) k _ i2 g2 (by omega) (by simp [hm]) (all_set hw _ yw) q0 q1 (by omega)
theorem l5In (l : List Int) (hl : l.length ≤ 1048576) : ∀ (r k : Nat) (d : List Int) (i h : Int), d.length + r ≤ 3 → d.all isWd = true → 0 ≤ i → i ≤ l.length → r + 1048600 < k →
    ∃ m0 m1 c2 c3 c5 m6 i' h', spec_l5Draw.l0 k d (r : Int) l i h = some (m0, m1, c2, c3, false, c5, m6, [], 0, i', h') ∧ m0.length = 256 ∧ m0.all isWd = true ∧ m1.length = 8 ∧ m1.all isWd = true ∧ m6.length ≤ 3 ∧ m6.all isWd = true ∧ 0 ≤ i' ∧ i' ≤ l.length := by
  intro r
  induction r with
  | zero =>
    intro k d i h hd hw h0 h1 hk
    obtain ⟨k, rfl⟩ : ∃ m, k = m + 1 := ⟨k - 1, by omega⟩
    rw [spec_l5Draw.l0, if_neg (by omega)]
    obtain ⟨d2, i1, g1, e1, w1, n1, p0, p1⟩ := l4Words_ok l hl i h0 h1 h 12 (by omega) (by omega) k (by omega)
    rw [e1]; simp only [Option.bind_some]
    rw [specNew_ok d2 64 64 d (by omega) (by omega) k (by omega), newM_ok ⟨⟨by omega, by omega⟩, by decide⟩ (by omega) w1 hw ⟨by omega, by omega⟩ (by omega)]
    simp only [Option.bind_some]
    obtain ⟨m0, m1, c2, c3, c5, i2, g2, e2, a1, a2, a3, a4, q0, q1⟩ := l5Regs l hl (newMem d2 (64 / 2 : Int).toNat) (newMem_length _ _ (by simp; omega)) (newMem_words _ _ w1) false false false false d [] 0 6 0 k (newRegs 64) i1 g1 rfl (newRegs_length _) (newRegs_words _ (by decide)) p0 p1 (by omega)
    exact ⟨m0, m1, c2, c3, c5, d, i2, g2, e2, a1, a2, a3, a4, by omega, hw, q0, q1⟩
  | succ r ih =>
    intro k d i h hd hw h0 h1 hk
    obtain ⟨k, rfl⟩ : ∃ m, k = m + 1 := ⟨k - 1, by omega⟩
    rw [spec_l5Draw.l0, if_pos (by omega)]
    obtain ⟨v, i1, g1, e1, v0, v1, p0, p1⟩ := l1Word_ok l hl i h0 h1 h
    rw [e1]; simp only [Option.bind_some]
    have w2 : wrap64 (((r + 1 : Nat) : Int) - 1) = (r : Int) := by rw [w64 (by omega) (by omega)]; omega
    rw [if_pos (by omega), w2]
    clear w2
    exact ih k (d ++ [v]) i1 g1 (by simp; omega) (by simp [hw, isWd_of v0 v1]) p0 p1 (by omega)
theorem l5Draw_ok (l : List Int) (hl : l.length ≤ 1048576) (i : Int) (h0 : 0 ≤ i) (h1 : i ≤ l.length) (h : Int) (k : Nat) (hk : 1048603 < k) :
    ∃ m0 m1 c2 c3 c5 m6 i' h', spec_l5Draw.f k l i h = some (m0, m1, c2, c3, false, c5, m6, [], 0, i', h') ∧ m0.length = 256 ∧ m0.all isWd = true ∧ m1.length = 8 ∧ m1.all isWd = true ∧ m6.length ≤ 3 ∧ m6.all isWd = true ∧ 0 ≤ i' ∧ i' ≤ l.length := by
  unfold spec_l5Draw.f
  obtain ⟨x, i1, g1, e1, x0, x1, _, p0, p1⟩ := l1Below_ok l hl i h0 h1 h 4
  have x2 := x1 (by omega)
  rw [e1]; simp only [Option.bind_some]
  obtain ⟨r, rfl⟩ := Int.eq_ofNat_of_zero_le x0
  exact l5In l hl r k [] i1 g1 (by simp; omega) rfl p0 p1 (by omega)
theorem l5Any_ok (l : List Int) (hl : l.length ≤ 1048576) (i : Int) (h0 : 0 ≤ i) (h1 : i ≤ l.length) (h : Int) (k : Nat) (hk : 1048603 < k) :
    ∃ m0 m1 c2 c3 c4 c5 m6 m7 s i' h', spec_l5Any.f k l i h = some (m0, m1, c2, c3, c4, c5, m6, m7, s, i', h') ∧ m0.length + m1.length + m6.length + m7.length ≤ 2000 ∧ 0 ≤ i' ∧ i' ≤ l.length := by
  unfold spec_l5Any.f
  obtain ⟨m0, m1, c2, c3, c5, m6, i1, g1, e1, a1, a2, a3, a4, a5, a6, p0, p1⟩ := l5Draw_ok l hl i h0 h1 h k hk
  rw [e1]; simp only [Option.bind_some]
  obtain ⟨x, i2, g2, e2, x0, x1, _, q0, q1⟩ := l1Below_ok l hl i1 p0 p1 g1 16
  rw [e2]; simp only [Option.bind_some]
  by_cases d0 : x = 0
  · rw [if_pos d0]
    obtain ⟨y, i3, g3, e3, y1, r0, r1⟩ := l1Int_ok l hl i2 q0 q1 g2 [0, 100, 255] (by decide)
    rw [e3]; simp only [Option.bind_some]
    simp only [List.mem_cons, List.not_mem_nil, or_false] at y1
    rw [if_pos (by omega), if_pos (by omega)]
    exact ⟨_, _, _, _, _, _, _, _, _, _, _, rfl, by simp [List.length_take]; omega, r0, r1⟩
  rw [if_neg d0]
  by_cases d1 : x = 1
  · rw [if_pos d1]
    obtain ⟨y, i3, g3, e3, y0, y1, _, r0, r1⟩ := l1Below_ok l hl i2 q0 q1 g2 8
    have y2 := y1 (by omega)
    rw [e3]; simp only [Option.bind_some]
    obtain ⟨z, i4, g4, e4, _, s0, s1⟩ := l1Int_ok l hl i3 r0 r1 g3 [-1, 65536, 65535] (by decide)
    rw [e4]; simp only [Option.bind_some]
    rw [if_pos y0, if_pos (by omega)]
    exact ⟨_, _, _, _, _, _, _, _, _, _, _, rfl, by simp; omega, s0, s1⟩
  rw [if_neg d1]
  by_cases d2 : x = 2
  · rw [if_pos d2, if_pos (by omega)]
    exact ⟨_, _, _, _, _, _, _, _, _, _, _, rfl, by simp [List.length_take]; omega, q0, q1⟩
  rw [if_neg d2]
  by_cases d3 : x = 3
  · rw [if_pos d3]
    obtain ⟨y, i3, g3, e3, _, r0, r1⟩ := l1Int_ok l hl i2 q0 q1 g2 [-1, 1, 2, 3] (by decide)
    rw [e3]; simp only [Option.bind_some]
    exact ⟨_, _, _, _, _, _, _, _, _, _, _, rfl, by simp; omega, r0, r1⟩
  rw [if_neg d3]
  by_cases d4 : x = 4
  · rw [if_pos d4]
    obtain ⟨y, i3, g3, e3, y0, y1, _, r0, r1⟩ := l1Below_ok l hl i2 q0 q1 g2 2
    have y2 := y1 (by omega)
    rw [e3]; simp only [Option.bind_some]
    have w1 : wrap64 (50 + y) = 50 + y := w64 (by omega) (by omega)
    rw [w1]
    clear w1
    rw [if_pos (by omega), if_pos (by omega)]
    exact ⟨_, _, _, _, _, _, _, _, _, _, _, rfl, by simp; omega, r0, r1⟩
  rw [if_neg d4]
  by_cases d5 : x = 5
  · rw [if_pos d5]
    exact ⟨_, _, _, _, _, _, _, _, _, _, _, rfl, by simp; omega, q0, q1⟩
  rw [if_neg d5]
  exact ⟨_, _, _, _, _, _, _, _, _, _, _, rfl, by simp; omega, q0, q1⟩
theorem l3Any_ok (l : List Int) (hl : l.length ≤ 1048576) (i : Int) (h0 : 0 ≤ i) (h1 : i ≤ l.length) (h : Int) (k : Nat) (hk : 3 ≤ k) : ∃ r, spec_l3Any.f k l i h = some r := by
  unfold spec_l3Any.f
  obtain ⟨op, sm, sr, sx, dm, dr, dx, n, i1, g1, e, _, p0, p1⟩ := l3Draw_ok l hl i h0 h1 h k hk
  rw [e]; simp only [Option.bind_some]
  obtain ⟨x, i2, g2, e2, _, _, _, q0, q1⟩ := l1Below_ok l hl i1 p0 p1 g1 12
  rw [e2]; simp only [Option.bind_some]
  by_cases c0 : x = 0
  · rw [if_pos c0]
    obtain ⟨y, i3, g3, e3, _⟩ := l1Int_ok l hl i2 q0 q1 g2 [0, 24, 1, 14, 22] (by decide)
    rw [e3]; exact ⟨_, rfl⟩
  rw [if_neg c0]
  by_cases c1 : x = 1
  · rw [if_pos c1]
    obtain ⟨y, i3, g3, e3, _⟩ := l1Int_ok l hl i2 q0 q1 g2 [(-129), 128, 256, (-1), 8, 0] (by decide)
    rw [e3]; exact ⟨_, rfl⟩
  rw [if_neg c1]
  by_cases c2 : x = 2
  · rw [if_pos c2]
    obtain ⟨y, i3, g3, e3, _, r0, r1⟩ := l1Int_ok l hl i2 q0 q1 g2 [(-1), 0, 6, 8] (by decide)
    rw [e3]; simp only [Option.bind_some]
    obtain ⟨z, i4, g4, e4, _, s0, s1⟩ := l1Int_ok l hl i3 r0 r1 g3 [(-1), 7, 8] (by decide)
    rw [e4]; simp only [Option.bind_some]
    obtain ⟨v, i5, g5, e5, _⟩ := l1Int_ok l hl i4 s0 s1 g4 [(-1), 0, 5, 65536] (by decide)
    rw [e5]; exact ⟨_, rfl⟩
  rw [if_neg c2]
  by_cases c3 : x = 3
  · rw [if_pos c3]
    obtain ⟨y, i3, g3, e3, _⟩ := l1Int_ok l hl i2 q0 q1 g2 [(-1), 1, 65536] (by decide)
    rw [e3]; exact ⟨_, rfl⟩
  rw [if_neg c3]; exact ⟨_, rfl⟩
theorem drawPlaceOf_ok (l : List Int) (hl : l.length ≤ 1048576) (k : Nat) (hk : 1048700 < k) : ∃ m0 m1 c2 c3 c4 c5 m6 m7 s o0 o1 o2, spec_DrawPlaceOf.f k l = some (m0, m1, c2, c3, c4, c5, m6, m7, s, o0, o1, o2) ∧ m0.length + m1.length + m6.length + m7.length ≤ 2000 := by
  unfold spec_DrawPlaceOf.f
  obtain ⟨h, e⟩ := l1New_ok l hl k (by omega)
  rw [e]; simp only [Option.bind_some]
  obtain ⟨m0, m1, c2, c3, c4, c5, m6, m7, s, i1, g1, e, a, p0, p1⟩ := l5Any_ok l hl 0 (by omega) (by omega) h k (by omega)
  rw [e]; simp only [Option.bind_some]
  obtain ⟨x, y, z, i2, g2, e2, _, q0, q1⟩ := l3Opd_ok l hl i1 p0 p1 g1
  rw [e2]; simp only [Option.bind_some]
  obtain ⟨b, i3, g3, e3, r0, r1⟩ := l1Once_ok l hl i2 q0 q1 g2 10
  rw [e3]; simp only [Option.bind_some]
  cases b with
  | true =>
    rw [if_pos rfl]
    obtain ⟨t, e4⟩ := l3Any_ok l hl i3 r0 r1 g3 k (by omega)
    rw [e4]; exact ⟨_, _, _, _, _, _, _, _, _, _, _, _, rfl, a⟩
  | false => rw [if_neg (by decide)]; exact ⟨_, _, _, _, _, _, _, _, _, _, _, _, rfl, a⟩
theorem lawsAt_ok (l : List Int) (i : Int) (hb : ∀ x ∈ l, 0 ≤ x ∧ x ≤ 255) (hl : l.length ≤ 1048576) (h0 : 0 ≤ i) (h1 : i ≤ 1000) : ∃ a, laws_at.f l i = some a ∧ 0 ≤ a ∧ a ≤ 255 := by
  unfold laws_at.f
  by_cases hi : i < (l.length : Int)
  · rw [if_pos hi, if_pos h0]
    have := hb _ (rd_in l i h0 hi)
    rw [w64 (by omega) (by omega)]
    exact ⟨_, rfl, by omega, by omega⟩
  · rw [if_neg hi, w64 (x := i * 31) (by omega) (by omega), w64 (x := (l.length : Int) * 7) (by omega) (by omega), w64 (by omega) (by omega), Int.tmod_eq_emod_of_nonneg (by omega)]
    exact ⟨_, rfl, by omega, by omega⟩
def writeOk (mem : List Int) (a : Int) : Bool := decide ((0 ≤ a ∧ a ≤ 510 ∧ a % 2 = 0) ∧ a / 2 < mem.length)
def writeMem (mem : List Int) (a n : Int) : List Int := if writeOk mem a = true then mem.set (a / 2).toNat (n % 65536) else mem
theorem writeMem_length (mem : List Int) (a n : Int) : (writeMem mem a n).length = mem.length := by unfold writeMem; split <;> simp
theorem readW_ok2 (mem : List Int) (a : Int) : (readW mem a).2 = writeOk mem a := by
  unfold readW writeOk
  split
  · rename_i h; exact (decide_eq_true h).symm
  · rename_i h; exact (decide_eq_false h).symm
theorem within_ok (a b c : Int) : impl_within.f a b c = some (decide (b ≤ a ∧ a ≤ c)) := by
  unfold impl_within.f
  by_cases h : a ≥ b
  · have h' : b ≤ a := h
    rw [if_pos h]; simp [h']
  · have h' : ¬ b ≤ a := h
    rw [if_neg h]; simp [h']
theorem isAddr_ok (a : Int) : impl_isAddr.f a = some (decide (0 ≤ a ∧ a ≤ 510 ∧ a % 2 = 0)) := by
  unfold impl_isAddr.f
  simp only [within_ok, Option.bind_some]
  by_cases h : 0 ≤ a ∧ a ≤ 510
  · rw [if_pos (decide_eq_true h), (half_ok a h.1 h.2).2]
    congr 1; rw [Bool.eq_iff_iff]; simp; omega
  · rw [if_neg (by simpa using h)]; congr 1; symm; rw [decide_eq_false_iff_not]; omega
theorem copyInts_ok (l : List Int) (h : l.length ≤ 1048576) : impl_copyInts.f l = some l := by
  unfold impl_copyInts.f
  simp only [Option.bind_some, List.length_nil, List.nil_append]
  rw [if_pos (by omega)]
theorem copyMach_ok (l0 l1 l6 l7 : List Int) (b2 b3 b4 b5 : Bool) (s : Int) (h : l0.length + l1.length + l6.length + l7.length ≤ 1048576) : impl_copyMach.f l0 l1 b2 b3 b4 b5 l6 l7 s = some (l0, l1, b2, b3, b4, b5, l6, l7, s) := by
  unfold impl_copyMach.f
  simp only [copyInts_ok l0 (by omega), copyInts_ok l1 (by omega), copyInts_ok l6 (by omega), copyInts_ok l7 (by omega), Option.bind_some]
theorem implWriteW_ok (l0 l1 l6 l7 : List Int) (b2 b3 b4 b5 : Bool) (s a n : Int) (h : l0.length + l1.length + l6.length + l7.length ≤ 1048576) :
    impl_WriteW.f l0 l1 b2 b3 b4 b5 l6 l7 s a n = some (writeMem l0 a n, l1, b2, b3, b4, b5, l6, l7, s, writeOk l0 a) := by
  unfold impl_WriteW.f writeMem
  simp only [copyMach_ok l0 l1 l6 l7 b2 b3 b4 b5 s h, isAddr_ok, Option.bind_some, impl_Wrap.f, and65535]
  by_cases hc : 0 ≤ a ∧ a ≤ 510 ∧ a % 2 = 0
  · obtain ⟨e1, _⟩ := half_ok a hc.1 hc.2.1
    rw [if_pos (decide_eq_true hc), e1]
    by_cases h2 : a / 2 < l0.length
    · have hw : writeOk l0 a = true := decide_eq_true ⟨hc, h2⟩
      rw [if_neg (by omega), if_pos (by omega), if_pos h2, hw, if_pos rfl]
    · have hw : writeOk l0 a = false := decide_eq_false (fun h' => h2 h'.2)
      rw [if_pos (by omega), hw, if_neg (by simp)]
  · have hw : writeOk l0 a = false := decide_eq_false (fun h' => hc h'.1)
    rw [if_neg (by simpa using hc), hw, if_neg (by simp)]
def regOk (l1 : List Int) (p0 p1 : Int) : Bool := decide ((0 ≤ p0 ∧ p0 < l1.length) ∧ p1 = -1)
theorem within_reg (l1 : List Int) (h : l1.length ≤ 1048576) (p0 : Int) : impl_within.f p0 0 (wrap64 ((l1.length : Int) - 1)) = some (decide (0 ≤ p0 ∧ p0 < l1.length)) := by
  rw [w64 (by omega) (by omega), within_ok]; congr 1; rw [Bool.eq_iff_iff, decide_eq_true_eq, decide_eq_true_eq]; omega
def storeM (l0 l1 : List Int) (p0 p1 n : Int) : List Int × List Int × Bool :=
  if p0 = -1 then (writeMem l0 p1 n, l1, writeOk l0 p1) else if regOk l1 p0 p1 = true then (l0, l1.set p0.toNat (n % 65536), true) else (l0, l1, false)
theorem storeM_length (l0 l1 : List Int) (p0 p1 n : Int) : (storeM l0 l1 p0 p1 n).1.length = l0.length ∧ (storeM l0 l1 p0 p1 n).2.1.length = l1.length := by
  unfold storeM
  split
  · exact ⟨writeMem_length _ _ _, rfl⟩
  · split <;> simp
theorem isRegPlace_ok (l0 l1 l6 l7 : List Int) (b2 b3 b4 b5 : Bool) (s p0 p1 : Int) (h : l1.length ≤ 1048576) : impl_isRegPlace.f l0 l1 b2 b3 b4 b5 l6 l7 s p0 p1 = some (regOk l1 p0 p1) := by
  unfold impl_isRegPlace.f
  simp only [within_reg l1 h, Option.bind_some]
  by_cases h1 : 0 ≤ p0 ∧ p0 < l1.length
  · rw [if_pos (decide_eq_true h1)]; congr 1; rw [Bool.eq_iff_iff]; unfold regOk; simp; omega
  · rw [if_neg (by simpa using h1)]; congr 1; symm; exact decide_eq_false (fun h => h1 h.1)
theorem implStore_ok (l0 l1 l6 l7 : List Int) (b2 b3 b4 b5 : Bool) (s p0 p1 n : Int) (h : l0.length + l1.length + l6.length + l7.length ≤ 1048576) :
    impl_Store.f l0 l1 b2 b3 b4 b5 l6 l7 s p0 p1 n = some ((storeM l0 l1 p0 p1 n).1, (storeM l0 l1 p0 p1 n).2.1, b2, b3, b4, b5, l6, l7, s, (storeM l0 l1 p0 p1 n).2.2) := by
  unfold impl_Store.f storeM
  simp only [isRegPlace_ok l0 l1 l6 l7 b2 b3 b4 b5 s p0 p1 (by omega), copyMach_ok l0 l1 l6 l7 b2 b3 b4 b5 s h, implWriteW_ok l0 l1 l6 l7 b2 b3 b4 b5 s p1 n h, Option.bind_some, impl_Wrap.f, and65535]
  cases hr : regOk l1 p0 p1 with
  | true =>
    have hc := hr
    unfold regOk at hc; rw [decide_eq_true_eq] at hc
    rw [if_pos rfl, if_pos hc.1.1, if_pos hc.1.2, if_neg (by omega), if_pos rfl]
  | false =>
    rw [if_neg (by simp)]
    by_cases e : p0 = -1
    · rw [if_pos e, if_pos e]
    · rw [if_neg e, if_neg e, if_neg (by simp)]
def machOk (l0 l1 l6 l7 : List Int) (s : Int) : Bool := decide (l0.length = 256 ∧ l1.length = 8 ∧ l6.length ≤ 50 ∧ l7.length ≤ 50 ∧ 0 ≤ s ∧ s ≤ 2) && (l0.all isWd && (l1.all isWd && (l6.all isWd && l7.all isWd)))
theorem implWordsOk_ok (l : List Int) (hl : l.length ≤ 4611686018427387904) (k : Nat) (hk : l.length < k) : impl_wordsOk.f k l = some (l.all isWd) := by
  unfold impl_wordsOk.f
  have H : ∀ (r k i : Nat), l.length - i = r → i ≤ l.length → r < k → impl_wordsOk.l0 k l (l.length : Int) i = some ((l.drop i).all isWd) := by
    intro r
    induction r with
    | zero =>
      intro k i hr hi hk
      obtain ⟨k, rfl⟩ : ∃ m, k = m + 1 := ⟨k - 1, by omega⟩
      simp only [impl_wordsOk.l0]
      rw [if_neg (by omega), List.drop_of_length_le (by omega)]; rfl
    | succ r ih =>
      intro k i hr hi hk
      obtain ⟨k, rfl⟩ : ∃ m, k = m + 1 := ⟨k - 1, by omega⟩
      have hlt : i < l.length := by omega
      simp only [impl_wordsOk.l0, impl_isWord.f, within_ok, Option.bind_some]
      rw [if_pos (by omega), if_pos (by omega), if_pos (by omega), rd_at l i hlt, w64 (by omega) (by omega), List.drop_eq_getElem_cons hlt, List.all_cons]
      have e : ((i : Int) + 1) = ((i + 1 : Nat) : Int) := by omega
      rw [e, ih k (i + 1) (by omega) (by omega) (by omega)]
      unfold isWd
      cases decide (0 ≤ l[i] ∧ l[i] ≤ 65535) <;> simp
  have := H l.length k 0 (by omega) (by omega) hk
  simpa using this
theorem implMachOk_ok (l0 l1 l6 l7 : List Int) (b2 b3 b4 b5 : Bool) (s : Int) (h : l0.length + l1.length + l6.length + l7.length ≤ 1048578) (k : Nat) (hk : 1048580 < k) : impl_MachOk.f k l0 l1 b2 b3 b4 b5 l6 l7 s = some (machOk l0 l1 l6 l7 s) := by
  obtain ⟨k, rfl⟩ : ∃ m, k = m + 1 := ⟨k - 1, by omega⟩
  unfold impl_MachOk.f machOk
  simp only [impl_MachOk.j0, implWordsOk_ok l0 (by omega) k (by omega), implWordsOk_ok l1 (by omega) k (by omega), implWordsOk_ok l6 (by omega) k (by omega), implWordsOk_ok l7 (by omega) k (by omega), within_ok, Option.bind_some]
  generalize l0.all isWd = c0
  generalize l1.all isWd = c1
  generalize l6.all isWd = c6
  generalize l7.all isWd = c7
  have e0 : ((l0.length : Int) = 256) ↔ l0.length = 256 := by omega
  have e1 : ((l1.length : Int) = 8) ↔ l1.length = 8 := by omega
  have e6 : ((l6.length : Int) ≤ 50) ↔ l6.length ≤ 50 := by omega
  have e7 : ((l7.length : Int) ≤ 50) ↔ l7.length ≤ 50 := by omega
  simp only [e0, e1, e6, e7]
  by_cases h0 : l0.length = 256 <;> by_cases h1 : l1.length = 8 <;> by_cases h6 : l6.length ≤ 50 <;> by_cases h7 : l7.length ≤ 50 <;> by_cases hs : 0 ≤ s ∧ s ≤ 2 <;> cases c0 <;> cases c1 <;> cases c6 <;> cases c7 <;> simp [h0, h1, h6, h7, hs]
theorem implHasX_ok (m r x : Int) : impl_HasX.f m r x = some (hasX m r) := by
  unfold impl_HasX.f hasX
  by_cases h6 : m = 6
  · simp [h6]
  by_cases h7 : m = 7
  · simp [h7]
  by_cases h2 : m = 2
  · simp [h2]
  by_cases h3 : m = 3
  · simp [h3]
  simp [h6, h7, h2, h3]
theorem implOpdOk_ok (m r x : Int) : impl_OpdOk.f m r x = some (opdOk m r x) := by
  unfold impl_OpdOk.f impl_isReg.f impl_isWord.f opdOk
  simp only [within_ok, implHasX_ok, Option.bind_some]
  by_cases h1 : 0 ≤ m ∧ m ≤ 7
  · by_cases h2 : 0 ≤ r ∧ r ≤ 7
    · by_cases h3 : 0 ≤ x ∧ x ≤ 65535
      · by_cases h4 : x = 0
        · cases hasX m r <;> simp [h1, h2, h4]
        · cases hasX m r <;> simp [h1, h2, h3, h4]
      · have : ¬ (0 ≤ m ∧ m ≤ 7 ∧ 0 ≤ r ∧ r ≤ 7 ∧ 0 ≤ x ∧ x ≤ 65535) := by omega
        simp only [decide_eq_false this, Bool.false_and]; simp [h1, h2, h3]
    · have : ¬ (0 ≤ m ∧ m ≤ 7 ∧ 0 ≤ r ∧ r ≤ 7 ∧ 0 ≤ x ∧ x ≤ 65535) := by omega
      simp only [decide_eq_false this, Bool.false_and]; simp [h1, h2]
  · have : ¬ (0 ≤ m ∧ m ≤ 7 ∧ 0 ≤ r ∧ r ≤ 7 ∧ 0 ≤ x ∧ x ≤ 65535) := by omega
    simp only [decide_eq_false this, Bool.false_and]; simp [h1]
theorem implReadW_ok (l0 l1 l6 l7 : List Int) (b2 b3 b4 b5 : Bool) (s a : Int) : impl_ReadW.f l0 l1 b2 b3 b4 b5 l6 l7 s a = some (readW l0 a) := by
  unfold impl_ReadW.f readW
  simp only [isAddr_ok, Option.bind_some]
  by_cases h : 0 ≤ a ∧ a ≤ 510 ∧ a % 2 = 0
  · obtain ⟨e1, e2⟩ := half_ok a h.1 h.2.1
    rw [if_pos (decide_eq_true h), e1]
    by_cases h3 : a / 2 < l0.length
    · rw [if_neg (by omega), if_pos (by omega), if_pos h3, if_pos ⟨h, h3⟩]
    · rw [if_pos (by omega), if_neg (by omega)]
  · rw [if_neg (by simpa using h), if_neg (fun h' => h h'.1)]
def nextW (l1 : List Int) : Int := wrap64 (rd l1 7 + 2) % 65536
def placeAt (l0 l1 : List Int) (m r : Int) : Option (Int × List Int) :=
  if m = 1 then some (rd l1 r, l1) else if m = 2 ∨ m = 3 then some (rd l1 r, l1.set r.toNat (wrap64 (rd l1 r + 2) % 65536)) else if m = 4 ∨ m = 5 then some (wrap64 (rd l1 r - 2) % 65536, l1.set r.toNat (wrap64 (rd l1 r - 2) % 65536))
  else if (readW l0 (rd l1 7)).2 = true then some (wrap64 ((readW l0 (rd l1 7)).1 + rd (l1.set 7 (nextW l1)) r) % 65536, l1.set 7 (nextW l1)) else none
def placeR (l0 l1 : List Int) (m r : Int) : Option (Int × Int × List Int) :=
  if m = 0 then some (r, -1, l1) else (placeAt l0 l1 m r).bind fun s => if m = 3 ∨ m = 5 ∨ m = 7 then (if (readW l0 s.1).2 = true then some (-1, (readW l0 s.1).1, s.2) else none) else some (-1, s.1, s.2)
theorem rd_set (l : List Int) (r u : Int) (h0 : 0 ≤ r) (h1 : r < l.length) : rd (l.set r.toNat u) r = u := by
  unfold rd
  rw [List.getD_eq_getElem?_getD, List.getElem?_set_self (by omega)]; rfl
theorem place_ok (l0 l1 l6 l7 : List Int) (b2 b3 b4 b5 : Bool) (s m r : Int) (hl : l1.length = 8) (h0 : 0 ≤ r) (h1 : r < 8) (hm : 0 ≤ m ∧ m < 8) :
    (∀ x y l, placeR l0 l1 m r = some (x, y, l) → impl_place.f l0 l1 b2 b3 b4 b5 l6 l7 s m r = some (x, y, true, l)) ∧ (placeR l0 l1 m r = none → ∃ x y l, impl_place.f l0 l1 b2 b3 b4 b5 l6 l7 s m r = some (x, y, false, l)) := by
  unfold placeR impl_place.f placeAt impl_fetch.f nextW
  simp only [implReadW_ok, impl_Wrap.f, and65535, Option.bind_some]
  by_cases c0 : m = 0
  · simp only [if_pos c0]; exact ⟨fun x y l h => (by simp only [Option.some.injEq, Prod.mk.injEq] at h; obtain ⟨rfl, rfl, rfl⟩ := h; first | rfl | simp [*]), fun h => by simp at h⟩
  simp only [if_neg c0]
  have odd : ∀ (a : Int) (l' : List Int), (∀ x y l, (if m = 3 ∨ m = 5 ∨ m = 7 then (if (readW l0 a).2 = true then some (-1, (readW l0 a).1, l') else none) else some (-1, a, l')) = some (x, y, l) → (if True ∧ (m = 3 ∨ m = 5 ∨ m = 7) then some (-1, (readW l0 a).1, (readW l0 a).2, l') else some (-1, a, true, l')) = some (x, y, true, l)) ∧
      ((if m = 3 ∨ m = 5 ∨ m = 7 then (if (readW l0 a).2 = true then some (-1, (readW l0 a).1, l') else none) else some (-1, a, l')) = none → ∃ x y l, (if True ∧ (m = 3 ∨ m = 5 ∨ m = 7) then some (-1, (readW l0 a).1, (readW l0 a).2, l') else some (-1, a, true, l')) = some (x, y, false, l)) := by
    intro a l'
    by_cases c : m = 3 ∨ m = 5 ∨ m = 7
    · simp only [if_pos c, if_pos (show True ∧ (m = 3 ∨ m = 5 ∨ m = 7) from ⟨trivial, c⟩)]
      cases hq : (readW l0 a).2 with
      | true => simp only [if_pos]; exact ⟨fun x y l h => (by simp only [Option.some.injEq, Prod.mk.injEq] at h; obtain ⟨rfl, rfl, rfl⟩ := h; first | rfl | simp [*]), fun h => by simp at h⟩
      | false => simp only [Bool.false_eq_true, if_false]; exact ⟨fun x y l h => by simp at h, fun _ => ⟨_, _, _, rfl⟩⟩
    · simp only [if_neg c, if_neg (fun h : True ∧ (m = 3 ∨ m = 5 ∨ m = 7) => c h.2)]
      exact ⟨fun x y l h => (by simp only [Option.some.injEq, Prod.mk.injEq] at h; obtain ⟨rfl, rfl, rfl⟩ := h; first | rfl | simp [*]), fun h => by simp at h⟩
  by_cases c1 : m = 1
  · simp only [if_pos c1, Option.bind_some]; exact odd _ _
  by_cases c2 : m = 2 ∨ m = 3
  · simp only [if_neg c1, if_pos c2, Option.bind_some]; exact odd _ _
  by_cases c4 : m = 4 ∨ m = 5
  · simp only [if_neg c1, if_neg c2, if_pos c4, Option.bind_some]; exact odd _ _
  simp only [if_neg c1, if_neg c2, if_neg c4, Option.bind_some]
  cases hq : (readW l0 (rd l1 7)).2 with
  | true => simp only [if_pos, Option.bind_some]; exact odd _ _
  | false =>
    simp only [Bool.false_eq_true, if_false, Option.bind_none, false_and]
    exact ⟨fun x y l h => by simp at h, fun _ => ⟨_, _, _, rfl⟩⟩
def placeM (l0 l1 l6 l7 : List Int) (s m r x : Int) : List Int × Int × Int × Bool :=
  if machOk l0 l1 l6 l7 s = true ∧ opdOk m r x = true then (match placeR l0 l1 m r with | some p => (p.2.2, p.1, p.2.1, true) | none => (l1, 0, 0, false)) else (l1, 0, 0, false)
theorem machOk_len {l0 l1 l6 l7 : List Int} {s : Int} (h : machOk l0 l1 l6 l7 s = true) : l1.length = 8 := by
  unfold machOk at h; rw [Bool.and_eq_true, decide_eq_true_eq] at h; exact h.1.2.1
theorem opdOk_in {m r x : Int} (h : opdOk m r x = true) : (0 ≤ m ∧ m < 8) ∧ 0 ≤ r ∧ r < 8 := by
  unfold opdOk at h; rw [Bool.and_eq_true, decide_eq_true_eq] at h; omega
theorem implPlaceOf_ok (l0 l1 l6 l7 : List Int) (b2 b3 b4 b5 : Bool) (s m r x : Int) (h : l0.length + l1.length + l6.length + l7.length ≤ 1048576) (k : Nat) (hk : 1048580 < k) :
    impl_PlaceOf.f k l0 l1 b2 b3 b4 b5 l6 l7 s m r x = some (l0, (placeM l0 l1 l6 l7 s m r x).1, b2, b3, b4, b5, l6, l7, s, (placeM l0 l1 l6 l7 s m r x).2.1, (placeM l0 l1 l6 l7 s m r x).2.2.1, (placeM l0 l1 l6 l7 s m r x).2.2.2) := by
  unfold impl_PlaceOf.f placeM
  simp only [implMachOk_ok l0 l1 l6 l7 b2 b3 b4 b5 s (by omega) k hk, implOpdOk_ok, copyMach_ok l0 l1 l6 l7 b2 b3 b4 b5 s h, Option.bind_some]
  cases h1 : machOk l0 l1 l6 l7 s with
  | false => simp
  | true =>
    cases h2 : opdOk m r x with
    | false => simp
    | true =>
      have hl := machOk_len h1
      obtain ⟨hm, hr⟩ := opdOk_in h2
      obtain ⟨p, q⟩ := place_ok l0 l1 l6 l7 b2 b3 b4 b5 s m r hl hr.1 hr.2 hm
      simp only [if_true, and_self]
      rw [if_pos ⟨hl, hm.1, hm.2, hr.1, hr.2⟩]
      cases hp : placeR l0 l1 m r with
      | none => obtain ⟨_, _, _, e⟩ := q hp; rw [e]; simp
      | some t => rw [p t.1 t.2.1 t.2.2 hp]; simp
theorem placeAt_length {l0 l1 : List Int} {m r a : Int} {l : List Int} (h : placeAt l0 l1 m r = some (a, l)) : l.length = l1.length := by
  unfold placeAt at h
  repeat' split at h
  all_goals (simp at h; try (obtain ⟨_, rfl⟩ := h; simp))
theorem placeR_length {l0 l1 : List Int} {m r x y : Int} {l : List Int} (h : placeR l0 l1 m r = some (x, y, l)) : l.length = l1.length := by
  unfold placeR at h
  split at h
  · simp at h; obtain ⟨_, _, rfl⟩ := h; rfl
  · cases ha : placeAt l0 l1 m r with
    | none => rw [ha] at h; simp at h
    | some t =>
      rw [ha] at h
      have := placeAt_length ha
      simp only [Option.bind_some] at h
      repeat' split at h
      all_goals (simp at h; try (obtain ⟨_, _, rfl⟩ := h; exact this))
theorem placeM_length (l0 l1 l6 l7 : List Int) (s m r x : Int) : (placeM l0 l1 l6 l7 s m r x).1.length = l1.length := by
  unfold placeM
  split
  · cases hp : placeR l0 l1 m r with
    | none => rfl
    | some t => exact placeR_length hp
  · rfl
def load (mem r : List Int) (pr pa : Int) : Int × Bool := if pr = -1 then readW mem pa else if (0 ≤ pr ∧ pr < r.length) ∧ pa = -1 then (rd r pr, true) else (0, false)
theorem specReadW_ok (l0 l1 l6 l7 : List Int) (b2 b3 b4 b5 : Bool) (s a : Int) : spec_ReadW.f l0 l1 b2 b3 b4 b5 l6 l7 s a = some (readW l0 a) := by
  unfold spec_ReadW.f readW
  simp only [l1In_ok, Option.bind_some]
  by_cases h : 0 ≤ a ∧ a ≤ 510
  · obtain ⟨e1, e2⟩ := half_ok a h.1 h.2
    rw [if_pos (decide_eq_true h), e1, e2]
    by_cases h2 : a % 2 = 0
    · rw [if_pos h2]
      by_cases h3 : a / 2 < l0.length
      · rw [if_neg (by omega), if_pos (by omega), if_pos h3, if_pos (by omega)]
      · rw [if_pos (by omega), if_neg (by omega)]
    · rw [if_neg h2, if_neg (by omega)]
  · rw [if_neg (by simpa using h), if_neg (by omega)]
theorem specLoad_ok (l0 l1 l6 l7 : List Int) (b2 b3 b4 b5 : Bool) (s pr pa : Int) (hl : l1.length ≤ 1048578) : spec_Load.f l0 l1 b2 b3 b4 b5 l6 l7 s pr pa = some (load l0 l1 pr pa) := by
  unfold spec_Load.f load
  simp only [specReadW_ok, l1In_ok, Option.bind_some]
  by_cases h : pr = -1
  · rw [if_pos h, if_pos h]
  rw [if_neg h, if_neg h, w64 (by omega) (by omega)]
  by_cases h2 : 0 ≤ pr ∧ pr < l1.length
  · rw [if_pos (by simp; omega)]
    by_cases h3 : pa = -1
    · rw [if_pos h3, if_pos h2.1, if_pos h2.2, if_pos ⟨h2, h3⟩]
    · rw [if_neg h3, if_neg (fun h' => h3 h'.2)]
  · rw [if_neg (by simp; omega), if_neg (fun h' => h2 h'.1)]
theorem isRegPlace_okL (l0 l1 l6 l7 : List Int) (b2 b3 b4 b5 : Bool) (s pr pa : Int) (hl : l1.length ≤ 1048578) : impl_isRegPlace.f l0 l1 b2 b3 b4 b5 l6 l7 s pr pa = some (decide ((0 ≤ pr ∧ pr < l1.length) ∧ pa = -1)) := by
  unfold impl_isRegPlace.f
  simp only [within_ok, Option.bind_some]
  rw [w64 (by omega) (by omega)]
  by_cases h2 : 0 ≤ pr ∧ pr < l1.length
  · rw [if_pos (by simp; omega)]; congr 1; rw [Bool.eq_iff_iff]; simp; omega
  · rw [if_neg (by simp; omega)]; congr 1; symm; rw [decide_eq_false_iff_not]; exact fun h' => h2 h'.1
theorem implLoad_ok (l0 l1 l6 l7 : List Int) (b2 b3 b4 b5 : Bool) (s pr pa : Int) (hl : l1.length ≤ 1048578) : impl_Load.f l0 l1 b2 b3 b4 b5 l6 l7 s pr pa = some (load l0 l1 pr pa) := by
  unfold impl_Load.f load
  simp only [implReadW_ok, isRegPlace_okL l0 l1 l6 l7 b2 b3 b4 b5 s pr pa hl, Option.bind_some]
  by_cases h : (0 ≤ pr ∧ pr < l1.length) ∧ pa = -1
  · rw [if_pos (decide_eq_true h), if_pos h.1.1, if_pos h.1.2, if_neg (by omega), if_pos h]
  · rw [if_neg (by simpa using h)]
    by_cases h1 : pr = -1
    · rw [if_pos h1, if_pos h1]
    · rw [if_neg h1, if_neg h1, if_neg h]
theorem drawMach_ok (l : List Int) (hl : l.length ≤ 1048576) (k : Nat) (hk : 1048700 < k) :
    ∃ m0 m1 c2 c3 c5 m6, spec_DrawMach.f k l = some (m0, m1, c2, c3, false, c5, m6, [], 0) ∧ m0.length = 256 ∧ m0.all isWd = true ∧ m1.length = 8 ∧ m1.all isWd = true ∧ m6.length ≤ 3 ∧ m6.all isWd = true := by
  unfold spec_DrawMach.f
  obtain ⟨h, e⟩ := l1New_ok l hl k (by omega)
  rw [e]; simp only [Option.bind_some]
  obtain ⟨m0, m1, c2, c3, c5, m6, i', h', e, a1, a2, a3, a4, a5, a6, _, _⟩ := l5Draw_ok l hl 0 (by omega) (by omega) h k (by omega)
  rw [e]
  exact ⟨m0, m1, c2, c3, c5, m6, rfl, a1, a2, a3, a4, a5, a6⟩
theorem wd_mod (x : Int) : isWd (x % 65536) = true := isWd_of (by omega) (by omega)
theorem placeAt_words {l0 l1 : List Int} {m r a : Int} {l : List Int} (hw : l1.all isWd = true) (h : placeAt l0 l1 m r = some (a, l)) : l.all isWd = true := by
  unfold placeAt at h
  repeat' split at h
  all_goals (simp only [Option.some.injEq, Prod.mk.injEq, reduceCtorEq] at h; try (obtain ⟨_, rfl⟩ := h; first | exact hw | exact all_set hw _ (wd_mod _)))
theorem placeR_in {l0 l1 : List Int} {m r y0 y1 : Int} {l : List Int} (hw : l1.all isWd = true) (hr : 0 ≤ r ∧ r < 8) (h : placeR l0 l1 m r = some (y0, y1, l)) : l.all isWd = true ∧ ((0 ≤ y0 ∧ y0 < 8 ∧ y1 = -1) ∨ y0 = -1) := by
  unfold placeR at h
  split at h
  · simp only [Option.some.injEq, Prod.mk.injEq] at h; obtain ⟨rfl, rfl, rfl⟩ := h; exact ⟨hw, .inl ⟨hr.1, hr.2, rfl⟩⟩
  · cases ha : placeAt l0 l1 m r with
    | none => rw [ha] at h; simp at h
    | some t =>
      rw [ha] at h
      have := placeAt_words hw ha
      simp only [Option.bind_some] at h
      repeat' split at h
      all_goals (simp only [Option.some.injEq, Prod.mk.injEq, reduceCtorEq] at h; try (obtain ⟨rfl, rfl, rfl⟩ := h; exact ⟨this, .inr rfl⟩))
def Facts (lb : List Int) : Prop :=
  laws_big.f lb = some true ∨
  ∃ (k : Nat) (lm_0 : List Int) (lm_1 : List Int) (bm_2 : Bool) (bm_3 : Bool) (bm_4 : Bool) (bm_5 : Bool) (lm_6 : List Int) (lm_7 : List Int) (bm_8 : Int) (ld_0 : List Int) (ld_1 : List Int) (bd_2 : Bool) (bd_3 : Bool) (bd_4 : Bool) (bd_5 : Bool) (ld_6 : List Int) (ld_7 : List Int) (bd_8 : Int) (o0 o1 o2 : Int) (lx_0 : List Int) (lx_1 : List Int) (bx_2 : Bool) (bx_3 : Bool) (bx_4 : Bool) (bx_5 : Bool) (lx_6 : List Int) (lx_7 : List Int) (bx_8 : Int) (y0 y1 : Int), laws_big.f lb = some false ∧ spec_DrawMach.f k lb = some (lm_0, lm_1, bm_2, bm_3, bm_4, bm_5, lm_6, lm_7, bm_8) ∧ spec_DrawPlaceOf.f k lb = some (ld_0, ld_1, bd_2, bd_3, bd_4, bd_5, ld_6, ld_7, bd_8, o0, o1, o2) ∧
    ((impl_PlaceOf.f k lm_0 lm_1 bm_2 bm_3 bm_4 bm_5 lm_6 lm_7 bm_8 o0 o1 o2 = some (lx_0, lx_1, bx_2, bx_3, bx_4, bx_5, lx_6, lx_7, bx_8, y0, y1, false) ∧ laws_sameMach.f k lx_0 lx_1 bx_2 bx_3 bx_4 bx_5 lx_6 lx_7 bx_8 lm_0 lm_1 bm_2 bm_3 bm_4 bm_5 lm_6 lm_7 bm_8 = some true) ∨
     ∃ (q2 q3 : Int) (lz_0 : List Int) (lz_1 : List Int) (bz_2 : Bool) (bz_3 : Bool) (bz_4 : Bool) (bz_5 : Bool) (lz_6 : List Int) (lz_7 : List Int) (bz_8 : Int) (u v : Int), laws_at.f lb 2 = some q2 ∧ laws_at.f lb 3 = some q3 ∧ impl_PlaceOf.f k lm_0 lm_1 bm_2 bm_3 bm_4 bm_5 lm_6 lm_7 bm_8 o0 o1 o2 = some (lx_0, lx_1, bx_2, bx_3, bx_4, bx_5, lx_6, lx_7, bx_8, y0, y1, true) ∧
      ((∃ can : Bool, impl_Store.f lx_0 lx_1 bx_2 bx_3 bx_4 bx_5 lx_6 lx_7 bx_8 y0 y1 (wrap64 (wrap64 (q2 * 256) + q3)) = some (lz_0, lz_1, bz_2, bz_3, bz_4, bz_5, lz_6, lz_7, bz_8, false) ∧ impl_Load.f lz_0 lz_1 bz_2 bz_3 bz_4 bz_5 lz_6 lz_7 bz_8 y0 y1 = some (u, can) ∧ spec_Load.f lx_0 lx_1 bx_2 bx_3 bx_4 bx_5 lx_6 lx_7 bx_8 y0 y1 = some (v, false)) ∨
       (impl_Store.f lx_0 lx_1 bx_2 bx_3 bx_4 bx_5 lx_6 lx_7 bx_8 y0 y1 (wrap64 (wrap64 (q2 * 256) + q3)) = some (lz_0, lz_1, bz_2, bz_3, bz_4, bz_5, lz_6, lz_7, bz_8, true) ∧ impl_Load.f lz_0 lz_1 bz_2 bz_3 bz_4 bz_5 lz_6 lz_7 bz_8 y0 y1 = some (u, true) ∧ spec_Load.f lx_0 lx_1 bx_2 bx_3 bx_4 bx_5 lx_6 lx_7 bx_8 y0 y1 = some (v, true) ∧ u = wrap64 (wrap64 (q2 * 256) + q3) ∧ impl_MachOk.f k lz_0 lz_1 bz_2 bz_3 bz_4 bz_5 lz_6 lz_7 bz_8 = some true)))
theorem FnStored (lb : List Int) (_ : lb.length ≤ maxLen) (hl : lb.length * 1 ≤ 140737488351232) (hw : ∀ x ∈ lb, (Lit.int .u8 x).wf = true) : Facts lb := by
  unfold Facts laws_big.f
  by_cases hb : (lb.length : Int) > 1048576
  · exact .inl (by rw [show decide ((lb.length : Int) > 1048576) = true from decide_eq_true hb])
  have hl0 : lb.length ≤ 1048576 := by omega
  obtain ⟨m0, m1, c2, c3, c5, m6, e, a1, a2, a3, a4, a5, a6⟩ := drawMach_ok lb hl0 1048900 (by omega)
  obtain ⟨d0, d1, f2, f3, f4, f5, d6, d7, ds, o0, o1, o2, e2, _⟩ := drawPlaceOf_ok lb hl0 1048900 (by omega)
  have ep := implPlaceOf_ok m0 m1 m6 [] c2 c3 false c5 0 o0 o1 o2 (by simp; omega) 1048900 (by omega)
  have hmo : machOk m0 m1 m6 [] 0 = true := by unfold machOk; simp [a1, a2, a3, a4, a6]; omega
  refine .inr ⟨1048900, m0, m1, c2, c3, false, c5, m6, [], 0, d0, d1, f2, f3, f4, f5, d6, d7, ds, o0, o1, o2, m0, (placeM m0 m1 m6 [] 0 o0 o1 o2).1, c2, c3, false, c5, m6, [], 0, (placeM m0 m1 m6 [] 0 o0 o1 o2).2.1, (placeM m0 m1 m6 [] 0 o0 o1 o2).2.2.1, by rw [show decide ((lb.length : Int) > 1048576) = false from decide_eq_false hb], e, e2, ?_⟩
  have hbad : (placeM m0 m1 m6 [] 0 o0 o1 o2).2.2.2 = false → (placeM m0 m1 m6 [] 0 o0 o1 o2).1 = m1 := by
    unfold placeM
    split
    · split <;> simp
    · simp
  have hgood : (placeM m0 m1 m6 [] 0 o0 o1 o2).2.2.2 = true → (placeM m0 m1 m6 [] 0 o0 o1 o2).1.all isWd = true ∧ ((0 ≤ (placeM m0 m1 m6 [] 0 o0 o1 o2).2.1 ∧ (placeM m0 m1 m6 [] 0 o0 o1 o2).2.1 < 8 ∧ (placeM m0 m1 m6 [] 0 o0 o1 o2).2.2.1 = -1) ∨ (placeM m0 m1 m6 [] 0 o0 o1 o2).2.1 = -1) := by
    unfold placeM
    by_cases ho : opdOk o0 o1 o2 = true
    · rw [if_pos ⟨hmo, ho⟩]
      cases hp : placeR m0 m1 o0 o1 with
      | none => simp
      | some t => intro _; exact placeR_in a4 (opdOk_in ho).2 hp
    · rw [if_neg (fun q => ho q.2)]; simp
  have hlen := placeM_length m0 m1 m6 [] 0 o0 o1 o2
  generalize (placeM m0 m1 m6 [] 0 o0 o1 o2).1 = x1 at *
  generalize (placeM m0 m1 m6 [] 0 o0 o1 o2).2.1 = y0 at *
  generalize (placeM m0 m1 m6 [] 0 o0 o1 o2).2.2.1 = y1 at *
  generalize (placeM m0 m1 m6 [] 0 o0 o1 o2).2.2.2 = ok at *
  cases ok with
  | false =>
    obtain rfl := hbad rfl
    exact .inl ⟨ep, sameMach_self m0 x1 m6 [] c2 c3 false c5 0 (by simp; omega) 1048900 (by omega)⟩
  | true =>
    obtain ⟨hx, hy⟩ := hgood rfl
    have hbw : ∀ x ∈ lb, 0 ≤ x ∧ x ≤ 255 := fun x hx => wf8 (hw x hx)
    obtain ⟨q2, eq2, q20, q21⟩ := lawsAt_ok lb 2 hbw hl0 (by omega) (by omega)
    obtain ⟨q3, eq3, q30, q31⟩ := lawsAt_ok lb 3 hbw hl0 (by omega) (by omega)
    have hn : wrap64 (wrap64 (q2 * 256) + q3) = q2 * 256 + q3 := by rw [w64 (x := q2 * 256) (by omega) (by omega), w64 (by omega) (by omega)]
    obtain ⟨n, hN⟩ : ∃ n, n = wrap64 (wrap64 (q2 * 256) + q3) := ⟨_, rfl⟩
    have hn2 : 0 ≤ n ∧ n ≤ 65535 := by rw [hN, hn]; omega
    clear hn
    have hnm : n % 65536 = n := by omega
    have es := implStore_ok m0 x1 m6 [] c2 c3 false c5 0 y0 y1 n (by simp; omega)
    have el := specLoad_ok m0 x1 m6 [] c2 c3 false c5 0 y0 y1 (by omega)
    refine .inr ⟨q2, q3, (storeM m0 x1 y0 y1 n).1, (storeM m0 x1 y0 y1 n).2.1, c2, c3, false, c5, m6, [], 0, (load (storeM m0 x1 y0 y1 n).1 (storeM m0 x1 y0 y1 n).2.1 y0 y1).1, (load m0 x1 y0 y1).1, eq2, eq3, ep, ?_⟩
    rw [← hN]
    have hz := storeM_length m0 x1 y0 y1 n
    have ei := implLoad_ok (storeM m0 x1 y0 y1 n).1 (storeM m0 x1 y0 y1 n).2.1 m6 [] c2 c3 false c5 0 y0 y1 (by omega)
    rcases hy with ⟨hy0, hy1, rfl⟩ | rfl
    · have hs : storeM m0 x1 y0 (-1) n = (m0, x1.set y0.toNat n, true) := by
        unfold storeM
        rw [if_neg (by omega), if_pos (show regOk x1 y0 (-1) = true from decide_eq_true ⟨⟨hy0, by omega⟩, rfl⟩), hnm]
      rw [hs] at es ei ⊢
      have hl1 : load m0 x1 y0 (-1) = (rd x1 y0, true) := by unfold load; rw [if_neg (by omega), if_pos ⟨⟨hy0, by omega⟩, rfl⟩]
      have hl2 : load m0 (x1.set y0.toNat n) y0 (-1) = (n, true) := by
        unfold load; rw [if_neg (by omega), if_pos ⟨⟨hy0, by rw [List.length_set]; omega⟩, rfl⟩, rd_set x1 y0 n hy0 (by omega)]
      rw [hl1] at el; rw [hl2] at ei
      refine .inr ⟨es, ?_, ?_, ?_, ?_⟩
      · rw [hl2]; exact ei
      · rw [hl1]; exact el
      · rw [hl2]
      · rw [implMachOk_ok m0 _ m6 [] c2 c3 false c5 0 (by simp; omega) 1048900 (by omega)]
        congr 1
        unfold machOk
        simp [a1, a2, hlen, a3, a6, all_set hx _ (isWd_of hn2.1 hn2.2)]
        omega
    · have hs : storeM m0 x1 (-1) y1 n = (writeMem m0 y1 n, x1, writeOk m0 y1) := by unfold storeM; rw [if_pos rfl]
      have hl1 : load m0 x1 (-1) y1 = readW m0 y1 := by unfold load; rw [if_pos rfl]
      have hl2 : load (writeMem m0 y1 n) x1 (-1) y1 = readW (writeMem m0 y1 n) y1 := by unfold load; rw [if_pos rfl]
      rw [hs] at es ei ⊢
      simp only [hl1, hl2] at el ei ⊢
      have hwl := writeMem_length m0 y1 n
      cases hwo : writeOk m0 y1 with
      | false =>
        have h2 := readW_ok2 m0 y1
        rw [hwo] at h2 es
        exact .inl ⟨(readW (writeMem m0 y1 n) y1).2, es, ei, by rw [el, ← h2]⟩
      | true =>
        have h2 := readW_ok2 m0 y1
        rw [hwo] at h2 es
        have hc := hwo
        unfold writeOk at hc; rw [decide_eq_true_eq] at hc
        have hwm : writeMem m0 y1 n = m0.set (y1 / 2).toNat n := by unfold writeMem; rw [if_pos hwo, hnm]
        have hr : readW (writeMem m0 y1 n) y1 = (n, true) := by
          unfold readW
          rw [if_pos ⟨hc.1, by omega⟩, hwm]
          have h1 : (y1 / 2).toNat < m0.length := by omega
          simp only [rd, List.getD_eq_getElem?_getD]
          rw [List.getElem?_set_self h1]
          rfl
        rw [hr] at ei ⊢
        refine .inr ⟨es, ei, by rw [el, ← h2], rfl, ?_⟩
        rw [implMachOk_ok _ x1 m6 [] c2 c3 false c5 0 (by simp; omega) 1048900 (by omega)]
        congr 1
        unfold machOk
        rw [hwm]
        simp [a1, hlen, a3, hx, a6, all_set a2 _ (isWd_of hn2.1 hn2.2)]
        omega

end Go.Proofs.Ytiagbfilffbljaa.Pure
