/- Proved: the law FnMachs, as a plain function, answers true at all bytes; no further conditions. -/
import Derived.Test.YtiagbfilffbljaaPFnMachsx1
import Derived.Test.YtiagbfilffbljaaPFnMachsx2
import Derived.Test.YtiagbfilffbljaaPFnMachsx3
import Derived.Test.YtiagbfilffbljaaPFnMachsx4
import Derived.Test.YtiagbfilffbljaaPFnMachsx5
import Derived.Test.YtiagbfilffbljaaPFnMachsx6
import Derived.Test.YtiagbfilffbljaaPFnMachsx7
import Derived.Test.YtiagbfilffbljaaPFnMachsx8
import Derived.Test.YtiagbfilffbljaaPFnMachsx9
import Derived.Test.YtiagbfilffbljaaPFnMachsx10
import Derived.Test.YtiagbfilffbljaaPFnMachsx11
import Derived.Test.YtiagbfilffbljaaVCFnMachs
namespace Go.Proofs.Ytiagbfilffbljaa.Pure
open Go.RowKit Go.Proofs.Ytiagbfilffbljaa.PFnMachs Go.Proofs.YtiagbfilffbljaaW.PrintWords Go.Proofs.YtiagbfilffbljaaW.PrintLast Go.Proofs.Ytiagbfilffbljaa.Common
set_option linter.unusedVariables false
set_option linter.unusedSimpArgs false
theorem sameInts_self (a : List Int) (h : a.length ≤ 4611686018427387904) (k : Nat) (hk : a.length < k) : laws_sameInts.f k a a = some true := by
  unfold laws_sameInts.f
  rw [if_pos rfl]
  have := eq_loop 0 a a rfl h (fun k x => laws_sameInts.l0 k a a x) (fun _ _ => rfl) k hk
  simpa using this
theorem sameMach_self (l0 l1 l6 l7 : List Int) (b2 b3 b4 b5 : Bool) (s : Int) (h : l0.length + l1.length + l6.length + l7.length ≤ 1048576) (k : Nat) (hk : 1048576 < k) : laws_sameMach.f k l0 l1 b2 b3 b4 b5 l6 l7 s l0 l1 b2 b3 b4 b5 l6 l7 s = some true := by
  unfold laws_sameMach.f
  simp only [sameInts_self l0 (by omega) k (by omega), sameInts_self l1 (by omega) k (by omega), sameInts_self l6 (by omega) k (by omega), sameInts_self l7 (by omega) k (by omega), Option.bind_some, if_true, beq_self_eq_true]
theorem rd_in (l : List Int) (i : Int) (h0 : 0 ≤ i) (h1 : i < l.length) : rd l i ∈ l := by
  have hlt : i.toNat < l.length := by omega
  have : rd l i = l[i.toNat] := by simp [rd, List.getD_eq_getElem?_getD, hlt]
  rw [this]; exact List.getElem_mem hlt
theorem l1New_ok (l : List Int) (hl : l.length ≤ 1048576) (k : Nat) (hk : l.length < k) : ∃ h, spec_l1New.f k l = some (l, 0, h) := by
  unfold spec_l1New.f
  generalize wrap64 (766766 + (l.length : Int)) = h
  have H : ∀ (r : Nat) k (h : Int) (i : Nat), l.length - i = r → i ≤ l.length → r < k → ∃ h', spec_l1New.l0 k l h i = some (l, 0, h') := by
    intro r
    induction r with
    | zero =>
      intro k h i hr hi hk
      obtain ⟨k, rfl⟩ : ∃ m, k = m + 1 := ⟨k - 1, by omega⟩
      exact ⟨h, by simp only [spec_l1New.l0]; rw [if_neg (by omega)]⟩
    | succ r ih =>
      intro k h i hr hi hk
      obtain ⟨k, rfl⟩ : ∃ m, k = m + 1 := ⟨k - 1, by omega⟩
      simp only [spec_l1New.l0]
      rw [if_pos (by omega)]
      by_cases h4 : (i : Int) < 4000
      · rw [if_pos h4, if_pos (by omega), w64 (x := (i : Int) + 1) (by omega) (by omega)]
        exact ih k _ (i + 1) (by omega) (by omega) (by omega)
      · rw [if_neg h4]; exact ⟨h, rfl⟩
  exact H l.length k h 0 (by omega) (by omega) hk
theorem l1Byte_ok (l : List Int) (hl : l.length ≤ 1048576) (i : Int) (h0 : 0 ≤ i) (h1 : i ≤ l.length) (h : Int) :
    ∃ x i' h', spec_l1Byte.f l i h = some (x, i', h') ∧ 0 ≤ x ∧ x ≤ 255 ∧ 0 ≤ i' ∧ i' ≤ l.length := by
  unfold spec_l1Byte.f
  simp only [and255]
  by_cases hi : i < (l.length : Int)
  · rw [if_pos hi, if_pos h0, w64 (x := i + 1) (by omega) (by omega)]
    exact ⟨_, _, _, rfl, by omega, by omega, by omega, by omega⟩
  · rw [if_neg hi]
    exact ⟨_, _, _, rfl, by omega, by omega, by omega, by omega⟩
theorem l1Below_ok (l : List Int) (hl : l.length ≤ 1048576) (i : Int) (h0 : 0 ≤ i) (h1 : i ≤ l.length) (h : Int) (n : Int) :
    ∃ x i' h', spec_l1Below.f l i h n = some (x, i', h') ∧ 0 ≤ x ∧ (0 < n → x < n) ∧ (n ≤ 0 → x = 0) ∧ 0 ≤ i' ∧ i' ≤ l.length := by
  unfold spec_l1Below.f
  by_cases hn : n ≤ 0
  · rw [if_pos hn]; exact ⟨_, _, _, rfl, by omega, by omega, by omega, by omega, by omega⟩
  rw [if_neg hn]
  by_cases hn2 : n ≤ 256
  · rw [if_pos hn2]
    obtain ⟨x, i', h', e, x0, x1, i0, i1⟩ := l1Byte_ok l hl i h0 h1 h
    rw [e]; simp only [Option.bind_some]; rw [if_neg (by omega), Int.tmod_eq_emod_of_nonneg x0]
    exact ⟨_, _, _, rfl, Int.emod_nonneg _ (by omega), fun _ => Int.emod_lt_of_pos _ (by omega), by omega, i0, i1⟩
  · rw [if_neg hn2]
    obtain ⟨x, i', h', e, x0, x1, i0, i1⟩ := l1Byte_ok l hl i h0 h1 h
    rw [e]; simp only [Option.bind_some]
    obtain ⟨y, j', g', e, y0, y1, j0, j1⟩ := l1Byte_ok l hl i' i0 i1 h'
    rw [e]; simp only [Option.bind_some]
    obtain ⟨z, k', f', e, z0, z1, k0, k1⟩ := l1Byte_ok l hl j' j0 j1 g'
    rw [e]; simp only [Option.bind_some]
    rw [if_neg (by omega), w64 (x := x * 65536) (by omega) (by omega), w64 (x := y * 256) (by omega) (by omega), w64 (x := x * 65536 + y * 256) (by omega) (by omega), w64 (x := x * 65536 + y * 256 + z) (by omega) (by omega), Int.tmod_eq_emod_of_nonneg (by omega)]
    exact ⟨_, _, _, rfl, Int.emod_nonneg _ (by omega), fun _ => Int.emod_lt_of_pos _ (by omega), by omega, k0, k1⟩
theorem l1Int_ok (l : List Int) (hl : l.length ≤ 1048576) (i : Int) (h0 : 0 ≤ i) (h1 : i ≤ l.length) (h : Int) (xs : List Int) (hx : 0 < xs.length) :
    ∃ x i' h', spec_l1Int.f l i h xs = some (x, i', h') ∧ x ∈ xs ∧ 0 ≤ i' ∧ i' ≤ l.length := by
  unfold spec_l1Int.f
  obtain ⟨x, i', h', e, x0, x1, _, i0, i1⟩ := l1Below_ok l hl i h0 h1 h (xs.length : Int)
  rw [e]; simp only [Option.bind_some]
  have := x1 (by omega)
  rw [if_pos x0, if_pos this]
  exact ⟨_, _, _, rfl, rd_in xs x x0 this, i0, i1⟩
theorem lawsAt_ok (l : List Int) (i : Int) (hb : ∀ x ∈ l, 0 ≤ x ∧ x ≤ 255) (hl : l.length ≤ 1048576) (h0 : 0 ≤ i) (h1 : i ≤ 1000) : ∃ a, laws_at.f l i = some a ∧ 0 ≤ a ∧ a ≤ 255 := by
  unfold laws_at.f
  by_cases hi : i < (l.length : Int)
  · rw [if_pos hi, if_pos h0]
    have := hb _ (rd_in l i h0 hi)
    rw [w64 (by omega) (by omega)]
    exact ⟨_, rfl, by omega, by omega⟩
  · rw [if_neg hi, w64 (x := i * 31) (by omega) (by omega), w64 (x := (l.length : Int) * 7) (by omega) (by omega), w64 (by omega) (by omega), Int.tmod_eq_emod_of_nonneg (by omega)]
    exact ⟨_, rfl, by omega, by omega⟩
def hasX (m r : Int) : Bool := m == 6 || (m == 7 || (r == 7 && (m == 2 || m == 3)))
def opdOk (m r x : Int) : Bool := decide (0 ≤ m ∧ m ≤ 7 ∧ 0 ≤ r ∧ r ≤ 7 ∧ 0 ≤ x ∧ x ≤ 65535) && (hasX m r || x == 0)
def zr (m r x : Int) : Bool := m == 0 && (r == 0 && (x == 0))
theorem zr_iff {m r x : Int} : zr m r x = true ↔ m = 0 ∧ r = 0 ∧ x = 0 := by simp [zr]
def insB (op n : Int) (a b c d : Bool) : Bool :=
  if 1 ≤ op ∧ op ≤ 6 then a && b && decide (n = 0) else if 7 ≤ op ∧ op ≤ 14 then c && b && decide (n = 0) else if op = 15 then c && b && decide (0 ≤ n ∧ n ≤ 7)
  else if op = 16 then c && d && decide (0 ≤ n ∧ n ≤ 7) else if 17 ≤ op ∧ op ≤ 21 then c && d && decide (-128 ≤ n ∧ n ≤ 127) else if op = 22 then c && d && decide (n = 0)
  else if op = 23 then c && d && decide (0 ≤ n ∧ n ≤ 255) else false
def insOk (op sm sr sx dm dr dx n : Int) : Bool := insB op n (opdOk sm sr sx) (opdOk dm dr dx) (zr sm sr sx) (zr dm dr dx)
theorem specHasX_ok (m r x : Int) : spec_HasX.f m r x = some (hasX m r) := by
  unfold spec_HasX.f hasX
  by_cases h6 : m = 6
  · simp [h6]
  by_cases h7 : m = 7
  · simp [h7]
  by_cases h : r = 7
  · by_cases h2 : m = 2
    · simp [h, h2]
    · have a6 : (m == 6) = false := by simpa using h6
      have a7 : (m == 7) = false := by simpa using h7
      have a2 : (m == 2) = false := by simpa using h2
      simp [h6, h7, h, h2, a6, a7, a2]
  simp [h6, h7, h]
theorem l1In_ok (a b c : Int) : spec_l1In.f a b c = some (decide (b ≤ a ∧ a ≤ c)) := by
  unfold spec_l1In.f
  by_cases h : a ≥ b
  · have h' : b ≤ a := h
    rw [if_pos h]; simp [h']
  · have h' : ¬ b ≤ a := h
    rw [if_neg h]; simp [h']
theorem l1Word_ok (l : List Int) (hl : l.length ≤ 1048576) (i : Int) (h0 : 0 ≤ i) (h1 : i ≤ l.length) (h : Int) :
    ∃ x i' h', spec_l1Word.f l i h = some (x, i', h') ∧ 0 ≤ x ∧ x ≤ 65535 ∧ 0 ≤ i' ∧ i' ≤ l.length := by
  unfold spec_l1Word.f
  obtain ⟨x, i', h', e, x0, x1, _, i0, i1⟩ := l1Below_ok l hl i h0 h1 h 65536
  rw [e]; simp only [Option.bind_some]
  have := x1 (by omega)
  obtain ⟨y, j, g, e, hy, j0, j1⟩ := l1Int_ok l hl i' i0 i1 h' [0, 1, 2, 3, 5, 8, 255, 32767, 32768, 65535, x] (by simp)
  rw [e]; simp only [Option.bind_some]
  refine ⟨_, _, _, rfl, ?_, ?_, j0, j1⟩ <;> (simp at hy; omega)
theorem l3Opd_ok (l : List Int) (hl : l.length ≤ 1048576) (i : Int) (h0 : 0 ≤ i) (h1 : i ≤ l.length) (h : Int) :
    ∃ m r x i' h', spec_l3Opd.f l i h = some (m, r, x, i', h') ∧ opdOk m r x = true ∧ 0 ≤ i' ∧ i' ≤ l.length := by
  unfold spec_l3Opd.f
  obtain ⟨m, i', h', e, hm, i0, i1⟩ := l1Int_ok l hl i h0 h1 h [0, 0, 1, 2, 3, 4, 5, 6, 7, 2] (by simp)
  rw [e]; simp only [Option.bind_some]
  obtain ⟨r, j, g, e, hr, j0, j1⟩ := l1Int_ok l hl i' i0 i1 h' [0, 1, 2, 5, 6, 7, 7] (by simp)
  rw [e]; simp only [Option.bind_some, specHasX_ok]
  have bm : 0 ≤ m ∧ m ≤ 7 := by simp at hm; omega
  have br : 0 ≤ r ∧ r ≤ 7 := by simp at hr; omega
  cases hx : hasX m r with
  | true =>
    rw [if_pos rfl]
    obtain ⟨x, k, f, e, x0, x1, k0, k1⟩ := l1Word_ok l hl j j0 j1 g
    rw [e]; simp only [Option.bind_some]
    refine ⟨_, _, _, _, _, rfl, ?_, k0, k1⟩
    unfold opdOk; rw [hx, decide_eq_true (by omega)]; rfl
  | false =>
    rw [if_neg (by simp)]
    refine ⟨_, _, _, _, _, rfl, ?_, j0, j1⟩
    unfold opdOk; rw [hx, decide_eq_true (by omega)]; rfl
theorem insOk_mk (op sm sr sx dm dr dx n : Int) (h1 : 1 ≤ op ∧ op ≤ 23) (hs : if op ≤ 6 then opdOk sm sr sx = true else sm = 0 ∧ sr = 0 ∧ sx = 0) (hd : if op ≤ 15 then opdOk dm dr dx = true else dm = 0 ∧ dr = 0 ∧ dx = 0)
    (hn : if op = 15 ∨ op = 16 then 0 ≤ n ∧ n ≤ 7 else if 17 ≤ op ∧ op ≤ 21 then -128 ≤ n ∧ n ≤ 127 else if op = 23 then 0 ≤ n ∧ n ≤ 255 else n = 0) : insOk op sm sr sx dm dr dx n = true := by
  unfold insOk insB
  by_cases h6 : op ≤ 6
  · rw [if_pos h6] at hs; rw [if_pos (by omega)] at hd; rw [if_neg (by omega), if_neg (by omega), if_neg (by omega)] at hn
    rw [if_pos (by omega), hs, hd]; simp [hn]
  rw [if_neg h6] at hs
  have zs : zr sm sr sx = true := zr_iff.2 hs
  rw [if_neg (by omega), zs]
  by_cases h14 : op ≤ 14
  · rw [if_pos (by omega)] at hd; rw [if_neg (by omega), if_neg (by omega), if_neg (by omega)] at hn
    rw [if_pos (by omega), hd]; simp [hn]
  rw [if_neg (by omega)]
  by_cases h15 : op = 15
  · rw [if_pos (by omega)] at hd; rw [if_pos (by omega)] at hn
    rw [if_pos h15, hd]; simp [hn]
  rw [if_neg (by omega)] at hd
  have zd : zr dm dr dx = true := zr_iff.2 hd
  rw [if_neg h15, zd]
  by_cases h16 : op = 16
  · rw [if_pos (by omega)] at hn; rw [if_pos h16]; simp [hn]
  rw [if_neg h16]
  rw [if_neg (by omega)] at hn
  by_cases h21 : op ≤ 21
  · rw [if_pos (by omega)] at hn; rw [if_pos (by omega)]; simp [hn]
  rw [if_neg (by omega)] at hn; rw [if_neg (by omega)]
  by_cases h23 : op = 23
  · rw [if_pos h23] at hn; rw [if_neg (by omega), if_pos h23]; simp [hn]
  · rw [if_neg h23] at hn; rw [if_pos (by omega)]; simp [hn]
theorem l3J2_ok (l : List Int) (hl : l.length ≤ 1048576) (i : Int) (h0 : 0 ≤ i) (h1 : i ≤ l.length) (h : Int) (op sm sr sx dm dr dx : Int) (ho : 1 ≤ op ∧ op ≤ 23) (hs : if op ≤ 6 then opdOk sm sr sx = true else sm = 0 ∧ sr = 0 ∧ sx = 0) (hd : if op ≤ 15 then opdOk dm dr dx = true else dm = 0 ∧ dr = 0 ∧ dx = 0) (k : Nat) (hk : 2 ≤ k) :
    ∃ n i' h', spec_l3Draw.j1 k l i h op sm sr sx dm dr dx 0 = some (op, sm, sr, sx, dm, dr, dx, n, i', h') ∧ insOk op sm sr sx dm dr dx n = true ∧ 0 ≤ i' ∧ i' ≤ l.length := by
  obtain ⟨k, rfl⟩ : ∃ m, k = m + 2 := ⟨k - 2, by omega⟩
  have e : spec_l3Draw.j1 (k + 2) l i h op sm sr sx dm dr dx 0 = spec_l3Draw.j2 (k + 1) (decide (op = 15 ∨ op = 16)) l i h op sm sr sx dm dr dx 0 := by
    rw [spec_l3Draw.j1]
    by_cases a : op = 15
    · rw [if_pos a]; simp [a]
    · rw [if_neg a]; congr 1; rw [Bool.eq_iff_iff]; simp [a]
  rw [e, spec_l3Draw.j2]
  by_cases a : op = 15 ∨ op = 16
  · rw [if_pos (decide_eq_true a)]
    obtain ⟨x, i', h', e, x0, x1, _, i0, i1⟩ := l1Below_ok l hl i h0 h1 h 8
    rw [e]; simp only [Option.bind_some]
    have := x1 (by omega)
    exact ⟨x, _, _, rfl, insOk_mk _ _ _ _ _ _ _ _ ho hs hd (by rw [if_pos a]; omega), i0, i1⟩
  rw [if_neg (by simpa using a)]
  simp only [l1In_ok, Option.bind_some]
  by_cases b : 17 ≤ op ∧ op ≤ 21
  · rw [if_pos (decide_eq_true b)]
    obtain ⟨x, i', h', e, hx, i0, i1⟩ := l1Int_ok l hl i h0 h1 h [(-128), 127, 0, (-1), 1, 2, (-3)] (by simp)
    rw [e]; simp only [Option.bind_some]
    have : -128 ≤ x ∧ x ≤ 127 := by simp at hx; omega
    exact ⟨x, _, _, rfl, insOk_mk _ _ _ _ _ _ _ _ ho hs hd (by rw [if_neg a, if_pos b]; exact this), i0, i1⟩
  rw [if_neg (by simpa using b)]
  by_cases c : op = 23
  · rw [if_pos c]
    obtain ⟨x, i', h', e, hx, i0, i1⟩ := l1Int_ok l hl i h0 h1 h [0, 1, 2, 255] (by simp)
    rw [e]; simp only [Option.bind_some]
    have : 0 ≤ x ∧ x ≤ 255 := by simp at hx; omega
    exact ⟨x, _, _, rfl, insOk_mk _ _ _ _ _ _ _ _ ho hs hd (by rw [if_neg a, if_neg b, if_pos c]; exact this), i0, i1⟩
  · rw [if_neg c]
    exact ⟨0, _, _, rfl, insOk_mk _ _ _ _ _ _ _ _ ho hs hd (by rw [if_neg a, if_neg b, if_neg c]), h0, h1⟩
theorem l3J0_ok (l : List Int) (hl : l.length ≤ 1048576) (i : Int) (h0 : 0 ≤ i) (h1 : i ≤ l.length) (h : Int) (op sm sr sx : Int) (ho : 1 ≤ op ∧ op ≤ 23) (hs : if op ≤ 6 then opdOk sm sr sx = true else sm = 0 ∧ sr = 0 ∧ sx = 0) (k : Nat) (hk : 3 ≤ k) :
    ∃ dm dr dx n i' h', spec_l3Draw.j0 k l i h op sm sr sx 0 0 0 0 = some (op, sm, sr, sx, dm, dr, dx, n, i', h') ∧ insOk op sm sr sx dm dr dx n = true ∧ 0 ≤ i' ∧ i' ≤ l.length := by
  obtain ⟨k, rfl⟩ : ∃ m, k = m + 1 := ⟨k - 1, by omega⟩
  rw [spec_l3Draw.j0]
  by_cases a : op ≤ 15
  · rw [if_pos a]
    obtain ⟨m, r, x, i', h', e, hok, i0, i1⟩ := l3Opd_ok l hl i h0 h1 h
    rw [e]; simp only [Option.bind_some]
    obtain ⟨n, i2, h2, e, hi, j0, j1⟩ := l3J2_ok l hl i' i0 i1 h' op sm sr sx m r x ho hs (by rw [if_pos a]; exact hok) k (by omega)
    exact ⟨m, r, x, n, i2, h2, e, hi, j0, j1⟩
  · rw [if_neg a]
    obtain ⟨n, i2, h2, e, hi, j0, j1⟩ := l3J2_ok l hl i h0 h1 h op sm sr sx 0 0 0 ho hs (by rw [if_neg a]; exact ⟨rfl, rfl, rfl⟩) k (by omega)
    exact ⟨0, 0, 0, n, i2, h2, e, hi, j0, j1⟩
theorem l3Draw_ok (l : List Int) (hl : l.length ≤ 1048576) (i : Int) (h0 : 0 ≤ i) (h1 : i ≤ l.length) (h : Int) (k : Nat) (hk : 3 ≤ k) :
    ∃ op sm sr sx dm dr dx n i' h', spec_l3Draw.f k l i h = some (op, sm, sr, sx, dm, dr, dx, n, i', h') ∧ insOk op sm sr sx dm dr dx n = true ∧ 0 ≤ i' ∧ i' ≤ l.length := by
  unfold spec_l3Draw.f
  obtain ⟨x, i', h', e, x0, x1, _, i0, i1⟩ := l1Below_ok l hl i h0 h1 h 23
  rw [e]; simp only [Option.bind_some]
  have := x1 (by omega)
  rw [w64 (x := 1 + x) (by omega) (by omega)]
  by_cases a : 1 + x ≤ 6
  · rw [if_pos a]
    obtain ⟨m, r, y, i2, h2, e, hok, j0, j1⟩ := l3Opd_ok l hl i' i0 i1 h'
    rw [e]; simp only [Option.bind_some]
    obtain ⟨dm, dr, dx, n, i3, h3, e, hi, k0, k1⟩ := l3J0_ok l hl i2 j0 j1 h2 (1 + x) m r y (by omega) (by rw [if_pos a]; exact hok) k hk
    exact ⟨_, _, _, _, _, _, _, _, _, _, e, hi, k0, k1⟩
  · rw [if_neg a]
    obtain ⟨dm, dr, dx, n, i3, h3, e, hi, k0, k1⟩ := l3J0_ok l hl i' i0 i1 h' (1 + x) 0 0 0 (by omega) (by rw [if_neg a]; exact ⟨rfl, rfl, rfl⟩) k hk
    exact ⟨_, _, _, _, _, _, _, _, _, _, e, hi, k0, k1⟩
theorem opdOk_bounds {m r x : Int} (h : opdOk m r x = true) : 0 ≤ m ∧ m ≤ 7 ∧ 0 ≤ r ∧ r ≤ 7 ∧ 0 ≤ x ∧ x ≤ 65535 := by
  unfold opdOk at h; simp only [Bool.and_eq_true, decide_eq_true_eq] at h; exact h.1
theorem insOk_elim {op sm sr sx dm dr dx n : Int} (h : insOk op sm sr sx dm dr dx n = true) :
    1 ≤ op ∧ op ≤ 23 ∧ (0 ≤ sm ∧ sm ≤ 7 ∧ 0 ≤ sr ∧ sr ≤ 7 ∧ 0 ≤ sx ∧ sx ≤ 65535) ∧ (0 ≤ dm ∧ dm ≤ 7 ∧ 0 ≤ dr ∧ dr ≤ 7 ∧ 0 ≤ dx ∧ dx ≤ 65535) ∧ (7 ≤ op → sm = 0 ∧ sr = 0 ∧ sx = 0) ∧ (16 ≤ op → dm = 0 ∧ dr = 0 ∧ dx = 0) ∧
    (op ≤ 14 → n = 0) ∧ (op = 15 → 0 ≤ n ∧ n ≤ 7) ∧ (op = 16 → 0 ≤ n ∧ n ≤ 7) ∧ (17 ≤ op → op ≤ 21 → -128 ≤ n ∧ n ≤ 127) ∧ (op = 22 → n = 0) ∧ (op = 23 → 0 ≤ n ∧ n ≤ 255) := by
  unfold insOk insB at h
  split at h
  · simp only [Bool.and_eq_true, decide_eq_true_eq] at h
    have a := opdOk_bounds h.1.1; have b := opdOk_bounds h.1.2
    refine ⟨by omega, by omega, a, b, ?_, ?_, ?_, ?_, ?_, ?_, ?_, ?_⟩ <;> omega
  split at h
  · simp only [Bool.and_eq_true, decide_eq_true_eq, zr_iff] at h
    have b := opdOk_bounds h.1.2
    refine ⟨by omega, by omega, by omega, b, ?_, ?_, ?_, ?_, ?_, ?_, ?_, ?_⟩ <;> omega
  split at h
  · simp only [Bool.and_eq_true, decide_eq_true_eq, zr_iff] at h
    have b := opdOk_bounds h.1.2
    refine ⟨by omega, by omega, by omega, b, ?_, ?_, ?_, ?_, ?_, ?_, ?_, ?_⟩ <;> omega
  split at h
  · simp only [Bool.and_eq_true, decide_eq_true_eq, zr_iff] at h
    refine ⟨by omega, by omega, by omega, by omega, ?_, ?_, ?_, ?_, ?_, ?_, ?_, ?_⟩ <;> omega
  split at h
  · simp only [Bool.and_eq_true, decide_eq_true_eq, zr_iff] at h
    refine ⟨by omega, by omega, by omega, by omega, ?_, ?_, ?_, ?_, ?_, ?_, ?_, ?_⟩ <;> omega
  split at h
  · simp only [Bool.and_eq_true, decide_eq_true_eq, zr_iff] at h
    refine ⟨by omega, by omega, by omega, by omega, ?_, ?_, ?_, ?_, ?_, ?_, ?_, ?_⟩ <;> omega
  split at h
  · simp only [Bool.and_eq_true, decide_eq_true_eq, zr_iff] at h
    refine ⟨by omega, by omega, by omega, by omega, ?_, ?_, ?_, ?_, ?_, ?_, ?_, ?_⟩ <;> omega
  · exact absurd h (by decide)
def bases : List Int := [0, 4096, 8192, 16384, 20480, 24576, 57344, 2560, 2688, 2752, 2816, 3008, 3200, 3264, 64, 2048, 128, 256, 512, 768, 1024, 1280, 0, 34816]
def codeW (op sm sr dm dr n : Int) : Int :=
  bases.getD op.toNat 0 + (if op ≤ 6 then (sm * 8 + sr) * 64 else 0) + (if op ≤ 15 then dm * 8 + dr else 0) + (if op = 15 then n * 64 else if op = 16 then n else if op = 23 then n else if 17 ≤ op ∧ op ≤ 21 then n % 256 else 0)
def tails (op sm sr sx dm dr dx : Int) : List Int := (if (decide (op ≤ 6) && hasX sm sr) = true then [sx] else []) ++ (if (decide (op ≤ 15) && hasX dm dr) = true then [dx] else [])
def encode (op sm sr sx dm dr dx n : Int) : List Int := if insOk op sm sr sx dm dr dx n = true then codeW op sm sr dm dr n :: tails op sm sr sx dm dr dx else []
theorem encode_length (op sm sr sx dm dr dx n : Int) : (encode op sm sr sx dm dr dx n).length ≤ 3 := by
  unfold encode tails; split
  · split <;> split <;> simp
  · simp
theorem specOpdOk_ok (m r x : Int) : spec_OpdOk.f m r x = some (opdOk m r x) := by
  unfold spec_OpdOk.f opdOk
  simp only [l1In_ok, specHasX_ok, Option.bind_some]
  by_cases h1 : 0 ≤ m ∧ m ≤ 7
  · by_cases h2 : 0 ≤ r ∧ r ≤ 7
    · by_cases h3 : 0 ≤ x ∧ x ≤ 65535
      · cases hasX m r <;> simp [h1, h2, h3]
      · have : ¬ (0 ≤ m ∧ m ≤ 7 ∧ 0 ≤ r ∧ r ≤ 7 ∧ 0 ≤ x ∧ x ≤ 65535) := by omega
        simp only [decide_eq_false this, Bool.false_and]; simp [h1, h2, h3]
    · have : ¬ (0 ≤ m ∧ m ≤ 7 ∧ 0 ≤ r ∧ r ≤ 7 ∧ 0 ≤ x ∧ x ≤ 65535) := by omega
      simp only [decide_eq_false this, Bool.false_and]; simp [h1, h2]
  · have : ¬ (0 ≤ m ∧ m ≤ 7 ∧ 0 ≤ r ∧ r ≤ 7 ∧ 0 ≤ x ∧ x ≤ 65535) := by omega
    simp only [decide_eq_false this, Bool.false_and]; simp [h1]
theorem l3Zero_ok (m r x : Int) : spec_l3Zero.f m r x = some (zr m r x) := rfl
set_option maxHeartbeats 4000000 in
theorem specInsOk_ok (op sm sr sx dm dr dx n : Int) (k : Nat) (hk : 2 ≤ k) : spec_InsOk.f k op sm sr sx dm dr dx n = some (insOk op sm sr sx dm dr dx n) := by
  obtain ⟨k, rfl⟩ : ∃ m, k = m + 1 := ⟨k - 1, by omega⟩
  unfold spec_InsOk.f insOk insB
  simp only [l1In_ok, specOpdOk_ok, l3Zero_ok, Option.bind_some, spec_InsOk.j0]
  generalize opdOk sm sr sx = a
  generalize opdOk dm dr dx = b
  generalize zr sm sr sx = c
  generalize zr dm dr dx = d
  cases a <;> cases b <;> cases c <;> cases d <;> simp only [if_true, Bool.false_eq_true, if_false, Bool.true_and, Bool.false_and, Bool.and_false, Bool.not_true, Bool.not_false, decide_eq_true_eq]
  all_goals repeat' split
  all_goals first | rfl | omega | (congr 1; rw [Bool.eq_iff_iff]; simp only [beq_iff_eq, decide_eq_true_eq, Bool.false_eq_true]; omega) | (simp; omega)
theorem specBase_ok (op : Int) (h0 : 0 ≤ op) (h1 : op ≤ 23) : spec_l4Base.f op = some (bases.getD op.toNat 0) := by
  unfold spec_l4Base.f
  simp only [Option.bind_some]
  rw [if_pos h0, if_pos (by simp; omega)]; rfl
theorem specSix_ok (m r x : Int) (h : 0 ≤ m ∧ m ≤ 7 ∧ 0 ≤ r ∧ r ≤ 7) : spec_l4Six.f m r x = some (m * 8 + r) := by
  unfold spec_l4Six.f
  rw [w64 (x := m * 8) (by omega) (by omega), w64 (by omega) (by omega)]
theorem bases_range (op : Int) : 0 ≤ bases.getD op.toNat 0 ∧ bases.getD op.toNat 0 ≤ 57344 := by
  have h : ∀ i, i < 24 → 0 ≤ bases.getD i 0 ∧ bases.getD i 0 ≤ 57344 := by decide
  rcases Nat.lt_or_ge op.toNat 24 with h1 | h1
  · exact h _ h1
  · have : bases.getD op.toNat 0 = 0 := by simp [bases, List.getD_eq_getElem?_getD]; rw [List.getElem?_eq_none (by simpa using h1)]; rfl
    omega
theorem specTail_ok (op sm sr sx dm dr dx n c : Int) (k : Nat) (hk : 2 ≤ k) : spec_Encode.j1 k c op sm sr sx dm dr dx n = some (c :: tails op sm sr sx dm dr dx) := by
  obtain ⟨k, rfl⟩ : ∃ m, k = m + 2 := ⟨k - 2, by omega⟩
  simp only [spec_Encode.j1, spec_Encode.j2, Option.bind_some, specHasX_ok, tails]
  by_cases h6 : op ≤ 6 <;> by_cases h15 : op ≤ 15 <;> cases hasX sm sr <;> cases hasX dm dr <;> simp [h6, h15]
set_option maxHeartbeats 4000000 in
theorem specEncode_ok (op sm sr sx dm dr dx n : Int) (k : Nat) (hk : 5 ≤ k) : spec_Encode.f k op sm sr sx dm dr dx n = some (encode op sm sr sx dm dr dx n) := by
  unfold spec_Encode.f encode
  rw [specInsOk_ok _ _ _ _ _ _ _ _ k (by omega)]
  simp only [Option.bind_some]
  by_cases hi : insOk op sm sr sx dm dr dx n = true
  · obtain ⟨h1, h23, hs, hd, _, _, hn⟩ := insOk_elim hi
    rw [if_pos hi, if_pos hi, specBase_ok op (by omega) h23]
    simp only [Option.bind_some]
    have hb := bases_range op
    unfold codeW
    generalize bases.getD op.toNat 0 = b at *
    by_cases h6 : op ≤ 6
    · rw [if_pos h6, specSix_ok sm sr sx (by omega), specSix_ok dm dr dx (by omega)]
      simp only [Option.bind_some]
      rw [specTail_ok _ _ _ _ _ _ _ _ _ k (by omega), w64 (x := (sm * 8 + sr) * 64) (by omega) (by omega), w64 (x := b + (sm * 8 + sr) * 64) (by omega) (by omega), w64 (by omega) (by omega), if_pos h6, if_pos (by omega), if_neg (by omega), if_neg (by omega), if_neg (by omega), if_neg (by omega)]
      simp
    rw [if_neg h6]
    by_cases h14 : op ≤ 14
    · rw [if_pos h14, specSix_ok dm dr dx (by omega)]
      simp only [Option.bind_some]
      rw [specTail_ok _ _ _ _ _ _ _ _ _ k (by omega), w64 (by omega) (by omega), if_neg h6, if_pos (by omega), if_neg (by omega), if_neg (by omega), if_neg (by omega), if_neg (by omega)]
      simp
    rw [if_neg h14]
    by_cases h15 : op = 15
    · rw [if_pos h15, specSix_ok dm dr dx (by omega)]
      simp only [Option.bind_some]
      rw [specTail_ok _ _ _ _ _ _ _ _ _ k (by omega), w64 (x := n * 64) (by omega) (by omega), w64 (x := b + n * 64) (by omega) (by omega), w64 (by omega) (by omega), if_neg h6, if_pos (by omega), if_pos h15]
      congr 2; omega
    rw [if_neg h15]
    obtain ⟨k, rfl⟩ : ∃ m, k = m + 1 := ⟨k - 1, by omega⟩
    by_cases h16 : op = 16
    · rw [if_pos h16]
      simp only [spec_Encode.j0, if_true]
      rw [specTail_ok _ _ _ _ _ _ _ _ _ k (by omega), w64 (by omega) (by omega), if_neg h6, if_neg (by omega), if_neg h15, if_pos h16]
      simp
    rw [if_neg h16]
    by_cases h23' : op = 23
    · simp only [spec_Encode.j0]
      rw [if_pos (by simpa using h23'), specTail_ok _ _ _ _ _ _ _ _ _ k (by omega), w64 (by omega) (by omega), if_neg h6, if_neg (by omega), if_neg h15, if_neg h16, if_pos h23']
      simp
    simp only [spec_Encode.j0, and255]
    rw [if_neg (by simpa using h23')]
    by_cases h21 : op ≤ 21
    · rw [if_pos h21, specTail_ok _ _ _ _ _ _ _ _ _ k (by omega), w64 (by omega) (by omega), if_neg h6, if_neg (by omega), if_neg h15, if_neg h16, if_neg h23', if_pos (by omega)]
      simp
    · rw [if_neg h21, specTail_ok _ _ _ _ _ _ _ _ _ k (by omega), if_neg h6, if_neg (by omega), if_neg h15, if_neg h16, if_neg h23', if_neg (by omega)]
      simp
  · rw [if_neg hi, if_neg hi]
theorem l1Once_ok (l : List Int) (hl : l.length ≤ 1048576) (i : Int) (h0 : 0 ≤ i) (h1 : i ≤ l.length) (h : Int) (n : Int) :
    ∃ b i' h', spec_l1Once.f l i h n = some (b, i', h') ∧ 0 ≤ i' ∧ i' ≤ l.length := by
  unfold spec_l1Once.f
  obtain ⟨x, i', h', e, x0, x1, _, i0, i1⟩ := l1Below_ok l hl i h0 h1 h n
  rw [e]; simp only [Option.bind_some]
  exact ⟨_, _, _, rfl, i0, i1⟩
def readW (mem : List Int) (a : Int) : Int × Bool := if (0 ≤ a ∧ a ≤ 510 ∧ a % 2 = 0) ∧ a / 2 < mem.length then (rd mem (a / 2), true) else (0, false)
theorem half_ok (a : Int) (h0 : 0 ≤ a) (h1 : a ≤ 510) : wrap64 (Int.tdiv a 2) = a / 2 ∧ Int.tmod a 2 = a % 2 := by
  rw [Int.tdiv_eq_ediv_of_nonneg h0, Int.tmod_eq_emod_of_nonneg h0]
  exact ⟨w64 (by omega) (by omega), rfl⟩
def isWd (x : Int) : Bool := decide (0 ≤ x ∧ x ≤ 65535)
def newOk (l0 : List Int) (a1 a2 : Int) (l3 : List Int) : Bool := decide (((0 ≤ a1 ∧ a1 ≤ 510) ∧ a1 % 2 = 0) ∧ (l0.length : Int) ≤ 256 - a1 / 2 ∧ l0.all isWd = true ∧ l3.all isWd = true ∧ (0 ≤ a2 ∧ a2 ≤ 65535) ∧ l3.length ≤ 50)
def newM (l0 : List Int) (a1 a2 : Int) (l3 : List Int) : List Int × List Int × Bool × Bool × Bool × Bool × List Int × List Int × Int :=
  if newOk l0 a1 a2 l3 = true then (newMem l0 (a1 / 2).toNat, newRegs a2, false, false, false, false, l3, [], 0) else ([], [], false, false, false, false, [], [], 0)
theorem newM_ok {l0 : List Int} {a1 a2 : Int} {l3 : List Int} (h1 : (0 ≤ a1 ∧ a1 ≤ 510) ∧ a1 % 2 = 0) (h2 : (l0.length : Int) ≤ 256 - a1 / 2) (h3 : l0.all isWd = true) (h4 : l3.all isWd = true) (h5 : 0 ≤ a2 ∧ a2 ≤ 65535) (h6 : l3.length ≤ 50) :
    newM l0 a1 a2 l3 = (newMem l0 (a1 / 2).toNat, newRegs a2, false, false, false, false, l3, [], 0) := if_pos (decide_eq_true ⟨h1, h2, h3, h4, h5, h6⟩)
theorem newM_not {l0 : List Int} {a1 a2 : Int} {l3 : List Int} (h : ¬ (((0 ≤ a1 ∧ a1 ≤ 510) ∧ a1 % 2 = 0) ∧ (l0.length : Int) ≤ 256 - a1 / 2 ∧ l0.all isWd = true ∧ l3.all isWd = true ∧ (0 ≤ a2 ∧ a2 ≤ 65535) ∧ l3.length ≤ 50)) :
    newM l0 a1 a2 l3 = ([], [], false, false, false, false, [], [], 0) := if_neg (fun e => h (of_decide_eq_true e))
theorem newMem_length (l0 : List Int) (q : Nat) (h : q + l0.length ≤ 256) : (newMem l0 q).length = 256 := by
  unfold newMem
  simp only [List.length_append, List.length_take, List.length_drop, List.length_replicate]
  omega
theorem newRegs_length (a2 : Int) : (newRegs a2).length = 8 := by simp [newRegs]
theorem specWords_ok (l : List Int) (hl : l.length ≤ 4611686018427387904) (k : Nat) (hk : l.length < k) : spec_l5Words.f k l = some (l.all isWd) := by
  unfold spec_l5Words.f
  have H : ∀ (r k i : Nat), l.length - i = r → i ≤ l.length → r < k → spec_l5Words.l0 k l i = some ((l.drop i).all isWd) := by
    intro r
    induction r with
    | zero =>
      intro k i hr hi hk
      obtain ⟨k, rfl⟩ : ∃ m, k = m + 1 := ⟨k - 1, by omega⟩
      simp only [spec_l5Words.l0]
      rw [if_neg (by omega), List.drop_of_length_le (by omega)]; rfl
    | succ r ih =>
      intro k i hr hi hk
      obtain ⟨k, rfl⟩ : ∃ m, k = m + 1 := ⟨k - 1, by omega⟩
      have hlt : i < l.length := by omega
      simp only [spec_l5Words.l0, l1In_ok, Option.bind_some]
      rw [if_pos (by omega), if_pos (by omega), rd_at l i hlt, w64 (by omega) (by omega), List.drop_eq_getElem_cons hlt, List.all_cons]
      have e : ((i : Int) + 1) = ((i + 1 : Nat) : Int) := by omega
      rw [e, ih k (i + 1) (by omega) (by omega) (by omega)]
      unfold isWd
      cases decide (0 ≤ l[i] ∧ l[i] ≤ 65535) <;> simp
  have := H l.length k 0 (by omega) (by omega) hk
  simpa using this
def memAt (l0 : List Int) (q i : Nat) : List Int := (List.replicate 256 0).take q ++ (l0.take i ++ (List.replicate 256 0).drop (q + i))
theorem memAt_length (l0 : List Int) (q i : Nat) (hi : i ≤ l0.length) (h : q + l0.length ≤ 256) : (memAt l0 q i).length = 256 := by
  unfold memAt
  simp only [List.length_append, List.length_take, List.length_drop, List.length_replicate]
  omega
theorem memAt_set (l0 : List Int) (q i : Nat) (hi : i < l0.length) (h : q + l0.length ≤ 256) : (memAt l0 q i).set (q + i) (rd l0 (i : Int)) = memAt l0 q (i + 1) := by
  unfold memAt
  have h1 : ((List.replicate 256 (0 : Int)).take q).length = q := by rw [List.length_take, List.length_replicate]; omega
  have h2 : (l0.take i).length = i := by rw [List.length_take]; omega
  have h3 : q + i < (List.replicate 256 (0 : Int)).length := by rw [List.length_replicate]; omega
  have h4 : rd l0 (i : Int) = l0[i] := by simp [rd, List.getD_eq_getElem?_getD, hi]
  rw [List.set_append_right _ _ (by omega), h1, Nat.add_sub_cancel_left, List.set_append_right _ _ (by omega), h2, Nat.sub_self, List.drop_eq_getElem_cons h3, List.set_cons_zero, h4, List.take_succ_eq_append_getElem hi, List.append_assoc, List.singleton_append, Nat.add_assoc]
theorem newLoop (l0 : List Int) (a1 a2 : Int) (l3 : List Int) (q : Nat) (hq : wrap64 (Int.tdiv a1 2) = (q : Int)) (h : q + l0.length ≤ 256) : ∀ (d i k : Nat), l0.length - i = d → i ≤ l0.length → d < k →
    spec_MachNew.l0 k l0 a1 a2 (i : Int) (memAt l0 q i) (List.replicate 8 0) false false false false l3 0 = some (newMem l0 q, newRegs a2, false, false, false, false, l3, [], 0) := by
  intro d
  induction d with
  | zero =>
    intro i k hd hi hk
    obtain ⟨k, rfl⟩ : ∃ m, k = m + 1 := ⟨k - 1, by omega⟩
    simp only [spec_MachNew.l0]
    rw [if_neg (by omega), if_pos (by simp), if_pos (by simp)]
    have e : i = l0.length := by omega
    subst e
    simp only [memAt, List.take_length]
    rfl
  | succ d ih =>
    intro i k hd hi hk
    obtain ⟨k, rfl⟩ : ∃ m, k = m + 1 := ⟨k - 1, by omega⟩
    simp only [spec_MachNew.l0]
    have w1 : wrap64 ((q : Int) + (i : Int)) = ((q + i : Nat) : Int) := by rw [w64 (by omega) (by omega)]; omega
    have w2 : wrap64 ((i : Int) + 1) = ((i + 1 : Nat) : Int) := by rw [w64 (by omega) (by omega)]; omega
    rw [hq, w1, w2, if_pos (by omega), if_pos (by omega), if_pos (by omega), if_pos (by rw [memAt_length l0 q i hi h]; omega), Int.toNat_natCast, memAt_set l0 q i (by omega) h]
    exact ih (i + 1) k (by omega) (by omega) (by omega)
theorem specNew_ok (l0 : List Int) (a1 a2 : Int) (l3 : List Int) (h0 : l0.length ≤ 1048576) (h3 : l3.length ≤ 1048576) (k : Nat) (hk : 1048578 < k) : spec_MachNew.f k l0 a1 a2 l3 = some (newM l0 a1 a2 l3) := by
  obtain ⟨k', rfl⟩ : ∃ m, k = m + 1 := ⟨k - 1, by omega⟩
  have bad : spec_MachNew.j0 (k' + 1) l0 a1 a2 l3 true = some ([], [], false, false, false, false, [], [], 0) := rfl
  unfold spec_MachNew.f
  simp only [l1In_ok, Option.bind_some, decide_eq_true_eq, specWords_ok l0 (by omega) (k' + 1) (by omega), specWords_ok l3 (by omega) (k' + 1) (by omega), bad]
  by_cases c1 : 0 ≤ a1 ∧ a1 ≤ 510
  · obtain ⟨e1, e2⟩ := half_ok a1 c1.1 c1.2
    have e3 : wrap64 (256 - a1 / 2) = 256 - a1 / 2 := w64 (by omega) (by omega)
    rw [if_pos c1, e1, e2, e3]
    by_cases c2 : a1 % 2 = 0
    · rw [if_pos c2]
      by_cases c3 : (l0.length : Int) > 256 - a1 / 2
      · rw [if_pos c3, newM_not (fun h => by omega)]
      · rw [if_neg c3]
        by_cases c4 : l0.all isWd = true
        · rw [if_pos c4]
          by_cases c5 : 0 ≤ a2 ∧ a2 ≤ 65535
          · rw [if_pos c5]
            by_cases c6 : (l3.length : Int) > 50
            · rw [if_pos c6, newM_not (fun h => by omega)]
            · rw [if_neg c6]
              cases c7 : l3.all isWd with
              | false => rw [newM_not (fun h => by rw [c7] at h; exact absurd h.2.2.2.1 (by decide))]; exact bad
              | true =>
                rw [newM_ok ⟨c1, c2⟩ (by omega) c4 c7 c5 (by omega)]
                obtain ⟨q, hq⟩ := Int.eq_ofNat_of_zero_le (show 0 ≤ a1 / 2 by omega)
                rw [hq] at e1 ⊢
                rw [Int.toNat_natCast]
                have hm : (List.replicate 256 (0 : Int)) = memAt l0 q 0 := by unfold memAt; rw [List.take_zero, List.nil_append, Nat.add_zero, List.take_append_drop]
                show spec_MachNew.j0 (k' + 1) l0 a1 a2 l3 false = _
                simp only [spec_MachNew.j0]
                rw [if_neg (by decide), if_pos (by decide), if_pos (by decide)]
                simp only [Option.bind_some, List.nil_append, List.length_nil]
                rw [if_pos (by omega), hm]
                exact newLoop l0 a1 a2 l3 q e1 (by omega) l0.length 0 k' (by omega) (by omega) (by omega)
          · rw [if_neg c5, newM_not (fun h => c5 h.2.2.2.2.1)]
        · rw [if_neg c4, newM_not (fun h => c4 h.2.2.1)]
    · rw [if_neg c2, newM_not (fun h => c2 h.1.2)]
  · rw [if_neg c1, newM_not (fun h => c1 h.1.1)]
theorem isWd_of {x : Int} (h0 : 0 ≤ x) (h1 : x ≤ 65535) : isWd x = true := decide_eq_true ⟨h0, h1⟩
theorem all_set {l : List Int} (h : l.all isWd = true) (i : Nat) {v : Int} (hv : isWd v = true) : (l.set i v).all isWd = true := by
  rw [List.all_eq_true] at h ⊢
  intro x hx
  rcases List.mem_or_eq_of_mem_set hx with h1 | h1
  · exact h x h1
  · exact h1 ▸ hv
theorem encode_words (op sm sr sx dm dr dx n : Int) : (encode op sm sr sx dm dr dx n).all isWd = true := by
  unfold encode
  split
  · rename_i hi
    obtain ⟨o1, o2, ⟨s1, s2, s3, s4, s5, s6⟩, ⟨d1, d2, d3, d4, d5, d6⟩, _, _, n1, n2, n3, n4, n5, n6⟩ := insOk_elim hi
    have hc : 0 ≤ codeW op sm sr dm dr n ∧ codeW op sm sr dm dr n ≤ 65535 := by
      have ho : op = 1 ∨ op = 2 ∨ op = 3 ∨ op = 4 ∨ op = 5 ∨ op = 6 ∨ op = 7 ∨ op = 8 ∨ op = 9 ∨ op = 10 ∨ op = 11 ∨ op = 12 ∨ op = 13 ∨ op = 14 ∨ op = 15 ∨ op = 16 ∨ op = 17 ∨ op = 18 ∨ op = 19 ∨ op = 20 ∨ op = 21 ∨ op = 22 ∨ op = 23 := by omega
      clear hi
      rcases ho with rfl | rfl | rfl | rfl | rfl | rfl | rfl | rfl | rfl | rfl | rfl | rfl | rfl | rfl | rfl | rfl | rfl | rfl | rfl | rfl | rfl | rfl | rfl <;> simp [codeW, bases] <;> omega
    unfold tails
    rw [List.all_cons, isWd_of hc.1 hc.2, Bool.true_and, List.all_append, Bool.and_eq_true]
    constructor
    · split
      · simp [isWd_of s5 s6]
      · rfl
    · split
      · simp [isWd_of d5 d6]
      · rfl
  · rfl
theorem l4Words_words (l : List Int) (hl : l.length ≤ 1048576) : ∀ (r k : Nat) (d : List Int) (i h : Int), d.all isWd = true → d.length + 3 * r ≤ 1000 → r ≤ 300 → 0 ≤ i → i ≤ l.length → r + 5 < k →
    ∃ d' i' h', spec_l4Words.l0 k d (r : Int) l i h = some (d', i', h') ∧ d'.all isWd = true ∧ d'.length ≤ d.length + 3 * r ∧ 0 ≤ i' ∧ i' ≤ l.length := by
  intro r
  induction r with
  | zero =>
    intro k d i h hd hn hr h0 h1 hk
    obtain ⟨k, rfl⟩ : ∃ m, k = m + 1 := ⟨k - 1, by omega⟩
    rw [spec_l4Words.l0, if_neg (by omega)]
    exact ⟨d, i, h, rfl, hd, by omega, h0, h1⟩
  | succ r ih =>
    intro k d i h hd hn hr h0 h1 hk
    obtain ⟨k, rfl⟩ : ∃ m, k = m + 1 := ⟨k - 1, by omega⟩
    have hw : wrap64 (((r + 1 : Nat) : Int) - 1) = (r : Int) := by rw [w64 (by omega) (by omega)]; omega
    rw [spec_l4Words.l0, if_pos (by omega), hw]
    obtain ⟨b, i', h', e, i0, i1⟩ := l1Once_ok l hl i h0 h1 h 8
    rw [e]; simp only [Option.bind_some]
    cases b with
    | true =>
      obtain ⟨x, j, g, e, x0, x1, j0, j1⟩ := l1Word_ok l hl i' i0 i1 h'
      rw [if_pos rfl, e]; simp only [Option.bind_some]
      rw [if_pos (by omega)]
      obtain ⟨d', i2, h2, e2, a2, l2, q0, q1⟩ := ih k (d ++ [x]) j g (by simp [hd, isWd_of x0 x1]) (by simp; omega) (by omega) j0 j1 (by omega)
      exact ⟨d', i2, h2, e2, a2, by simp at l2; omega, q0, q1⟩
    | false =>
      obtain ⟨op, sm, sr, sx, dm, dr, dx, n, j, g, e, hi, j0, j1⟩ := l3Draw_ok l hl i' i0 i1 h' k (by omega)
      rw [if_neg (by simp), e]; simp only [Option.bind_some]
      rw [specEncode_ok _ _ _ _ _ _ _ _ k (by omega)]; simp only [Option.bind_some]
      have hel := encode_length op sm sr sx dm dr dx n
      rw [if_pos (by omega)]
      obtain ⟨d', i2, h2, e2, a2, l2, q0, q1⟩ := ih k (d ++ encode op sm sr sx dm dr dx n) j g (by simp [hd, encode_words]) (by simp; omega) (by omega) j0 j1 (by omega)
      exact ⟨d', i2, h2, e2, a2, by simp at l2; omega, q0, q1⟩
theorem l4Words_ok (l : List Int) (hl : l.length ≤ 1048576) (i : Int) (h0 : 0 ≤ i) (h1 : i ≤ l.length) (h : Int) (m : Int) (hm : 0 < m) (hm2 : m ≤ 256) (k : Nat) (hk : 300 < k) :
    ∃ d i' h', spec_l4Words.f k l i h m = some (d, i', h') ∧ d.all isWd = true ∧ (d.length : Int) ≤ 3 * m ∧ 0 ≤ i' ∧ i' ≤ l.length := by
  unfold spec_l4Words.f
  obtain ⟨x, i1, g, e, x0, x1, _, a0, a1⟩ := l1Below_ok l hl i h0 h1 h m
  have x2 := x1 hm
  rw [e]; simp only [Option.bind_some]
  obtain ⟨r, rfl⟩ := Int.eq_ofNat_of_zero_le x0
  obtain ⟨d', i2, h2, e2, a2, l2, q0, q1⟩ := l4Words_words l hl r k [] i1 g rfl (by simp; omega) (by omega) a0 a1 (by omega)
  exact ⟨d', i2, h2, e2, a2, by simp at l2; omega, q0, q1⟩
theorem newMem_words (l0 : List Int) (q : Nat) (h : l0.all isWd = true) : (newMem l0 q).all isWd = true := by
  have hr : (List.replicate 256 (0 : Int)).all isWd = true := by decide +kernel
  rw [List.all_eq_true] at hr h ⊢
  intro x hx
  unfold newMem at hx
  rcases List.mem_append.1 hx with hx | hx
  · exact hr x (List.mem_of_mem_take hx)
  · rcases List.mem_append.1 hx with hx | hx
    · exact h x hx
    · exact hr x (List.mem_of_mem_drop hx)
theorem newRegs_words (a2 : Int) (h : isWd a2 = true) : (newRegs a2).all isWd = true := by
  unfold newRegs
  exact all_set (all_set (by decide) 6 (by decide)) 7 h
theorem l5Mem (l : List Int) (hl : l.length ≤ 1048576) (m1 : List Int) (b2 b3 b4 b5 : Bool) (m6 m7 : List Int) (s : Int) : ∀ (r j k : Nat) (m0 : List Int) (i h : Int), j + r = 8 → m0.length = 256 → m0.all isWd = true → 0 ≤ i → i ≤ l.length → r < k →
    ∃ m0' i' h', spec_l5Draw.l2 k (j : Int) l i h m0 m1 b2 b3 b4 b5 m6 m7 s = some (m0', m1, b2, b3, b4, b5, m6, m7, s, i', h') ∧ m0'.length = 256 ∧ m0'.all isWd = true ∧ 0 ≤ i' ∧ i' ≤ l.length := by
  intro r
  induction r with
  | zero =>
    intro j k m0 i h hj hm hw h0 h1 hk
    obtain ⟨k, rfl⟩ : ∃ m, k = m + 1 := ⟨k - 1, by omega⟩
    rw [spec_l5Draw.l2, if_neg (by omega)]
    exact ⟨m0, i, h, rfl, hm, hw, h0, h1⟩
  | succ r ih =>
    intro j k m0 i h hj hm hw h0 h1 hk
    obtain ⟨k, rfl⟩ : ∃ m, k = m + 1 := ⟨k - 1, by omega⟩
    rw [spec_l5Draw.l2, if_pos (by omega)]
    obtain ⟨x, i1, g1, e1, x0, x1, _, p0, p1⟩ := l1Below_ok l hl i h0 h1 h 32
    have x2 := x1 (by omega)
    rw [e1]; simp only [Option.bind_some]
    obtain ⟨y, i2, g2, e2, y1, q0, q1⟩ := l1Int_ok l hl i1 p0 p1 g1 [0, 2, 100, 64, 65535] (by decide)
    rw [e2]; simp only [Option.bind_some]
    rw [if_pos x0, if_pos (by omega)]
    obtain ⟨z, i3, g3, e3, z0, z1, _, r0, r1⟩ := l1Below_ok l hl i2 q0 q1 g2 60
    have z2 := z1 (by omega)
    rw [e3]; simp only [Option.bind_some]
    obtain ⟨v, i4, g4, e4, v0, v1, t0, t1⟩ := l1Word_ok l hl i3 r0 r1 g3
    rw [e4]; simp only [Option.bind_some]
    have w1 : wrap64 (80 + z) = 80 + z := w64 (by omega) (by omega)
    have w2 : wrap64 ((j : Int) + 1) = ((j + 1 : Nat) : Int) := by rw [w64 (by omega) (by omega)]; omega
    rw [w1, w2]
    clear w1 w2
    rw [if_pos (by omega), if_pos (by omega)]
    have yw : isWd y = true := by
      simp only [List.mem_cons, List.not_mem_nil, or_false] at y1
      exact isWd_of (by omega) (by omega)
    exact ih (j + 1) k _ i4 g4 (by omega) (by simp [hm]) (all_set (all_set hw _ yw) _ (isWd_of v0 v1)) t0 t1 (by omega)
theorem l5Regs (l : List Int) (hl : l.length ≤ 1048576) (m0 : List Int) (hm0 : m0.length = 256) (hw0 : m0.all isWd = true) (b2 b3 b4 b5 : Bool) (m6 m7 : List Int) (s : Int) : ∀ (r j k : Nat) (m1 : List Int) (i h : Int), j + r = 6 → m1.length = 8 → m1.all isWd = true → 0 ≤ i → i ≤ l.length → r + 10 < k →
    ∃ m0' m1' c2 c3 c5 i' h', spec_l5Draw.l1 k (j : Int) l i h m0 m1 b2 b3 b4 b5 m6 m7 s = some (m0', m1', c2, c3, b4, c5, m6, m7, s, i', h') ∧ m0'.length = 256 ∧ m0'.all isWd = true ∧ m1'.length = 8 ∧ m1'.all isWd = true ∧ 0 ≤ i' ∧ i' ≤ l.length := by
  intro r
  induction r with
  | zero =>
    intro j k m1 i h hj hm hw h0 h1 hk
    obtain ⟨k, rfl⟩ : ∃ m, k = m + 1 := ⟨k - 1, by omega⟩
    rw [spec_l5Draw.l1, if_neg (by omega)]
    obtain ⟨y, i1, g1, e1, y1, p0, p1⟩ := l1Int_ok l hl i h0 h1 h [512, 500, 400] (by decide)
    rw [e1]; simp only [Option.bind_some]
    rw [if_pos (by omega)]
    obtain ⟨c2, i2, g2, e2, q0, q1⟩ := l1Once_ok l hl i1 p0 p1 g1 2
    rw [e2]; simp only [Option.bind_some]
    obtain ⟨c3, i3, g3, e3, r0, r1⟩ := l1Once_ok l hl i2 q0 q1 g2 2
    rw [e3]; simp only [Option.bind_some]
    obtain ⟨c5, i4, g4, e4, s0, s1⟩ := l1Once_ok l hl i3 r0 r1 g3 2
    rw [e4]; simp only [Option.bind_some]
    have yw : isWd y = true := by
      simp only [List.mem_cons, List.not_mem_nil, or_false] at y1
      exact isWd_of (by omega) (by omega)
    obtain ⟨m0', i5, g5, e5, a1, a2, t0, t1⟩ := l5Mem l hl (m1.set (6 : Int).toNat y) c2 c3 b4 c5 m6 m7 s 8 0 k m0 i4 g4 rfl hm0 hw0 s0 s1 (by omega)
    exact ⟨m0', _, c2, c3, c5, i5, g5, e5, a1, a2, by simp [hm], all_set hw _ yw, t0, t1⟩
  | succ r ih =>
    intro j k m1 i h hj hm hw h0 h1 hk
    obtain ⟨k, rfl⟩ : ∃ m, k = m + 1 := ⟨k - 1, by omega⟩
    rw [spec_l5Draw.l1, if_pos (by omega)]
    obtain ⟨x, i1, g1, e1, x0, x1, _, p0, p1⟩ := l1Below_ok l hl i h0 h1 h 256
    have x2 := x1 (by omega)
    rw [e1]; simp only [Option.bind_some]
    have w1 : wrap64 (x * 2) = x * 2 := w64 (by omega) (by omega)
    obtain ⟨y, i2, g2, e2, y1, q0, q1⟩ := l1Int_ok l hl i1 p0 p1 g1 [0, 2, 100, 200, 510, 3, wrap64 (x * 2)] (by simp)
    rw [e2]; simp only [Option.bind_some]
    have w2 : wrap64 ((j : Int) + 1) = ((j + 1 : Nat) : Int) := by rw [w64 (by omega) (by omega)]; omega
    rw [w1] at y1
    clear w1
    rw [w2]
    clear w2
    rw [if_pos (by omega), if_pos (by omega)]
    have yw : isWd y = true := by
      simp only [List.mem_cons, List.not_mem_nil, or_false] at y1
      exact isWd_of (by omega) (by omega)
    exact ih (j + 1) k _ i2 g2 (by omega) (by simp [hm]) (all_set hw _ yw) q0 q1 (by omega)
theorem l5In (l : List Int) (hl : l.length ≤ 1048576) : ∀ (r k : Nat) (d : List Int) (i h : Int), d.length + r ≤ 3 → d.all isWd = true → 0 ≤ i → i ≤ l.length → r + 1048600 < k →
    ∃ m0 m1 c2 c3 c5 m6 i' h', spec_l5Draw.l0 k d (r : Int) l i h = some (m0, m1, c2, c3, false, c5, m6, [], 0, i', h') ∧ m0.length = 256 ∧ m0.all isWd = true ∧ m1.length = 8 ∧ m1.all isWd = true ∧ m6.length ≤ 3 ∧ m6.all isWd = true ∧ 0 ≤ i' ∧ i' ≤ l.length := by
  intro r
  induction r with
  | zero =>
    intro k d i h hd hw h0 h1 hk
    obtain ⟨k, rfl⟩ : ∃ m, k = m + 1 := ⟨k - 1, by omega⟩
    rw [spec_l5Draw.l0, if_neg (by omega)]
    obtain ⟨d2, i1, g1, e1, w1, n1, p0, p1⟩ := l4Words_ok l hl i h0 h1 h 12 (by omega) (by omega) k (by omega)
    rw [e1]; simp only [Option.bind_some]
    rw [specNew_ok d2 64 64 d (by omega) (by omega) k (by omega), newM_ok ⟨⟨by omega, by omega⟩, by decide⟩ (by omega) w1 hw ⟨by omega, by omega⟩ (by omega)]
    simp only [Option.bind_some]
    obtain ⟨m0, m1, c2, c3, c5, i2, g2, e2, a1, a2, a3, a4, q0, q1⟩ := l5Regs l hl (newMem d2 (64 / 2 : Int).toNat) (newMem_length _ _ (by simp; omega)) (newMem_words _ _ w1) false false false false d [] 0 6 0 k (newRegs 64) i1 g1 rfl (newRegs_length _) (newRegs_words _ (by decide)) p0 p1 (by omega)
    exact ⟨m0, m1, c2, c3, c5, d, i2, g2, e2, a1, a2, a3, a4, by omega, hw, q0, q1⟩
  | succ r ih =>
    intro k d i h hd hw h0 h1 hk
    obtain ⟨k, rfl⟩ : ∃ m, k = m + 1 := ⟨k - 1, by omega⟩
    rw [spec_l5Draw.l0, if_pos (by omega)]
    obtain ⟨v, i1, g1, e1, v0, v1, p0, p1⟩ := l1Word_ok l hl i h0 h1 h
    rw [e1]; simp only [Option.bind_some]
    have w2 : wrap64 (((r + 1 : Nat) : Int) - 1) = (r : Int) := by rw [w64 (by omega) (by omega)]; omega
    rw [if_pos (by omega), w2]
    clear w2
    exact ih k (d ++ [v]) i1 g1 (by simp; omega) (by simp [hw, isWd_of v0 v1]) p0 p1 (by omega)
theorem l5Draw_ok (l : List Int) (hl : l.length ≤ 1048576) (i : Int) (h0 : 0 ≤ i) (h1 : i ≤ l.length) (h : Int) (k : Nat) (hk : 1048603 < k) :
    ∃ m0 m1 c2 c3 c5 m6 i' h', spec_l5Draw.f k l i h = some (m0, m1, c2, c3, false, c5, m6, [], 0, i', h') ∧ m0.length = 256 ∧ m0.all isWd = true ∧ m1.length = 8 ∧ m1.all isWd = true ∧ m6.length ≤ 3 ∧ m6.all isWd = true ∧ 0 ≤ i' ∧ i' ≤ l.length := by
  unfold spec_l5Draw.f
  obtain ⟨x, i1, g1, e1, x0, x1, _, p0, p1⟩ := l1Below_ok l hl i h0 h1 h 4
  have x2 := x1 (by omega)
  rw [e1]; simp only [Option.bind_some]
  obtain ⟨r, rfl⟩ := Int.eq_ofNat_of_zero_le x0
  exact l5In l hl r k [] i1 g1 (by simp; omega) rfl p0 p1 (by omega)
theorem within_ok (a b c : Int) : impl_within.f a b c = some (decide (b ≤ a ∧ a ≤ c)) := by
  unfold impl_within.f
  by_cases h : a ≥ b
  · have h' : b ≤ a := h
    rw [if_pos h]; simp [h']
  · have h' : ¬ b ≤ a := h
    rw [if_neg h]; simp [h']
theorem isAddr_ok (a : Int) : impl_isAddr.f a = some (decide (0 ≤ a ∧ a ≤ 510 ∧ a % 2 = 0)) := by
  unfold impl_isAddr.f
  simp only [within_ok, Option.bind_some]
  by_cases h : 0 ≤ a ∧ a ≤ 510
  · rw [if_pos (decide_eq_true h), (half_ok a h.1 h.2).2]
    congr 1; rw [Bool.eq_iff_iff]; simp; omega
  · rw [if_neg (by simpa using h)]; congr 1; symm; rw [decide_eq_false_iff_not]; omega
theorem implWordsOk_ok (l : List Int) (hl : l.length ≤ 4611686018427387904) (k : Nat) (hk : l.length < k) : impl_wordsOk.f k l = some (l.all isWd) := by
  unfold impl_wordsOk.f
  have H : ∀ (r k i : Nat), l.length - i = r → i ≤ l.length → r < k → impl_wordsOk.l0 k l (l.length : Int) i = some ((l.drop i).all isWd) := by
    intro r
    induction r with
    | zero =>
      intro k i hr hi hk
      obtain ⟨k, rfl⟩ : ∃ m, k = m + 1 := ⟨k - 1, by omega⟩
      simp only [impl_wordsOk.l0]
      rw [if_neg (by omega), List.drop_of_length_le (by omega)]; rfl
    | succ r ih =>
      intro k i hr hi hk
      obtain ⟨k, rfl⟩ : ∃ m, k = m + 1 := ⟨k - 1, by omega⟩
      have hlt : i < l.length := by omega
      simp only [impl_wordsOk.l0, impl_isWord.f, within_ok, Option.bind_some]
      rw [if_pos (by omega), if_pos (by omega), if_pos (by omega), rd_at l i hlt, w64 (by omega) (by omega), List.drop_eq_getElem_cons hlt, List.all_cons]
      have e : ((i : Int) + 1) = ((i + 1 : Nat) : Int) := by omega
      rw [e, ih k (i + 1) (by omega) (by omega) (by omega)]
      unfold isWd
      cases decide (0 ≤ l[i] ∧ l[i] ≤ 65535) <;> simp
  have := H l.length k 0 (by omega) (by omega) hk
  simpa using this
theorem isWord_ok' (a : Int) : impl_isWord.f a = some (decide (0 ≤ a ∧ a ≤ 65535)) := by unfold impl_isWord.f; rw [within_ok]; rfl
theorem implNew_ok (l0 : List Int) (a1 a2 : Int) (l3 : List Int) (h0 : l0.length ≤ 1048576) (h3 : l3.length ≤ 1048576) (k : Nat) (hk : 1048576 < k) : impl_MachNew.f k l0 a1 a2 l3 = some (newM l0 a1 a2 l3) := by
  unfold impl_MachNew.f
  simp only [isAddr_ok, isWord_ok', Option.bind_some, decide_eq_true_eq, implWordsOk_ok l0 (by omega) k (by omega), implWordsOk_ok l3 (by omega) k (by omega)]
  by_cases c1 : 0 ≤ a1 ∧ a1 ≤ 510 ∧ a1 % 2 = 0
  · obtain ⟨e1, e2⟩ := half_ok a1 c1.1 c1.2.1
    have e3 : wrap64 (256 - a1 / 2) = 256 - a1 / 2 := w64 (by omega) (by omega)
    rw [if_pos c1, e1, e3]
    by_cases c3 : (l0.length : Int) > 256 - a1 / 2
    · rw [if_pos c3, newM_not (fun h => by omega)]
    · rw [if_neg c3]
      by_cases c4 : l0.all isWd = true
      · rw [if_pos c4]
        by_cases c7 : l3.all isWd = true
        · rw [if_pos c7]
          by_cases c5 : 0 ≤ a2 ∧ a2 ≤ 65535
          · rw [if_pos c5]
            by_cases c6 : (l3.length : Int) > 50
            · rw [if_pos c6, newM_not (fun h => by omega)]
            · rw [if_neg c6, newM_ok ⟨⟨c1.1, c1.2.1⟩, c1.2.2⟩ (by omega) c4 c7 c5 (by omega)]
              unfold impl_MachNew.mk impl_copyInts.f
              rw [e1, if_pos ⟨by omega, by omega, by omega⟩]
              simp only [Option.bind_some, List.length_nil, List.nil_append]
              rw [if_pos (by omega)]
              rfl
          · rw [if_neg c5, newM_not (fun h => c5 h.2.2.2.2.1)]
        · rw [if_neg c7, newM_not (fun h => c7 h.2.2.2.1)]
      · rw [if_neg c4, newM_not (fun h => c4 h.2.2.1)]
  · rw [if_neg c1, newM_not (fun h => c1 ⟨h.1.1.1, h.1.1.2, h.1.2⟩)]
def machOk (l0 l1 l6 l7 : List Int) (s : Int) : Bool := decide (l0.length = 256 ∧ l1.length = 8 ∧ l6.length ≤ 50 ∧ l7.length ≤ 50 ∧ 0 ≤ s ∧ s ≤ 2) && (l0.all isWd && (l1.all isWd && (l6.all isWd && l7.all isWd)))
theorem implMachOk_ok (l0 l1 l6 l7 : List Int) (b2 b3 b4 b5 : Bool) (s : Int) (h : l0.length + l1.length + l6.length + l7.length ≤ 1048578) (k : Nat) (hk : 1048580 < k) : impl_MachOk.f k l0 l1 b2 b3 b4 b5 l6 l7 s = some (machOk l0 l1 l6 l7 s) := by
  obtain ⟨k, rfl⟩ : ∃ m, k = m + 1 := ⟨k - 1, by omega⟩
  unfold impl_MachOk.f machOk
  simp only [impl_MachOk.j0, implWordsOk_ok l0 (by omega) k (by omega), implWordsOk_ok l1 (by omega) k (by omega), implWordsOk_ok l6 (by omega) k (by omega), implWordsOk_ok l7 (by omega) k (by omega), within_ok, Option.bind_some]
  generalize l0.all isWd = c0
  generalize l1.all isWd = c1
  generalize l6.all isWd = c6
  generalize l7.all isWd = c7
  have e0 : ((l0.length : Int) = 256) ↔ l0.length = 256 := by omega
  have e1 : ((l1.length : Int) = 8) ↔ l1.length = 8 := by omega
  have e6 : ((l6.length : Int) ≤ 50) ↔ l6.length ≤ 50 := by omega
  have e7 : ((l7.length : Int) ≤ 50) ↔ l7.length ≤ 50 := by omega
  simp only [e0, e1, e6, e7]
  by_cases h0 : l0.length = 256 <;> by_cases h1 : l1.length = 8 <;> by_cases h6 : l6.length ≤ 50 <;> by_cases h7 : l7.length ≤ 50 <;> by_cases hs : 0 ≤ s ∧ s ≤ 2 <;> cases c0 <;> cases c1 <;> cases c6 <;> cases c7 <;> simp [h0, h1, h6, h7, hs]
def writeOk (mem : List Int) (a : Int) : Bool := decide ((0 ≤ a ∧ a ≤ 510 ∧ a % 2 = 0) ∧ a / 2 < mem.length)
def writeMem (mem : List Int) (a n : Int) : List Int := if writeOk mem a = true then mem.set (a / 2).toNat (n % 65536) else mem
theorem writeMem_length (mem : List Int) (a n : Int) : (writeMem mem a n).length = mem.length := by unfold writeMem; split <;> simp
theorem copyInts_ok (l : List Int) (h : l.length ≤ 1048576) : impl_copyInts.f l = some l := by
  unfold impl_copyInts.f
  simp only [Option.bind_some, List.length_nil, List.nil_append]
  rw [if_pos (by omega)]
theorem copyMach_ok (l0 l1 l6 l7 : List Int) (b2 b3 b4 b5 : Bool) (s : Int) (h : l0.length + l1.length + l6.length + l7.length ≤ 1048576) : impl_copyMach.f l0 l1 b2 b3 b4 b5 l6 l7 s = some (l0, l1, b2, b3, b4, b5, l6, l7, s) := by
  unfold impl_copyMach.f
  simp only [copyInts_ok l0 (by omega), copyInts_ok l1 (by omega), copyInts_ok l6 (by omega), copyInts_ok l7 (by omega), Option.bind_some]
theorem implWriteW_ok (l0 l1 l6 l7 : List Int) (b2 b3 b4 b5 : Bool) (s a n : Int) (h : l0.length + l1.length + l6.length + l7.length ≤ 1048576) :
    impl_WriteW.f l0 l1 b2 b3 b4 b5 l6 l7 s a n = some (writeMem l0 a n, l1, b2, b3, b4, b5, l6, l7, s, writeOk l0 a) := by
  unfold impl_WriteW.f writeMem
  simp only [copyMach_ok l0 l1 l6 l7 b2 b3 b4 b5 s h, isAddr_ok, Option.bind_some, impl_Wrap.f, and65535]
  by_cases hc : 0 ≤ a ∧ a ≤ 510 ∧ a % 2 = 0
  · obtain ⟨e1, _⟩ := half_ok a hc.1 hc.2.1
    rw [if_pos (decide_eq_true hc), e1]
    by_cases h2 : a / 2 < l0.length
    · have hw : writeOk l0 a = true := decide_eq_true ⟨hc, h2⟩
      rw [if_neg (by omega), if_pos (by omega), if_pos h2, hw, if_pos rfl]
    · have hw : writeOk l0 a = false := decide_eq_false (fun h' => h2 h'.2)
      rw [if_pos (by omega), hw, if_neg (by simp)]
  · have hw : writeOk l0 a = false := decide_eq_false (fun h' => hc h'.1)
    rw [if_neg (by simpa using hc), hw, if_neg (by simp)]
theorem implReadW_ok (l0 l1 l6 l7 : List Int) (b2 b3 b4 b5 : Bool) (s a : Int) : impl_ReadW.f l0 l1 b2 b3 b4 b5 l6 l7 s a = some (readW l0 a) := by
  unfold impl_ReadW.f readW
  simp only [isAddr_ok, Option.bind_some]
  by_cases h : 0 ≤ a ∧ a ≤ 510 ∧ a % 2 = 0
  · obtain ⟨e1, e2⟩ := half_ok a h.1 h.2.1
    rw [if_pos (decide_eq_true h), e1]
    by_cases h3 : a / 2 < l0.length
    · rw [if_neg (by omega), if_pos (by omega), if_pos h3, if_pos ⟨h, h3⟩]
    · rw [if_pos (by omega), if_neg (by omega)]
  · rw [if_neg (by simpa using h), if_neg (fun h' => h h'.1)]
theorem drawMach_ok (l : List Int) (hl : l.length ≤ 1048576) (k : Nat) (hk : 1048700 < k) :
    ∃ m0 m1 c2 c3 c5 m6, spec_DrawMach.f k l = some (m0, m1, c2, c3, false, c5, m6, [], 0) ∧ m0.length = 256 ∧ m0.all isWd = true ∧ m1.length = 8 ∧ m1.all isWd = true ∧ m6.length ≤ 3 ∧ m6.all isWd = true := by
  unfold spec_DrawMach.f
  obtain ⟨h, e⟩ := l1New_ok l hl k (by omega)
  rw [e]; simp only [Option.bind_some]
  obtain ⟨m0, m1, c2, c3, c5, m6, i', h', e, a1, a2, a3, a4, a5, a6, _, _⟩ := l5Draw_ok l hl 0 (by omega) (by omega) h k (by omega)
  rw [e]
  exact ⟨m0, m1, c2, c3, c5, m6, rfl, a1, a2, a3, a4, a5, a6⟩
theorem drawMachNew_ok (l : List Int) (hl : l.length ≤ 1048576) (k : Nat) (hk : 1048700 < k) : ∃ d a s q, spec_DrawMachNew.f k l = some (d, a, s, q) ∧ d.length ≤ 1000 ∧ q.length ≤ 1 := by
  unfold spec_DrawMachNew.f
  obtain ⟨h, e⟩ := l1New_ok l hl k (by omega)
  rw [e]; simp only [Option.bind_some]
  obtain ⟨d, i1, g1, e1, w1, n1, p0, p1⟩ := l4Words_ok l hl 0 (by omega) (by omega) h 6 (by omega) (by omega) k (by omega)
  rw [e1]; simp only [Option.bind_some]
  obtain ⟨x, i2, g2, e2, x0, x1, _, q0, q1⟩ := l1Below_ok l hl i1 p0 p1 g1 8
  rw [e2]; simp only [Option.bind_some]
  by_cases c0 : x = 0
  · rw [if_pos c0, if_pos (by omega)]
    obtain ⟨y, i3, g3, e3, _, r0, r1⟩ := l1Int_ok l hl i2 q0 q1 g2 [0, 4, 64, 3, -2, 510, 512] (by decide)
    rw [e3]; simp only [Option.bind_some]
    obtain ⟨z, i4, g4, e4, _, s0, s1⟩ := l1Int_ok l hl i3 r0 r1 g3 [0, 64, 65535, 65536, -1] (by decide)
    rw [e4]; simp only [Option.bind_some]
    obtain ⟨v, i5, g5, e5, _, _, _⟩ := l1Int_ok l hl i4 s0 s1 g4 [1, 65535, 65536] (by decide)
    rw [e5]
    exact ⟨_, _, _, _, rfl, by simp; omega, by simp⟩
  rw [if_neg c0]
  by_cases c1 : x = 1
  · rw [if_pos c1]
    obtain ⟨u, j, g, e, u0, u1, _, t0, t1⟩ := l1Below_ok l hl i2 q0 q1 g2 4
    have u2 := u1 (by omega)
    rw [e]; simp only [Option.bind_some]
    have w1 : wrap64 (254 + u) = 254 + u := w64 (by omega) (by omega)
    rw [w1]
    clear w1
    rw [if_pos (by omega), if_pos (by omega)]
    obtain ⟨y, i3, g3, e3, _, r0, r1⟩ := l1Int_ok l hl j t0 t1 g [0, 4, 64, 3, -2, 510, 512] (by decide)
    rw [e3]; simp only [Option.bind_some]
    obtain ⟨z, i4, g4, e4, _, s0, s1⟩ := l1Int_ok l hl i3 r0 r1 g3 [0, 64, 65535, 65536, -1] (by decide)
    rw [e4]; simp only [Option.bind_some]
    obtain ⟨v, i5, g5, e5, _, _, _⟩ := l1Int_ok l hl i4 s0 s1 g4 [1, 65535, 65536] (by decide)
    rw [e5]
    exact ⟨_, _, _, _, rfl, by simp; omega, by simp⟩
  rw [if_neg c1]
  obtain ⟨y, i3, g3, e3, _, r0, r1⟩ := l1Int_ok l hl i2 q0 q1 g2 [0, 4, 64, 3, -2, 510, 512] (by decide)
  rw [e3]; simp only [Option.bind_some]
  obtain ⟨z, i4, g4, e4, _, s0, s1⟩ := l1Int_ok l hl i3 r0 r1 g3 [0, 64, 65535, 65536, -1] (by decide)
  rw [e4]; simp only [Option.bind_some]
  obtain ⟨v, i5, g5, e5, _, _, _⟩ := l1Int_ok l hl i4 s0 s1 g4 [1, 65535, 65536] (by decide)
  rw [e5]
  exact ⟨_, _, _, _, rfl, by omega, by simp⟩
theorem machsLoop (q : Int) (qn : Nat) (hq_ : Aside0 (wrap64 (Int.tdiv q 2) = (qn : Int))) (m0 m0' m1 : List Int) (b2 b3 b4 b5 : Bool) (m6 m7 : List Int) (s : Int) (hm : m0.length = 256) (v : Int) (he : m0' = m0.set qn v) : ∀ (d i k : Nat), 256 - i = d → i ≤ 256 → d < k →
    laws_FnMachs.l0 k q (i : Int) m0 m1 b2 b3 b4 b5 m6 m7 s m0' m1 b2 b3 b4 b5 m6 m7 s = some true := by
  intro d
  induction d with
  | zero =>
    intro i k hd hi hk
    obtain ⟨k, rfl⟩ : ∃ m, k = m + 1 := ⟨k - 1, by omega⟩
    rw [laws_FnMachs.l0, if_neg (by omega)]
  | succ d ih =>
    intro i k hd hi hk
    obtain ⟨k, rfl⟩ : ∃ m, k = m + 1 := ⟨k - 1, by omega⟩
    have w2 : wrap64 ((i : Int) + 1) = ((i + 1 : Nat) : Int) := by rw [w64 (by omega) (by omega)]; omega
    rw [laws_FnMachs.l0, if_pos (by omega), hq_.out, w2]
    clear w2
    by_cases c : (i : Int) = (qn : Int)
    · rw [if_pos c]
      exact ih (i + 1) k (by omega) (by omega) (by omega)
    · rw [if_neg c, if_pos (by omega), if_pos (by rw [he, List.length_set]; omega), if_pos (by omega)]
      have hr : rd m0' (i : Int) = rd m0 (i : Int) := by
        have hne : qn ≠ i := by omega
        simp only [rd, Int.toNat_natCast, he, List.getD_eq_getElem?_getD, List.getElem?_set_ne hne]
      rw [if_pos hr]
      exact ih (i + 1) k (by omega) (by omega) (by omega)
theorem FnMachs : laws_FnMachs.Pure := by
  intro l0 _ hl hw
  refine ⟨1048900, ?_⟩
  unfold laws_FnMachs.f laws_big.f
  simp only [Option.bind_some]
  by_cases hb : (l0.length : Int) > 1048576
  · rw [if_pos (by simpa using hb)]
  rw [if_neg (by simpa using hb)]
  have hl0 : l0.length ≤ 1048576 := by omega
  obtain ⟨d, a, st, q, e, hd, hq⟩ := drawMachNew_ok l0 hl0 1048900 (by omega)
  rw [e]; simp only [Option.bind_some]
  obtain ⟨n0, n1, b2, b3, b4, b5, n6, n7, n8, hn, hnl, hok⟩ : ∃ n0 n1 b2 b3 b4 b5 n6 n7 n8, newM d a st q = (n0, n1, b2, b3, b4, b5, n6, n7, n8) ∧ n0.length + n1.length + n6.length + n7.length ≤ 1048576 ∧ machOk n0 n1 n6 n7 n8 = decide (0 < n0.length) := by
    by_cases h : ((0 ≤ a ∧ a ≤ 510) ∧ a % 2 = 0) ∧ (d.length : Int) ≤ 256 - a / 2 ∧ d.all isWd = true ∧ q.all isWd = true ∧ (0 ≤ st ∧ st ≤ 65535) ∧ q.length ≤ 50
    · refine ⟨_, _, _, _, _, _, _, _, _, newM_ok h.1 h.2.1 h.2.2.1 h.2.2.2.1 h.2.2.2.2.1 h.2.2.2.2.2, ?_, ?_⟩
      · rw [newMem_length d _ (by omega), newRegs_length, List.length_nil]; omega
      · have e1 := newMem_length d (a / 2).toNat (by omega)
        unfold machOk
        rw [e1, newRegs_length, newMem_words _ _ h.2.2.1, newRegs_words _ (isWd_of h.2.2.2.2.1.1 h.2.2.2.2.1.2), h.2.2.2.1]
        have := h.2.2.2.2.2
        simp
        omega
    · exact ⟨_, _, _, _, _, _, _, _, _, newM_not h, by decide, by decide⟩
  rw [implNew_ok d a st q (by omega) (by omega) 1048900 (by omega), hn]; simp only [Option.bind_some]
  obtain ⟨m0, m1, c2, c3, c5, m6, e, a1, a2, a3, a4, a5, a6⟩ := drawMach_ok l0 hl0 1048900 (by omega)
  rw [e]; simp only [Option.bind_some]
  have hbw : ∀ x ∈ l0, 0 ≤ x ∧ x ≤ 255 := fun x hx => wf8 (hw x hx)
  obtain ⟨x, ex, x0, x1⟩ := lawsAt_ok l0 2 hbw hl0 (by omega) (by omega)
  obtain ⟨y, ey, y0, y1⟩ := lawsAt_ok l0 3 hbw hl0 (by omega) (by omega)
  rw [ex]; simp only [Option.bind_some]
  rw [ey]; simp only [Option.bind_some]
  have w1 : wrap64 (2 * Int.tmod x 256) = 2 * x := by rw [Int.tmod_eq_emod_of_nonneg x0, w64 (by omega) (by omega)]; omega
  have w2 : wrap64 (y * 300) = y * 300 := w64 (by omega) (by omega)
  rw [w1, w2, implWriteW_ok m0 m1 m6 [] c2 c3 false c5 0 (2 * x) (y * 300) (by simp; omega)]
  clear w1 w2
  simp only [Option.bind_some, implReadW_ok]
  have hwo : writeOk m0 (2 * x) = true := decide_eq_true ⟨⟨by omega, by omega, by omega⟩, by omega⟩
  have hwm : writeMem m0 (2 * x) (y * 300) = m0.set (2 * x / 2).toNat (y * 300 % 65536) := by unfold writeMem; rw [if_pos hwo]
  have hwl := writeMem_length m0 (2 * x) (y * 300)
  have hwd : isWd (y * 300 % 65536) = true := isWd_of (by omega) (by omega)
  have hww : (writeMem m0 (2 * x) (y * 300)).all isWd = true := by rw [hwm]; exact all_set a2 _ hwd
  have hr : readW (writeMem m0 (2 * x) (y * 300)) (2 * x) = (y * 300 % 65536, true) := by
    unfold readW
    rw [if_pos ⟨⟨by omega, by omega, by omega⟩, by omega⟩]
    have h1 : (2 * x / 2).toNat < m0.length := by omega
    rw [hwm]
    simp only [rd, List.getD_eq_getElem?_getD]
    rw [List.getElem?_set_self h1]
    rfl
  rw [hr, hwo]
  simp only
  rw [specNew_ok d a st q (by omega) (by omega) 1048900 (by omega), hn]; simp only [Option.bind_some]
  rw [sameMach_self n0 n1 n6 n7 b2 b3 b4 b5 n8 hnl 1048900 (by omega)]
  simp only [Option.bind_some, if_true]
  rw [implMachOk_ok n0 n1 n6 n7 b2 b3 b4 b5 n8 (by omega) 1048900 (by omega), hok]
  simp only [Option.bind_some]
  have hdd : (decide (0 < n0.length) != decide ((n0.length : Int) > 0)) = false := by
    have : ((n0.length : Int) > 0) ↔ 0 < n0.length := by omega
    simp [this]
  rw [hdd, if_neg (by decide)]
  have hwr : impl_Wrap.f (y * 300) = some (y * 300 % 65536) := by unfold impl_Wrap.f; rw [and65535]
  rw [hwr]
  simp only [Option.bind_some, if_true]
  rw [implMachOk_ok _ m1 m6 [] c2 c3 false c5 0 (by simp; omega) 1048900 (by omega)]
  have hmo : machOk (writeMem m0 (2 * x) (y * 300)) m1 m6 [] 0 = true := by
    unfold machOk
    rw [hww, a4, a6, hwl]
    simp
    omega
  rw [hmo]
  simp only [Option.bind_some]
  show laws_FnMachs.j0 (1048899 + 1) _ false _ _ _ _ _ _ _ _ _ _ _ _ _ _ _ _ _ _ = some true
  rw [laws_FnMachs.j0, if_neg (by decide)]
  have hq2 : wrap64 (Int.tdiv (2 * x) 2) = ((2 * x / 2).toNat : Int) := by rw [(half_ok (2 * x) (by omega) (by omega)).1]; omega
  exact machsLoop (2 * x) (2 * x / 2).toNat ⟨hq2⟩ m0 _ m1 c2 c3 false c5 m6 [] 0 a1 (y * 300 % 65536) hwm 256 0 1048899 rfl (by omega) (by omega)

end Go.Proofs.Ytiagbfilffbljaa.Pure
