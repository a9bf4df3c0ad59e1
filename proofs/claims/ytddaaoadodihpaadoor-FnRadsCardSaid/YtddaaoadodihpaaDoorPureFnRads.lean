/- Proved: the law FnRads, as a plain function, answers true at each code; no further conditions. -/
import Derived.Test.YtddaaoadodihpaaDoorPFnRadsx1
import Derived.Test.YtddaaoadodihpaaDoorPFnRadsx2
import Derived.Test.YtddaaoadodihpaaDoorPFnRadsx3
import Derived.Test.YtddaaoadodihpaaDoorPFnRadsx4
import Derived.Test.YtddaaoadodihpaaDoorVCFnRads
namespace Go.Proofs.YtddaaoadodihpaaDoor.Pure
open Go.RowKit Go.Proofs.YtddaaoadodihpaaDoor.PFnRads Go.Proofs.YtddaaoadodihpaaDoorW.PrintWords Go.Proofs.YtddaaoadodihpaaDoorW.PrintLast Go.Proofs.YtddaaoadodihpaaDoor.Common
set_option linter.unusedVariables false
set_option linter.unusedSimpArgs false
theorem bal (s : ByteArray) : s.toList = s.data.toList := ByteArray.toList_eq s
theorem rd_in (l : List Int) (i : Int) (h0 : 0 ≤ i) (h1 : i < l.length) : rd l i ∈ l := by
  have hlt : i.toNat < l.length := by omega
  have : rd l i = l[i.toNat] := by simp [rd, List.getD_eq_getElem?_getD, hlt]
  rw [this]; exact List.getElem_mem hlt
theorem l1New_ok (l : List Int) (hl : l.length ≤ 1048576) (k : Nat) (hk : l.length < k) : ∃ h, spec_l1New.f k l = some (l, 0, h) := by
  unfold spec_l1New.f
  generalize wrap64 (766766 + (l.length : Int)) = h
  have H : ∀ (r : Nat) k (h : Int) (i : Nat), l.length - i = r → i ≤ l.length → r < k → ∃ h', spec_l1New.l0 k l h i = some (l, 0, h') := by
    intro r
    induction r with
    | zero =>
      intro k h i hr hi hk
      obtain ⟨k, rfl⟩ : ∃ m, k = m + 1 := ⟨k - 1, by omega⟩
      exact ⟨h, by simp only [spec_l1New.l0]; rw [if_neg (by omega)]⟩
    | succ r ih =>
      intro k h i hr hi hk
      obtain ⟨k, rfl⟩ : ∃ m, k = m + 1 := ⟨k - 1, by omega⟩
      simp only [spec_l1New.l0]
      rw [if_pos (by omega)]
      by_cases h4 : (i : Int) < 4000
      · rw [if_pos h4, if_pos (by omega), w64 (x := (i : Int) + 1) (by omega) (by omega)]
        exact ih k _ (i + 1) (by omega) (by omega) (by omega)
      · rw [if_neg h4]; exact ⟨h, rfl⟩
  exact H l.length k h 0 (by omega) (by omega) hk
theorem l1Byte_ok (l : List Int) (hl : l.length ≤ 1048576) (i : Int) (h0 : 0 ≤ i) (h1 : i ≤ l.length) (h : Int) :
    ∃ x i' h', spec_l1Byte.f l i h = some (x, i', h') ∧ 0 ≤ x ∧ x ≤ 255 ∧ 0 ≤ i' ∧ i' ≤ l.length := by
  unfold spec_l1Byte.f
  simp only [and255]
  by_cases hi : i < (l.length : Int)
  · rw [if_pos hi, if_pos h0, w64 (x := i + 1) (by omega) (by omega)]
    exact ⟨_, _, _, rfl, by omega, by omega, by omega, by omega⟩
  · rw [if_neg hi]
    exact ⟨_, _, _, rfl, by omega, by omega, by omega, by omega⟩
theorem l1Below_ok (l : List Int) (hl : l.length ≤ 1048576) (i : Int) (h0 : 0 ≤ i) (h1 : i ≤ l.length) (h : Int) (n : Int) :
    ∃ x i' h', spec_l1Below.f l i h n = some (x, i', h') ∧ 0 ≤ x ∧ (0 < n → x < n) ∧ (n ≤ 0 → x = 0) ∧ 0 ≤ i' ∧ i' ≤ l.length := by
  unfold spec_l1Below.f
  by_cases hn : n ≤ 0
  · rw [if_pos hn]; exact ⟨_, _, _, rfl, by omega, by omega, by omega, by omega, by omega⟩
  rw [if_neg hn]
  by_cases hn2 : n ≤ 256
  · rw [if_pos hn2]
    obtain ⟨x, i', h', e, x0, x1, i0, i1⟩ := l1Byte_ok l hl i h0 h1 h
    rw [e]; simp only [Option.bind_some]; rw [if_neg (by omega), Int.tmod_eq_emod_of_nonneg x0]
    exact ⟨_, _, _, rfl, Int.emod_nonneg _ (by omega), fun _ => Int.emod_lt_of_pos _ (by omega), by omega, i0, i1⟩
  · rw [if_neg hn2]
    obtain ⟨x, i', h', e, x0, x1, i0, i1⟩ := l1Byte_ok l hl i h0 h1 h
    rw [e]; simp only [Option.bind_some]
    obtain ⟨y, j', g', e, y0, y1, j0, j1⟩ := l1Byte_ok l hl i' i0 i1 h'
    rw [e]; simp only [Option.bind_some]
    obtain ⟨z, k', f', e, z0, z1, k0, k1⟩ := l1Byte_ok l hl j' j0 j1 g'
    rw [e]; simp only [Option.bind_some]
    rw [if_neg (by omega), w64 (x := x * 65536) (by omega) (by omega), w64 (x := y * 256) (by omega) (by omega), w64 (x := x * 65536 + y * 256) (by omega) (by omega), w64 (x := x * 65536 + y * 256 + z) (by omega) (by omega), Int.tmod_eq_emod_of_nonneg (by omega)]
    exact ⟨_, _, _, rfl, Int.emod_nonneg _ (by omega), fun _ => Int.emod_lt_of_pos _ (by omega), by omega, k0, k1⟩
theorem l1Int_ok (l : List Int) (hl : l.length ≤ 1048576) (i : Int) (h0 : 0 ≤ i) (h1 : i ≤ l.length) (h : Int) (xs : List Int) (hx : 0 < xs.length) :
    ∃ x i' h', spec_l1Int.f l i h xs = some (x, i', h') ∧ x ∈ xs ∧ 0 ≤ i' ∧ i' ≤ l.length := by
  unfold spec_l1Int.f
  obtain ⟨x, i', h', e, x0, x1, _, i0, i1⟩ := l1Below_ok l hl i h0 h1 h (xs.length : Int)
  rw [e]; simp only [Option.bind_some]
  have := x1 (by omega)
  rw [if_pos x0, if_pos this]
  exact ⟨_, _, _, rfl, rd_in xs x x0 this, i0, i1⟩
theorem l1In_ok (a b c : Int) : spec_l1In.f a b c = some (decide (b ≤ a ∧ a ≤ c)) := by
  unfold spec_l1In.f
  by_cases h : a ≥ b
  · have h' : b ≤ a := h
    rw [if_pos h]; simp [h']
  · have h' : ¬ b ≤ a := h
    rw [if_neg h]; simp [h']
/-- a letter's number; -1: it is none. -/
def letV (c : Int) : Int := (spec_l2Code.f c).getD 0
def radLetters : ByteArray := ⟨#[32, 97, 98, 99, 100, 101, 102, 103, 104, 105, 106, 107, 108, 109, 110, 111, 112, 113, 114, 115, 116, 117, 118, 119, 120, 121, 122, 36, 46, 0, 48, 49, 50, 51, 52, 53, 54, 55, 56, 57]⟩
theorem let_all : ∀ c : Fin 256, spec_l2Code.f ((c.1 : Nat) : Int) = some (letV ((c.1 : Nat) : Int)) ∧ -1 ≤ letV ((c.1 : Nat) : Int) ∧ letV ((c.1 : Nat) : Int) ≤ 39 ∧ letV ((c.1 : Nat) : Int) ≠ 29 ∧
    (if letV ((c.1 : Nat) : Int) < 0 then (Lib.indexByte radLetters.data.toList (((c.1 : Nat) : Int)).toNat.toUInt8 < 0 ∨ Lib.indexByte radLetters.data.toList (((c.1 : Nat) : Int)).toNat.toUInt8 = 29) else Lib.indexByte radLetters.data.toList (((c.1 : Nat) : Int)).toNat.toUInt8 = letV ((c.1 : Nat) : Int)) := by decide +kernel
theorem let_at (s : ByteArray) (i : Int) : spec_l2Code.f (bt s i) = some (letV (bt s i)) ∧ -1 ≤ letV (bt s i) ∧ letV (bt s i) ≤ 39 ∧ letV (bt s i) ≠ 29 ∧
    (if letV (bt s i) < 0 then (Lib.indexByte radLetters.data.toList (bt s i).toNat.toUInt8 < 0 ∨ Lib.indexByte radLetters.data.toList (bt s i).toNat.toUInt8 = 29) else Lib.indexByte radLetters.data.toList (bt s i).toNat.toUInt8 = letV (bt s i)) := by
  have h := bt_range s i
  have := let_all ⟨(bt s i).toNat, by omega⟩
  simp only [Int.toNat_of_nonneg h.1] at this
  exact this
theorem ix_letters (x : Int) : strings_IndexByte.f (⟨#[32, 97, 98, 99, 100, 101, 102, 103, 104, 105, 106, 107, 108, 109, 110, 111, 112, 113, 114, 115, 116, 117, 118, 119, 120, 121, 122, 36, 46, 0, 48, 49, 50, 51, 52, 53, 54, 55, 56, 57]⟩ : ByteArray) x = some (Lib.indexByte radLetters.data.toList x.toNat.toUInt8) := rfl
/-- the number at a place: past the end, nothing. -/
def cod (s : ByteArray) (j : Nat) : Int := if (j : Int) < (s.size : Int) then letV (bt s (j : Int)) else 0
theorem cod_range (s : ByteArray) (j : Nat) : -1 ≤ cod s j ∧ cod s j ≤ 39 := by
  unfold cod
  split
  · have := let_at s (j : Int); omega
  · omega
theorem spec_step (k : Nat) (s : ByteArray) (x4 : List Int) (i j : Nat) (hi : i ≤ 6) (x6 : Int) (hj : j < i + 3) (h0 : 0 ≤ x6) (h1 : x6 ≤ 64000) :
    spec_PutRad.l1 (k + 1) s x4 (i : Int) x6 (j : Int) = if cod s j < 0 then some (([] : List Int), false) else spec_PutRad.l1 k s x4 (i : Int) (x6 * 40 + cod s j) ((j + 1 : Nat) : Int) := by
  have hc := cod_range s j
  have w0 : wrap64 ((i : Int) + 3) = i + 3 := w64 (by omega) (by omega)
  have w1 : wrap64 (x6 * 40) = x6 * 40 := w64 (by omega) (by omega)
  have w2 : wrap64 (x6 * 40 + cod s j) = x6 * 40 + cod s j := w64 (by omega) (by omega)
  have w3 : wrap64 ((j : Int) + 1) = ((j + 1 : Nat) : Int) := by rw [w64 (by omega) (by omega)]; rfl
  simp only [spec_PutRad.l1, w0, w1, w3]
  rw [if_pos (by omega)]
  unfold cod at w2 ⊢
  by_cases c : (j : Int) < (s.size : Int)
  · rw [if_pos c] at w2 ⊢
    rw [if_pos c, if_pos (by omega), (let_at s (j : Int)).1, Option.bind_some, w2]
  · rw [if_neg c] at w2 ⊢
    rw [if_neg c, w2, if_neg (by omega), if_neg (by omega)]
def wordAt (s : ByteArray) (i : Nat) : Int := (cod s i * 40 + cod s (i + 1)) * 40 + cod s (i + 2)
def badAt (s : ByteArray) (i : Nat) : Prop := cod s i < 0 ∨ cod s (i + 1) < 0 ∨ cod s (i + 2) < 0
instance (s : ByteArray) (i : Nat) : Decidable (badAt s i) := by unfold badAt; infer_instance
theorem spec_word (k : Nat) (s : ByteArray) (x4 : List Int) (i : Nat) (hi : i ≤ 6) (hl : x4.length ≤ 2) (hs : (i : Int) < (s.size : Int)) :
    spec_PutRad.l0 (k + 5) s x4 (i : Int) = if badAt s i then some (([] : List Int), false) else spec_PutRad.l0 k s (x4 ++ [wordAt s i]) ((i + 3 : Nat) : Int) := by
  have c0 := cod_range s i; have c1 := cod_range s (i + 1); have c2 := cod_range s (i + 2)
  simp only [spec_PutRad.l0]
  rw [if_pos hs, spec_step (k + 3) s x4 i i hi 0 (by omega) (by omega) (by omega)]
  by_cases b0 : cod s i < 0
  · rw [if_pos b0, if_pos (show badAt s i from Or.inl b0)]
  rw [if_neg b0, spec_step (k + 2) s x4 i (i + 1) hi _ (by omega) (by omega) (by omega)]
  by_cases b1 : cod s (i + 1) < 0
  · rw [if_pos b1, if_pos (show badAt s i from Or.inr (Or.inl b1))]
  rw [if_neg b1, spec_step (k + 1) s x4 i (i + 1 + 1) hi _ (by omega) (by omega) (by omega)]
  by_cases b2 : cod s (i + 2) < 0
  · rw [if_pos b2, if_pos (show badAt s i from Or.inr (Or.inr b2))]
  rw [if_neg b2, if_neg (show ¬ badAt s i by unfold badAt; omega)]
  have w0 : wrap64 ((i : Int) + 3) = ((i + 3 : Nat) : Int) := by rw [w64 (by omega) (by omega)]; rfl
  simp only [spec_PutRad.l1, w0]
  rw [if_neg (by omega), if_pos (by omega)]
  have e : (0 * 40 + cod s i) * 40 + cod s (i + 1) = cod s i * 40 + cod s (i + 1) := by omega
  rw [e]; rfl
theorem impl_step (k : Nat) (s : ByteArray) (x4 : List Int) (n j : Nat) (hn : n ≤ 6) (hj : j < n) (hq : j / 3 < x4.length) (h0 : 0 ≤ x4.getD (j / 3) 0) (h1 : x4.getD (j / 3) 0 ≤ 64000) :
    impl_PutRad.l0 (k + 1) s x4 (n : Int) (j : Int) = if cod s j < 0 then some (([] : List Int), false) else impl_PutRad.l0 k s (x4.set (j / 3) (40 * x4.getD (j / 3) 0 + cod s j)) (n : Int) ((j + 1 : Nat) : Int) := by
  have hc := cod_range s j
  have g1 : (j : Int) < (n : Int) := by omega
  have g2 : 0 ≤ (j : Int) := by omega
  have g3 : 0 ≤ ((j / 3 : Nat) : Int) := Int.natCast_nonneg _
  have g4 : ((j / 3 : Nat) : Int) < (x4.length : Int) := Int.ofNat_lt.2 hq
  have wq : wrap64 (Int.tdiv (j : Int) 3) = ((j / 3 : Nat) : Int) := by
    rw [Int.tdiv_eq_ediv_of_nonneg (by omega), w64 (by omega) (by omega)]; rfl
  have rq : rd x4 (((j / 3 : Nat) : Int)) = x4.getD (j / 3) 0 := rfl
  have w3 : wrap64 ((j : Int) + 1) = ((j + 1 : Nat) : Int) := by rw [w64 (by omega) (by omega)]; rfl
  have q := let_at s (j : Int)
  revert h0 h1
  rw [impl_PutRad.l0.eq_def]
  simp only [wq, rq, w3, ix_letters, Option.bind_some]
  generalize x4.getD (j / 3) 0 = y
  intro h0 h1
  have w1 : wrap64 (40 * y) = 40 * y := w64 (by omega) (by omega)
  have w2 : wrap64 (40 * y + cod s j) = 40 * y + cod s j := w64 (by omega) (by omega)
  rw [w1, if_pos g1]
  unfold cod at w2 ⊢
  by_cases c : (j : Int) < (s.size : Int)
  · rw [if_pos c] at w2 ⊢
    rw [if_pos c, if_pos g2]
    obtain ⟨_, _, _, q29, qi⟩ := q
    generalize Lib.indexByte radLetters.data.toList (bt s (j : Int)).toNat.toUInt8 = e at qi ⊢
    generalize letV (bt s (j : Int)) = v at w2 q29 qi ⊢
    by_cases b : v < 0
    · rw [if_pos b] at qi ⊢
      rcases qi with qi | qi
      · rw [if_pos qi]
      · by_cases b2 : e < 0
        · rw [if_pos b2]
        · rw [if_neg b2, if_pos qi]
    · rw [if_neg b] at qi ⊢
      subst qi
      rw [if_neg b, if_neg q29, if_pos g3, if_pos g4, w2]
      rfl
  · rw [if_neg c] at w2 ⊢
    rw [if_neg c, w2, if_neg (by decide), if_neg (by decide), if_pos g3, if_pos g4, if_neg (by decide)]
    rfl
theorem impl_word0 (k : Nat) (s : ByteArray) (n : Nat) (hn : n ≤ 6) (h3 : 3 ≤ n) (y : List Int) :
    impl_PutRad.l0 (k + 3) s (0 :: y) (n : Int) 0 = if badAt s 0 then some (([] : List Int), false) else impl_PutRad.l0 k s (wordAt s 0 :: y) (n : Int) 3 := by
  have c0 := cod_range s 0; have c1 := cod_range s 1; have c2 := cod_range s 2; have n4 : cod s (0 + 1) = cod s 1 := rfl; have n5 : cod s (0 + 2) = cod s 2 := rfl
  have s0 := impl_step (k + 2) s (0 :: y) n 0 hn (by omega) (by simp) (by simp) (by simp)
  simp only [Nat.zero_div, List.getD_cons_zero, List.set_cons_zero, Int.natCast_zero, Nat.zero_add] at s0
  rw [s0]
  by_cases b0 : cod s 0 < 0
  · rw [if_pos b0, if_pos (show badAt s 0 from Or.inl b0)]
  have s1 := impl_step (k + 1) s ((40 * 0 + cod s 0) :: y) n 1 hn (by omega) (by simp) (by simp; omega) (by simp; omega)
  simp only [show 1 / 3 = 0 from rfl, List.getD_cons_zero, List.set_cons_zero] at s1
  rw [if_neg b0, s1]
  by_cases b1 : cod s 1 < 0
  · rw [if_pos b1, if_pos (show badAt s 0 from Or.inr (Or.inl b1))]
  have s2 := impl_step k s ((40 * (40 * 0 + cod s 0) + cod s 1) :: y) n 2 hn (by omega) (by simp) (by simp; omega) (by simp; omega)
  simp only [show 2 / 3 = 0 from rfl, List.getD_cons_zero, List.set_cons_zero] at s2
  rw [if_neg b1]
  rw [show ((1 + 1 : Nat) : Int) = ((2 : Nat) : Int) from rfl, s2]
  by_cases b2 : cod s 2 < 0
  · rw [if_pos b2, if_pos (show badAt s 0 from Or.inr (Or.inr b2))]
  rw [if_neg b2, if_neg (show ¬ badAt s 0 by unfold badAt; omega)]
  have e : 40 * (40 * (40 * 0 + cod s 0) + cod s 1) + cod s 2 = (cod s 0 * 40 + cod s 1) * 40 + cod s 2 := by omega
  rw [e]; rfl
theorem impl_word1 (k : Nat) (s : ByteArray) (x : Int) :
    impl_PutRad.l0 (k + 3) s [x, 0] 6 3 = if badAt s 3 then some (([] : List Int), false) else impl_PutRad.l0 k s [x, wordAt s 3] 6 6 := by
  have c0 := cod_range s 3; have c1 := cod_range s 4; have c2 := cod_range s 5; have n4 : cod s (3 + 1) = cod s 4 := rfl; have n5 : cod s (3 + 2) = cod s 5 := rfl
  have s0 := impl_step (k + 2) s [x, 0] 6 3 (by omega) (by omega) (by simp) (by simp) (by simp)
  simp only [show 3 / 3 = 1 from rfl, List.getD_cons_succ, List.getD_cons_zero, List.set_cons_succ, List.set_cons_zero] at s0
  rw [show (6 : Int) = ((6 : Nat) : Int) from rfl, show (3 : Int) = ((3 : Nat) : Int) from rfl, s0]
  by_cases b0 : cod s 3 < 0
  · rw [if_pos b0, if_pos (show badAt s 3 from Or.inl b0)]
  have s1 := impl_step (k + 1) s [x, 40 * 0 + cod s 3] 6 4 (by omega) (by omega) (by simp) (by simp; omega) (by simp; omega)
  simp only [show 4 / 3 = 1 from rfl, List.getD_cons_succ, List.getD_cons_zero, List.set_cons_succ, List.set_cons_zero] at s1
  rw [if_neg b0, show ((3 + 1 : Nat) : Int) = ((4 : Nat) : Int) from rfl, s1]
  by_cases b1 : cod s 4 < 0
  · rw [if_pos b1, if_pos (show badAt s 3 from Or.inr (Or.inl b1))]
  have s2 := impl_step k s [x, 40 * (40 * 0 + cod s 3) + cod s 4] 6 5 (by omega) (by omega) (by simp) (by simp; omega) (by simp; omega)
  simp only [show 5 / 3 = 1 from rfl, List.getD_cons_succ, List.getD_cons_zero, List.set_cons_succ, List.set_cons_zero] at s2
  rw [if_neg b1, show ((4 + 1 : Nat) : Int) = ((5 : Nat) : Int) from rfl, s2]
  by_cases b2 : cod s 5 < 0
  · rw [if_pos b2, if_pos (show badAt s 3 from Or.inr (Or.inr b2))]
  rw [if_neg b2, if_neg (show ¬ badAt s 3 by unfold badAt; omega)]
  have e : 40 * (40 * (40 * 0 + cod s 3) + cod s 4) + cod s 5 = (cod s 3 * 40 + cod s 4) * 40 + cod s 5 := by omega
  rw [e]; rfl
/-- what both make of a text. -/
def radOf (s : ByteArray) : List Int × Bool :=
  if s.size > 6 then ([], false) else if s.size = 0 then ([], true) else if badAt s 0 then ([], false) else if s.size ≤ 3 then ([wordAt s 0], true) else if badAt s 3 then ([], false) else ([wordAt s 0, wordAt s 3], true)
theorem radOf_length (s : ByteArray) : (radOf s).1.length ≤ 2 := by
  unfold radOf
  repeat' split
  all_goals simp
theorem specPutRad_ok (s : ByteArray) (k : Nat) : spec_PutRad.f (k + 11) s = some (radOf s) := by
  simp only [spec_PutRad.f, Option.bind_some]
  unfold radOf
  by_cases c6 : s.size > 6
  · rw [if_pos (by omega), if_pos c6]
  rw [if_neg (by omega), if_neg c6]
  by_cases c0 : s.size = 0
  · rw [if_pos c0]; simp only [spec_PutRad.l0]; rw [if_neg (by omega)]
  rw [if_neg c0]
  have e := spec_word (k + 6) s [] 0 (by omega) (by simp) (by omega)
  rw [show ((0 : Nat) : Int) = 0 from rfl] at e
  rw [show k + 11 = k + 6 + 5 from rfl, e]
  by_cases b0 : badAt s 0
  · rw [if_pos b0, if_pos b0]
  rw [if_neg b0, if_neg b0]
  by_cases c3 : s.size ≤ 3
  · rw [if_pos c3]; simp only [spec_PutRad.l0]; rw [if_neg (by omega)]; rfl
  rw [if_neg c3, show k + 6 = k + 1 + 5 from rfl, spec_word (k + 1) s _ (0 + 3) (by omega) (by simp) (by omega)]
  by_cases b3 : badAt s 3
  · rw [if_pos b3, if_pos b3]
  rw [if_neg b3, if_neg b3]
  simp only [spec_PutRad.l0]; rw [if_neg (by omega)]; rfl
theorem implPutRad_ok (s : ByteArray) (k : Nat) : impl_PutRad.f (k + 11) s = some (radOf s) := by
  rw [impl_PutRad.f, Option.bind_some]
  unfold radOf
  by_cases c6 : s.size > 6
  · rw [if_pos (by omega), if_pos c6]
  rw [if_neg (by omega), if_neg c6]
  have wn : wrap64 (Int.tdiv (wrap64 ((s.size : Int) + 2)) 3) = (((s.size + 2) / 3 : Nat) : Int) := by
    rw [w64 (x := (s.size : Int) + 2) (by omega) (by omega), Int.tdiv_eq_ediv_of_nonneg (by omega), w64 (by omega) (by omega)]; rfl
  rw [wn, if_pos (by omega), if_pos (by omega), Int.toNat_natCast, List.length_replicate]
  by_cases c0 : s.size = 0
  · rw [if_pos c0, show (s.size + 2) / 3 = 0 by omega, show wrap64 (3 * ((0 : Nat) : Int)) = 0 by rw [w64 (by omega) (by omega)]; rfl, impl_PutRad.l0.eq_def]
    simp only []
    rw [if_neg (by decide)]; rfl
  rw [if_neg c0]
  by_cases c3 : s.size ≤ 3
  · rw [show (s.size + 2) / 3 = 1 by omega]
    have e := impl_word0 (k + 8) s 3 (by omega) (by omega) []
    rw [show wrap64 (3 * ((1 : Nat) : Int)) = ((3 : Nat) : Int) by rw [w64 (by omega) (by omega)]; rfl, show List.replicate 1 (0 : Int) = [0] from rfl, e]
    by_cases b0 : badAt s 0
    · rw [if_pos b0, if_pos b0]
    rw [if_neg b0, if_neg b0, if_pos c3]
    rw [impl_PutRad.l0.eq_def]; simp only []
    rw [if_neg (by decide)]
  · rw [show (s.size + 2) / 3 = 2 by omega]
    have e := impl_word0 (k + 8) s 6 (by omega) (by omega) [0]
    rw [show wrap64 (3 * ((2 : Nat) : Int)) = ((6 : Nat) : Int) by rw [w64 (by omega) (by omega)]; rfl, show List.replicate 2 (0 : Int) = [0, 0] from rfl, e]
    by_cases b0 : badAt s 0
    · rw [if_pos b0, if_pos b0]
    rw [if_neg b0, if_neg b0, if_neg c3]
    have e2 := impl_word1 (k + 5) s (wordAt s 0)
    rw [show ((6 : Nat) : Int) = 6 from rfl, e2]
    by_cases b3 : badAt s 3
    · rw [if_pos b3, if_pos b3]
    rw [if_neg b3, if_neg b3]
    rw [impl_PutRad.l0.eq_def]; simp only []
    rw [if_neg (by decide)]
def radL : ByteArray := ⟨#[32, 97, 98, 99, 100, 101, 102, 103, 104, 105, 106, 107, 108, 109, 110, 111, 112, 113, 114, 115, 116, 117, 118, 119, 120, 121, 122, 36, 46, 0, 48, 49, 50, 51, 52, 53, 54, 55, 56, 57]⟩
theorem letter_all : ∀ n : Fin 40, spec_l2Letter.f ((n.1 : Nat) : Int) = some (bt radL ((n.1 : Nat) : Int)) ∧ (bt radL ((n.1 : Nat) : Int) = 0 ↔ n.1 = 29) := by decide +kernel
theorem letter_ok (n : Int) (h0 : 0 ≤ n) (h1 : n < 40) : spec_l2Letter.f n = some (bt radL n) ∧ (bt radL n = 0 ↔ n = 29) := by
  have h := letter_all ⟨n.toNat, by omega⟩
  simp only [Int.toNat_of_nonneg h0] at h
  exact ⟨h.1, h.2.trans ⟨fun e => by omega, fun e => by omega⟩⟩
theorem sn_extract (xs : List Int) (m : Nat) : (strOfNums xs).extract 0 m = strOfNums (xs.take m) := by
  apply ByteArray.ext
  rw [ByteArray.data_extract]
  apply Array.toList_inj.1
  simp [strOfNums, List.map_take]
theorem sn_bt (xs : List Int) (i : Nat) (h : i < xs.length) (hb : 0 ≤ xs[i] ∧ xs[i] ≤ 255) : bt (strOfNums xs) (i : Int) = xs[i] := by
  have hs : ((i : Int)).toNat < (strOfNums xs).size := by rw [strOfNums_size]; simpa using h
  rw [← bt_at (strOfNums xs) (i : Int) hs]
  have e : (strOfNums xs)[((i : Int)).toNat]'hs = UInt8.ofNat xs[i].toNat := by
    show (strOfNums xs).data[((i : Int)).toNat]'_ = _
    simp [strOfNums]
  rw [e, UInt8.toNat_ofNat']
  omega
theorem trim_same (l : List Int) : ∀ n : Nat, l.length = n → n ≤ 1000 → (∀ x ∈ l, 0 ≤ x ∧ x ≤ 255) → ∃ s, Ev (fun k => spec_GetRad.l2 k l) (s, true) ∧ Ev (fun k => strings_trimRightByte.l0 k (strOfNums l) 32) s := by
  intro n
  induction n generalizing l with
  | zero =>
    intro hl _ _
    refine ⟨strOfNums l, Ev.step (f := fun _ => some (strOfNums l, true)) (fun k => ?_) (Ev.now _), Ev.step (f := fun _ => some (strOfNums l)) (fun k => ?_) (Ev.now _)⟩
    · rw [spec_GetRad.l2.eq_def]; simp only []; rw [if_neg (by omega)]
    · rw [strings_trimRightByte.l0.eq_def]; simp only [strOfNums_size]; rw [if_neg (by omega)]
  | succ n ih =>
    intro hl hn hb
    have hlt : n < l.length := by omega
    have w : wrap64 ((l.length : Int) - 1) = (n : Int) := by rw [w64 (by omega) (by omega)]; omega
    have g1 : (l.length : Int) > 0 := by omega
    have g2 : 0 ≤ (n : Int) := by omega
    have g3 : (n : Int) < (l.length : Int) := by omega
    have g4 : (n : Int) ≤ (l.length : Int) := by omega
    have r1 := rd_at l n hlt
    have r2 := sn_bt l n hlt (hb _ (List.getElem_mem hlt))
    by_cases c : l[n] = 32
    · obtain ⟨s, s1, s2⟩ := ih (l.take n) (by simp; omega) (by omega) (fun x hx => hb x (List.mem_of_mem_take hx))
      refine ⟨s, Ev.step (f := fun k => spec_GetRad.l2 k (l.take n)) (fun k => ?_) s1, Ev.step (f := fun k => strings_trimRightByte.l0 k (strOfNums (l.take n)) 32) (fun k => ?_) s2⟩
      · rw [spec_GetRad.l2.eq_def]; simp only [w, r1]; rw [if_pos g1, if_pos g2, if_pos g3, if_pos c, if_pos g4, Int.toNat_natCast]
      · rw [strings_trimRightByte.l0.eq_def]; simp only [strOfNums_size, w, r2]; rw [if_pos g1, if_pos g2, if_pos g3, if_pos c, if_pos g4, Int.toNat_natCast, sn_extract]
    · refine ⟨strOfNums l, Ev.step (f := fun _ => some (strOfNums l, true)) (fun k => ?_) (Ev.now _), Ev.step (f := fun _ => some (strOfNums l)) (fun k => ?_) (Ev.now _)⟩
      · rw [spec_GetRad.l2.eq_def]; simp only [w, r1]; rw [if_pos g1, if_pos g2, if_pos g3, if_neg c]
      · rw [strings_trimRightByte.l0.eq_def]; simp only [strOfNums_size, w, r2]; rw [if_pos g1, if_pos g2, if_pos g3, if_neg c]
def badW (x : Int) : Prop := ¬ (0 ≤ x ∧ x ≤ 63999) ∨ x / 1600 = 29 ∨ x / 40 % 40 = 29 ∨ x % 40 = 29
instance (x : Int) : Decidable (badW x) := by unfold badW; infer_instance
def threeW (x : Int) : List Int := [bt radL (x / 1600), bt radL (x / 40 % 40), bt radL (x % 40)]
theorem three_ok (x : Int) (h0 : 0 ≤ x) (h1 : x ≤ 9223372036854775807) : wrap64 (Int.tdiv x 1600) = x / 1600 ∧ Int.tmod (wrap64 (Int.tdiv x 40)) 40 = x / 40 % 40 ∧ Int.tmod x 40 = x % 40 := by
  refine ⟨?_, ?_, ?_⟩
  · rw [Int.tdiv_eq_ediv_of_nonneg h0, w64 (by omega) (by omega)]
  · rw [Int.tdiv_eq_ediv_of_nonneg h0, w64 (by omega) (by omega), Int.tmod_eq_emod_of_nonneg (by omega)]
  · rw [Int.tmod_eq_emod_of_nonneg h0]
theorem spec_l1_step (k : Nat) (x0 x4 : List Int) (x5 : Int) (y0 y1 y2 : Int) (j : Nat) (hj : j < 3) (n : Int) (hn : [y0, y1, y2][j] = n) (h0 : 0 ≤ n) (h1 : n < 40) (hl : x4.length ≤ 100) :
    spec_GetRad.l1 (k + 1) x0 x4 x5 [y0, y1, y2] (j : Int) = if n = 29 then some ((⟨#[]⟩ : ByteArray), false) else spec_GetRad.l1 k x0 (x4 ++ [bt radL n]) x5 [y0, y1, y2] ((j + 1 : Nat) : Int) := by
  have w : wrap64 ((j : Int) + 1) = ((j + 1 : Nat) : Int) := by rw [w64 (by omega) (by omega)]; rfl
  have r : rd [y0, y1, y2] (j : Int) = n := by rw [rd_at _ _ hj]; exact hn
  have q := letter_ok n h0 h1
  have g1 : (j : Int) < 3 := by omega
  have g2 : 0 ≤ (j : Int) := by omega
  have g3 : (j : Int) < (([y0, y1, y2] : List Int).length : Int) := g1
  rw [spec_GetRad.l1.eq_def]
  simp only [r, w, q.1, Option.bind_some]
  rw [if_pos g1, if_pos g2, if_pos g3]
  by_cases c : n = 29
  · rw [if_pos c, if_pos (q.2.2 c)]
  · rw [if_neg c, if_neg (fun h => c (q.2.1 h)), if_pos (by omega)]
theorem impl_l1_step (k : Nat) (x13 x4 : List Int) (x6 x14 x15 : Int) (y0 y1 y2 : Int) (j : Nat) (hj : j < 3) (n : Int) (hn : [y0, y1, y2][j] = n) (h0 : 0 ≤ n) (h1 : n < 40) (hl : x4.length ≤ 100) (hx : 0 ≤ x6) :
    impl_GetRad.l1 (k + 1) x4 x6 x13 x14 x15 [y0, y1, y2] 3 (j : Int) = if n = 29 then some ((⟨#[]⟩ : ByteArray), false) else impl_GetRad.l1 k (x4 ++ [bt radL n]) x6 x13 x14 x15 [y0, y1, y2] 3 ((j + 1 : Nat) : Int) := by
  have w : wrap64 ((j : Int) + 1) = ((j + 1 : Nat) : Int) := by rw [w64 (by omega) (by omega)]; rfl
  have r : rd [y0, y1, y2] (j : Int) = n := by rw [rd_at _ _ hj]; exact hn
  have g1 : (j : Int) < 3 := by omega
  have g2 : 0 ≤ (j : Int) := by omega
  have g3 : (j : Int) < (([y0, y1, y2] : List Int).length : Int) := g1
  have g4 : ¬ n > 39 := by omega
  have g5 : ¬ x6 < 0 := by omega
  have g6 : x4.length < 140737488355328 := by omega
  rw [impl_GetRad.l1.eq_def]
  simp only [r, w]
  rw [if_pos g1, if_pos g2, if_pos g3, if_neg g5, if_neg g4]
  by_cases c : n = 29
  · rw [if_pos c, if_pos c]
  · rw [if_neg c, if_neg c, if_pos h0, if_pos h1, if_pos g6]; rfl
theorem spec_radword (k : Nat) (x0 x4 : List Int) (i : Nat) (hi : i < x0.length) (hn : x0.length ≤ 2) (hl : x4.length ≤ 50) (hw : (Lit.int .i64 x0[i]).wf = true) :
    spec_GetRad.l0 (k + 5) x0 x4 (i : Int) = if badW x0[i] then some ((⟨#[]⟩ : ByteArray), false) else spec_GetRad.l0 k x0 (x4 ++ threeW x0[i]) ((i + 1 : Nat) : Int) := by
  have hw := wf64 hw
  have w : wrap64 ((i : Int) + 1) = ((i + 1 : Nat) : Int) := by rw [w64 (by omega) (by omega)]; rfl
  have r := rd_at x0 i hi
  rw [spec_GetRad.l0.eq_def]
  simp only [r, l1In_ok, Option.bind_some]
  revert hw
  generalize x0[i] = x
  intro hw
  rw [if_pos (by omega), if_pos (by omega)]
  by_cases c : 0 ≤ x ∧ x ≤ 63999
  · rw [if_pos (decide_eq_true c)]
    obtain ⟨t1, t2, t3⟩ := three_ok x c.1 (by omega)
    rw [t1, t2, t3]
    clear t1 t2 t3
    have s0 := spec_l1_step (k + 3) x0 x4 (i : Int) (x / 1600) (x / 40 % 40) (x % 40) 0 (by omega) _ rfl (show 0 ≤ x / 1600 by omega) (show x / 1600 < 40 by omega) (by omega)
    have s1 := spec_l1_step (k + 2) x0 (x4 ++ [bt radL (x / 1600)]) (i : Int) (x / 1600) (x / 40 % 40) (x % 40) 1 (by omega) _ rfl (show 0 ≤ x / 40 % 40 by omega) (show x / 40 % 40 < 40 by omega) (by simp; omega)
    have s2 := spec_l1_step (k + 1) x0 (x4 ++ [bt radL (x / 1600)] ++ [bt radL (x / 40 % 40)]) (i : Int) (x / 1600) (x / 40 % 40) (x % 40) 2 (by omega) _ rfl (show 0 ≤ x % 40 by omega) (show x % 40 < 40 by omega) (by simp; omega)
    refine Eq.trans s0 ?_
    by_cases b0 : x / 1600 = 29
    · rw [if_pos (show badW x from Or.inr (Or.inl b0))]; exact if_pos b0
    refine Eq.trans (if_neg b0) (Eq.trans s1 ?_)
    by_cases b1 : x / 40 % 40 = 29
    · rw [if_pos (show badW x from Or.inr (Or.inr (Or.inl b1)))]; exact if_pos b1
    refine Eq.trans (if_neg b1) (Eq.trans s2 ?_)
    by_cases b2 : x % 40 = 29
    · rw [if_pos (show badW x from Or.inr (Or.inr (Or.inr b2)))]; exact if_pos b2
    refine Eq.trans (if_neg b2) ?_
    rw [if_neg (show ¬ badW x by unfold badW; omega), spec_GetRad.l1.eq_def]
    simp only [w]
    rw [if_neg (by decide), List.append_assoc, List.append_assoc]
    rfl
  · rw [if_neg (by rw [decide_eq_true_eq]; exact c), if_pos (show badW x from Or.inl c)]
theorem impl_radword (k : Nat) (x13 x4 : List Int) (i : Nat) (hi : i < x13.length) (hn : x13.length ≤ 2) (hl : x4.length ≤ 50) (hw : (Lit.int .i64 x13[i]).wf = true) :
    impl_GetRad.l0 (k + 5) x4 x13 (x13.length : Int) (i : Int) = if badW x13[i] then some ((⟨#[]⟩ : ByteArray), false) else impl_GetRad.l0 k (x4 ++ threeW x13[i]) x13 (x13.length : Int) ((i + 1 : Nat) : Int) := by
  have hw := wf64 hw
  have w : wrap64 ((i : Int) + 1) = ((i + 1 : Nat) : Int) := by rw [w64 (by omega) (by omega)]; rfl
  have r := rd_at x13 i hi
  rw [impl_GetRad.l0.eq_def]
  simp only [r, Option.bind_some]
  revert hw
  generalize x13[i] = x
  intro hw
  rw [if_pos (by omega), if_pos (by omega), if_pos (by omega)]
  by_cases c : 0 ≤ x ∧ x ≤ 63999
  · obtain ⟨t1, t2, t3⟩ := three_ok x c.1 (by omega)
    rw [t1, t2, t3]
    clear t1 t2 t3
    have s0 := impl_l1_step (k + 3) x13 x4 x (x13.length : Int) (i : Int) (x / 1600) (x / 40 % 40) (x % 40) 0 (by omega) _ rfl (show 0 ≤ x / 1600 by omega) (show x / 1600 < 40 by omega) (by omega) c.1
    have s1 := impl_l1_step (k + 2) x13 (x4 ++ [bt radL (x / 1600)]) x (x13.length : Int) (i : Int) (x / 1600) (x / 40 % 40) (x % 40) 1 (by omega) _ rfl (show 0 ≤ x / 40 % 40 by omega) (show x / 40 % 40 < 40 by omega) (by simp; omega) c.1
    have s2 := impl_l1_step (k + 1) x13 (x4 ++ [bt radL (x / 1600)] ++ [bt radL (x / 40 % 40)]) x (x13.length : Int) (i : Int) (x / 1600) (x / 40 % 40) (x % 40) 2 (by omega) _ rfl (show 0 ≤ x % 40 by omega) (show x % 40 < 40 by omega) (by simp; omega) c.1
    refine Eq.trans s0 ?_
    by_cases b0 : x / 1600 = 29
    · rw [if_pos (show badW x from Or.inr (Or.inl b0))]; exact if_pos b0
    refine Eq.trans (if_neg b0) (Eq.trans s1 ?_)
    by_cases b1 : x / 40 % 40 = 29
    · rw [if_pos (show badW x from Or.inr (Or.inr (Or.inl b1)))]; exact if_pos b1
    refine Eq.trans (if_neg b1) (Eq.trans s2 ?_)
    by_cases b2 : x % 40 = 29
    · rw [if_pos (show badW x from Or.inr (Or.inr (Or.inr b2)))]; exact if_pos b2
    refine Eq.trans (if_neg b2) ?_
    rw [if_neg (show ¬ badW x by unfold badW; omega), impl_GetRad.l1.eq_def]
    simp only [w]
    rw [if_neg (by decide), List.append_assoc, List.append_assoc]
    rfl
  · rw [if_pos (show badW x from Or.inl c), impl_GetRad.l1.eq_def]
    simp only []
    rw [if_pos (by simp), if_pos (by omega), if_pos (by simp)]
    by_cases c0 : x < 0
    · rw [if_pos c0]
    · rw [if_neg c0]
      have t : rd [wrap64 (Int.tdiv x 1600), Int.tmod (wrap64 (Int.tdiv x 40)) 40, Int.tmod x 40] 0 = x / 1600 := (three_ok x (by omega) (by omega)).1
      rw [t, if_pos (by omega)]
theorem three_bytes (x : Int) (y : Int) (h : y ∈ threeW x) : 0 ≤ y ∧ y ≤ 255 := by
  simp only [threeW, List.mem_cons, List.not_mem_nil, or_false] at h
  rcases h with rfl | rfl | rfl <;> exact bt_range _ _
/-- both make the same of all words. -/
theorem getRad_loop (l : List Int) (hl : l.length ≤ 2) (hw : ∀ x ∈ l, (Lit.int .i64 x).wf = true) : ∀ (d i : Nat) (x4 : List Int), l.length - i = d → i ≤ l.length → x4.length ≤ 3 * i → (∀ x ∈ x4, 0 ≤ x ∧ x ≤ 255) →
    ∃ r, Ev (fun k => spec_GetRad.l0 k l x4 (i : Int)) r ∧ Ev (fun k => impl_GetRad.l0 k x4 l (l.length : Int) (i : Int)) r := by
  intro d
  induction d with
  | zero =>
    intro i x4 hd hi hx hb
    obtain ⟨s, s1, s2⟩ := trim_same x4 x4.length rfl (by omega) hb
    refine ⟨(s, true), Ev.step (f := fun k => spec_GetRad.l2 k x4) (fun k => ?_) s1, ?_⟩
    · rw [spec_GetRad.l0.eq_def]; simp only []; rw [if_neg (by omega)]
    · have s3 : Ev (fun k => strings_TrimRight.f k (strOfNums x4) (⟨#[32]⟩ : ByteArray)) s := by
        refine Ev.congr (fun k => by rw [strings_TrimRight.f, if_pos rfl]) ?_
        by_cases c : (strOfNums x4).size = 0
        · refine Ev.congr (f := fun _ => some s) (fun k => ?_) (Ev.now _)
          rw [if_pos c]
          have e : Ev (fun k => strings_trimRightByte.l0 k (strOfNums x4) 32) (strOfNums x4) := Ev.step (f := fun _ => some (strOfNums x4)) (fun k => by rw [strings_trimRightByte.l0.eq_def]; simp only []; rw [if_neg (by omega)]) (Ev.now _)
          obtain ⟨K, h1⟩ := e; obtain ⟨M, h2⟩ := s2
          have a := h1 (K + M) (by omega); have b := h2 (K + M) (by omega)
          rw [a] at b; exact b
        · exact Ev.congr (fun k => by rw [if_neg c, strings_trimRightByte.f]) s2
      refine Ev.step (f := fun k => (strings_TrimRight.f k (strOfNums x4) (⟨#[32]⟩ : ByteArray)).bind fun t129 => some (t129, true)) (fun k => ?_) (Ev.bind s3 (Ev.now _))
      rw [impl_GetRad.l0.eq_def]; simp only []; rw [if_neg (by omega)]
  | succ d ih =>
    intro i x4 hd hi hx hb
    have hlt : i < l.length := by omega
    have hq := hw _ (List.getElem_mem hlt)
    have e1 := fun k => spec_radword k l x4 i hlt hl (by omega) hq
    have e2 := fun k => impl_radword k l x4 i hlt hl (by omega) hq
    by_cases b : badW l[i]
    · refine ⟨((⟨#[]⟩ : ByteArray), false), ⟨5, fun k hk => ?_⟩, ⟨5, fun k hk => ?_⟩⟩
      · obtain ⟨m, rfl⟩ : ∃ m, k = m + 5 := ⟨k - 5, by omega⟩
        simp only [e1 m]; rw [if_pos b]
      · obtain ⟨m, rfl⟩ : ∃ m, k = m + 5 := ⟨k - 5, by omega⟩
        simp only [e2 m]; rw [if_pos b]
    · obtain ⟨r, ⟨K, r1⟩, ⟨M, r2⟩⟩ := ih (i + 1) (x4 ++ threeW l[i]) (by omega) (by omega) (by simp [threeW]; omega) (fun x h => by
        rcases List.mem_append.1 h with h | h
        · exact hb x h
        · exact three_bytes _ _ h)
      refine ⟨r, ⟨K + 5, fun k hk => ?_⟩, ⟨M + 5, fun k hk => ?_⟩⟩
      · obtain ⟨m, rfl⟩ : ∃ m, k = m + 5 := ⟨k - 5, by omega⟩
        simp only [e1 m]; rw [if_neg b]; exact r1 m (by omega)
      · obtain ⟨m, rfl⟩ : ∃ m, k = m + 5 := ⟨k - 5, by omega⟩
        simp only [e2 m]; rw [if_neg b]; exact r2 m (by omega)
theorem getRad_same (l : List Int) (hw : ∀ x ∈ l, (Lit.int .i64 x).wf = true) : ∃ r, Ev (fun k => spec_GetRad.f k l) r ∧ Ev (fun k => impl_GetRad.f k l) r := by
  by_cases c : (l.length : Int) > 2
  · exact ⟨((⟨#[]⟩ : ByteArray), false), Ev.congr (f := fun _ => some ((⟨#[]⟩ : ByteArray), false)) (fun k => by rw [spec_GetRad.f, if_pos c]) (Ev.now _), Ev.congr (f := fun _ => some ((⟨#[]⟩ : ByteArray), false)) (fun k => by rw [impl_GetRad.f, if_pos c]) (Ev.now _)⟩
  · obtain ⟨r, r1, r2⟩ := getRad_loop l (by omega) hw l.length 0 [] (by omega) (by omega) (by simp) (by simp)
    exact ⟨r, Ev.congr (fun k => by rw [spec_GetRad.f, if_neg c]; rfl) r1, Ev.congr (fun k => by rw [impl_GetRad.f, if_neg c]; rfl) r2⟩
def radDraws : List ByteArray := [(⟨#[]⟩ : ByteArray), (⟨#[97]⟩ : ByteArray), (⟨#[97, 98, 99]⟩ : ByteArray), (⟨#[97, 98, 99, 100]⟩ : ByteArray), (⟨#[115, 116, 97, 114, 116]⟩ : ByteArray), (⟨#[114, 53, 48, 36, 46, 57]⟩ : ByteArray), (⟨#[115, 101, 118, 101, 110, 55, 55]⟩ : ByteArray), (⟨#[65]⟩ : ByteArray), (⟨#[97, 32, 98]⟩ : ByteArray), (⟨#[97, 98, 45]⟩ : ByteArray), (⟨#[32, 97]⟩ : ByteArray), (⟨#[122]⟩ : ByteArray)]
theorem l1New_ev (l : List Int) (hl : l.length ≤ 1048576) : ∃ h, Ev (fun k => spec_l1New.f k l) (l, 0, h) := by
  obtain ⟨h, e⟩ := l1New_ok l hl (l.length + 1) (by omega)
  exact ⟨h, Ev.of (spec_l1New.mono l) e⟩
theorem rdB_in (l : List ByteArray) (i : Int) (h0 : 0 ≤ i) (h1 : i < l.length) : rdOf ByteArray.empty l i ∈ l := by
  have h : i.toNat < l.length := by omega
  have e : rdOf ByteArray.empty l i = l[i.toNat] := by simp [rdOf, List.getD_eq_getElem?_getD, h]
  rw [e]; exact List.getElem_mem h
theorem drawPutRad_ok (l : List Int) (hl : l.length ≤ 1048576) : ∃ s, s ∈ radDraws ∧ Ev (fun k => spec_DrawPutRad.f k l) s := by
  obtain ⟨h, e⟩ := l1New_ev l hl
  obtain ⟨x, i', h', e2, x0, x1, _, _, _⟩ := l1Below_ok l hl 0 (by omega) (by omega) h 12
  have x1 := x1 (by omega)
  refine ⟨_, rdB_in radDraws x x0 x1, Ev.congr (f := fun k => (spec_l1New.f k l).bind fun bt153 => ((spec_l1Str.f bt153.1 bt153.2.1 bt153.2.2 radDraws).bind fun bt160 => (some bt160.1))) (fun k => rfl) (Ev.bind e (Ev.congr (f := fun _ => some (rdOf ByteArray.empty radDraws x)) (fun k => ?_) (Ev.now _)))⟩
  unfold spec_l1Str.f
  rw [show ((radDraws.length : Nat) : Int) = 12 from rfl, e2, Option.bind_some, if_pos x0, if_pos x1]; rfl
def radBack (s : ByteArray) : ByteArray × Bool := (impl_GetRad.f 40 (radOf s).1).getD ((⟨#[]⟩ : ByteArray), false)
theorem rads_facts : ∀ s ∈ radDraws, (∀ x ∈ (radOf s).1, (Lit.int .i64 x).wf = true) ∧
    (if (radOf s).2 = true then (impl_GetRad.f 40 (radOf s).1).isSome = true ∧ (radBack s).2 = true ∧ ((radBack s).1.data.toList = s.data.toList ∨ ((radBack s).1.size < s.size ∧ (s.extract 0 (radBack s).1.size).data.toList = (radBack s).1.data.toList)) else (radOf s).1.length = 0) := by decide +kernel
theorem putRad_ev (s : ByteArray) : Ev (fun k => spec_PutRad.f k s) (radOf s) ∧ Ev (fun k => impl_PutRad.f k s) (radOf s) :=
  ⟨⟨11, fun k hk => by obtain ⟨m, rfl⟩ : ∃ m, k = m + 11 := ⟨k - 11, by omega⟩; exact specPutRad_ok s m⟩, ⟨11, fun k hk => by obtain ⟨m, rfl⟩ : ∃ m, k = m + 11 := ⟨k - 11, by omega⟩; exact implPutRad_ok s m⟩⟩
theorem drawGetRad_ok (l : List Int) (hl : l.length ≤ 1048576) : ∃ g, (∀ x ∈ g, (Lit.int .i64 x).wf = true) ∧ Ev (fun k => spec_DrawGetRad.f k l) g := by
  obtain ⟨h, e⟩ := l1New_ev l hl
  obtain ⟨s, hs, es⟩ := drawPutRad_ok l hl
  obtain ⟨f1, _⟩ := rads_facts s hs
  have hr := radOf_length s
  obtain ⟨x, i', h', e2, x0, x1, _, i0, i1⟩ := l1Below_ok l hl 0 (by omega) (by omega) h 5
  obtain ⟨y, j', g', e3, hy, _, _⟩ := l1Int_ok l hl i' i0 i1 h' [0, 29, 63999, 64000, (-1), 65535] (by decide)
  have step : ∀ r, (if x = 0 then (some ((radOf s).1 ++ [y])) else (if x = 1 then (some (([1, 2, 3] : List Int))) else (some (radOf s).1))) = some r → Ev (fun k => spec_DrawGetRad.f k l) r := by
    intro r hr2
    refine Ev.congr (f := fun k => (spec_l1New.f k l).bind fun bt190 => ((spec_DrawPutRad.f k l).bind fun t194 => ((spec_PutRad.f k t194).bind fun bt195 => ((spec_l1Below.f bt190.1 bt190.2.1 bt190.2.2 5).bind fun bt199 => (if bt199.1 = 0 then ((spec_l1Int.f bt190.1 bt199.2.1 bt199.2.2 (([0, 29, 63999, 64000, (-1), 65535] : List Int))).bind fun bt205 => (if bt195.1.length < 17592186044416 then (some (bt195.1 ++ [bt205.1])) else (none))) else (if bt199.1 = 1 then (some (([1, 2, 3] : List Int))) else (some bt195.1))))))) (fun k => rfl) (Ev.bind e (Ev.bind es (Ev.bind (putRad_ev s).1 (Ev.congr (f := fun _ => some r) (fun k => ?_) (Ev.now _)))))
    simp only [e2, Option.bind_some, e3]
    rw [if_pos (show (radOf s).1.length < 17592186044416 by omega)]
    exact hr2
  by_cases c0 : x = 0
  · refine ⟨_, fun z hz => ?_, step _ (if_pos c0)⟩
    rcases List.mem_append.1 hz with h | h
    · exact f1 z h
    · rw [List.mem_singleton.1 h]
      have : ∀ q ∈ ([0, 29, 63999, 64000, (-1), 65535] : List Int), (Lit.int .i64 q).wf = true := by decide
      exact this y hy
  · by_cases c1 : x = 1
    · refine ⟨[1, 2, 3], by decide, step _ ((if_neg c0).trans (if_pos c1))⟩
    · exact ⟨_, f1, step _ ((if_neg c0).trans (if_neg c1))⟩
theorem sameInts_ev (a : List Int) (h : a.length ≤ 4611686018427387904) : Ev (fun k => laws_sameInts.f k a a) true := by
  refine ⟨a.length + 1, fun k hk => ?_⟩
  simp only [laws_sameInts.f]
  rw [if_pos trivial]
  have := eq_loop 0 a a rfl h (fun k x => laws_sameInts.l0 k a a x) (fun _ _ => rfl) k (by omega)
  rw [this]; simp
theorem FnRads : laws_FnRads.Pure := by
  intro l _ hl _
  refine Ev.rounds (g := fun k => laws_FnRads.f k l) ?_
  simp only [laws_FnRads.f, laws_big.f, Option.bind_some]
  by_cases c : (l.length : Int) > 1048576
  · exact Ev.congr (f := fun _ => some true) (fun k => by rw [if_pos (decide_eq_true c)]) (Ev.now _)
  refine Ev.congr (fun k => by rw [if_neg (by rw [decide_eq_true_eq]; exact c)]) ?_
  obtain ⟨s, hs, es⟩ := drawPutRad_ok l (by omega)
  obtain ⟨g, hg, eg⟩ := drawGetRad_ok l (by omega)
  obtain ⟨r, r1, r2⟩ := getRad_same g hg
  obtain ⟨p1, p2⟩ := putRad_ev s
  have hr := radOf_length s
  refine Ev.bind es (Ev.bind p2 (Ev.bind p1 (Ev.bind eg (Ev.bind r2 (Ev.bind r1 ?_)))))
  refine Ev.congr (f := fun k => (laws_sameInts.f k (radOf s).1 (radOf s).1).bind fun t233 => (if t233 = true then (if (r.2 != r.2) = true then (laws_FnRads.j0 k s (radOf s).1 (radOf s).2 true) else (laws_FnRads.j0 k s (radOf s).1 (radOf s).2 (r.1.toList != r.1.toList))) else (laws_FnRads.j0 k s (radOf s).1 (radOf s).2 true))) (fun k => by rw [if_neg (by simp)]) (Ev.bind (sameInts_ev _ (by omega)) ?_)
  refine Ev.congr (f := fun k => laws_FnRads.j0 k s (radOf s).1 (radOf s).2 false) (fun k => by rw [if_pos rfl, if_neg (by simp), bne_self_eq_false]) ?_
  obtain ⟨_, f2⟩ := rads_facts s hs
  by_cases ok : (radOf s).2 = true
  · rw [if_pos ok] at f2
    obtain ⟨q1, q2, q3⟩ := f2
    have q0 : impl_GetRad.f 40 (radOf s).1 = some (radBack s) := by
      unfold radBack
      cases e : impl_GetRad.f 40 (radOf s).1 with
      | none => rw [e] at q1; simp at q1
      | some t => rfl
    have qe : Ev (fun k => impl_GetRad.f k (radOf s).1) (radBack s) := Ev.of (impl_GetRad.mono (radOf s).1) q0
    refine Ev.step (f := fun k => (impl_GetRad.f k (radOf s).1).bind fun bt234 => (if bt234.2 = true then (if bt234.1.toList = s.toList then (some true) else (if (bt234.1.size : Int) < (s.size : Int) then (if 0 ≤ (bt234.1.size : Int) then (if (bt234.1.size : Int) ≤ (s.size : Int) then (some ((s.extract 0 ((bt234.1.size : Int) : Int).toNat).toList == bt234.1.toList)) else (none)) else (none)) else (some false))) else (some false))) (fun k => by rw [laws_FnRads.j0.eq_def]; simp only []; rw [if_neg (by simp), if_pos ok]) (Ev.bind qe (Ev.congr (f := fun _ => some true) (fun k => ?_) (Ev.now _)))
    rw [if_pos q2]
    simp only [← bal] at q3
    rcases q3 with q3 | ⟨q3, q4⟩
    · rw [if_pos q3]
    · by_cases d : (radBack s).1.toList = s.toList
      · rw [if_pos d]
      · rw [if_neg d, if_pos (by omega), if_pos (by omega), if_pos (by omega), Int.toNat_natCast]
        rw [q4, beq_self_eq_true]
  · rw [if_neg ok] at f2
    refine Ev.step (f := fun _ => some true) (fun k => ?_) (Ev.now _)
    rw [laws_FnRads.j0.eq_def]; simp only []
    rw [if_neg (by simp), if_neg ok, f2]; rfl

end Go.Proofs.YtddaaoadodihpaaDoor.Pure
