/- Proved: the law FnExactPutRad, as a plain function, answers true at each text; no further conditions. -/
import Derived.Test.YtddaaoadodihpaaPFnExactPutRadx1
import Derived.Test.YtddaaoadodihpaaPFnExactPutRadx2
import Derived.Test.YtddaaoadodihpaaVCFnExactPutRad
namespace Go.Proofs.Ytddaaoadodihpaa.Pure
open Go.RowKit Go.Proofs.Ytddaaoadodihpaa.PFnExactPutRad Go.Proofs.YtddaaoadodihpaaW.PrintWords Go.Proofs.YtddaaoadodihpaaW.PrintLast Go.Proofs.Ytddaaoadodihpaa.Common
set_option linter.unusedVariables false
set_option linter.unusedSimpArgs false
theorem l1In_ok (a b c : Int) : spec_l1In.f a b c = some (decide (b ≤ a ∧ a ≤ c)) := by
  unfold spec_l1In.f
  by_cases h : a ≥ b
  · have h' : b ≤ a := h
    rw [if_pos h]; simp [h']
  · have h' : ¬ b ≤ a := h
    rw [if_neg h]; simp [h']
/-- a letter's number; -1: it is none. -/
def letV (c : Int) : Int := (spec_l2Code.f c).getD 0
def radLetters : ByteArray := ⟨#[32, 97, 98, 99, 100, 101, 102, 103, 104, 105, 106, 107, 108, 109, 110, 111, 112, 113, 114, 115, 116, 117, 118, 119, 120, 121, 122, 36, 46, 0, 48, 49, 50, 51, 52, 53, 54, 55, 56, 57]⟩
theorem let_all : ∀ c : Fin 256, spec_l2Code.f ((c.1 : Nat) : Int) = some (letV ((c.1 : Nat) : Int)) ∧ -1 ≤ letV ((c.1 : Nat) : Int) ∧ letV ((c.1 : Nat) : Int) ≤ 39 ∧ letV ((c.1 : Nat) : Int) ≠ 29 ∧
    (if letV ((c.1 : Nat) : Int) < 0 then (Lib.indexByte radLetters.data.toList (((c.1 : Nat) : Int)).toNat.toUInt8 < 0 ∨ Lib.indexByte radLetters.data.toList (((c.1 : Nat) : Int)).toNat.toUInt8 = 29) else Lib.indexByte radLetters.data.toList (((c.1 : Nat) : Int)).toNat.toUInt8 = letV ((c.1 : Nat) : Int)) := by decide +kernel
theorem let_at (s : ByteArray) (i : Int) : spec_l2Code.f (bt s i) = some (letV (bt s i)) ∧ -1 ≤ letV (bt s i) ∧ letV (bt s i) ≤ 39 ∧ letV (bt s i) ≠ 29 ∧
    (if letV (bt s i) < 0 then (Lib.indexByte radLetters.data.toList (bt s i).toNat.toUInt8 < 0 ∨ Lib.indexByte radLetters.data.toList (bt s i).toNat.toUInt8 = 29) else Lib.indexByte radLetters.data.toList (bt s i).toNat.toUInt8 = letV (bt s i)) := by
  have h := bt_range s i
  have := let_all ⟨(bt s i).toNat, by omega⟩
  simp only [Int.toNat_of_nonneg h.1] at this
  exact this
theorem ix_letters (x : Int) : strings_IndexByte.f (⟨#[32, 97, 98, 99, 100, 101, 102, 103, 104, 105, 106, 107, 108, 109, 110, 111, 112, 113, 114, 115, 116, 117, 118, 119, 120, 121, 122, 36, 46, 0, 48, 49, 50, 51, 52, 53, 54, 55, 56, 57]⟩ : ByteArray) x = some (Lib.indexByte radLetters.data.toList x.toNat.toUInt8) := rfl
/-- the number at a place: past the end, nothing. -/
def cod (s : ByteArray) (j : Nat) : Int := if (j : Int) < (s.size : Int) then letV (bt s (j : Int)) else 0
theorem cod_range (s : ByteArray) (j : Nat) : -1 ≤ cod s j ∧ cod s j ≤ 39 := by
  unfold cod
  split
  · have := let_at s (j : Int); omega
  · omega
theorem spec_step (k : Nat) (s : ByteArray) (x4 : List Int) (i j : Nat) (hi : i ≤ 6) (x6 : Int) (hj : j < i + 3) (h0 : 0 ≤ x6) (h1 : x6 ≤ 64000) :
    spec_PutRad.l1 (k + 1) s x4 (i : Int) x6 (j : Int) = if cod s j < 0 then some (([] : List Int), false) else spec_PutRad.l1 k s x4 (i : Int) (x6 * 40 + cod s j) ((j + 1 : Nat) : Int) := by
  have hc := cod_range s j
  have w0 : wrap64 ((i : Int) + 3) = i + 3 := w64 (by omega) (by omega)
  have w1 : wrap64 (x6 * 40) = x6 * 40 := w64 (by omega) (by omega)
  have w2 : wrap64 (x6 * 40 + cod s j) = x6 * 40 + cod s j := w64 (by omega) (by omega)
  have w3 : wrap64 ((j : Int) + 1) = ((j + 1 : Nat) : Int) := by rw [w64 (by omega) (by omega)]; rfl
  simp only [spec_PutRad.l1, w0, w1, w3]
  rw [if_pos (by omega)]
  unfold cod at w2 ⊢
  by_cases c : (j : Int) < (s.size : Int)
  · rw [if_pos c] at w2 ⊢
    rw [if_pos c, if_pos (by omega), (let_at s (j : Int)).1, Option.bind_some, w2]
  · rw [if_neg c] at w2 ⊢
    rw [if_neg c, w2, if_neg (by omega), if_neg (by omega)]
def wordAt (s : ByteArray) (i : Nat) : Int := (cod s i * 40 + cod s (i + 1)) * 40 + cod s (i + 2)
def badAt (s : ByteArray) (i : Nat) : Prop := cod s i < 0 ∨ cod s (i + 1) < 0 ∨ cod s (i + 2) < 0
instance (s : ByteArray) (i : Nat) : Decidable (badAt s i) := by unfold badAt; infer_instance
theorem spec_word (k : Nat) (s : ByteArray) (x4 : List Int) (i : Nat) (hi : i ≤ 6) (hl : x4.length ≤ 2) (hs : (i : Int) < (s.size : Int)) :
    spec_PutRad.l0 (k + 5) s x4 (i : Int) = if badAt s i then some (([] : List Int), false) else spec_PutRad.l0 k s (x4 ++ [wordAt s i]) ((i + 3 : Nat) : Int) := by
  have c0 := cod_range s i; have c1 := cod_range s (i + 1); have c2 := cod_range s (i + 2)
  simp only [spec_PutRad.l0]
  rw [if_pos hs, spec_step (k + 3) s x4 i i hi 0 (by omega) (by omega) (by omega)]
  by_cases b0 : cod s i < 0
  · rw [if_pos b0, if_pos (show badAt s i from Or.inl b0)]
  rw [if_neg b0, spec_step (k + 2) s x4 i (i + 1) hi _ (by omega) (by omega) (by omega)]
  by_cases b1 : cod s (i + 1) < 0
  · rw [if_pos b1, if_pos (show badAt s i from Or.inr (Or.inl b1))]
  rw [if_neg b1, spec_step (k + 1) s x4 i (i + 1 + 1) hi _ (by omega) (by omega) (by omega)]
  by_cases b2 : cod s (i + 2) < 0
  · rw [if_pos b2, if_pos (show badAt s i from Or.inr (Or.inr b2))]
  rw [if_neg b2, if_neg (show ¬ badAt s i by unfold badAt; omega)]
  have w0 : wrap64 ((i : Int) + 3) = ((i + 3 : Nat) : Int) := by rw [w64 (by omega) (by omega)]; rfl
  simp only [spec_PutRad.l1, w0]
  rw [if_neg (by omega), if_pos (by omega)]
  have e : (0 * 40 + cod s i) * 40 + cod s (i + 1) = cod s i * 40 + cod s (i + 1) := by omega
  rw [e]; rfl
theorem impl_step (k : Nat) (s : ByteArray) (x4 : List Int) (n j : Nat) (hn : n ≤ 6) (hj : j < n) (hq : j / 3 < x4.length) (h0 : 0 ≤ x4.getD (j / 3) 0) (h1 : x4.getD (j / 3) 0 ≤ 64000) :
    impl_PutRad.l0 (k + 1) s x4 (n : Int) (j : Int) = if cod s j < 0 then some (([] : List Int), false) else impl_PutRad.l0 k s (x4.set (j / 3) (40 * x4.getD (j / 3) 0 + cod s j)) (n : Int) ((j + 1 : Nat) : Int) := by
  have hc := cod_range s j
  have g1 : (j : Int) < (n : Int) := by omega
  have g2 : 0 ≤ (j : Int) := by omega
  have g3 : 0 ≤ ((j / 3 : Nat) : Int) := Int.natCast_nonneg _
  have g4 : ((j / 3 : Nat) : Int) < (x4.length : Int) := Int.ofNat_lt.2 hq
  have wq : wrap64 (Int.tdiv (j : Int) 3) = ((j / 3 : Nat) : Int) := by
    rw [Int.tdiv_eq_ediv_of_nonneg (by omega), w64 (by omega) (by omega)]; rfl
  have rq : rd x4 (((j / 3 : Nat) : Int)) = x4.getD (j / 3) 0 := rfl
  have w3 : wrap64 ((j : Int) + 1) = ((j + 1 : Nat) : Int) := by rw [w64 (by omega) (by omega)]; rfl
  have q := let_at s (j : Int)
  revert h0 h1
  rw [impl_PutRad.l0.eq_def]
  simp only [wq, rq, w3, ix_letters, Option.bind_some]
  generalize x4.getD (j / 3) 0 = y
  intro h0 h1
  have w1 : wrap64 (40 * y) = 40 * y := w64 (by omega) (by omega)
  have w2 : wrap64 (40 * y + cod s j) = 40 * y + cod s j := w64 (by omega) (by omega)
  rw [w1, if_pos g1]
  unfold cod at w2 ⊢
  by_cases c : (j : Int) < (s.size : Int)
  · rw [if_pos c] at w2 ⊢
    rw [if_pos c, if_pos g2]
    obtain ⟨_, _, _, q29, qi⟩ := q
    generalize Lib.indexByte radLetters.data.toList (bt s (j : Int)).toNat.toUInt8 = e at qi ⊢
    generalize letV (bt s (j : Int)) = v at w2 q29 qi ⊢
    by_cases b : v < 0
    · rw [if_pos b] at qi ⊢
      rcases qi with qi | qi
      · rw [if_pos qi]
      · by_cases b2 : e < 0
        · rw [if_pos b2]
        · rw [if_neg b2, if_pos qi]
    · rw [if_neg b] at qi ⊢
      subst qi
      rw [if_neg b, if_neg q29, if_pos g3, if_pos g4, w2]
      rfl
  · rw [if_neg c] at w2 ⊢
    rw [if_neg c, w2, if_neg (by decide), if_neg (by decide), if_pos g3, if_pos g4, if_neg (by decide)]
    rfl
theorem impl_word0 (k : Nat) (s : ByteArray) (n : Nat) (hn : n ≤ 6) (h3 : 3 ≤ n) (y : List Int) :
    impl_PutRad.l0 (k + 3) s (0 :: y) (n : Int) 0 = if badAt s 0 then some (([] : List Int), false) else impl_PutRad.l0 k s (wordAt s 0 :: y) (n : Int) 3 := by
  have c0 := cod_range s 0; have c1 := cod_range s 1; have c2 := cod_range s 2; have n4 : cod s (0 + 1) = cod s 1 := rfl; have n5 : cod s (0 + 2) = cod s 2 := rfl
  have s0 := impl_step (k + 2) s (0 :: y) n 0 hn (by omega) (by simp) (by simp) (by simp)
  simp only [Nat.zero_div, List.getD_cons_zero, List.set_cons_zero, Int.natCast_zero, Nat.zero_add] at s0
  rw [s0]
  by_cases b0 : cod s 0 < 0
  · rw [if_pos b0, if_pos (show badAt s 0 from Or.inl b0)]
  have s1 := impl_step (k + 1) s ((40 * 0 + cod s 0) :: y) n 1 hn (by omega) (by simp) (by simp; omega) (by simp; omega)
  simp only [show 1 / 3 = 0 from rfl, List.getD_cons_zero, List.set_cons_zero] at s1
  rw [if_neg b0, s1]
  by_cases b1 : cod s 1 < 0
  · rw [if_pos b1, if_pos (show badAt s 0 from Or.inr (Or.inl b1))]
  have s2 := impl_step k s ((40 * (40 * 0 + cod s 0) + cod s 1) :: y) n 2 hn (by omega) (by simp) (by simp; omega) (by simp; omega)
  simp only [show 2 / 3 = 0 from rfl, List.getD_cons_zero, List.set_cons_zero] at s2
  rw [if_neg b1]
  rw [show ((1 + 1 : Nat) : Int) = ((2 : Nat) : Int) from rfl, s2]
  by_cases b2 : cod s 2 < 0
  · rw [if_pos b2, if_pos (show badAt s 0 from Or.inr (Or.inr b2))]
  rw [if_neg b2, if_neg (show ¬ badAt s 0 by unfold badAt; omega)]
  have e : 40 * (40 * (40 * 0 + cod s 0) + cod s 1) + cod s 2 = (cod s 0 * 40 + cod s 1) * 40 + cod s 2 := by omega
  rw [e]; rfl
theorem impl_word1 (k : Nat) (s : ByteArray) (x : Int) :
    impl_PutRad.l0 (k + 3) s [x, 0] 6 3 = if badAt s 3 then some (([] : List Int), false) else impl_PutRad.l0 k s [x, wordAt s 3] 6 6 := by
  have c0 := cod_range s 3; have c1 := cod_range s 4; have c2 := cod_range s 5; have n4 : cod s (3 + 1) = cod s 4 := rfl; have n5 : cod s (3 + 2) = cod s 5 := rfl
  have s0 := impl_step (k + 2) s [x, 0] 6 3 (by omega) (by omega) (by simp) (by simp) (by simp)
  simp only [show 3 / 3 = 1 from rfl, List.getD_cons_succ, List.getD_cons_zero, List.set_cons_succ, List.set_cons_zero] at s0
  rw [show (6 : Int) = ((6 : Nat) : Int) from rfl, show (3 : Int) = ((3 : Nat) : Int) from rfl, s0]
  by_cases b0 : cod s 3 < 0
  · rw [if_pos b0, if_pos (show badAt s 3 from Or.inl b0)]
  have s1 := impl_step (k + 1) s [x, 40 * 0 + cod s 3] 6 4 (by omega) (by omega) (by simp) (by simp; omega) (by simp; omega)
  simp only [show 4 / 3 = 1 from rfl, List.getD_cons_succ, List.getD_cons_zero, List.set_cons_succ, List.set_cons_zero] at s1
  rw [if_neg b0, show ((3 + 1 : Nat) : Int) = ((4 : Nat) : Int) from rfl, s1]
  by_cases b1 : cod s 4 < 0
  · rw [if_pos b1, if_pos (show badAt s 3 from Or.inr (Or.inl b1))]
  have s2 := impl_step k s [x, 40 * (40 * 0 + cod s 3) + cod s 4] 6 5 (by omega) (by omega) (by simp) (by simp; omega) (by simp; omega)
  simp only [show 5 / 3 = 1 from rfl, List.getD_cons_succ, List.getD_cons_zero, List.set_cons_succ, List.set_cons_zero] at s2
  rw [if_neg b1, show ((4 + 1 : Nat) : Int) = ((5 : Nat) : Int) from rfl, s2]
  by_cases b2 : cod s 5 < 0
  · rw [if_pos b2, if_pos (show badAt s 3 from Or.inr (Or.inr b2))]
  rw [if_neg b2, if_neg (show ¬ badAt s 3 by unfold badAt; omega)]
  have e : 40 * (40 * (40 * 0 + cod s 3) + cod s 4) + cod s 5 = (cod s 3 * 40 + cod s 4) * 40 + cod s 5 := by omega
  rw [e]; rfl
/-- what both make of a text. -/
def radOf (s : ByteArray) : List Int × Bool :=
  if s.size > 6 then ([], false) else if s.size = 0 then ([], true) else if badAt s 0 then ([], false) else if s.size ≤ 3 then ([wordAt s 0], true) else if badAt s 3 then ([], false) else ([wordAt s 0, wordAt s 3], true)
theorem radOf_length (s : ByteArray) : (radOf s).1.length ≤ 2 := by
  unfold radOf
  repeat' split
  all_goals simp
theorem specPutRad_ok (s : ByteArray) (k : Nat) : spec_PutRad.f (k + 11) s = some (radOf s) := by
  simp only [spec_PutRad.f, Option.bind_some]
  unfold radOf
  by_cases c6 : s.size > 6
  · rw [if_pos (by omega), if_pos c6]
  rw [if_neg (by omega), if_neg c6]
  by_cases c0 : s.size = 0
  · rw [if_pos c0]; simp only [spec_PutRad.l0]; rw [if_neg (by omega)]
  rw [if_neg c0]
  have e := spec_word (k + 6) s [] 0 (by omega) (by simp) (by omega)
  rw [show ((0 : Nat) : Int) = 0 from rfl] at e
  rw [show k + 11 = k + 6 + 5 from rfl, e]
  by_cases b0 : badAt s 0
  · rw [if_pos b0, if_pos b0]
  rw [if_neg b0, if_neg b0]
  by_cases c3 : s.size ≤ 3
  · rw [if_pos c3]; simp only [spec_PutRad.l0]; rw [if_neg (by omega)]; rfl
  rw [if_neg c3, show k + 6 = k + 1 + 5 from rfl, spec_word (k + 1) s _ (0 + 3) (by omega) (by simp) (by omega)]
  by_cases b3 : badAt s 3
  · rw [if_pos b3, if_pos b3]
  rw [if_neg b3, if_neg b3]
  simp only [spec_PutRad.l0]; rw [if_neg (by omega)]; rfl
theorem implPutRad_ok (s : ByteArray) (k : Nat) : impl_PutRad.f (k + 11) s = some (radOf s) := by
  rw [impl_PutRad.f, Option.bind_some]
  unfold radOf
  by_cases c6 : s.size > 6
  · rw [if_pos (by omega), if_pos c6]
  rw [if_neg (by omega), if_neg c6]
  have wn : wrap64 (Int.tdiv (wrap64 ((s.size : Int) + 2)) 3) = (((s.size + 2) / 3 : Nat) : Int) := by
    rw [w64 (x := (s.size : Int) + 2) (by omega) (by omega), Int.tdiv_eq_ediv_of_nonneg (by omega), w64 (by omega) (by omega)]; rfl
  rw [wn, if_pos (by omega), if_pos (by omega), Int.toNat_natCast, List.length_replicate]
  by_cases c0 : s.size = 0
  · rw [if_pos c0, show (s.size + 2) / 3 = 0 by omega, show wrap64 (3 * ((0 : Nat) : Int)) = 0 by rw [w64 (by omega) (by omega)]; rfl, impl_PutRad.l0.eq_def]
    simp only []
    rw [if_neg (by decide)]; rfl
  rw [if_neg c0]
  by_cases c3 : s.size ≤ 3
  · rw [show (s.size + 2) / 3 = 1 by omega]
    have e := impl_word0 (k + 8) s 3 (by omega) (by omega) []
    rw [show wrap64 (3 * ((1 : Nat) : Int)) = ((3 : Nat) : Int) by rw [w64 (by omega) (by omega)]; rfl, show List.replicate 1 (0 : Int) = [0] from rfl, e]
    by_cases b0 : badAt s 0
    · rw [if_pos b0, if_pos b0]
    rw [if_neg b0, if_neg b0, if_pos c3]
    rw [impl_PutRad.l0.eq_def]; simp only []
    rw [if_neg (by decide)]
  · rw [show (s.size + 2) / 3 = 2 by omega]
    have e := impl_word0 (k + 8) s 6 (by omega) (by omega) [0]
    rw [show wrap64 (3 * ((2 : Nat) : Int)) = ((6 : Nat) : Int) by rw [w64 (by omega) (by omega)]; rfl, show List.replicate 2 (0 : Int) = [0, 0] from rfl, e]
    by_cases b0 : badAt s 0
    · rw [if_pos b0, if_pos b0]
    rw [if_neg b0, if_neg b0, if_neg c3]
    have e2 := impl_word1 (k + 5) s (wordAt s 0)
    rw [show ((6 : Nat) : Int) = 6 from rfl, e2]
    by_cases b3 : badAt s 3
    · rw [if_pos b3, if_pos b3]
    rw [if_neg b3, if_neg b3]
    rw [impl_PutRad.l0.eq_def]; simp only []
    rw [if_neg (by decide)]
theorem markIntS_ok (l : List Int) (m : Int) (h0 : 0 ≤ m) (h1 : m ≤ 2305843009213693952) (h : l.length ≤ 2305843009213693952) (k : Nat) (hk : l.length < k) : laws_markIntS.f k l m = some (m + l.length, marks id l.length m) := by
  unfold laws_markIntS.f
  exact mark_loop id (fun k a b c => laws_markIntS.l0 k a b c) (fun _ _ _ _ => rfl) m h0 h1 k l h hk
theorem heldIntS_ok (n : Nat) (m : Int) (h0 : 0 ≤ m) (h1 : m ≤ 2305843009213693952) (h : n ≤ 2305843009213693952) (k : Nat) (hk : n < k) : laws_heldIntS.f k (marks id n m) m = some (m + n) := by
  unfold laws_heldIntS.f
  exact held_loop id (fun k a b c => laws_heldIntS.l0 k a b c) (fun _ _ _ _ => rfl) m h0 h1 k n h hk
theorem eqIntS_ok (a b : List Int) (h : a.length ≤ 4611686018427387904) (k : Nat) (hk : a.length < k) : laws_eqIntS.f k a b = some (decide (a = b)) := by
  unfold laws_eqIntS.f
  by_cases e : (a.length : Int) = (b.length : Int)
  · rw [if_pos e]; exact eq_loop 0 a b (by omega) h (fun k x => laws_eqIntS.l0 k a b x) (fun _ _ => rfl) k hk
  · rw [if_neg e]; congr 1; symm; rw [decide_eq_false_iff_not]; intro h; subst h; exact e rfl
theorem eqIntS_self (a : List Int) (h : a.length ≤ 4611686018427387904) (k : Nat) (hk : a.length < k) : laws_eqIntS.f k a a = some true := by
  rw [eqIntS_ok a a h k hk]; simp
theorem FnExactPutRad : laws_FnExactPutRad.Pure := by
  intro s hs
  refine ⟨16, ?_⟩
  unfold laws_FnExactPutRad.f
  by_cases hb : (s.size : Int) > 1048576
  · rw [if_pos hb]
  have hl := radOf_length s
  rw [if_neg hb, specPutRad_ok s 5, Option.bind_some, implPutRad_ok s 5, Option.bind_some, eqIntS_self _ (by omega) 16 (by omega), Option.bind_some, if_pos rfl, bne_self_eq_false]
  simp only [laws_FnExactPutRad.j0, laws_FnExactPutRad.j1]
  rw [if_neg (by simp), markIntS_ok _ 1 (by omega) (by omega) (by omega) 15 (by omega), Option.bind_some]
  simp only [heldIntS_ok (radOf s).1.length 1 (by omega) (by omega) (by omega) 15 (by omega), heldIntS_ok (radOf s).1.length 1 (by omega) (by omega) (by omega) 14 (by omega), Option.bind_some]
  have hneg : ¬ (1 + ((radOf s).1.length : Int) < 0) := by omega
  have e4 := implPutRad_ok s 4
  have q4 := eqIntS_self (radOf s).1 (by omega) 15 (by omega)
  rw [show (4 + 11 : Nat) = 15 from rfl] at e4
  simp only [if_neg hneg, if_true, e4, Option.bind_some, q4, bne_self_eq_false, Bool.false_eq_true, if_false]

end Go.Proofs.Ytddaaoadodihpaa.Pure
