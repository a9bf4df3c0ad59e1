/- Proved: the law FnSums, as a plain function, answers true at all bytes; no further conditions. -/
import Derived.Test.YtcnmedbhmkknlaaPFnSumsx2
import Derived.Test.YtcnmedbhmkknlaaCommon
namespace Go.Proofs.Ytcnmedbhmkknlaa.Pure
open Go.RowKit Go.Proofs.Ytcnmedbhmkknlaa.PFnSums Go.Proofs.YtcnmedbhmkknlaaW.PrintWords Go.Proofs.YtcnmedbhmkknlaaW.PrintLast Go.Proofs.Ytcnmedbhmkknlaa.Common
theorem implSum_loop (l : List Int) (hl : l.length ≤ 1048577) (hb : ∀ x ∈ l, 0 ≤ x ∧ x ≤ 255) :
    ∀ (r : Nat) (k : Nat) (s : Int) (i : Nat), l.length - i = r → i ≤ l.length → r < k → - (256 * (i : Int)) ≤ s → s ≤ 0 → impl_SumOf.l0 k s l (l.length : Int) i = some ((s - (l.drop i).sum) % 65536) := by
  intro r
  induction r with
  | zero =>
    intro k s i hr hi hk h0 h1
    obtain ⟨k, rfl⟩ : ∃ m, k = m + 1 := ⟨k - 1, by omega⟩
    simp only [impl_SumOf.l0]
    rw [if_neg (by omega), List.drop_of_length_le (by omega)]
    simp [impl_Wrap.f, and65535]
  | succ r ih =>
    intro k s i hr hi hk h0 h1
    obtain ⟨k, rfl⟩ : ∃ m, k = m + 1 := ⟨k - 1, by omega⟩
    have hlt : i < l.length := by omega
    have hx := hb (l[i]) (List.getElem_mem hlt)
    have hrd : rd l (i : Int) = l[i] := by simp [rd, List.getD_eq_getElem?_getD, hlt]
    have hd : (l.drop i).sum = l[i] + (l.drop (i + 1)).sum := by rw [List.drop_eq_getElem_cons hlt, List.sum_cons]
    simp only [impl_SumOf.l0]
    rw [if_pos (by omega), if_pos (by omega), if_pos (by omega), hrd, w64 (x := l[i]) (by omega) (by omega), w64 (x := s - l[i]) (by omega) (by omega)]
    rw [w64 (x := (i : Int) + 1) (by omega) (by omega)]
    have := ih k (s - l[i]) (i + 1) (by omega) (by omega) (by omega) (by omega) (by omega)
    have e : ((i : Int) + 1) = ((i + 1 : Nat) : Int) := by omega
    rw [e, this, hd]
    congr 1
    omega
theorem implSumOf_ok (l : List Int) (hl : l.length ≤ 1048577) (hb : ∀ x ∈ l, 0 ≤ x ∧ x ≤ 255) (k : Nat) (hk : l.length < k) : impl_SumOf.f k l = some ((- l.sum) % 65536) := by
  unfold impl_SumOf.f
  have := implSum_loop l hl hb l.length k 0 0 (by omega) (by omega) hk (by omega) (by omega)
  simpa using this
theorem rd_in (l : List Int) (i : Int) (h0 : 0 ≤ i) (h1 : i < l.length) : rd l i ∈ l := by
  have hlt : i.toNat < l.length := by omega
  have : rd l i = l[i.toNat] := by simp [rd, List.getD_eq_getElem?_getD, hlt]
  rw [this]; exact List.getElem_mem hlt
theorem l1New_ok (l : List Int) (hl : l.length ≤ 1048576) (k : Nat) (hk : l.length < k) : ∃ h, spec_l1New.f k l = some (l, 0, h) := by
  unfold spec_l1New.f
  generalize wrap64 (766766 + (l.length : Int)) = h
  have H : ∀ (r : Nat) k (h : Int) (i : Nat), l.length - i = r → i ≤ l.length → r < k → ∃ h', spec_l1New.l0 k l h i = some (l, 0, h') := by
    intro r
    induction r with
    | zero =>
      intro k h i hr hi hk
      obtain ⟨k, rfl⟩ : ∃ m, k = m + 1 := ⟨k - 1, by omega⟩
      exact ⟨h, by simp only [spec_l1New.l0]; rw [if_neg (by omega)]⟩
    | succ r ih =>
      intro k h i hr hi hk
      obtain ⟨k, rfl⟩ : ∃ m, k = m + 1 := ⟨k - 1, by omega⟩
      simp only [spec_l1New.l0]
      rw [if_pos (by omega)]
      by_cases h4 : (i : Int) < 4000
      · rw [if_pos h4, if_pos (by omega), w64 (x := (i : Int) + 1) (by omega) (by omega)]
        exact ih k _ (i + 1) (by omega) (by omega) (by omega)
      · rw [if_neg h4]; exact ⟨h, rfl⟩
  exact H l.length k h 0 (by omega) (by omega) hk
theorem l1Byte_ok (l : List Int) (hl : l.length ≤ 1048576) (i : Int) (h0 : 0 ≤ i) (h1 : i ≤ l.length) (h : Int) :
    ∃ x i' h', spec_l1Byte.f l i h = some (x, i', h') ∧ 0 ≤ x ∧ x ≤ 255 ∧ 0 ≤ i' ∧ i' ≤ l.length := by
  unfold spec_l1Byte.f
  simp only [and255]
  by_cases hi : i < (l.length : Int)
  · rw [if_pos hi, if_pos h0, w64 (x := i + 1) (by omega) (by omega)]
    exact ⟨_, _, _, rfl, by omega, by omega, by omega, by omega⟩
  · rw [if_neg hi]
    exact ⟨_, _, _, rfl, by omega, by omega, by omega, by omega⟩
theorem l1Below_ok (l : List Int) (hl : l.length ≤ 1048576) (i : Int) (h0 : 0 ≤ i) (h1 : i ≤ l.length) (h : Int) (n : Int) :
    ∃ x i' h', spec_l1Below.f l i h n = some (x, i', h') ∧ 0 ≤ x ∧ (0 < n → x < n) ∧ (n ≤ 0 → x = 0) ∧ 0 ≤ i' ∧ i' ≤ l.length := by
  unfold spec_l1Below.f
  by_cases hn : n ≤ 0
  · rw [if_pos hn]; exact ⟨_, _, _, rfl, by omega, by omega, by omega, by omega, by omega⟩
  rw [if_neg hn]
  by_cases hn2 : n ≤ 256
  · rw [if_pos hn2]
    obtain ⟨x, i', h', e, x0, x1, i0, i1⟩ := l1Byte_ok l hl i h0 h1 h
    rw [e]; simp only [Option.bind_some]; rw [if_neg (by omega), Int.tmod_eq_emod_of_nonneg x0]
    exact ⟨_, _, _, rfl, Int.emod_nonneg _ (by omega), fun _ => Int.emod_lt_of_pos _ (by omega), by omega, i0, i1⟩
  · rw [if_neg hn2]
    obtain ⟨x, i', h', e, x0, x1, i0, i1⟩ := l1Byte_ok l hl i h0 h1 h
    rw [e]; simp only [Option.bind_some]
    obtain ⟨y, j', g', e, y0, y1, j0, j1⟩ := l1Byte_ok l hl i' i0 i1 h'
    rw [e]; simp only [Option.bind_some]
    obtain ⟨z, k', f', e, z0, z1, k0, k1⟩ := l1Byte_ok l hl j' j0 j1 g'
    rw [e]; simp only [Option.bind_some]
    rw [if_neg (by omega), w64 (x := x * 65536) (by omega) (by omega), w64 (x := y * 256) (by omega) (by omega), w64 (x := x * 65536 + y * 256) (by omega) (by omega), w64 (x := x * 65536 + y * 256 + z) (by omega) (by omega), Int.tmod_eq_emod_of_nonneg (by omega)]
    exact ⟨_, _, _, rfl, Int.emod_nonneg _ (by omega), fun _ => Int.emod_lt_of_pos _ (by omega), by omega, k0, k1⟩
theorem l1Int_ok (l : List Int) (hl : l.length ≤ 1048576) (i : Int) (h0 : 0 ≤ i) (h1 : i ≤ l.length) (h : Int) (xs : List Int) (hx : 0 < xs.length) :
    ∃ x i' h', spec_l1Int.f l i h xs = some (x, i', h') ∧ x ∈ xs ∧ 0 ≤ i' ∧ i' ≤ l.length := by
  unfold spec_l1Int.f
  obtain ⟨x, i', h', e, x0, x1, _, i0, i1⟩ := l1Below_ok l hl i h0 h1 h (xs.length : Int)
  rw [e]; simp only [Option.bind_some]
  have := x1 (by omega)
  rw [if_pos x0, if_pos this]
  exact ⟨_, _, _, rfl, rd_in xs x x0 this, i0, i1⟩
theorem l1Bytes_ok (l : List Int) (hl : l.length ≤ 1048576) (n : Int) (hn : n ≤ 4096) (i : Int) (h0 : 0 ≤ i) (h1 : i ≤ l.length) (h : Int) (k : Nat) (hk : n.toNat < k) :
    ∃ d i' h', spec_l1Bytes.f k l i h n = some (d, i', h') ∧ d.length = n.toNat ∧ (∀ x ∈ d, 0 ≤ x ∧ x ≤ 255) ∧ 0 ≤ i' ∧ i' ≤ l.length := by
  unfold spec_l1Bytes.f
  have H : ∀ (r : Nat) k (j : Nat) (d : List Int) (i h : Int), n.toNat - j = r → j ≤ n.toNat → d.length = j → (∀ x ∈ d, 0 ≤ x ∧ x ≤ 255) → 0 ≤ i → i ≤ l.length → r < k →
      ∃ d' i' h', spec_l1Bytes.l0 k n d j l i h = some (d', i', h') ∧ d'.length = n.toNat ∧ (∀ x ∈ d', 0 ≤ x ∧ x ≤ 255) ∧ 0 ≤ i' ∧ i' ≤ l.length := by
    intro r
    induction r with
    | zero =>
      intro k j d i h hr hj hd hb h0 h1 hk
      obtain ⟨k, rfl⟩ : ∃ m, k = m + 1 := ⟨k - 1, by omega⟩
      refine ⟨d, i, h, ?_, by omega, hb, h0, h1⟩
      simp only [spec_l1Bytes.l0]; rw [if_neg (by omega)]
    | succ r ih =>
      intro k j d i h hr hj hd hb h0 h1 hk
      obtain ⟨k, rfl⟩ : ∃ m, k = m + 1 := ⟨k - 1, by omega⟩
      simp only [spec_l1Bytes.l0]
      obtain ⟨x, i', h', e, x0, x1, i0, i1⟩ := l1Byte_ok l hl i h0 h1 h
      rw [if_pos (by omega), e]; simp only [Option.bind_some]
      rw [if_pos (by omega), w64 (x := (j : Int) + 1) (by omega) (by omega)]
      refine ih k (j + 1) (d ++ [x % 256]) i' h' (by omega) (by omega) (by simp [hd]) ?_ i0 i1 (by omega)
      intro y hy
      rcases List.mem_append.1 hy with h | h
      · exact hb y h
      · simp at h; omega
  exact H n.toNat k 0 [] i h (by omega) (by omega) rfl (by simp) h0 h1 hk
theorem l1Some_ok (l : List Int) (hl : l.length ≤ 1048576) (i : Int) (h0 : 0 ≤ i) (h1 : i ≤ l.length) (h : Int) (k : Nat) (hk : 10 ≤ k) :
    ∃ d i' h', spec_l1Some.f k l i h = some (d, i', h') ∧ d.length ≤ 9 ∧ (∀ x ∈ d, 0 ≤ x ∧ x ≤ 255) ∧ 0 ≤ i' ∧ i' ≤ l.length := by
  unfold spec_l1Some.f
  obtain ⟨x, i', h', e, hx, i0, i1⟩ := l1Int_ok l hl i h0 h1 h [0, 1, 2, 5, 9] (by decide)
  rw [e]; simp only [Option.bind_some]
  have : 0 ≤ x ∧ x ≤ 9 := by simp at hx; omega
  obtain ⟨d, i2, h2, e, hd, hb, j0, j1⟩ := l1Bytes_ok l hl x (by omega) i' i0 i1 h' k (by omega)
  rw [e]; simp only [Option.bind_some]
  exact ⟨_, _, _, rfl, by omega, hb, j0, j1⟩
theorem drawSumOf_ok (l : List Int) (hl : l.length ≤ 1048576) (k : Nat) (hk : l.length + 10 < k) :
    ∃ d, spec_DrawSumOf.f k l = some d ∧ d.length ≤ 9 ∧ (∀ x ∈ d, 0 ≤ x ∧ x ≤ 255) := by
  unfold spec_DrawSumOf.f
  obtain ⟨h, e⟩ := l1New_ok l hl k (by omega)
  rw [e]; simp only [Option.bind_some]
  obtain ⟨d, i', h', e, hd, hb, _, _⟩ := l1Some_ok l hl 0 (by omega) (by omega) h k (by omega)
  rw [e]; simp only [Option.bind_some]
  exact ⟨_, rfl, hd, hb⟩
theorem lawsAt_ok (l : List Int) (i : Int) (hb : ∀ x ∈ l, 0 ≤ x ∧ x ≤ 255) (hl : l.length ≤ 1048576) (h0 : 0 ≤ i) (h1 : i ≤ 1000) : ∃ a, laws_at.f l i = some a ∧ 0 ≤ a ∧ a ≤ 255 := by
  unfold laws_at.f
  by_cases hi : i < (l.length : Int)
  · rw [if_pos hi, if_pos h0]
    have := hb _ (rd_in l i h0 hi)
    rw [w64 (by omega) (by omega)]
    exact ⟨_, rfl, by omega, by omega⟩
  · rw [if_neg hi, w64 (x := i * 31) (by omega) (by omega), w64 (x := (l.length : Int) * 7) (by omega) (by omega), w64 (by omega) (by omega), Int.tmod_eq_emod_of_nonneg (by omega)]
    exact ⟨_, rfl, by omega, by omega⟩
theorem xor_ne (x y : Int) (h0 : 0 ≤ x) (h1 : x ≤ 255) (h2 : 1 ≤ y) (h3 : y ≤ 255) : bits .xor .u8 x y ≠ x ∧ 0 ≤ bits .xor .u8 x y ∧ bits .xor .u8 x y ≤ 255 := by
  obtain ⟨a, rfl⟩ := Int.eq_ofNat_of_zero_le h0
  obtain ⟨b, rfl⟩ := Int.eq_ofNat_of_zero_le (show 0 ≤ y by omega)
  have e : bits .xor .u8 (a : Int) (b : Int) = ((a ^^^ b : Nat) : Int) := by
    have hx : (BitVec.ofInt 8 (a : Int) ^^^ BitVec.ofInt 8 (b : Int)).toNat = a ^^^ b := by
      rw [BitVec.toNat_xor, BitVec.toNat_ofInt, BitVec.toNat_ofInt]
      congr 1 <;> omega
    have hlt : a ^^^ b < 2 ^ 8 := Nat.xor_lt_two_pow (by omega) (by omega)
    show IntKind.u8.wrap ((BitVec.ofInt 8 (a : Int) ^^^ BitVec.ofInt 8 (b : Int)).toNat : Nat) = _
    rw [hx, IntKind.wrap_u8]; omega
  have hlt : a ^^^ b < 2 ^ 8 := Nat.xor_lt_two_pow (by omega) (by omega)
  rw [e]
  refine ⟨fun h => ?_, by omega, by omega⟩
  have h : a ^^^ b = a := by omega
  have : a ^^^ (a ^^^ b) = a ^^^ a := by rw [h]
  rw [← Nat.xor_assoc, Nat.xor_self, Nat.zero_xor] at this
  omega
theorem sum_set (l : List Int) (i : Nat) (h : i < l.length) (v : Int) : (l.set i v).sum = l.sum - l[i] + v := by
  induction l generalizing i with
  | nil => simp at h
  | cons a t ih =>
    cases i with
    | zero => simp; omega
    | succ i => simp at h ⊢; rw [ih i (by omega)]; omega
theorem FnSums : laws_FnSums.Pure := by
  intro l0 _ hl hw
  have hby : ∀ x ∈ l0, 0 ≤ x ∧ x ≤ 255 := fun x hx => wf8 (hw x hx)
  refine ⟨l0.length + 40, ?_⟩
  unfold laws_FnSums.f laws_big.f
  simp only [Option.bind_some]
  by_cases hb : (l0.length : Int) > 1048576
  · rw [if_pos (by simpa using hb)]
  rw [if_neg (by simpa using hb)]
  obtain ⟨d, hd, hdl, hdb⟩ := drawSumOf_ok l0 (by omega) (l0.length + 40) (by omega)
  rw [hd]; simp only [Option.bind_some]
  rw [if_pos (by omega)]
  have hl1 : (d ++ [7]).length = d.length + 1 := by simp
  have hb1 : ∀ x ∈ d ++ [7], 0 ≤ x ∧ x ≤ 255 := by
    intro x hx
    rcases List.mem_append.1 hx with h | h
    · exact hdb x h
    · simp at h; omega
  obtain ⟨a, ha, ha0, ha1⟩ := lawsAt_ok l0 2 hby (by omega) (by omega) (by omega)
  obtain ⟨b, hb', hb0, hb1'⟩ := lawsAt_ok l0 3 hby (by omega) (by omega) (by omega)
  simp only [implSumOf_ok (d ++ [7]) (by omega) hb1 (l0.length + 40) (by omega), ha, hb', Option.bind_some]
  rw [if_neg (by omega)]
  have hm0 : 0 ≤ a.tmod ((d ++ [7]).length : Int) := Int.tmod_nonneg _ ha0
  have hm1 : a.tmod ((d ++ [7]).length : Int) < ((d ++ [7]).length : Int) := by rw [Int.tmod_eq_emod_of_nonneg ha0]; exact Int.emod_lt_of_pos _ (by omega)
  rw [if_pos hm0, if_pos hm1]
  generalize hj : a.tmod ((d ++ [7]).length : Int) = j at *
  obtain ⟨i, rfl⟩ := Int.eq_ofNat_of_zero_le hm0
  have hi : i < (d ++ [7]).length := by omega
  have hrd : rd (d ++ [7]) (i : Int) = (d ++ [7])[i] := by simp only [rd, List.getD_eq_getElem?_getD, Int.toNat_natCast, List.getElem?_eq_getElem hi, Option.getD_some]
  have hx := hb1 _ (List.getElem_mem hi)
  have hy : wrap64 (1 + b.tmod 255) % 256 = 1 + b % 255 := by
    rw [Int.tmod_eq_emod_of_nonneg hb0, w64 (by omega) (by omega)]; omega
  rw [hrd, hy]
  have hxo := xor_ne ((d ++ [7])[i]) (1 + b % 255) hx.1 hx.2 (by omega) (by omega)
  generalize bits .xor .u8 ((d ++ [7])[i]) (1 + b % 255) = y at *
  have hb2 : ∀ x ∈ (d ++ [7]).set i y, 0 ≤ x ∧ x ≤ 255 := by
    intro x hx
    rcases List.mem_or_eq_of_mem_set hx with h | h
    · exact hb1 x h
    · omega
  have hsl : ((d ++ [7]).set i y).length = d.length + 1 := by simp
  rw [Int.toNat_natCast, implSumOf_ok (List.set (d ++ [(7 : Int)]) i y) (by omega) hb2 (l0.length + 40) (by omega)]
  simp only [Option.bind_some]
  have hs := sum_set (d ++ [7]) i hi y
  rw [if_neg (by rw [hs]; omega), if_pos (by omega)]
  congr 1; rw [decide_eq_true_eq]; omega

end Go.Proofs.Ytcnmedbhmkknlaa.Pure
