/- Proved: the law FnWords, as a plain function, answers true at each code; no further conditions. -/
import Derived.Test.YtcnmedbhmkknlaaPFnWordsx1
import Derived.Test.YtcnmedbhmkknlaaPFnWordsx2
import Derived.Test.YtcnmedbhmkknlaaPFnWordsx3
import Derived.Test.YtcnmedbhmkknlaaVCFnWords
namespace Go.Proofs.Ytcnmedbhmkknlaa.Pure
open Go.RowKit Go.Proofs.Ytcnmedbhmkknlaa.PFnWords Go.Proofs.YtcnmedbhmkknlaaW.PrintWords Go.Proofs.YtcnmedbhmkknlaaW.PrintLast Go.Proofs.Ytcnmedbhmkknlaa.Common
set_option linter.unusedVariables false
set_option linter.unusedSimpArgs false
theorem rd_in (l : List Int) (i : Int) (h0 : 0 ≤ i) (h1 : i < l.length) : rd l i ∈ l := by
  have hlt : i.toNat < l.length := by omega
  have : rd l i = l[i.toNat] := by simp [rd, List.getD_eq_getElem?_getD, hlt]
  rw [this]; exact List.getElem_mem hlt
theorem l1New_ok (l : List Int) (hl : l.length ≤ 1048576) (k : Nat) (hk : l.length < k) : ∃ h, spec_l1New.f k l = some (l, 0, h) := by
  unfold spec_l1New.f
  generalize wrap64 (766766 + (l.length : Int)) = h
  have H : ∀ (r : Nat) k (h : Int) (i : Nat), l.length - i = r → i ≤ l.length → r < k → ∃ h', spec_l1New.l0 k l h i = some (l, 0, h') := by
    intro r
    induction r with
    | zero =>
      intro k h i hr hi hk
      obtain ⟨k, rfl⟩ : ∃ m, k = m + 1 := ⟨k - 1, by omega⟩
      exact ⟨h, by simp only [spec_l1New.l0]; rw [if_neg (by omega)]⟩
    | succ r ih =>
      intro k h i hr hi hk
      obtain ⟨k, rfl⟩ : ∃ m, k = m + 1 := ⟨k - 1, by omega⟩
      simp only [spec_l1New.l0]
      rw [if_pos (by omega)]
      by_cases h4 : (i : Int) < 4000
      · rw [if_pos h4, if_pos (by omega), w64 (x := (i : Int) + 1) (by omega) (by omega)]
        exact ih k _ (i + 1) (by omega) (by omega) (by omega)
      · rw [if_neg h4]; exact ⟨h, rfl⟩
  exact H l.length k h 0 (by omega) (by omega) hk
theorem l1Byte_ok (l : List Int) (hl : l.length ≤ 1048576) (i : Int) (h0 : 0 ≤ i) (h1 : i ≤ l.length) (h : Int) :
    ∃ x i' h', spec_l1Byte.f l i h = some (x, i', h') ∧ 0 ≤ x ∧ x ≤ 255 ∧ 0 ≤ i' ∧ i' ≤ l.length := by
  unfold spec_l1Byte.f
  simp only [and255]
  by_cases hi : i < (l.length : Int)
  · rw [if_pos hi, if_pos h0, w64 (x := i + 1) (by omega) (by omega)]
    exact ⟨_, _, _, rfl, by omega, by omega, by omega, by omega⟩
  · rw [if_neg hi]
    exact ⟨_, _, _, rfl, by omega, by omega, by omega, by omega⟩
theorem l1Below_ok (l : List Int) (hl : l.length ≤ 1048576) (i : Int) (h0 : 0 ≤ i) (h1 : i ≤ l.length) (h : Int) (n : Int) :
    ∃ x i' h', spec_l1Below.f l i h n = some (x, i', h') ∧ 0 ≤ x ∧ (0 < n → x < n) ∧ (n ≤ 0 → x = 0) ∧ 0 ≤ i' ∧ i' ≤ l.length := by
  unfold spec_l1Below.f
  by_cases hn : n ≤ 0
  · rw [if_pos hn]; exact ⟨_, _, _, rfl, by omega, by omega, by omega, by omega, by omega⟩
  rw [if_neg hn]
  by_cases hn2 : n ≤ 256
  · rw [if_pos hn2]
    obtain ⟨x, i', h', e, x0, x1, i0, i1⟩ := l1Byte_ok l hl i h0 h1 h
    rw [e]; simp only [Option.bind_some]; rw [if_neg (by omega), Int.tmod_eq_emod_of_nonneg x0]
    exact ⟨_, _, _, rfl, Int.emod_nonneg _ (by omega), fun _ => Int.emod_lt_of_pos _ (by omega), by omega, i0, i1⟩
  · rw [if_neg hn2]
    obtain ⟨x, i', h', e, x0, x1, i0, i1⟩ := l1Byte_ok l hl i h0 h1 h
    rw [e]; simp only [Option.bind_some]
    obtain ⟨y, j', g', e, y0, y1, j0, j1⟩ := l1Byte_ok l hl i' i0 i1 h'
    rw [e]; simp only [Option.bind_some]
    obtain ⟨z, k', f', e, z0, z1, k0, k1⟩ := l1Byte_ok l hl j' j0 j1 g'
    rw [e]; simp only [Option.bind_some]
    rw [if_neg (by omega), w64 (x := x * 65536) (by omega) (by omega), w64 (x := y * 256) (by omega) (by omega), w64 (x := x * 65536 + y * 256) (by omega) (by omega), w64 (x := x * 65536 + y * 256 + z) (by omega) (by omega), Int.tmod_eq_emod_of_nonneg (by omega)]
    exact ⟨_, _, _, rfl, Int.emod_nonneg _ (by omega), fun _ => Int.emod_lt_of_pos _ (by omega), by omega, k0, k1⟩
theorem l1Int_ok (l : List Int) (hl : l.length ≤ 1048576) (i : Int) (h0 : 0 ≤ i) (h1 : i ≤ l.length) (h : Int) (xs : List Int) (hx : 0 < xs.length) :
    ∃ x i' h', spec_l1Int.f l i h xs = some (x, i', h') ∧ x ∈ xs ∧ 0 ≤ i' ∧ i' ≤ l.length := by
  unfold spec_l1Int.f
  obtain ⟨x, i', h', e, x0, x1, _, i0, i1⟩ := l1Below_ok l hl i h0 h1 h (xs.length : Int)
  rw [e]; simp only [Option.bind_some]
  have := x1 (by omega)
  rw [if_pos x0, if_pos this]
  exact ⟨_, _, _, rfl, rd_in xs x x0 this, i0, i1⟩
theorem l1Bytes_ok (l : List Int) (hl : l.length ≤ 1048576) (n : Int) (hn : n ≤ 4096) (i : Int) (h0 : 0 ≤ i) (h1 : i ≤ l.length) (h : Int) (k : Nat) (hk : n.toNat < k) :
    ∃ d i' h', spec_l1Bytes.f k l i h n = some (d, i', h') ∧ d.length = n.toNat ∧ (∀ x ∈ d, 0 ≤ x ∧ x ≤ 255) ∧ 0 ≤ i' ∧ i' ≤ l.length := by
  unfold spec_l1Bytes.f
  have H : ∀ (r : Nat) k (j : Nat) (d : List Int) (i h : Int), n.toNat - j = r → j ≤ n.toNat → d.length = j → (∀ x ∈ d, 0 ≤ x ∧ x ≤ 255) → 0 ≤ i → i ≤ l.length → r < k →
      ∃ d' i' h', spec_l1Bytes.l0 k n d j l i h = some (d', i', h') ∧ d'.length = n.toNat ∧ (∀ x ∈ d', 0 ≤ x ∧ x ≤ 255) ∧ 0 ≤ i' ∧ i' ≤ l.length := by
    intro r
    induction r with
    | zero =>
      intro k j d i h hr hj hd hb h0 h1 hk
      obtain ⟨k, rfl⟩ : ∃ m, k = m + 1 := ⟨k - 1, by omega⟩
      refine ⟨d, i, h, ?_, by omega, hb, h0, h1⟩
      simp only [spec_l1Bytes.l0]; rw [if_neg (by omega)]
    | succ r ih =>
      intro k j d i h hr hj hd hb h0 h1 hk
      obtain ⟨k, rfl⟩ : ∃ m, k = m + 1 := ⟨k - 1, by omega⟩
      simp only [spec_l1Bytes.l0]
      obtain ⟨x, i', h', e, x0, x1, i0, i1⟩ := l1Byte_ok l hl i h0 h1 h
      rw [if_pos (by omega), e]; simp only [Option.bind_some]
      rw [if_pos (by omega), w64 (x := (j : Int) + 1) (by omega) (by omega)]
      refine ih k (j + 1) (d ++ [x % 256]) i' h' (by omega) (by omega) (by simp [hd]) ?_ i0 i1 (by omega)
      intro y hy
      rcases List.mem_append.1 hy with h | h
      · exact hb y h
      · simp at h; omega
  exact H n.toNat k 0 [] i h (by omega) (by omega) rfl (by simp) h0 h1 hk
theorem l1Some_ok (l : List Int) (hl : l.length ≤ 1048576) (i : Int) (h0 : 0 ≤ i) (h1 : i ≤ l.length) (h : Int) (k : Nat) (hk : 10 ≤ k) :
    ∃ d i' h', spec_l1Some.f k l i h = some (d, i', h') ∧ d.length ≤ 9 ∧ (∀ x ∈ d, 0 ≤ x ∧ x ≤ 255) ∧ 0 ≤ i' ∧ i' ≤ l.length := by
  unfold spec_l1Some.f
  obtain ⟨x, i', h', e, hx, i0, i1⟩ := l1Int_ok l hl i h0 h1 h [0, 1, 2, 5, 9] (by decide)
  rw [e]; simp only [Option.bind_some]
  have : 0 ≤ x ∧ x ≤ 9 := by simp at hx; omega
  obtain ⟨d, i2, h2, e, hd, hb, j0, j1⟩ := l1Bytes_ok l hl x (by omega) i' i0 i1 h' k (by omega)
  rw [e]; simp only [Option.bind_some]
  exact ⟨_, _, _, rfl, by omega, hb, j0, j1⟩
theorem joined2_ok (a b : List Int) (h : a.length + b.length < 140737488355328) (k : Nat) (hk : 3 ≤ k) : impl_joined.f k [a, b] = some (a ++ b) := by
  obtain ⟨k, rfl⟩ : ∃ m, k = m + 3 := ⟨k - 3, by omega⟩
  have e0 : rd_L1 [a, b] 0 = a := rfl
  have e1 : rd_L1 [a, b] 1 = b := rfl
  have w0 : wrap64 (0 + 1) = 1 := by simp [wrap64]
  have w1 : wrap64 (1 + 1) = 2 := by simp [wrap64]
  unfold impl_joined.f
  simp only [impl_joined.l0, e0, e1, w0, w1, List.length_cons, List.length_nil]
  rw [if_pos (by omega), if_pos (by omega), if_pos (by omega), if_pos (by simp; omega), if_pos (by omega), if_pos (by omega), if_pos (by omega), if_pos (by simp; omega), if_neg (by omega)]
  simp
def two (a : Int) : List Int := [a % 256, a / 256 % 256]
theorem two_length (a : Int) : (two a).length = 2 := rfl
theorem implPutW_ok (l : List Int) (a : Int) (h : l.length < 140737488350000) (k : Nat) (hk : 3 ≤ k) : impl_PutW.f k l a = some (l ++ two a) := by
  unfold impl_PutW.f
  rw [and255, and255, joined2_ok _ _ (by simp; omega) k hk]
  simp only [Option.bind_some, two]
  have e1 : a % 256 % 256 = a % 256 := by omega
  have e2 : a / 256 % 256 % 256 = a / 256 % 256 := by omega
  rw [e1, e2]
/-- what both make of bytes and a text. -/
def putTextOf (l : List Int) (s : ByteArray) : List Int := if s.size > 1000 then l else l ++ two s.size ++ bytesOf s
theorem putTextOf_length (l : List Int) (s : ByteArray) : (putTextOf l s).length ≤ l.length + 1002 := by
  unfold putTextOf
  split
  · omega
  · simp only [List.length_append, two_length, bytesOf_length]; omega
theorem joined1_ok (a : List Int) (h : a.length < 140737488355328) (k : Nat) (hk : 2 ≤ k) : impl_joined.f k [a] = some a := by
  obtain ⟨k, rfl⟩ : ∃ m, k = m + 2 := ⟨k - 2, by omega⟩
  have w1 : wrap64 (0 + 1) = 1 := by rw [w64 (by omega) (by omega)]; rfl
  simp only [impl_joined.f, impl_joined.l0, rd_L1, w1, List.length_cons, List.length_nil]
  simp [h]
theorem implPutText_ok (l : List Int) (s : ByteArray) (h : l.length ≤ 1048576) (k : Nat) (hk : 3 ≤ k) : impl_PutText.f k l s = some (putTextOf l s) := by
  simp only [impl_PutText.f, conv_bytes.f, Option.bind_some]
  unfold putTextOf
  by_cases c : s.size > 1000
  · rw [if_pos (by omega), if_pos c, joined1_ok l (by omega) k (by omega)]; rfl
  · rw [if_neg (by omega), if_neg c, implPutW_ok l s.size (by omega) k hk, Option.bind_some, joined2_ok _ _ (by rw [List.length_append, two_length, bytesOf_length]; omega) k hk]; rfl
theorem bal (s : ByteArray) : s.toList = s.data.toList := ByteArray.toList_eq s
theorem rd_app1 (b r : List Int) (x y : Int) : rd (b ++ [x, y] ++ r) (b.length : Int) = x := by
  simp [rd, List.getD_eq_getElem?_getD]
theorem rd_app2 (b r : List Int) (x y : Int) : rd (b ++ [x, y] ++ r) ((b.length : Int) + 1) = y := by
  have e : ((b.length : Int) + 1).toNat = b.length + 1 := by omega
  simp [rd, List.getD_eq_getElem?_getD, e, List.getElem?_append_right]
theorem getW_two (b r : List Int) (n : Int) (h : (b ++ two n ++ r).length ≤ 4611686018427387904) : impl_GetW.f (b ++ two n ++ r) (b.length : Int) = some (n % 65536, (b.length : Int) + 2, true) := by
  have hl : (b ++ two n ++ r).length = b.length + 2 + r.length := by simp [two_length]; omega
  have w1 : wrap64 (((b ++ two n ++ r).length : Int) - 2) = b.length + r.length := by rw [w64 (by omega) (by omega)]; omega
  have w2 : wrap64 ((b.length : Int) + 1) = b.length + 1 := w64 (by omega) (by omega)
  have w3 : wrap64 ((b.length : Int) + 2) = b.length + 2 := w64 (by omega) (by omega)
  have r1 : rd (b ++ two n ++ r) (b.length : Int) = n % 256 := rd_app1 b r _ _
  have r2 : rd (b ++ two n ++ r) ((b.length : Int) + 1) = n / 256 % 256 := rd_app2 b r _ _
  unfold impl_GetW.f
  rw [w1, w2, w3, r1, r2]
  clear w1 w2 w3 r1 r2
  rw [if_neg (by omega), if_neg (by omega), if_pos (by omega), if_pos (by omega), if_pos (by omega), if_pos (by omega)]
  rw [w64 (x := n % 256) (by omega) (by omega), w64 (x := n / 256 % 256) (by omega) (by omega), w64 (x := n / 256 % 256 * 256) (by omega) (by omega), or_bytes _ _ (by omega) (by omega) (by omega) (by omega)]
  have e : n % 256 + n / 256 % 256 * 256 = n % 65536 := by omega
  rw [e]
theorem str_back (s : ByteArray) : (strOfNums (bytesOf s)).toList = s.toList := by
  rw [bal, bal, strOfNums_data, bytesOf, List.map_map]
  conv => rhs; rw [← List.map_id s.data.toList]
  apply List.map_congr_left
  intro x _
  simp
theorem getText_back (c : List Int) (s : ByteArray) (hc : c.length ≤ 100000) (hs : s.size ≤ 1000) : ∃ t, impl_GetText.f (c ++ two s.size ++ bytesOf s) (c.length : Int) = some (t, ((c ++ two s.size ++ bytesOf s).length : Int), true) ∧ t.toList = s.toList := by
  have hb := bytesOf_length s
  have hl : (c ++ two s.size ++ bytesOf s).length = c.length + 2 + s.size := by simp [two_length, hb]; omega
  have e : (s.size : Int) % 65536 = s.size := by omega
  have w1 : wrap64 ((c.length : Int) + 2 + (s.size : Int)) = ((c.length + 2 + s.size : Nat) : Int) := by rw [w64 (by omega) (by omega)]; omega
  have w2 : wrap64 (((c.length + 2 + s.size : Nat) : Int) - ((c.length : Int) + 2)) = s.size := by rw [w64 (by omega) (by omega)]; omega
  refine ⟨strOfNums (bytesOf s), ?_, str_back s⟩
  unfold impl_GetText.f
  rw [getW_two c (bytesOf s) s.size (by omega), Option.bind_some]
  simp only [e, w1, hl, w2, if_true]
  clear w1 w2
  rw [if_neg (by omega), if_neg (by omega), if_pos (by omega), if_pos (by omega), if_pos (by omega)]
  have t1 : (((c.length + 2 + s.size : Nat) : Int)).toNat = c.length + 2 + s.size := by omega
  have t2 : ((c.length : Int) + 2).toNat = c.length + 2 := by omega
  rw [t1, t2, List.take_of_length_le (by omega)]
  have t3 : (c ++ two s.size ++ bytesOf s).drop (c.length + 2) = bytesOf s := by
    rw [List.drop_append_of_le_length (by simp [two_length]), List.drop_of_length_le (by simp [two_length]), List.nil_append]
  rw [t3]
theorem l1Num_ok (l : List Int) (hl : l.length ≤ 1048576) (i : Int) (h0 : 0 ≤ i) (h1 : i ≤ l.length) (h : Int) : ∃ x i' h', spec_l1Num.f l i h = some (x, i', h') := by
  unfold spec_l1Num.f
  obtain ⟨x, i', h', e, _, _, _, i0, i1⟩ := l1Below_ok l hl i h0 h1 h 65536
  rw [e, Option.bind_some]
  obtain ⟨y, j', g', e2, _, _, _⟩ := l1Int_ok l hl i' i0 i1 h' [0, 1, 2, (-1), 7, 8, 255, 256, 32767, 32768, 65535, 65536, (-32768), (-65537), 9223372036854775807, (-9223372036854775808), x] (by simp)
  rw [e2, Option.bind_some]
  exact ⟨_, _, _, rfl⟩
theorem drawPutW_ok (l : List Int) (hl : l.length ≤ 1048576) (k : Nat) (hk : l.length + 10 < k) : ∃ b n, spec_DrawPutW.f k l = some (b, n) ∧ b.length ≤ 9 := by
  unfold spec_DrawPutW.f
  obtain ⟨h, e⟩ := l1New_ok l hl k (by omega)
  rw [e, Option.bind_some]
  obtain ⟨d, i', h', e2, d0, _, i0, i1⟩ := l1Some_ok l hl 0 (by omega) (by omega) h k (by omega)
  rw [e2, Option.bind_some]
  obtain ⟨x, j', g', e3⟩ := l1Num_ok l hl i' i0 i1 h'
  rw [e3, Option.bind_some]
  exact ⟨_, _, rfl, d0⟩
theorem drawPutText_ok (l : List Int) (hl : l.length ≤ 1048576) (k : Nat) (hk : l.length + 10 < k) : ∃ c s, spec_DrawPutText.f k l = some (c, s) ∧ c.length ≤ 9 := by
  unfold spec_DrawPutText.f
  obtain ⟨h, e⟩ := l1New_ok l hl k (by omega)
  rw [e, Option.bind_some]
  obtain ⟨x, i', h', e2, _, _, _, i0, i1⟩ := l1Below_ok l hl 0 (by omega) (by omega) h 10
  have e3 : spec_l1Once.f l 0 h 10 = some (x == 0, i', h') := by unfold spec_l1Once.f; rw [e2]; rfl
  rw [e3, Option.bind_some]
  by_cases c : (x == 0) = true
  · rw [if_pos c]
    obtain ⟨y, j', g', e4, y0, y1, _, j0, j1⟩ := l1Below_ok l hl i' i0 i1 h' 2
    have y1 := y1 (by omega)
    rw [e4, Option.bind_some, w64 (x := 1000 + y) (by omega) (by omega), if_pos (by omega), if_pos (by omega)]
    exact ⟨_, _, rfl, by simp⟩
  · rw [if_neg c]
    obtain ⟨d, j', g', e4, d0, _, j0, j1⟩ := l1Some_ok l hl i' i0 i1 h' k (by omega)
    rw [e4, Option.bind_some]
    obtain ⟨d2, j2, g2, e5, _, _, _, _⟩ := l1Some_ok l hl j' j0 j1 g' k (by omega)
    rw [e5, Option.bind_some]
    exact ⟨_, _, rfl, d0⟩
theorem sameBytes_self (a : List Int) (h : a.length ≤ 4611686018427387904) (k : Nat) (hk : a.length < k) : laws_sameBytes.f k a a = some true := by
  unfold laws_sameBytes.f
  rw [if_pos rfl]
  have := eq_loop 0 a a rfl h (fun k x => laws_sameBytes.l0 k a a x) (fun _ _ => rfl) k hk
  rw [this]; simp
theorem signed_ok (n : Int) : ∃ t, impl_Signed.f n = some t ∧ -32768 ≤ t ∧ t ≤ 32767 ∧ t % 65536 = n % 65536 := by
  simp only [impl_Signed.f, impl_Wrap.f, and65535, Option.bind_some]
  by_cases c : n % 65536 > 32767
  · rw [if_pos c, w64 (by omega) (by omega)]; exact ⟨_, rfl, by omega, by omega, by omega⟩
  · rw [if_neg c]; exact ⟨_, rfl, by omega, by omega, by omega⟩
theorem FnWords : laws_FnWords.Pure := by
  intro l _ hl _
  refine ⟨l.length + 2000, ?_⟩
  simp only [laws_FnWords.f, laws_big.f, Option.bind_some]
  by_cases hb : (l.length : Int) > 1048576
  · rw [if_pos (decide_eq_true hb)]
  rw [if_neg (by rw [decide_eq_true_eq]; exact hb)]
  obtain ⟨b, n, e1, b1⟩ := drawPutW_ok l (by omega) (l.length + 2000) (by omega)
  obtain ⟨c, s, e2, c1⟩ := drawPutText_ok l (by omega) (l.length + 2000) (by omega)
  obtain ⟨t, e3, t0, t1, t2⟩ := signed_ok n
  have g1 := getW_two b [] n (by simp [two_length]; omega)
  rw [List.append_nil] at g1
  have hq := putTextOf_length c s
  rw [e1, Option.bind_some, implPutW_ok b n (by omega) _ (by omega), Option.bind_some, g1, Option.bind_some, e2, Option.bind_some, implPutText_ok c s (by omega) _ (by omega), Option.bind_some]
  by_cases h : s.size > 1000
  · have hp : putTextOf c s = c := if_pos h
    rw [hp]
    have hg : ∃ r, impl_GetText.f c (c.length : Int) = some r := by
      have q : impl_GetW.f c (c.length : Int) = some (0, 0, false) := by
        unfold impl_GetW.f
        rw [if_neg (by omega), w64 (x := (c.length : Int) - 2) (by omega) (by omega), if_pos (by omega)]
      refine ⟨((⟨#[]⟩ : ByteArray), 0, false), ?_⟩
      unfold impl_GetText.f
      rw [q, Option.bind_some, if_neg (by simp)]
    obtain ⟨r, hr⟩ := hg
    rw [hr, Option.bind_some, e3, Option.bind_some, if_pos (show ((s.size : Nat) : Int) > 1000 by omega), sameBytes_self c (by omega) _ (by omega)]
    rfl
  · have hp : putTextOf c s = c ++ two s.size ++ bytesOf s := if_neg h
    obtain ⟨u, hu, hu2⟩ := getText_back c s (by omega) (by omega)
    rw [hp, hu, Option.bind_some, e3, Option.bind_some, if_neg (show ¬ ((s.size : Nat) : Int) > 1000 by omega)]
    simp only [impl_Wrap.f, and65535, Option.bind_some]
    have hlen : ((b ++ two n).length : Int) = b.length + 2 := by simp [two_length]
    simp only [if_true]
    rw [if_pos hlen.symm, if_pos hu2, if_pos (show t ≥ -32768 by omega), if_pos t1, if_pos t2, if_pos (show n % 65536 ≥ 0 by omega)]
    congr 1
    rw [decide_eq_true_eq]; omega

end Go.Proofs.Ytcnmedbhmkknlaa.Pure
