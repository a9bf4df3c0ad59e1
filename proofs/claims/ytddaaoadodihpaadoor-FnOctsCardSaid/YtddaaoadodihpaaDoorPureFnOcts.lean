/- Proved: the law FnOcts, as a plain function, answers true at each code; no further conditions. -/
import Derived.Test.YtddaaoadodihpaaDoorPFnOctsx1
import Derived.Test.YtddaaoadodihpaaDoorPFnOctsx2
import Derived.Test.YtddaaoadodihpaaDoorPFnOctsx3
import Derived.Test.YtddaaoadodihpaaDoorVCFnOcts
namespace Go.Proofs.YtddaaoadodihpaaDoor.Pure
open Go.RowKit Go.Proofs.YtddaaoadodihpaaDoor.PFnOcts Go.Proofs.YtddaaoadodihpaaDoorW.PrintWords Go.Proofs.YtddaaoadodihpaaDoorW.PrintLast Go.Proofs.YtddaaoadodihpaaDoor.Common
set_option linter.unusedVariables false
set_option linter.unusedSimpArgs false
theorem rd_in (l : List Int) (i : Int) (h0 : 0 ≤ i) (h1 : i < l.length) : rd l i ∈ l := by
  have hlt : i.toNat < l.length := by omega
  have : rd l i = l[i.toNat] := by simp [rd, List.getD_eq_getElem?_getD, hlt]
  rw [this]; exact List.getElem_mem hlt
theorem l1New_ok (l : List Int) (hl : l.length ≤ 1048576) (k : Nat) (hk : l.length < k) : ∃ h, spec_l1New.f k l = some (l, 0, h) := by
  unfold spec_l1New.f
  generalize wrap64 (766766 + (l.length : Int)) = h
  have H : ∀ (r : Nat) k (h : Int) (i : Nat), l.length - i = r → i ≤ l.length → r < k → ∃ h', spec_l1New.l0 k l h i = some (l, 0, h') := by
    intro r
    induction r with
    | zero =>
      intro k h i hr hi hk
      obtain ⟨k, rfl⟩ : ∃ m, k = m + 1 := ⟨k - 1, by omega⟩
      exact ⟨h, by simp only [spec_l1New.l0]; rw [if_neg (by omega)]⟩
    | succ r ih =>
      intro k h i hr hi hk
      obtain ⟨k, rfl⟩ : ∃ m, k = m + 1 := ⟨k - 1, by omega⟩
      simp only [spec_l1New.l0]
      rw [if_pos (by omega)]
      by_cases h4 : (i : Int) < 4000
      · rw [if_pos h4, if_pos (by omega), w64 (x := (i : Int) + 1) (by omega) (by omega)]
        exact ih k _ (i + 1) (by omega) (by omega) (by omega)
      · rw [if_neg h4]; exact ⟨h, rfl⟩
  exact H l.length k h 0 (by omega) (by omega) hk
theorem l1Byte_ok (l : List Int) (hl : l.length ≤ 1048576) (i : Int) (h0 : 0 ≤ i) (h1 : i ≤ l.length) (h : Int) :
    ∃ x i' h', spec_l1Byte.f l i h = some (x, i', h') ∧ 0 ≤ x ∧ x ≤ 255 ∧ 0 ≤ i' ∧ i' ≤ l.length := by
  unfold spec_l1Byte.f
  simp only [and255]
  by_cases hi : i < (l.length : Int)
  · rw [if_pos hi, if_pos h0, w64 (x := i + 1) (by omega) (by omega)]
    exact ⟨_, _, _, rfl, by omega, by omega, by omega, by omega⟩
  · rw [if_neg hi]
    exact ⟨_, _, _, rfl, by omega, by omega, by omega, by omega⟩
theorem l1Below_ok (l : List Int) (hl : l.length ≤ 1048576) (i : Int) (h0 : 0 ≤ i) (h1 : i ≤ l.length) (h : Int) (n : Int) :
    ∃ x i' h', spec_l1Below.f l i h n = some (x, i', h') ∧ 0 ≤ x ∧ (0 < n → x < n) ∧ (n ≤ 0 → x = 0) ∧ 0 ≤ i' ∧ i' ≤ l.length := by
  unfold spec_l1Below.f
  by_cases hn : n ≤ 0
  · rw [if_pos hn]; exact ⟨_, _, _, rfl, by omega, by omega, by omega, by omega, by omega⟩
  rw [if_neg hn]
  by_cases hn2 : n ≤ 256
  · rw [if_pos hn2]
    obtain ⟨x, i', h', e, x0, x1, i0, i1⟩ := l1Byte_ok l hl i h0 h1 h
    rw [e]; simp only [Option.bind_some]; rw [if_neg (by omega), Int.tmod_eq_emod_of_nonneg x0]
    exact ⟨_, _, _, rfl, Int.emod_nonneg _ (by omega), fun _ => Int.emod_lt_of_pos _ (by omega), by omega, i0, i1⟩
  · rw [if_neg hn2]
    obtain ⟨x, i', h', e, x0, x1, i0, i1⟩ := l1Byte_ok l hl i h0 h1 h
    rw [e]; simp only [Option.bind_some]
    obtain ⟨y, j', g', e, y0, y1, j0, j1⟩ := l1Byte_ok l hl i' i0 i1 h'
    rw [e]; simp only [Option.bind_some]
    obtain ⟨z, k', f', e, z0, z1, k0, k1⟩ := l1Byte_ok l hl j' j0 j1 g'
    rw [e]; simp only [Option.bind_some]
    rw [if_neg (by omega), w64 (x := x * 65536) (by omega) (by omega), w64 (x := y * 256) (by omega) (by omega), w64 (x := x * 65536 + y * 256) (by omega) (by omega), w64 (x := x * 65536 + y * 256 + z) (by omega) (by omega), Int.tmod_eq_emod_of_nonneg (by omega)]
    exact ⟨_, _, _, rfl, Int.emod_nonneg _ (by omega), fun _ => Int.emod_lt_of_pos _ (by omega), by omega, k0, k1⟩
theorem l1Int_ok (l : List Int) (hl : l.length ≤ 1048576) (i : Int) (h0 : 0 ≤ i) (h1 : i ≤ l.length) (h : Int) (xs : List Int) (hx : 0 < xs.length) :
    ∃ x i' h', spec_l1Int.f l i h xs = some (x, i', h') ∧ x ∈ xs ∧ 0 ≤ i' ∧ i' ≤ l.length := by
  unfold spec_l1Int.f
  obtain ⟨x, i', h', e, x0, x1, _, i0, i1⟩ := l1Below_ok l hl i h0 h1 h (xs.length : Int)
  rw [e]; simp only [Option.bind_some]
  have := x1 (by omega)
  rw [if_pos x0, if_pos this]
  exact ⟨_, _, _, rfl, rd_in xs x x0 this, i0, i1⟩
theorem l1New_ev (l : List Int) (hl : l.length ≤ 1048576) : ∃ h, Ev (fun k => spec_l1New.f k l) (l, 0, h) := by
  obtain ⟨h, e⟩ := l1New_ok l hl (l.length + 1) (by omega)
  exact ⟨h, Ev.of (spec_l1New.mono l) e⟩
theorem rdB_in (l : List ByteArray) (i : Int) (h0 : 0 ≤ i) (h1 : i < l.length) : rdOf ByteArray.empty l i ∈ l := by
  have h : i.toNat < l.length := by omega
  have e : rdOf ByteArray.empty l i = l[i.toNat] := by simp [rdOf, List.getD_eq_getElem?_getD, h]
  rw [e]; exact List.getElem_mem h
theorem bal (s : ByteArray) : s.toList = s.data.toList := ByteArray.toList_eq s
theorem dg8_mod (v : Nat) : dg8 (v % 8) = dg8 v := by unfold dg8; rw [Nat.mod_mod]
theorem one_digit (v : Nat) : strOfNums [(wrap64 (48 + bits .and .i64 (v : Int) 7)) % 256] = ⟨#[dg8 v]⟩ := by
  rw [and7, w64 (by omega) (by omega)]
  unfold strOfNums dg8
  have e : ((48 + (v : Int) % 8) % 256).toNat = 48 + v % 8 := by omega
  simp [e]
theorem specOct_loop : ∀ (m x : Nat) (x3 : ByteArray), x < 8 ^ (m + 1) → x3.size + m ≤ 100 → ∃ r, Ev (fun k => spec_Oct.l0 k (x : Int) x3) r ∧ r.data.toList = (if x < 8 then [] else octF m (x / 8)) ++ x3.data.toList := by
  intro m
  induction m with
  | zero =>
    intro x x3 hx hs
    have h8 : x < 8 := by simpa using hx
    refine ⟨x3, Ev.step (f := fun _ => some x3) (fun k => ?_) (Ev.now _), by rw [if_pos h8]; rfl⟩
    rw [spec_Oct.l0.eq_def]; simp only []; rw [if_neg (by omega)]
  | succ m ih =>
    intro x x3 hx hs
    by_cases h8 : x < 8
    · refine ⟨x3, Ev.step (f := fun _ => some x3) (fun k => ?_) (Ev.now _), by rw [if_pos h8]; rfl⟩
      rw [spec_Oct.l0.eq_def]; simp only []; rw [if_neg (by omega)]
    · have hz : (⟨#[dg8 (x / 8)]⟩ : ByteArray).size = 1 := rfl
      have hlt : x / 8 < 8 ^ (m + 1) := by rw [Nat.pow_succ] at hx; omega
      obtain ⟨r, hr, ht⟩ := ih (x / 8) ((⟨#[dg8 (x / 8)]⟩ : ByteArray) ++ x3) hlt (by rw [ByteArray.size_append, hz]; omega)
      have ex : ((x : Int) / 8) = ((x / 8 : Nat) : Int) := by omega
      refine ⟨r, Ev.step (f := fun k => spec_Oct.l0 k ((x / 8 : Nat) : Int) ((⟨#[dg8 (x / 8)]⟩ : ByteArray) ++ x3)) (fun k => ?_) hr, ?_⟩
      · rw [spec_Oct.l0.eq_def]
        simp only [ex, one_digit, Option.bind_some, hz]
        rw [if_pos (by omega), if_pos (by omega)]
      · rw [ht, if_neg h8, octF]
        by_cases h9 : x / 8 < 8
        · rw [if_pos h9, if_pos h9]; simp
        · rw [if_neg h9, if_neg h9, dg8_mod]; simp
theorem octF_len : ∀ m v, (octF m v).length ≤ m := by
  intro m
  induction m with
  | zero => intro v; simp [octF]
  | succ m ih =>
    intro v
    rw [octF]
    split
    · simp
    · simp only [List.length_append, List.length_cons, List.length_nil]; have := ih (v / 8); omega
/-- both make the digits of a word. -/
theorem specOct_ok (n : Int) : ∃ r, Ev (fun k => spec_Oct.f k n) r ∧ r.data.toList = octF 6 (n % 65536).toNat := by
  obtain ⟨t, ht⟩ : ∃ t : Nat, n % 65536 = t := ⟨(n % 65536).toNat, by omega⟩
  have hlt : t < 65536 := by omega
  rw [ht]
  obtain ⟨r, hr, h2⟩ := specOct_loop 5 t (⟨#[dg8 t]⟩ : ByteArray) (by omega) (by simp [ByteArray.size])
  refine ⟨r, ?_, ?_⟩
  · simp only [spec_Oct.f, spec_Wrap.f, and65535, Option.bind_some, ht, one_digit]
    exact hr
  · rw [h2, Int.toNat_natCast, show octF 6 t = if t < 8 then [dg8 t] else octF 5 (t / 8) ++ [dg8 (t % 8)] from rfl]
    by_cases h8 : t < 8
    · rw [if_pos h8, if_pos h8]; rfl
    · rw [if_neg h8, if_neg h8, dg8_mod]
theorem implOct_ok (n : Int) : ∃ r, impl_Oct.f n = some r ∧ r.data.toList = octF 6 (n % 65536).toNat := by
  refine ⟨⟨(octF 6 (n % 65536).toNat).toArray⟩, ?_, rfl⟩
  simp only [impl_Oct.f, impl_Wrap.f, and65535, Option.bind_some, strconv_FormatInt_32.f]
  rw [if_pos ⟨trivial, by omega, by omega⟩]
  rfl
theorem bt_b (s : ByteArray) (i : Int) : wrap64 (bt s i) = bt s i := by have := bt_range s i; exact w64 (by omega) (by omega)
theorem l1In_ok (a b c : Int) : spec_l1In.f a b c = some (decide (b ≤ a ∧ a ≤ c)) := by
  unfold spec_l1In.f
  by_cases h : a ≥ b
  · have h' : b ≤ a := h
    rw [if_pos h]; simp [h']
  · have h' : ¬ b ≤ a := h
    rw [if_neg h]; simp [h']
theorem within_ok (a b c : Int) : impl_within.f a b c = some (decide (b ≤ a ∧ a ≤ c)) := by
  unfold impl_within.f
  by_cases h : a ≥ b
  · have h' : b ≤ a := h
    rw [if_pos h]; simp [h']
  · have h' : ¬ b ≤ a := h
    rw [if_neg h]; simp [h']
def val8 (acc : Nat) : List UInt8 → Nat
  | [] => acc
  | c :: r => val8 (acc * 8 + (c.toNat - 48)) r
theorem val8_append (l r : List UInt8) : ∀ acc, val8 acc (l ++ r) = val8 (val8 acc l) r := by
  induction l with
  | nil => intro acc; rfl
  | cons c l ih => intro acc; exact ih _
def isDig (c : UInt8) : Prop := 48 ≤ c.toNat ∧ c.toNat ≤ 55
theorem dg8_val (v : Nat) : (dg8 v).toNat = 48 + v % 8 := by
  unfold dg8
  rw [UInt8.toNat_ofNat']
  omega
theorem octF_dig : ∀ m v, ∀ c ∈ octF m v, isDig c := by
  intro m
  induction m with
  | zero => intro v c hc; simp [octF] at hc
  | succ m ih =>
    intro v c hc
    rw [octF] at hc
    split at hc
    · rw [List.mem_singleton.1 hc]; unfold isDig; rw [dg8_val]; omega
    · rcases List.mem_append.1 hc with h | h
      · exact ih _ c h
      · rw [List.mem_singleton.1 h]; unfold isDig; rw [dg8_val]; omega
theorem val8_one (a v : Nat) : val8 a [dg8 v] = a * 8 + v % 8 := by
  show a * 8 + ((dg8 v).toNat - 48) = a * 8 + v % 8
  rw [dg8_val, Nat.add_sub_cancel_left]
theorem octF_val : ∀ m v, v < 8 ^ m → 1 ≤ m → val8 0 (octF m v) = v := by
  intro m
  induction m with
  | zero => intro v h1 h2; omega
  | succ m ih =>
    intro v hv _
    rw [octF]
    by_cases h : v < 8
    · rw [if_pos h, val8_one]
      exact (congrArg (fun z => 0 * 8 + z) (Nat.mod_eq_of_lt h)).trans (by omega)
    · rw [if_neg h]
      have h1 : v / 8 < 8 ^ m := by rw [Nat.pow_succ] at hv; generalize 8 ^ m = q at *; omega
      have h2 : 1 ≤ m := by
        cases m with
        | zero => simp at hv; omega
        | succ m => omega
      rw [val8_append, ih _ h1 h2]
      rw [val8_one, Nat.mod_mod, Nat.mul_comm]
      exact Nat.div_add_mod v 8
theorem octF_ne (m v : Nat) (h : 1 ≤ m) : octF m v ≠ [] := by
  cases m with
  | zero => omega
  | succ m => rw [octF]; split <;> simp
/-- what a text of digits reads as: a word, if it is a word's text. -/
def octE (v : Nat) (l : List UInt8) : Int × Bool := if v ≤ 65535 ∧ octF 6 v = l then ((v : Int), true) else (0, false)
theorem octE_yes (v : Nat) (l : List UInt8) (h : v ≤ 65535) (e : octF 6 v = l) : octE v l = ((v : Int), true) := by unfold octE; exact if_pos ⟨h, e⟩
theorem octE_no (v : Nat) (l : List UInt8) (h : ¬ (v ≤ 65535 ∧ octF 6 v = l)) : octE v l = (0, false) := by unfold octE; exact if_neg h
def octR (l : List UInt8) : Int × Bool := octE (val8 0 l) l
theorem octR_of (v : Nat) (h : v ≤ 65535) : octR (octF 6 v) = ((v : Int), true) := by
  unfold octR
  rw [octF_val 6 v (by omega) (by omega)]
  exact octE_yes v _ h rfl
theorem octR_no (l : List UInt8) (h : ∀ v, v ≤ 65535 → octF 6 v ≠ l) : octR l = (0, false) := by
  exact octE_no _ _ (fun e => h _ e.1 e.2)
theorem octR_nodig (l : List UInt8) (c : UInt8) (hc : c ∈ l) (hn : ¬ isDig c) : octR l = (0, false) :=
  octR_no l fun v _ e => hn (octF_dig 6 v c (by rw [e]; exact hc))
theorem octR_long (l : List UInt8) (h : 6 < l.length) : octR l = (0, false) :=
  octR_no l fun v _ e => by have := octF_len 6 v; rw [e] at this; omega
theorem bt_i (s : ByteArray) (i : Nat) (h : i < s.data.toList.length) : bt s (i : Int) = ((s.data.toList[i]'h).toNat : Int) := by
  have h2 : i < s.size := by simpa using h
  unfold bt
  rw [dif_pos (by simpa using h2)]
  congr 1
/-- the reference: the loop's end. -/
theorem specParse_end (s : ByteArray) (x4 : Nat) (h : x4 < 8 ^ 6) : ∀ i : Int, Ev (fun k => spec_ParseOct.j1 k s (x4 : Int) i false) (octE x4 s.data.toList) := by
  intro i
  by_cases c : x4 ≤ 65535
  · obtain ⟨r, hr, he⟩ := specOct_ok (x4 : Int)
    have e : ((x4 : Int) % 65536).toNat = x4 := by omega
    rw [e] at he
    refine Ev.step (f := fun k => (spec_Oct.f k (x4 : Int)).bind fun t109 => (if t109.toList = s.toList then (some ((x4 : Int), true)) else (some (0, false)))) (fun k => ?_) (Ev.bind hr ?_)
    · rw [spec_ParseOct.j1.eq_def]; simp only []; rw [if_neg (by decide), if_neg (by omega)]
    · refine Ev.congr (f := fun _ => some _) (fun k => ?_) (Ev.now _)
      rw [bal, bal, he]
      by_cases d : octF 6 x4 = s.data.toList
      · rw [if_pos d, octE_yes _ _ c d]
      · rw [if_neg d, octE_no _ _ (fun h => d h.2)]
  · refine Ev.step (f := fun _ => some (0, false)) (fun k => ?_) (by rw [octE_no _ _ (fun h => c h.1)]; exact Ev.now _)
    rw [spec_ParseOct.j1.eq_def]; simp only []; rw [if_neg (by decide), if_pos (by omega)]
theorem drop_all (l : List UInt8) (i : Nat) (h : i < l.length) : l.drop i = l[i] :: l.drop (i + 1) := List.drop_eq_getElem_cons h
theorem specParse_loop (s : ByteArray) (hs : s.size ≤ 6) : ∀ (d i : Nat) (x4 : Nat), s.data.toList.length - i = d → i ≤ s.data.toList.length → x4 + 1 ≤ 8 ^ i → val8 x4 (s.data.toList.drop i) = val8 0 s.data.toList →
    Ev (fun k => spec_ParseOct.l0 k s (x4 : Int) (i : Int)) (octR s.data.toList) := by
  have hsz : s.data.toList.length = s.size := by rw [Array.length_toList]; rfl
  intro d
  induction d with
  | zero =>
    intro i x4 hd hi hx hv
    have hvA := Aside0.mk hv
    clear hv
    have hb : x4 < 8 ^ 6 := Nat.lt_of_lt_of_le hx (Nat.pow_le_pow_right (by decide) (by omega))
    clear hx
    have e : i = s.data.toList.length := by omega
    have e2 : ¬ (i : Int) < (s.size : Int) := by omega
    have hv := hvA.out
    rw [List.drop_of_length_le (Nat.le_of_eq e.symm)] at hv
    have := specParse_end s x4 hb (i : Int)
    have hv2 : x4 = val8 0 s.data.toList := hv
    have e3 : octR s.data.toList = octE x4 s.data.toList := congrArg (fun z => octE z s.data.toList) hv2.symm
    rw [e3]
    clear hv hvA hv2 e3 e
    refine Ev.step (fun k => ?_) this
    rw [spec_ParseOct.l0.eq_def]; simp only []; rw [if_neg e2]
  | succ d ih =>
    intro i x4 hd hi hx hv
    have hlt : i < s.data.toList.length := by omega
    have hvA := Aside0.mk hv
    clear hv
    have hb : x4 < 8 ^ 6 := Nat.lt_of_lt_of_le hx (Nat.pow_le_pow_right (by decide) (by omega))
    have h6 : (8 : Nat) ^ 6 = 262144 := by decide
    have hbt := bt_i s i hlt
    rw [h6] at hb
    have hx2 : (x4 * 8 + 7) + 1 ≤ 8 ^ (i + 1) := by rw [Nat.pow_succ]; generalize 8 ^ i = q at *; omega
    clear hx h6
    have w2 : wrap64 ((i : Int) + 1) = ((i + 1 : Nat) : Int) := by rw [w64 (by omega) (by omega)]; rfl
    have st : ∀ r, Ev (fun k => if decide (48 ≤ bt s (i : Int) ∧ bt s (i : Int) ≤ 55) = true then (spec_ParseOct.l0 k s (wrap64 ((wrap64 ((x4 : Int) * 8)) + (((bt s (i : Int)) - 48) % 256))) ((i + 1 : Nat) : Int)) else (some (0, false))) r → Ev (fun k => spec_ParseOct.l0 k s (x4 : Int) (i : Int)) r := by
      intro r hr
      refine Ev.step (f := fun k => spec_ParseOct.j1 k s (x4 : Int) (i : Int) true) (fun k => ?_) (Ev.step (fun k => ?_) hr)
      · rw [spec_ParseOct.l0.eq_def]; simp only []; rw [if_pos (by omega), decide_eq_true (by omega)]
      · rw [spec_ParseOct.j1.eq_def]; simp only [bt_b, l1In_ok, Option.bind_some, w2]; rw [if_pos trivial, if_pos (by omega), if_pos (by omega)]
    rw [hbt] at st
    by_cases c : isDig (s.data.toList[i]'hlt)
    · unfold isDig at c
      have w1 : wrap64 ((wrap64 ((x4 : Int) * 8)) + ((((s.data.toList[i]'hlt).toNat : Int) - 48) % 256)) = ((x4 * 8 + ((s.data.toList[i]'hlt).toNat - 48) : Nat) : Int) := by
        rw [w64 (x := (x4 : Int) * 8) (by omega) (by omega), w64 (by omega) (by omega)]
        omega
      refine st _ (Ev.congr (f := fun k => spec_ParseOct.l0 k s ((x4 * 8 + ((s.data.toList[i]'hlt).toNat - 48) : Nat) : Int) ((i + 1 : Nat) : Int)) (fun k => ?_) (ih (i + 1) _ (by omega) (by omega) (by refine Nat.le_trans ?_ hx2; omega) ?_))
      · rw [if_pos (decide_eq_true ⟨by omega, by omega⟩), w1]
      · have hv := hvA.out; rw [drop_all _ i hlt] at hv; exact hv
    · rw [octR_nodig _ _ (List.getElem_mem hlt) c]
      refine st _ (Ev.congr (f := fun _ => some (0, false)) (fun k => ?_) (Ev.now _))
      unfold isDig at c
      rw [if_neg (by rw [decide_eq_true_eq]; omega)]
/-- the reference's answer. -/
theorem specParse_ok (s : ByteArray) (hs : s.size ≤ 1048576) : Ev (fun k => spec_ParseOct.f k s) (octR s.data.toList) := by
  simp only [spec_ParseOct.f]
  have hsz : s.data.toList.length = s.size := by rw [Array.length_toList]; rfl
  by_cases c : s.size ≤ 6
  · exact specParse_loop s c _ 0 0 rfl (by omega) (by decide) rfl
  · have h := specParse_end s 0 (by decide) 0
    have e : octR s.data.toList = (0, false) := octR_long _ (by omega)
    rw [octE_no _ _ (fun h => by have := octF_len 6 0; rw [h.2] at this; omega)] at h
    rw [e]
    refine Ev.step (f := fun k => spec_ParseOct.j1 k s 0 0 false) (fun k => ?_) h
    rw [spec_ParseOct.l0.eq_def]; simp only []; rw [if_pos (by omega), decide_eq_false (by omega)]
theorem parse8_digs : ∀ (l : List UInt8) (acc : Nat), (∀ c ∈ l, isDig c) → l.length ≤ 6 → (acc + 1) * 8 ^ l.length ≤ 8 ^ 6 → parse8 acc l = .ok (val8 acc l) := by
  intro l
  induction l with
  | nil => intro acc _ _ _; exact rfl
  | cons c l ih =>
    intro acc h hl hb
    have hc := h c List.mem_cons_self
    unfold isDig at hc
    have h6 : (8 : Nat) ^ 6 = 262144 := by decide
    have p1 : 1 ≤ 8 ^ (c :: l).length := Nat.pow_pos (by decide)
    have ha : acc + 1 ≤ 262144 := by
      have : (acc + 1) * 1 ≤ (acc + 1) * 8 ^ (c :: l).length := Nat.mul_le_mul_left _ p1
      omega
    simp only [parse8]
    rw [if_pos hc, if_neg (by omega), ih _ (fun d hd => h d (List.mem_cons_of_mem _ hd)) (by simp at hl; omega) ?_]
    · rfl
    · refine Nat.le_trans ?_ hb
      rw [List.length_cons, Nat.pow_succ, Nat.mul_comm (8 ^ l.length) 8, ← Nat.mul_assoc]
      exact Nat.mul_le_mul_right _ (by omega)
/-- the library's answer at a word's text. -/
theorem int8_oct (s : ByteArray) (v : Nat) (hv : v ≤ 65535) (h : octF 6 v = s.data.toList) : int8? s = some (v : Int) := by
  have hd : ∀ c ∈ s.data.toList, isDig c := fun c hc => octF_dig 6 v c (by rw [h]; exact hc)
  have hl : s.data.toList.length ≤ 6 := by rw [← h]; exact octF_len 6 v
  have hval : val8 0 s.data.toList = v := by rw [← h]; exact octF_val 6 v (by omega) (by omega)
  have hne : s.data.toList ≠ [] := by rw [← h]; exact octF_ne 6 v (by omega)
  have hp := parse8_digs s.data.toList 0 hd hl (by rw [Nat.zero_add, Nat.one_mul]; exact Nat.pow_le_pow_right (by decide) hl)
  apply int8_some
  generalize s.data.toList = l at *
  cases l with
  | nil => exact absurd rfl hne
  | cons c r =>
    have hc := hd c List.mem_cons_self
    unfold isDig at hc
    rw [parseI8_plain c r (by omega) (by omega), parseU8, if_neg hne, hp, hval]
    simp only [plus8]
    rw [if_neg (by omega)]
/-- the program's answer. -/
theorem implParse_ok (s : ByteArray) (hs : s.size ≤ 281474976710656) : impl_ParseOct.f s = some (octR s.data.toList) := by
  unfold impl_ParseOct.f
  rw [if_pos hs]
  by_cases c : ∃ v, v ≤ 65535 ∧ octF 6 v = s.data.toList
  · obtain ⟨v, hv, h⟩ := c
    rw [int8_oct s v hv h, ← h, octR_of v hv]
    obtain ⟨r, hr, he⟩ := implOct_ok (v : Int)
    have e : ((v : Int) % 65536).toNat = v := by omega
    rw [e] at he
    simp only [impl_isWord.f, within_ok, Option.bind_some, hr]
    rw [if_pos (by simp; omega), bal, bal, he, h, if_pos rfl]
  · have hn : ∀ v, v ≤ 65535 → octF 6 v ≠ s.data.toList := fun v hv e => c ⟨v, hv, e⟩
    rw [octR_no _ hn]
    cases hi : int8? s with
    | none => rfl
    | some n =>
      simp only [impl_isWord.f, within_ok, Option.bind_some]
      by_cases hw : 0 ≤ n ∧ n ≤ 65535
      · obtain ⟨r, hr, he⟩ := implOct_ok n
        have e : (n % 65536).toNat = n.toNat := by omega
        rw [e] at he
        rw [if_pos (decide_eq_true hw), hr, Option.bind_some, bal, bal, he, if_neg (hn n.toNat (by omega))]
      · rw [if_neg (by rw [decide_eq_true_eq]; exact hw)]
theorem l1Num_in (l : List Int) (hl : l.length ≤ 1048576) (i : Int) (h0 : 0 ≤ i) (h1 : i ≤ l.length) (h : Int) : ∃ x i' h', spec_l1Num.f l i h = some (x, i', h') ∧ 0 ≤ i' ∧ i' ≤ l.length := by
  unfold spec_l1Num.f
  obtain ⟨x, i', h', e, _, _, _, i0, i1⟩ := l1Below_ok l hl i h0 h1 h 65536
  rw [e, Option.bind_some]
  obtain ⟨y, j', g', e2, _, j0, j1⟩ := l1Int_ok l hl i' i0 i1 h' [0, 1, 2, (-1), 7, 8, 255, 256, 32767, 32768, 65535, 65536, (-32768), (-65537), 9223372036854775807, (-9223372036854775808), x] (by simp)
  rw [e2, Option.bind_some]
  exact ⟨_, _, _, rfl, j0, j1⟩
theorem drawOct_ok (l : List Int) (hl : l.length ≤ 1048576) : ∃ n, Ev (fun k => spec_DrawOct.f k l) n := by
  obtain ⟨h, e⟩ := l1New_ev l hl
  obtain ⟨x, i', h', e2, _, _⟩ := l1Num_in l hl 0 (by omega) (by omega) h
  refine ⟨x, Ev.congr (f := fun k => (spec_l1New.f k l).bind fun bt142 => ((spec_l1Num.f bt142.1 bt142.2.1 bt142.2.2).bind fun bt146 => (some bt146.1))) (fun k => rfl) (Ev.bind e (Ev.congr (f := fun _ => some x) (fun k => ?_) (Ev.now _)))⟩
  simp only [e2, Option.bind_some]
def octDraws : List ByteArray := [(⟨#[]⟩ : ByteArray), (⟨#[48, 48]⟩ : ByteArray), (⟨#[56]⟩ : ByteArray), (⟨#[49, 55, 55, 55, 55, 55]⟩ : ByteArray), (⟨#[50, 48, 48, 48, 48, 48]⟩ : ByteArray), (⟨#[49, 55, 55, 55, 55, 120]⟩ : ByteArray), (⟨#[49, 55, 55, 55, 55, 55, 55]⟩ : ByteArray), (⟨#[48, 55]⟩ : ByteArray)]
theorem octDraws_small : ∀ s ∈ octDraws, s.size ≤ 7 := by decide +kernel
theorem drawParseOct_ok (l : List Int) (hl : l.length ≤ 1048576) : ∃ s, s.size ≤ 7 ∧ Ev (fun k => spec_DrawParseOct.f k l) s := by
  obtain ⟨h, e⟩ := l1New_ev l hl
  obtain ⟨n, i1, h1, e1, i10, i11⟩ := l1Num_in l hl 0 (by omega) (by omega) h
  obtain ⟨o, eo, ho⟩ := specOct_ok n
  obtain ⟨x, i2, h2, e2, x0, x1, _, i20, i21⟩ := l1Below_ok l hl i1 i10 i11 h1 3
  have e3 : spec_l1Once.f l i1 h1 3 = some (x == 0, i2, h2) := by unfold spec_l1Once.f; rw [e2]; rfl
  obtain ⟨y, i3, h3, e4, y0, y1, _, _, _⟩ := l1Below_ok l hl i2 i20 i21 h2 8
  have y1 := y1 (by omega)
  have hs : spec_l1Str.f l i2 h2 octDraws = some (rdOf ByteArray.empty octDraws y, i3, h3) := by
    unfold spec_l1Str.f
    rw [show ((octDraws.length : Nat) : Int) = 8 from rfl, e4, Option.bind_some, if_pos y0, if_pos y1]
  have ez : o.size ≤ 7 := by
    have := octF_len 6 (n % 65536).toNat
    rw [← ho, Array.length_toList] at this
    exact Nat.le_trans this (by omega)
  have step : ∀ r, (if (x == 0) = true then some (rdOf ByteArray.empty octDraws y) else some o) = some r → Ev (fun k => spec_DrawParseOct.f k l) r := by
    intro r hr
    refine Ev.congr (f := fun k => (spec_l1New.f k l).bind fun bt156 => ((spec_l1Num.f bt156.1 bt156.2.1 bt156.2.2).bind fun bt160 => ((spec_Oct.f k bt160.1).bind fun t163 => ((spec_l1Once.f bt156.1 bt160.2.1 bt160.2.2 3).bind fun bt164 => (if bt164.1 = true then ((spec_l1Str.f bt156.1 bt164.2.1 bt164.2.2 octDraws).bind fun bt170 => (some bt170.1)) else (some t163)))))) (fun k => rfl) (Ev.bind e ?_)
    refine Ev.congr (f := fun k => (spec_Oct.f k n).bind fun t163 => ((spec_l1Once.f l i1 h1 3).bind fun bt164 => (if bt164.1 = true then ((spec_l1Str.f l bt164.2.1 bt164.2.2 octDraws).bind fun bt170 => (some bt170.1)) else (some t163)))) (fun k => ?_) (Ev.bind eo (Ev.congr (f := fun _ => some r) (fun k => ?_) (Ev.now _)))
    · simp only [e1, Option.bind_some]
    · simp only [e3, hs, Option.bind_some]; exact hr
  by_cases c : (x == 0) = true
  · exact ⟨_, octDraws_small _ (rdB_in octDraws y y0 y1), step _ (if_pos c)⟩
  · exact ⟨o, ez, step _ (if_neg c)⟩
theorem octR_inv (l : List UInt8) (v : Int) (h : octR l = (v, true)) : 0 ≤ v ∧ v ≤ 65535 ∧ octF 6 v.toNat = l := by
  by_cases c : ∃ n, n ≤ 65535 ∧ octF 6 n = l
  · obtain ⟨n, hn, e⟩ := c
    rw [← e, octR_of n hn] at h
    have hv : (n : Int) = v := (Prod.mk.inj h).1
    subst hv
    exact ⟨by omega, by omega, e⟩
  · rw [octR_no l (fun n hn e => c ⟨n, hn, e⟩)] at h
    cases (Prod.mk.inj h).2
theorem FnOcts : laws_FnOcts.Pure := by
  intro l _ hl _
  refine Ev.rounds (g := fun k => laws_FnOcts.f k l) ?_
  simp only [laws_FnOcts.f, laws_big.f, Option.bind_some]
  by_cases c : (l.length : Int) > 1048576
  · exact Ev.congr (f := fun _ => some true) (fun k => by rw [if_pos (decide_eq_true c)]) (Ev.now _)
  refine Ev.congr (fun k => by rw [if_neg (by rw [decide_eq_true_eq]; exact c)]) ?_
  obtain ⟨n, en⟩ := drawOct_ok l (by omega)
  obtain ⟨s, hs, es⟩ := drawParseOct_ok l (by omega)
  obtain ⟨o, eo, ho⟩ := implOct_ok n
  obtain ⟨v, hv⟩ : ∃ v : Nat, (n % 65536).toNat = v := ⟨_, rfl⟩
  have hv2 : v ≤ 65535 := by omega
  rw [hv] at ho
  have osz : o.size ≤ 6 := by
    have := octF_len 6 v
    rw [← ho, Array.length_toList] at this
    exact this
  have p1 := implParse_ok o (by omega)
  rw [ho, octR_of v hv2] at p1
  have p2 := implParse_ok s (by omega)
  have p3 := specParse_ok s (by omega)
  refine Ev.bind en (Ev.congr (f := fun k => (spec_DrawParseOct.f k l).bind fun t178 => ((impl_ParseOct.f t178).bind fun bt179 => ((spec_ParseOct.f k t178).bind fun bt181 => (if (bt179.2 == bt181.2) = true then (if bt179.2 = true then ((impl_Oct.f bt179.1).bind fun t184 => (some (t184.toList == t178.toList))) else (some true)) else (some false))))) (fun k => ?_) (Ev.bind es ?_))
  · have hv3 : (((v : Nat) : Int) = n % 65536) = True := eq_true (by omega)
    simp only [eo, p1, Option.bind_some, impl_Wrap.f, and65535, if_true]
    simp only [hv3, if_true]
  refine Ev.congr (f := fun k => (spec_ParseOct.f k s).bind fun bt181 => (if ((octR s.data.toList).2 == bt181.2) = true then (if (octR s.data.toList).2 = true then ((impl_Oct.f (octR s.data.toList).1).bind fun t184 => (some (t184.toList == s.toList))) else (some true)) else (some false))) (fun k => by rw [p2, Option.bind_some]) (Ev.bind p3 ?_)
  refine Ev.congr (f := fun _ => some true) (fun k => ?_) (Ev.now _)
  rw [if_pos (beq_self_eq_true _)]
  cases e : octR s.data.toList with
  | mk a b =>
    cases b with
    | false => rw [if_neg (by simp)]
    | true =>
      obtain ⟨a0, a1, ha⟩ := octR_inv _ _ e
      obtain ⟨q, eq, hq⟩ := implOct_ok a
      have e3 : (a % 65536).toNat = a.toNat := by omega
      rw [e3, ha] at hq
      simp only [if_true]
      rw [eq, Option.bind_some, bal, bal, hq, beq_self_eq_true]

end Go.Proofs.YtddaaoadodihpaaDoor.Pure
