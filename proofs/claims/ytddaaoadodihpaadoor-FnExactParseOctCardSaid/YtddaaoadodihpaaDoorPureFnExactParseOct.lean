/- Proved: the law FnExactParseOct, as a plain function, answers true at each text; no further conditions. -/
import Derived.Test.YtddaaoadodihpaaDoorPFnExactParseOctx1
import Derived.Test.YtddaaoadodihpaaDoorPFnExactParseOctx2
import Derived.Test.YtddaaoadodihpaaDoorPFnExactParseOctx3
import Derived.Test.YtddaaoadodihpaaDoorVCFnExactParseOct
namespace Go.Proofs.YtddaaoadodihpaaDoor.Pure
open Go.RowKit Go.Proofs.YtddaaoadodihpaaDoor.PFnExactParseOct Go.Proofs.YtddaaoadodihpaaDoorW.PrintWords Go.Proofs.YtddaaoadodihpaaDoorW.PrintLast Go.Proofs.YtddaaoadodihpaaDoor.Common
set_option linter.unusedVariables false
set_option linter.unusedSimpArgs false
theorem bal (s : ByteArray) : s.toList = s.data.toList := ByteArray.toList_eq s
theorem dg8_mod (v : Nat) : dg8 (v % 8) = dg8 v := by unfold dg8; rw [Nat.mod_mod]
theorem one_digit (v : Nat) : strOfNums [(wrap64 (48 + bits .and .i64 (v : Int) 7)) % 256] = ⟨#[dg8 v]⟩ := by
  rw [and7, w64 (by omega) (by omega)]
  unfold strOfNums dg8
  have e : ((48 + (v : Int) % 8) % 256).toNat = 48 + v % 8 := by omega
  simp [e]
theorem specOct_loop : ∀ (m x : Nat) (x3 : ByteArray), x < 8 ^ (m + 1) → x3.size + m ≤ 100 → ∃ r, Ev (fun k => spec_Oct.l0 k (x : Int) x3) r ∧ r.data.toList = (if x < 8 then [] else octF m (x / 8)) ++ x3.data.toList := by
  intro m
  induction m with
  | zero =>
    intro x x3 hx hs
    have h8 : x < 8 := by simpa using hx
    refine ⟨x3, Ev.step (f := fun _ => some x3) (fun k => ?_) (Ev.now _), by rw [if_pos h8]; rfl⟩
    rw [spec_Oct.l0.eq_def]; simp only []; rw [if_neg (by omega)]
  | succ m ih =>
    intro x x3 hx hs
    by_cases h8 : x < 8
    · refine ⟨x3, Ev.step (f := fun _ => some x3) (fun k => ?_) (Ev.now _), by rw [if_pos h8]; rfl⟩
      rw [spec_Oct.l0.eq_def]; simp only []; rw [if_neg (by omega)]
    · have hz : (⟨#[dg8 (x / 8)]⟩ : ByteArray).size = 1 := rfl
      have hlt : x / 8 < 8 ^ (m + 1) := by rw [Nat.pow_succ] at hx; omega
      obtain ⟨r, hr, ht⟩ := ih (x / 8) ((⟨#[dg8 (x / 8)]⟩ : ByteArray) ++ x3) hlt (by rw [ByteArray.size_append, hz]; omega)
      have ex : ((x : Int) / 8) = ((x / 8 : Nat) : Int) := by omega
      refine ⟨r, Ev.step (f := fun k => spec_Oct.l0 k ((x / 8 : Nat) : Int) ((⟨#[dg8 (x / 8)]⟩ : ByteArray) ++ x3)) (fun k => ?_) hr, ?_⟩
      · rw [spec_Oct.l0.eq_def]
        simp only [ex, one_digit, Option.bind_some, hz]
        rw [if_pos (by omega), if_pos (by omega)]
      · rw [ht, if_neg h8, octF]
        by_cases h9 : x / 8 < 8
        · rw [if_pos h9, if_pos h9]; simp
        · rw [if_neg h9, if_neg h9, dg8_mod]; simp
theorem octF_len : ∀ m v, (octF m v).length ≤ m := by
  intro m
  induction m with
  | zero => intro v; simp [octF]
  | succ m ih =>
    intro v
    rw [octF]
    split
    · simp
    · simp only [List.length_append, List.length_cons, List.length_nil]; have := ih (v / 8); omega
/-- both make the digits of a word. -/
theorem specOct_ok (n : Int) : ∃ r, Ev (fun k => spec_Oct.f k n) r ∧ r.data.toList = octF 6 (n % 65536).toNat := by
  obtain ⟨t, ht⟩ : ∃ t : Nat, n % 65536 = t := ⟨(n % 65536).toNat, by omega⟩
  have hlt : t < 65536 := by omega
  rw [ht]
  obtain ⟨r, hr, h2⟩ := specOct_loop 5 t (⟨#[dg8 t]⟩ : ByteArray) (by omega) (by simp [ByteArray.size])
  refine ⟨r, ?_, ?_⟩
  · simp only [spec_Oct.f, spec_Wrap.f, and65535, Option.bind_some, ht, one_digit]
    exact hr
  · rw [h2, Int.toNat_natCast, show octF 6 t = if t < 8 then [dg8 t] else octF 5 (t / 8) ++ [dg8 (t % 8)] from rfl]
    by_cases h8 : t < 8
    · rw [if_pos h8, if_pos h8]; rfl
    · rw [if_neg h8, if_neg h8, dg8_mod]
theorem implOct_ok (n : Int) : ∃ r, impl_Oct.f n = some r ∧ r.data.toList = octF 6 (n % 65536).toNat := by
  refine ⟨⟨(octF 6 (n % 65536).toNat).toArray⟩, ?_, rfl⟩
  simp only [impl_Oct.f, impl_Wrap.f, and65535, Option.bind_some, strconv_FormatInt_32.f]
  rw [if_pos ⟨trivial, by omega, by omega⟩]
  rfl
theorem bt_b (s : ByteArray) (i : Int) : wrap64 (bt s i) = bt s i := by have := bt_range s i; exact w64 (by omega) (by omega)
theorem l1In_ok (a b c : Int) : spec_l1In.f a b c = some (decide (b ≤ a ∧ a ≤ c)) := by
  unfold spec_l1In.f
  by_cases h : a ≥ b
  · have h' : b ≤ a := h
    rw [if_pos h]; simp [h']
  · have h' : ¬ b ≤ a := h
    rw [if_neg h]; simp [h']
theorem within_ok (a b c : Int) : impl_within.f a b c = some (decide (b ≤ a ∧ a ≤ c)) := by
  unfold impl_within.f
  by_cases h : a ≥ b
  · have h' : b ≤ a := h
    rw [if_pos h]; simp [h']
  · have h' : ¬ b ≤ a := h
    rw [if_neg h]; simp [h']
def val8 (acc : Nat) : List UInt8 → Nat
  | [] => acc
  | c :: r => val8 (acc * 8 + (c.toNat - 48)) r
theorem val8_append (l r : List UInt8) : ∀ acc, val8 acc (l ++ r) = val8 (val8 acc l) r := by
  induction l with
  | nil => intro acc; rfl
  | cons c l ih => intro acc; exact ih _
def isDig (c : UInt8) : Prop := 48 ≤ c.toNat ∧ c.toNat ≤ 55
theorem dg8_val (v : Nat) : (dg8 v).toNat = 48 + v % 8 := by
  unfold dg8
  rw [UInt8.toNat_ofNat']
  omega
theorem octF_dig : ∀ m v, ∀ c ∈ octF m v, isDig c := by
  intro m
  induction m with
  | zero => intro v c hc; simp [octF] at hc
  | succ m ih =>
    intro v c hc
    rw [octF] at hc
    split at hc
    · rw [List.mem_singleton.1 hc]; unfold isDig; rw [dg8_val]; omega
    · rcases List.mem_append.1 hc with h | h
      · exact ih _ c h
      · rw [List.mem_singleton.1 h]; unfold isDig; rw [dg8_val]; omega
theorem val8_one (a v : Nat) : val8 a [dg8 v] = a * 8 + v % 8 := by
  show a * 8 + ((dg8 v).toNat - 48) = a * 8 + v % 8
  rw [dg8_val, Nat.add_sub_cancel_left]
theorem octF_val : ∀ m v, v < 8 ^ m → 1 ≤ m → val8 0 (octF m v) = v := by
  intro m
  induction m with
  | zero => intro v h1 h2; omega
  | succ m ih =>
    intro v hv _
    rw [octF]
    by_cases h : v < 8
    · rw [if_pos h, val8_one]
      exact (congrArg (fun z => 0 * 8 + z) (Nat.mod_eq_of_lt h)).trans (by omega)
    · rw [if_neg h]
      have h1 : v / 8 < 8 ^ m := by rw [Nat.pow_succ] at hv; generalize 8 ^ m = q at *; omega
      have h2 : 1 ≤ m := by
        cases m with
        | zero => simp at hv; omega
        | succ m => omega
      rw [val8_append, ih _ h1 h2]
      rw [val8_one, Nat.mod_mod, Nat.mul_comm]
      exact Nat.div_add_mod v 8
theorem octF_ne (m v : Nat) (h : 1 ≤ m) : octF m v ≠ [] := by
  cases m with
  | zero => omega
  | succ m => rw [octF]; split <;> simp
/-- what a text of digits reads as: a word, if it is a word's text. -/
def octE (v : Nat) (l : List UInt8) : Int × Bool := if v ≤ 65535 ∧ octF 6 v = l then ((v : Int), true) else (0, false)
theorem octE_yes (v : Nat) (l : List UInt8) (h : v ≤ 65535) (e : octF 6 v = l) : octE v l = ((v : Int), true) := by unfold octE; exact if_pos ⟨h, e⟩
theorem octE_no (v : Nat) (l : List UInt8) (h : ¬ (v ≤ 65535 ∧ octF 6 v = l)) : octE v l = (0, false) := by unfold octE; exact if_neg h
def octR (l : List UInt8) : Int × Bool := octE (val8 0 l) l
theorem octR_of (v : Nat) (h : v ≤ 65535) : octR (octF 6 v) = ((v : Int), true) := by
  unfold octR
  rw [octF_val 6 v (by omega) (by omega)]
  exact octE_yes v _ h rfl
theorem octR_no (l : List UInt8) (h : ∀ v, v ≤ 65535 → octF 6 v ≠ l) : octR l = (0, false) := by
  exact octE_no _ _ (fun e => h _ e.1 e.2)
theorem octR_nodig (l : List UInt8) (c : UInt8) (hc : c ∈ l) (hn : ¬ isDig c) : octR l = (0, false) :=
  octR_no l fun v _ e => hn (octF_dig 6 v c (by rw [e]; exact hc))
theorem octR_long (l : List UInt8) (h : 6 < l.length) : octR l = (0, false) :=
  octR_no l fun v _ e => by have := octF_len 6 v; rw [e] at this; omega
theorem bt_i (s : ByteArray) (i : Nat) (h : i < s.data.toList.length) : bt s (i : Int) = ((s.data.toList[i]'h).toNat : Int) := by
  have h2 : i < s.size := by simpa using h
  unfold bt
  rw [dif_pos (by simpa using h2)]
  congr 1
/-- the reference: the loop's end. -/
theorem specParse_end (s : ByteArray) (x4 : Nat) (h : x4 < 8 ^ 6) : ∀ i : Int, Ev (fun k => spec_ParseOct.j1 k s (x4 : Int) i false) (octE x4 s.data.toList) := by
  intro i
  by_cases c : x4 ≤ 65535
  · obtain ⟨r, hr, he⟩ := specOct_ok (x4 : Int)
    have e : ((x4 : Int) % 65536).toNat = x4 := by omega
    rw [e] at he
    refine Ev.step (f := fun k => (spec_Oct.f k (x4 : Int)).bind fun t109 => (if t109.toList = s.toList then (some ((x4 : Int), true)) else (some (0, false)))) (fun k => ?_) (Ev.bind hr ?_)
    · rw [spec_ParseOct.j1.eq_def]; simp only []; rw [if_neg (by decide), if_neg (by omega)]
    · refine Ev.congr (f := fun _ => some _) (fun k => ?_) (Ev.now _)
      rw [bal, bal, he]
      by_cases d : octF 6 x4 = s.data.toList
      · rw [if_pos d, octE_yes _ _ c d]
      · rw [if_neg d, octE_no _ _ (fun h => d h.2)]
  · refine Ev.step (f := fun _ => some (0, false)) (fun k => ?_) (by rw [octE_no _ _ (fun h => c h.1)]; exact Ev.now _)
    rw [spec_ParseOct.j1.eq_def]; simp only []; rw [if_neg (by decide), if_pos (by omega)]
theorem drop_all (l : List UInt8) (i : Nat) (h : i < l.length) : l.drop i = l[i] :: l.drop (i + 1) := List.drop_eq_getElem_cons h
theorem specParse_loop (s : ByteArray) (hs : s.size ≤ 6) : ∀ (d i : Nat) (x4 : Nat), s.data.toList.length - i = d → i ≤ s.data.toList.length → x4 + 1 ≤ 8 ^ i → val8 x4 (s.data.toList.drop i) = val8 0 s.data.toList →
    Ev (fun k => spec_ParseOct.l0 k s (x4 : Int) (i : Int)) (octR s.data.toList) := by
  have hsz : s.data.toList.length = s.size := by rw [Array.length_toList]; rfl
  intro d
  induction d with
  | zero =>
    intro i x4 hd hi hx hv
    have hvA := Aside0.mk hv
    clear hv
    have hb : x4 < 8 ^ 6 := Nat.lt_of_lt_of_le hx (Nat.pow_le_pow_right (by decide) (by omega))
    clear hx
    have e : i = s.data.toList.length := by omega
    have e2 : ¬ (i : Int) < (s.size : Int) := by omega
    have hv := hvA.out
    rw [List.drop_of_length_le (Nat.le_of_eq e.symm)] at hv
    have := specParse_end s x4 hb (i : Int)
    have hv2 : x4 = val8 0 s.data.toList := hv
    have e3 : octR s.data.toList = octE x4 s.data.toList := congrArg (fun z => octE z s.data.toList) hv2.symm
    rw [e3]
    clear hv hvA hv2 e3 e
    refine Ev.step (fun k => ?_) this
    rw [spec_ParseOct.l0.eq_def]; simp only []; rw [if_neg e2]
  | succ d ih =>
    intro i x4 hd hi hx hv
    have hlt : i < s.data.toList.length := by omega
    have hvA := Aside0.mk hv
    clear hv
    have hb : x4 < 8 ^ 6 := Nat.lt_of_lt_of_le hx (Nat.pow_le_pow_right (by decide) (by omega))
    have h6 : (8 : Nat) ^ 6 = 262144 := by decide
    have hbt := bt_i s i hlt
    rw [h6] at hb
    have hx2 : (x4 * 8 + 7) + 1 ≤ 8 ^ (i + 1) := by rw [Nat.pow_succ]; generalize 8 ^ i = q at *; omega
    clear hx h6
    have w2 : wrap64 ((i : Int) + 1) = ((i + 1 : Nat) : Int) := by rw [w64 (by omega) (by omega)]; rfl
    have st : ∀ r, Ev (fun k => if decide (48 ≤ bt s (i : Int) ∧ bt s (i : Int) ≤ 55) = true then (spec_ParseOct.l0 k s (wrap64 ((wrap64 ((x4 : Int) * 8)) + (((bt s (i : Int)) - 48) % 256))) ((i + 1 : Nat) : Int)) else (some (0, false))) r → Ev (fun k => spec_ParseOct.l0 k s (x4 : Int) (i : Int)) r := by
      intro r hr
      refine Ev.step (f := fun k => spec_ParseOct.j1 k s (x4 : Int) (i : Int) true) (fun k => ?_) (Ev.step (fun k => ?_) hr)
      · rw [spec_ParseOct.l0.eq_def]; simp only []; rw [if_pos (by omega), decide_eq_true (by omega)]
      · rw [spec_ParseOct.j1.eq_def]; simp only [bt_b, l1In_ok, Option.bind_some, w2]; rw [if_pos trivial, if_pos (by omega), if_pos (by omega)]
    rw [hbt] at st
    by_cases c : isDig (s.data.toList[i]'hlt)
    · unfold isDig at c
      have w1 : wrap64 ((wrap64 ((x4 : Int) * 8)) + ((((s.data.toList[i]'hlt).toNat : Int) - 48) % 256)) = ((x4 * 8 + ((s.data.toList[i]'hlt).toNat - 48) : Nat) : Int) := by
        rw [w64 (x := (x4 : Int) * 8) (by omega) (by omega), w64 (by omega) (by omega)]
        omega
      refine st _ (Ev.congr (f := fun k => spec_ParseOct.l0 k s ((x4 * 8 + ((s.data.toList[i]'hlt).toNat - 48) : Nat) : Int) ((i + 1 : Nat) : Int)) (fun k => ?_) (ih (i + 1) _ (by omega) (by omega) (by refine Nat.le_trans ?_ hx2; omega) ?_))
      · rw [if_pos (decide_eq_true ⟨by omega, by omega⟩), w1]
      · have hv := hvA.out; rw [drop_all _ i hlt] at hv; exact hv
    · rw [octR_nodig _ _ (List.getElem_mem hlt) c]
      refine st _ (Ev.congr (f := fun _ => some (0, false)) (fun k => ?_) (Ev.now _))
      unfold isDig at c
      rw [if_neg (by rw [decide_eq_true_eq]; omega)]
/-- the reference's answer. -/
theorem specParse_ok (s : ByteArray) (hs : s.size ≤ 1048576) : Ev (fun k => spec_ParseOct.f k s) (octR s.data.toList) := by
  simp only [spec_ParseOct.f]
  have hsz : s.data.toList.length = s.size := by rw [Array.length_toList]; rfl
  by_cases c : s.size ≤ 6
  · exact specParse_loop s c _ 0 0 rfl (by omega) (by decide) rfl
  · have h := specParse_end s 0 (by decide) 0
    have e : octR s.data.toList = (0, false) := octR_long _ (by omega)
    rw [octE_no _ _ (fun h => by have := octF_len 6 0; rw [h.2] at this; omega)] at h
    rw [e]
    refine Ev.step (f := fun k => spec_ParseOct.j1 k s 0 0 false) (fun k => ?_) h
    rw [spec_ParseOct.l0.eq_def]; simp only []; rw [if_pos (by omega), decide_eq_false (by omega)]
theorem parse8_digs : ∀ (l : List UInt8) (acc : Nat), (∀ c ∈ l, isDig c) → l.length ≤ 6 → (acc + 1) * 8 ^ l.length ≤ 8 ^ 6 → parse8 acc l = .ok (val8 acc l) := by
  intro l
  induction l with
  | nil => intro acc _ _ _; exact rfl
  | cons c l ih =>
    intro acc h hl hb
    have hc := h c List.mem_cons_self
    unfold isDig at hc
    have h6 : (8 : Nat) ^ 6 = 262144 := by decide
    have p1 : 1 ≤ 8 ^ (c :: l).length := Nat.pow_pos (by decide)
    have ha : acc + 1 ≤ 262144 := by
      have : (acc + 1) * 1 ≤ (acc + 1) * 8 ^ (c :: l).length := Nat.mul_le_mul_left _ p1
      omega
    simp only [parse8]
    rw [if_pos hc, if_neg (by omega), ih _ (fun d hd => h d (List.mem_cons_of_mem _ hd)) (by simp at hl; omega) ?_]
    · rfl
    · refine Nat.le_trans ?_ hb
      rw [List.length_cons, Nat.pow_succ, Nat.mul_comm (8 ^ l.length) 8, ← Nat.mul_assoc]
      exact Nat.mul_le_mul_right _ (by omega)
/-- the library's answer at a word's text. -/
theorem int8_oct (s : ByteArray) (v : Nat) (hv : v ≤ 65535) (h : octF 6 v = s.data.toList) : int8? s = some (v : Int) := by
  have hd : ∀ c ∈ s.data.toList, isDig c := fun c hc => octF_dig 6 v c (by rw [h]; exact hc)
  have hl : s.data.toList.length ≤ 6 := by rw [← h]; exact octF_len 6 v
  have hval : val8 0 s.data.toList = v := by rw [← h]; exact octF_val 6 v (by omega) (by omega)
  have hne : s.data.toList ≠ [] := by rw [← h]; exact octF_ne 6 v (by omega)
  have hp := parse8_digs s.data.toList 0 hd hl (by rw [Nat.zero_add, Nat.one_mul]; exact Nat.pow_le_pow_right (by decide) hl)
  apply int8_some
  generalize s.data.toList = l at *
  cases l with
  | nil => exact absurd rfl hne
  | cons c r =>
    have hc := hd c List.mem_cons_self
    unfold isDig at hc
    rw [parseI8_plain c r (by omega) (by omega), parseU8, if_neg hne, hp, hval]
    simp only [plus8]
    rw [if_neg (by omega)]
/-- the program's answer. -/
theorem implParse_ok (s : ByteArray) (hs : s.size ≤ 281474976710656) : impl_ParseOct.f s = some (octR s.data.toList) := by
  unfold impl_ParseOct.f
  rw [if_pos hs]
  by_cases c : ∃ v, v ≤ 65535 ∧ octF 6 v = s.data.toList
  · obtain ⟨v, hv, h⟩ := c
    rw [int8_oct s v hv h, ← h, octR_of v hv]
    obtain ⟨r, hr, he⟩ := implOct_ok (v : Int)
    have e : ((v : Int) % 65536).toNat = v := by omega
    rw [e] at he
    simp only [impl_isWord.f, within_ok, Option.bind_some, hr]
    rw [if_pos (by simp; omega), bal, bal, he, h, if_pos rfl]
  · have hn : ∀ v, v ≤ 65535 → octF 6 v ≠ s.data.toList := fun v hv e => c ⟨v, hv, e⟩
    rw [octR_no _ hn]
    cases hi : int8? s with
    | none => rfl
    | some n =>
      simp only [impl_isWord.f, within_ok, Option.bind_some]
      by_cases hw : 0 ≤ n ∧ n ≤ 65535
      · obtain ⟨r, hr, he⟩ := implOct_ok n
        have e : (n % 65536).toNat = n.toNat := by omega
        rw [e] at he
        rw [if_pos (decide_eq_true hw), hr, Option.bind_some, bal, bal, he, if_neg (hn n.toNat (by omega))]
      · rw [if_neg (by rw [decide_eq_true_eq]; exact hw)]
theorem FnExactParseOct : laws_FnExactParseOct.Pure := by
  intro a0 _
  refine Ev.rounds (g := fun k => laws_FnExactParseOct.f k a0) ?_
  simp only [laws_FnExactParseOct.f]
  by_cases c : (a0.size : Int) > 1048576
  · exact Ev.congr (f := fun _ => some true) (fun k => by rw [if_pos c]) (Ev.now _)
  refine Ev.congr (fun k => by rw [if_neg c, implParse_ok a0 (by omega)]) (Ev.bind (specParse_ok a0 (by omega)) ?_)
  refine Ev.congr (f := fun _ => some true) (fun k => ?_) (Ev.now _)
  rw [Option.bind_some, if_pos rfl, if_neg (by simp)]

end Go.Proofs.YtddaaoadodihpaaDoor.Pure
