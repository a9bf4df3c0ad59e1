/- Proved: the law FnExactOutcome, as a plain function, answers true at each machine; no further conditions. -/
import Derived.Test.YtddaaoadodihpaaDoorPFnExactOutcomex1
import Derived.Test.YtddaaoadodihpaaDoorPFnExactOutcomex2
import Derived.Test.YtddaaoadodihpaaDoorPFnExactOutcomex3
import Derived.Test.YtddaaoadodihpaaDoorVCFnExactOutcome
namespace Go.Proofs.YtddaaoadodihpaaDoor.Pure
open Go.RowKit Go.Proofs.YtddaaoadodihpaaDoor.PFnExactOutcome Go.Proofs.YtddaaoadodihpaaDoorW.PrintWords Go.Proofs.YtddaaoadodihpaaDoorW.PrintLast Go.Proofs.YtddaaoadodihpaaDoor.Common
set_option linter.unusedVariables false
set_option linter.unusedSimpArgs false
theorem bal (s : ByteArray) : s.toList = s.data.toList := ByteArray.toList_eq s
theorem dg8_mod (v : Nat) : dg8 (v % 8) = dg8 v := by unfold dg8; rw [Nat.mod_mod]
theorem one_digit (v : Nat) : strOfNums [(wrap64 (48 + bits .and .i64 (v : Int) 7)) % 256] = ⟨#[dg8 v]⟩ := by
  rw [and7, w64 (by omega) (by omega)]
  unfold strOfNums dg8
  have e : ((48 + (v : Int) % 8) % 256).toNat = 48 + v % 8 := by omega
  simp [e]
theorem specOct_loop : ∀ (m x : Nat) (x3 : ByteArray), x < 8 ^ (m + 1) → x3.size + m ≤ 100 → ∃ r, Ev (fun k => spec_Oct.l0 k (x : Int) x3) r ∧ r.data.toList = (if x < 8 then [] else octF m (x / 8)) ++ x3.data.toList := by
  intro m
  induction m with
  | zero =>
    intro x x3 hx hs
    have h8 : x < 8 := by simpa using hx
    refine ⟨x3, Ev.step (f := fun _ => some x3) (fun k => ?_) (Ev.now _), by rw [if_pos h8]; rfl⟩
    rw [spec_Oct.l0.eq_def]; simp only []; rw [if_neg (by omega)]
  | succ m ih =>
    intro x x3 hx hs
    by_cases h8 : x < 8
    · refine ⟨x3, Ev.step (f := fun _ => some x3) (fun k => ?_) (Ev.now _), by rw [if_pos h8]; rfl⟩
      rw [spec_Oct.l0.eq_def]; simp only []; rw [if_neg (by omega)]
    · have hz : (⟨#[dg8 (x / 8)]⟩ : ByteArray).size = 1 := rfl
      have hlt : x / 8 < 8 ^ (m + 1) := by rw [Nat.pow_succ] at hx; omega
      obtain ⟨r, hr, ht⟩ := ih (x / 8) ((⟨#[dg8 (x / 8)]⟩ : ByteArray) ++ x3) hlt (by rw [ByteArray.size_append, hz]; omega)
      have ex : ((x : Int) / 8) = ((x / 8 : Nat) : Int) := by omega
      refine ⟨r, Ev.step (f := fun k => spec_Oct.l0 k ((x / 8 : Nat) : Int) ((⟨#[dg8 (x / 8)]⟩ : ByteArray) ++ x3)) (fun k => ?_) hr, ?_⟩
      · rw [spec_Oct.l0.eq_def]
        simp only [ex, one_digit, Option.bind_some, hz]
        rw [if_pos (by omega), if_pos (by omega)]
      · rw [ht, if_neg h8, octF]
        by_cases h9 : x / 8 < 8
        · rw [if_pos h9, if_pos h9]; simp
        · rw [if_neg h9, if_neg h9, dg8_mod]; simp
theorem octF_len : ∀ m v, (octF m v).length ≤ m := by
  intro m
  induction m with
  | zero => intro v; simp [octF]
  | succ m ih =>
    intro v
    rw [octF]
    split
    · simp
    · simp only [List.length_append, List.length_cons, List.length_nil]; have := ih (v / 8); omega
/-- both make the digits of a word. -/
theorem specOct_ok (n : Int) : ∃ r, Ev (fun k => spec_Oct.f k n) r ∧ r.data.toList = octF 6 (n % 65536).toNat := by
  obtain ⟨t, ht⟩ : ∃ t : Nat, n % 65536 = t := ⟨(n % 65536).toNat, by omega⟩
  have hlt : t < 65536 := by omega
  rw [ht]
  obtain ⟨r, hr, h2⟩ := specOct_loop 5 t (⟨#[dg8 t]⟩ : ByteArray) (by omega) (by simp [ByteArray.size])
  refine ⟨r, ?_, ?_⟩
  · simp only [spec_Oct.f, spec_Wrap.f, and65535, Option.bind_some, ht, one_digit]
    exact hr
  · rw [h2, Int.toNat_natCast, show octF 6 t = if t < 8 then [dg8 t] else octF 5 (t / 8) ++ [dg8 (t % 8)] from rfl]
    by_cases h8 : t < 8
    · rw [if_pos h8, if_pos h8]; rfl
    · rw [if_neg h8, if_neg h8, dg8_mod]
theorem implOct_ok (n : Int) : ∃ r, impl_Oct.f n = some r ∧ r.data.toList = octF 6 (n % 65536).toNat := by
  refine ⟨⟨(octF 6 (n % 65536).toNat).toArray⟩, ?_, rfl⟩
  simp only [impl_Oct.f, impl_Wrap.f, and65535, Option.bind_some, strconv_FormatInt_32.f]
  rw [if_pos ⟨trivial, by omega, by omega⟩]
  rfl
theorem toIntS_ok (l : List Int) (h : l.length ≤ 35184372088832) (k : Nat) (hk : l.length < k) : laws_toIntS.f k l = some l := by
  unfold laws_toIntS.f
  rw [if_pos (by omega), if_pos (by omega)]
  exact copy_loop 0 l (by omega) (fun k z i => laws_toIntS.l0 k l z i) (fun _ _ _ => rfl) k _ (by simp) hk
theorem eqIntS_ok (a b : List Int) (h : a.length ≤ 4611686018427387904) (k : Nat) (hk : a.length < k) : laws_eqIntS.f k a b = some (decide (a = b)) := by
  unfold laws_eqIntS.f
  by_cases e : (a.length : Int) = (b.length : Int)
  · rw [if_pos e]; exact eq_loop 0 a b (by omega) h (fun k x => laws_eqIntS.l0 k a b x) (fun _ _ => rfl) k hk
  · rw [if_neg e]; congr 1; symm; rw [decide_eq_false_iff_not]; intro h; subst h; exact e rfl
theorem eqIntS_self (a : List Int) (h : a.length ≤ 4611686018427387904) (k : Nat) (hk : a.length < k) : laws_eqIntS.f k a a = some true := by
  rw [eqIntS_ok a a h k hk]; simp
theorem szIntS_ok (l : List Int) (a : Int) (h0 : 0 ≤ a) (h1 : a ≤ 1048576) (hl : l.length ≤ maxLen) : laws_szIntS.f l a = some (if (l.length : Int) ≤ a then a - l.length else -1) := by
  have hm : maxLen = 9223372036854775807 := rfl
  unfold laws_szIntS.f
  rw [w64 (x := a - (l.length : Int)) (by omega) (by omega)]
  by_cases h : (l.length : Int) ≤ a
  · rw [if_neg (by omega), if_pos h]
  · rw [if_pos (by omega), if_neg h]
theorem szMach_ok (l0 l1 l6 l7 : List Int) (b2 b3 b4 b5 : Bool) (s : Int) (h0 : l0.length ≤ maxLen) (h1 : l1.length ≤ maxLen) (h6 : l6.length ≤ maxLen) (h7 : l7.length ≤ maxLen) :
    ∃ t, laws_szMach.f l0 l1 b2 b3 b4 b5 l6 l7 s 1048576 = some t ∧ (t < 0 ∨ (l0.length + l1.length + l6.length + l7.length ≤ 1048576)) := by
  unfold laws_szMach.f
  rw [szIntS_ok l0 _ (by omega) (by omega) h0]; simp only [Option.bind_some]
  by_cases c0 : (l0.length : Int) ≤ 1048576
  · rw [if_pos c0, if_neg (by omega), szIntS_ok l1 _ (by omega) (by omega) h1]; simp only [Option.bind_some]
    by_cases c1 : (l1.length : Int) ≤ 1048576 - l0.length
    · rw [if_pos c1, if_neg (by omega), szIntS_ok l6 _ (by omega) (by omega) h6]; simp only [Option.bind_some]
      by_cases c6 : (l6.length : Int) ≤ 1048576 - l0.length - l1.length
      · rw [if_pos c6, if_neg (by omega), szIntS_ok l7 _ (by omega) (by omega) h7]; simp only [Option.bind_some]
        by_cases c7 : (l7.length : Int) ≤ 1048576 - l0.length - l1.length - l6.length
        · rw [if_pos c7, if_neg (by omega)]; exact ⟨_, rfl, .inr (by omega)⟩
        · rw [if_neg c7, if_pos (by omega)]; exact ⟨_, rfl, .inl (by omega)⟩
      · rw [if_neg c6, if_pos (by omega)]; exact ⟨_, rfl, .inl (by omega)⟩
    · rw [if_neg c1, if_pos (by omega)]; exact ⟨_, rfl, .inl (by omega)⟩
  · rw [if_neg c0, if_pos (by omega)]; exact ⟨_, rfl, .inl (by omega)⟩
theorem toMach_ok (l0 l1 l6 l7 : List Int) (b2 b3 b4 b5 : Bool) (s : Int) (h : l0.length + l1.length + l6.length + l7.length ≤ 1048576) (k : Nat) (hk : 1048576 < k) : laws_toMach.f k l0 l1 b2 b3 b4 b5 l6 l7 s = some (l0, l1, b2, b3, b4, b5, l6, l7, s) := by
  unfold laws_toMach.f
  simp only [toIntS_ok l0 (by omega) k (by omega), toIntS_ok l1 (by omega) k (by omega), toIntS_ok l6 (by omega) k (by omega), toIntS_ok l7 (by omega) k (by omega), Option.bind_some]
theorem eqMach_self (l0 l1 l6 l7 : List Int) (b2 b3 b4 b5 : Bool) (s : Int) (h : l0.length + l1.length + l6.length + l7.length ≤ 1048576) (k : Nat) (hk : 1048576 < k) : laws_eqMach.f k l0 l1 b2 b3 b4 b5 l6 l7 s l0 l1 b2 b3 b4 b5 l6 l7 s = some true := by
  unfold laws_eqMach.f
  simp only [eqIntS_self l0 (by omega) k (by omega), eqIntS_self l1 (by omega) k (by omega), eqIntS_self l6 (by omega) k (by omega), eqIntS_self l7 (by omega) k (by omega), Option.bind_some, bne_self_eq_false, Bool.false_eq_true, if_false, if_true]
theorem ba_eq {a b : ByteArray} (h : a.data.toList = b.data.toList) : a = b := by
  apply ByteArray.ext; exact Array.toList_inj.1 h
theorem oct_both (n : Int) : ∃ r, Ev (fun k => spec_Oct.f k n) r ∧ impl_Oct.f n = some r ∧ r.size ≤ 6 := by
  obtain ⟨r, hr, h1⟩ := specOct_ok n
  obtain ⟨q, hq, h2⟩ := implOct_ok n
  obtain rfl : q = r := ba_eq (h2.trans h1.symm)
  refine ⟨q, hr, hq, ?_⟩
  have := octF_len 6 (n % 65536).toNat
  rw [← h1, Array.length_toList] at this
  exact this
theorem outcome_loop (l0 l1 l6 l7 : List Int) (b2 b3 b4 b5 : Bool) (s : Int) (hl : l7.length ≤ 1048576) : ∀ (d i : Nat) (x3 : ByteArray), l7.length - i = d → i ≤ l7.length → x3.size ≤ 7 * i →
    ∃ r, Ev (fun k => spec_Outcome.l0 k x3 (i : Int) l0 l1 b2 b3 b4 b5 l6 l7 s) r ∧ Ev (fun k => impl_Outcome.l0 k x3 l7 (l7.length : Int) (i : Int) l0 l1 b2 b3 b4 b5 l6 l7 s) r := by
  intro d
  induction d with
  | zero =>
    intro i x3 hd hi hx
    have g : ¬ (i : Int) < (l7.length : Int) := by omega
    have z4 : x3.size + 4 ≤ 9223372036854775807 := by omega
    have z3 : x3.size + 3 ≤ 9223372036854775807 := by omega
    have z5 : x3.size + 5 ≤ 9223372036854775807 := by omega
    by_cases c1 : s = 1
    · refine ⟨x3 ++ (⟨#[104, 97, 108, 116]⟩ : ByteArray), Ev.step (f := fun _ => some (x3 ++ (⟨#[104, 97, 108, 116]⟩ : ByteArray))) (fun k => ?_) (Ev.now _), Ev.step (f := fun _ => some (x3 ++ (⟨#[104, 97, 108, 116]⟩ : ByteArray))) (fun k => ?_) (Ev.now _)⟩
      · rw [spec_Outcome.l0.eq_def]; simp only []; rw [if_neg g, if_pos c1, if_pos z4]
      · rw [impl_Outcome.l0.eq_def]; simp only []; rw [if_neg g, if_pos c1, if_pos z4]
    by_cases c0 : s = 0
    · refine ⟨x3 ++ (⟨#[114, 117, 110]⟩ : ByteArray), Ev.step (f := fun _ => some (x3 ++ (⟨#[114, 117, 110]⟩ : ByteArray))) (fun k => ?_) (Ev.now _), Ev.step (f := fun _ => some (x3 ++ (⟨#[114, 117, 110]⟩ : ByteArray))) (fun k => ?_) (Ev.now _)⟩
      · rw [spec_Outcome.l0.eq_def]; simp only []; rw [if_neg g, if_neg c1, if_pos c0, if_pos z3]
      · rw [impl_Outcome.l0.eq_def]; simp only []; rw [if_neg g, if_neg c1, if_pos c0, if_pos z3]
    · refine ⟨x3 ++ (⟨#[102, 97, 117, 108, 116]⟩ : ByteArray), Ev.step (f := fun _ => some (x3 ++ (⟨#[102, 97, 117, 108, 116]⟩ : ByteArray))) (fun k => ?_) (Ev.now _), Ev.step (f := fun _ => some (x3 ++ (⟨#[102, 97, 117, 108, 116]⟩ : ByteArray))) (fun k => ?_) (Ev.now _)⟩
      · rw [spec_Outcome.l0.eq_def]; simp only []; rw [if_neg g, if_neg c1, if_neg c0, if_pos z5]
      · rw [impl_Outcome.l0.eq_def]; simp only []; rw [if_neg g, if_neg c1, if_neg c0, if_pos z5]
  | succ d ih =>
    intro i x3 hd hi hx
    have hlt : i < l7.length := by omega
    obtain ⟨q, q1, q2, q3⟩ := oct_both (rd l7 (i : Int))
    have h1 : (⟨#[32]⟩ : ByteArray).size = 1 := rfl
    have g1 : (i : Int) < (l7.length : Int) := by omega
    have g2 : 0 ≤ (i : Int) := by omega
    have w : wrap64 ((i : Int) + 1) = ((i + 1 : Nat) : Int) := by rw [w64 (by omega) (by omega)]; rfl
    obtain ⟨r, r1, r2⟩ := ih (i + 1) ((x3 ++ q) ++ (⟨#[32]⟩ : ByteArray)) (by omega) (by omega) (by rw [ByteArray.size_append, ByteArray.size_append, h1]; omega)
    refine ⟨r, ?_, ?_⟩
    · refine Ev.step (f := fun k => (spec_Oct.f k (rd l7 (i : Int))).bind fun t115 => (if x3.size + t115.size ≤ 9223372036854775807 then (if (x3 ++ t115).size + 1 ≤ 9223372036854775807 then (spec_Outcome.l0 k ((x3 ++ t115) ++ (⟨#[32]⟩ : ByteArray)) ((i + 1 : Nat) : Int) l0 l1 b2 b3 b4 b5 l6 l7 s) else (none)) else (none))) (fun k => ?_) (Ev.bind q1 ?_)
      · rw [spec_Outcome.l0.eq_def]; simp only [w]; rw [if_pos g1, if_pos g2]
      · refine Ev.congr (fun k => ?_) r1
        rw [if_pos (by omega), if_pos (by rw [ByteArray.size_append]; omega)]
    · refine Ev.step (f := fun k => impl_Outcome.l0 k ((x3 ++ q) ++ (⟨#[32]⟩ : ByteArray)) l7 (l7.length : Int) ((i + 1 : Nat) : Int) l0 l1 b2 b3 b4 b5 l6 l7 s) (fun k => ?_) r2
      rw [impl_Outcome.l0.eq_def]; simp only [w, q2, Option.bind_some]
      rw [if_pos g1, if_pos g2, if_pos g1, if_pos (by omega), if_pos (by rw [ByteArray.size_append, h1]; omega), ByteArray.append_assoc]
theorem FnExactOutcome (l0 l1 : List Int) (b2 b3 b4 b5 : Bool) (l6 l7 : List Int) (s : Int) (h0 : l0.length ≤ maxLen) (_ : ∀ x ∈ l0, (Lit.int .i64 x).wf = true) (h1 : l1.length ≤ maxLen) (_ : ∀ x ∈ l1, (Lit.int .i64 x).wf = true) (h6 : l6.length ≤ maxLen) (_ : ∀ x ∈ l6, (Lit.int .i64 x).wf = true) (h7 : l7.length ≤ maxLen) (_ : ∀ x ∈ l7, (Lit.int .i64 x).wf = true) (_ : (Lit.int .i64 s).wf = true) :
    ∃ k, laws_FnExactOutcome.f k l0 l1 b2 b3 b4 b5 l6 l7 s = some true := by
  refine Ev.rounds (g := fun k => laws_FnExactOutcome.f k l0 l1 b2 b3 b4 b5 l6 l7 s) ?_
  simp only [laws_FnExactOutcome.f]
  obtain ⟨t, ht, hc⟩ := szMach_ok l0 l1 l6 l7 b2 b3 b4 b5 s h0 h1 h6 h7
  simp only [ht, Option.bind_some]
  by_cases hn : t < 0
  · simp only [if_pos hn]; exact Ev.now true
  simp only [if_neg hn]
  have hl : l0.length + l1.length + l6.length + l7.length ≤ 1048576 := hc.resolve_left hn
  have m1 : Ev (fun k => laws_toMach.f k l0 l1 b2 b3 b4 b5 l6 l7 s) (l0, l1, b2, b3, b4, b5, l6, l7, s) := ⟨1048577, fun k hk => toMach_ok l0 l1 l6 l7 b2 b3 b4 b5 s hl k (by omega)⟩
  have m2 : Ev (fun k => laws_eqMach.f k l0 l1 b2 b3 b4 b5 l6 l7 s l0 l1 b2 b3 b4 b5 l6 l7 s) true := ⟨1048577, fun k hk => eqMach_self l0 l1 l6 l7 b2 b3 b4 b5 s hl k (by omega)⟩
  obtain ⟨r, r1, r2⟩ := outcome_loop l0 l1 l6 l7 b2 b3 b4 b5 s (by omega) l7.length 0 (⟨#[]⟩ : ByteArray) (by omega) (by omega) (by simp [ByteArray.size])
  have s1 : Ev (fun k => spec_Outcome.f k l0 l1 b2 b3 b4 b5 l6 l7 s) r := by simp only [spec_Outcome.f]; exact r1
  have s2 : Ev (fun k => impl_Outcome.f k l0 l1 b2 b3 b4 b5 l6 l7 s) r := by simp only [impl_Outcome.f]; exact r2
  refine Ev.bind m1 (Ev.bind s1 (Ev.bind m1 (Ev.bind s2 ?_)))
  simp only [if_true]
  refine Ev.bind m1 (Ev.bind m2 ?_)
  simp only [if_true]
  exact Ev.now true

end Go.Proofs.YtddaaoadodihpaaDoor.Pure
