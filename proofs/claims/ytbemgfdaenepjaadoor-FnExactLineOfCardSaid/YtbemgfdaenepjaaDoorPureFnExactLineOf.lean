/- Proved: the law FnExactLineOf, as a plain function, answers true at each row of tokens; no further conditions. -/
import Derived.Test.YtbemgfdaenepjaaDoorPFnExactLineOfx1
import Derived.Test.YtbemgfdaenepjaaDoorPFnExactLineOfx2
import Derived.Test.YtbemgfdaenepjaaDoorPFnExactLineOfx3
import Derived.Test.YtbemgfdaenepjaaDoorVCFnExactLineOf
namespace Go.Proofs.YtbemgfdaenepjaaDoor.Pure
open Go.RowKit Go.Proofs.YtbemgfdaenepjaaDoor.PFnExactLineOf Go.Proofs.YtbemgfdaenepjaaDoorW.PrintWords Go.Proofs.YtbemgfdaenepjaaDoorW.PrintLast Go.Proofs.YtbemgfdaenepjaaDoor.Common
set_option linter.unusedVariables false
set_option linter.unusedSimpArgs false
theorem bal (s : ByteArray) : s.toList = s.data.toList := ByteArray.toList_eq s
theorem dg8_mod (v : Nat) : dg8 (v % 8) = dg8 v := by unfold dg8; rw [Nat.mod_mod]
theorem one_digit (v : Nat) : strOfNums [(wrap64 (48 + bits .and .i64 (v : Int) 7)) % 256] = ⟨#[dg8 v]⟩ := by
  rw [and7, w64 (by omega) (by omega)]
  unfold strOfNums dg8
  have e : ((48 + (v : Int) % 8) % 256).toNat = 48 + v % 8 := by omega
  simp [e]
theorem specOct_loop : ∀ (m x : Nat) (x3 : ByteArray), x < 8 ^ (m + 1) → x3.size + m ≤ 100 → ∃ r, Ev (fun k => spec_Oct.l0 k (x : Int) x3) r ∧ r.data.toList = (if x < 8 then [] else octF m (x / 8)) ++ x3.data.toList := by
  intro m
  induction m with
  | zero =>
    intro x x3 hx hs
    have h8 : x < 8 := by simpa using hx
    refine ⟨x3, Ev.step (f := fun _ => some x3) (fun k => ?_) (Ev.now _), by rw [if_pos h8]; rfl⟩
    rw [spec_Oct.l0.eq_def]; simp only []; rw [if_neg (by omega)]
  | succ m ih =>
    intro x x3 hx hs
    by_cases h8 : x < 8
    · refine ⟨x3, Ev.step (f := fun _ => some x3) (fun k => ?_) (Ev.now _), by rw [if_pos h8]; rfl⟩
      rw [spec_Oct.l0.eq_def]; simp only []; rw [if_neg (by omega)]
    · have hz : (⟨#[dg8 (x / 8)]⟩ : ByteArray).size = 1 := rfl
      have hlt : x / 8 < 8 ^ (m + 1) := by rw [Nat.pow_succ] at hx; omega
      obtain ⟨r, hr, ht⟩ := ih (x / 8) ((⟨#[dg8 (x / 8)]⟩ : ByteArray) ++ x3) hlt (by rw [ByteArray.size_append, hz]; omega)
      have ex : ((x : Int) / 8) = ((x / 8 : Nat) : Int) := by omega
      refine ⟨r, Ev.step (f := fun k => spec_Oct.l0 k ((x / 8 : Nat) : Int) ((⟨#[dg8 (x / 8)]⟩ : ByteArray) ++ x3)) (fun k => ?_) hr, ?_⟩
      · rw [spec_Oct.l0.eq_def]
        simp only [ex, one_digit, Option.bind_some, hz]
        rw [if_pos (by omega), if_pos (by omega)]
      · rw [ht, if_neg h8, octF]
        by_cases h9 : x / 8 < 8
        · rw [if_pos h9, if_pos h9]; simp
        · rw [if_neg h9, if_neg h9, dg8_mod]; simp
theorem octF_len : ∀ m v, (octF m v).length ≤ m := by
  intro m
  induction m with
  | zero => intro v; simp [octF]
  | succ m ih =>
    intro v
    rw [octF]
    split
    · simp
    · simp only [List.length_append, List.length_cons, List.length_nil]; have := ih (v / 8); omega
/-- both make the digits of a word. -/
theorem specOct_ok (n : Int) : ∃ r, Ev (fun k => spec_Oct.f k n) r ∧ r.data.toList = octF 6 (n % 65536).toNat := by
  obtain ⟨t, ht⟩ : ∃ t : Nat, n % 65536 = t := ⟨(n % 65536).toNat, by omega⟩
  have hlt : t < 65536 := by omega
  rw [ht]
  obtain ⟨r, hr, h2⟩ := specOct_loop 5 t (⟨#[dg8 t]⟩ : ByteArray) (by omega) (by simp [ByteArray.size])
  refine ⟨r, ?_, ?_⟩
  · simp only [spec_Oct.f, spec_Wrap.f, and65535, Option.bind_some, ht, one_digit]
    exact hr
  · rw [h2, Int.toNat_natCast, show octF 6 t = if t < 8 then [dg8 t] else octF 5 (t / 8) ++ [dg8 (t % 8)] from rfl]
    by_cases h8 : t < 8
    · rw [if_pos h8, if_pos h8]; rfl
    · rw [if_neg h8, if_neg h8, dg8_mod]
theorem implOct_ok (n : Int) : ∃ r, impl_Oct.f n = some r ∧ r.data.toList = octF 6 (n % 65536).toNat := by
  refine ⟨⟨(octF 6 (n % 65536).toNat).toArray⟩, ?_, rfl⟩
  simp only [impl_Oct.f, impl_Wrap.f, and65535, Option.bind_some, strconv_FormatInt_76.f]
  rw [if_pos ⟨trivial, by omega, by omega⟩]
  rfl
/-- rows of tokens: S78 the laws', S45 the program's. -/
def small45 (l : List S45) : Prop := l.length ≤ 1048576 ∧ ∀ t ∈ l, t.f2.size ≤ 1048576
def tok45 (x : S78) : S45 := ⟨x.f0, x.f1, x.f2⟩
theorem rd78 (l : List S78) (i : Nat) (h : i < l.length) : rd_T78 l (i : Int) = l[i] := by simp [rd_T78, List.getD_eq_getElem?_getD, h]
theorem rd45 (l : List S45) (i : Nat) (h : i < l.length) : rd_T45 l (i : Int) = l[i] := by simp [rd_T45, List.getD_eq_getElem?_getD, h]
theorem szTokenS_l0 (l : List S78) (hl : l.length ≤ 1048576) (hs : ∀ x ∈ l, x.f2.size ≤ maxLen) : ∀ (d i : Nat) (a : Int), l.length - i = d → i ≤ l.length → 0 ≤ a → a ≤ 1048576 →
    ∃ r, Ev (fun k => laws_szTokenS.l0 k l a (i : Int)) r ∧ (r < 0 ∨ ∀ j, i ≤ j → ∀ hj : j < l.length, l[j].f2.size ≤ 1048576) := by
  intro d
  induction d with
  | zero =>
    intro i a hd hi h0 h1
    refine ⟨a, Ev.step (f := fun _ => some a) (fun k => ?_) (Ev.now a), .inr (fun j hj hj' => by omega)⟩
    rw [laws_szTokenS.l0.eq_def]; simp only []; rw [if_neg (by omega)]
  | succ d ih =>
    intro i a hd hi h0 h1
    have hlt : i < l.length := by omega
    have hx := rd78 l i hlt
    have hm : maxLen = 9223372036854775807 := rfl
    have hz := hs _ (List.getElem_mem hlt)
    have w1 : wrap64 (a - (l[i].f2.size : Int)) = a - l[i].f2.size := w64 (by omega) (by omega)
    have g1 : (i : Int) < (l.length : Int) := by omega
    have g2 : 0 ≤ (i : Int) := by omega
    by_cases c : a - (l[i].f2.size : Int) < 0
    · refine ⟨-1, Ev.step (f := fun _ => some (-1)) (fun k => ?_) (Ev.now _), .inl (by omega)⟩
      rw [laws_szTokenS.l0.eq_def]; simp only [hx, laws_szToken.f, w1]; rw [if_pos g1, if_pos g2, if_pos c]; rfl
    · obtain ⟨r, hr, hc⟩ := ih (i + 1) (a - l[i].f2.size) (by omega) (by omega) (by omega) (by omega)
      have w2 : wrap64 ((i : Int) + 1) = ((i + 1 : Nat) : Int) := by rw [w64 (by omega) (by omega)]; rfl
      refine ⟨r, Ev.step (f := fun k => laws_szTokenS.l0 k l (a - l[i].f2.size) ((i + 1 : Nat) : Int)) (fun k => ?_) hr, ?_⟩
      · rw [laws_szTokenS.l0.eq_def]; simp only [hx, laws_szToken.f, w1, w2]; rw [if_pos g1, if_pos g2, if_neg c, Option.bind_some, if_neg c]
      · rcases hc with hn | q
        · exact .inl hn
        · refine .inr (fun j hj hj' => ?_)
          by_cases e : i = j
          · subst e; omega
          · exact q j (by omega) hj'
theorem szTokenS_ok (l : List S78) (hl : l.length ≤ maxLen) (hs : ∀ x ∈ l, x.f2.size ≤ maxLen) : ∃ r, Ev (fun k => laws_szTokenS.f k l 1048576) r ∧ (r < 0 ∨ (l.length ≤ 1048576 ∧ ∀ x ∈ l, x.f2.size ≤ 1048576)) := by
  have hm : maxLen = 9223372036854775807 := rfl
  have w1 : wrap64 (1048576 - (l.length : Int)) = 1048576 - l.length := w64 (by omega) (by omega)
  by_cases c : 1048576 - (l.length : Int) < 0
  · refine ⟨-1, Ev.congr (f := fun _ => some (-1)) (fun k => ?_) (Ev.now _), .inl (by omega)⟩
    simp only [laws_szTokenS.f, w1]; rw [if_pos c]
  · obtain ⟨r, hr, hc⟩ := szTokenS_l0 l (by omega) hs l.length 0 (1048576 - l.length) (by omega) (by omega) (by omega) (by omega)
    refine ⟨r, Ev.congr (f := fun k => laws_szTokenS.l0 k l (1048576 - l.length) ((0 : Nat) : Int)) (fun k => ?_) hr, ?_⟩
    · simp only [laws_szTokenS.f, w1]; rw [if_neg c]; rfl
    · rcases hc with hn | q
      · exact .inl hn
      · refine .inr ⟨by omega, fun x hx => ?_⟩
        obtain ⟨j, hj, e⟩ := List.getElem_of_mem hx
        rw [← e]; exact q j (by omega) hj
theorem toTokenS_l0 (l : List S78) (hl : l.length ≤ 1048576) : ∀ (d i : Nat) (z : List S45), l.length - i = d → i ≤ l.length → z.length = l.length → (∀ j, j < i → ∀ h : j < l.length, ∀ h2 : j < z.length, z[j] = tok45 l[j]) →
    Ev (fun k => laws_toTokenS.l0 k l z (i : Int)) (l.map tok45) := by
  intro d
  induction d with
  | zero =>
    intro i z hd hi hz hs
    have e : z = l.map tok45 := by
      apply List.ext_getElem (by simpa using hz)
      intro j h1 h2
      rw [List.getElem_map]; exact hs j (by omega) (by omega) h1
    refine Ev.step (f := fun _ => some z) (fun k => ?_) (by rw [e]; exact Ev.now _)
    rw [laws_toTokenS.l0.eq_def]; simp only []; rw [if_neg (by omega)]
  | succ d ih =>
    intro i z hd hi hz hs
    have hlt : i < l.length := by omega
    have hx := rd78 l i hlt
    have g1 : (i : Int) < (l.length : Int) := by omega
    have g2 : 0 ≤ (i : Int) := by omega
    have g3 : (i : Int) < (z.length : Int) := by omega
    have w2 : wrap64 ((i : Int) + 1) = ((i + 1 : Nat) : Int) := by rw [w64 (by omega) (by omega)]; rfl
    refine Ev.step (f := fun k => laws_toTokenS.l0 k l (z.set i (tok45 l[i])) ((i + 1 : Nat) : Int)) (fun k => ?_) (ih (i + 1) (z.set i (tok45 l[i])) (by omega) (by omega) (by simpa using hz) (fun j hj h h2 => ?_))
    · rw [laws_toTokenS.l0.eq_def]; simp only [hx, laws_toToken.f, w2, Option.bind_some]; rw [if_pos g1, if_pos g2, if_pos g3]; rfl
    · rw [List.getElem_set]
      by_cases e : i = j
      · rw [if_pos e]; subst e; rfl
      · rw [if_neg e]; exact hs j (by omega) h (by simpa using h2)
theorem toTokenS_ok (l : List S78) (hl : l.length ≤ 1048576) : Ev (fun k => laws_toTokenS.f k l) (l.map tok45) := by
  refine Ev.congr (f := fun k => laws_toTokenS.l0 k l (List.replicate l.length z45) ((0 : Nat) : Int)) (fun k => ?_) (toTokenS_l0 l hl l.length 0 _ (by omega) (by omega) (by simp) (fun j hj => by omega))
  simp only [laws_toTokenS.f]; rw [if_pos (by omega), if_pos (by omega)]; rfl
theorem eqTokenS_ok (l : List S45) (hl : l.length ≤ 1048576) : ∀ (d i : Nat), l.length - i = d → i ≤ l.length → Ev (fun k => laws_eqTokenS.l0 k l l (i : Int)) true := by
  intro d
  induction d with
  | zero =>
    intro i hd hi
    refine Ev.step (f := fun _ => some true) (fun k => ?_) (Ev.now _)
    rw [laws_eqTokenS.l0.eq_def]; simp only []; rw [if_neg (by omega)]
  | succ d ih =>
    intro i hd hi
    have hlt : i < l.length := by omega
    have g1 : (i : Int) < (l.length : Int) := by omega
    have g2 : 0 ≤ (i : Int) := by omega
    have w2 : wrap64 ((i : Int) + 1) = ((i + 1 : Nat) : Int) := by rw [w64 (by omega) (by omega)]; rfl
    refine Ev.step (f := fun k => laws_eqTokenS.l0 k l l ((i + 1 : Nat) : Int)) (fun k => ?_) (ih (i + 1) (by omega) (by omega))
    rw [laws_eqTokenS.l0.eq_def]; simp only [laws_eqToken.f, w2]; rw [if_pos g1, if_pos g2, if_pos g1]; simp
theorem join_step (r : List (List UInt8)) (i : Nat) (y : List UInt8) (h : r[i]? = some y) (sep : List UInt8) : Lib.join (r.take (i + 1)) sep = if i = 0 then y else Lib.join (r.take i) sep ++ sep ++ y := by
  cases r with
  | nil => simp at h
  | cons x t =>
    cases i with
    | zero => simp at h; subst h; simp [Lib.join_one]
    | succ i =>
      have h2 : t[i]? = some y := by simpa using h
      rw [if_neg (by omega), List.take_succ_cons, List.take_succ_cons, Lib.join_cons, Lib.join_cons, Lib.joinTail_take_succ sep t i y h2]
      simp [List.append_assoc]
def ttext (t : S45) : List UInt8 := if t.f0 = 2 then octF 6 (t.f1 % 65536).toNat else t.f2.data.toList
theorem ttext_len (t : S45) (h : t.f2.size ≤ 1048576) : (ttext t).length ≤ 1048576 := by
  unfold ttext
  split
  · have := octF_len 6 (t.f1 % 65536).toNat; omega
  · rw [Array.length_toList]; exact h
theorem specLine_loop (l : List S45) (hl : l.length ≤ 1048576) (hs : ∀ t ∈ l, t.f2.size ≤ 1048576) : ∀ (d i : Nat) (x3 : ByteArray), l.length - i = d → i ≤ l.length → x3.data.toList = Lib.join ((l.map ttext).take i) [32] → x3.size ≤ i * 1048577 →
    ∃ r, Ev (fun k => spec_LineOf.l0 k l x3 (i : Int)) r ∧ r.data.toList = Lib.join (l.map ttext) [32] ∧ r.size ≤ 1048576 * 1048577 := by
  intro d
  induction d with
  | zero =>
    intro i x3 hd hi hx hz
    have e : i = l.length := by omega
    refine ⟨x3, Ev.step (f := fun _ => some x3) (fun k => ?_) (Ev.now _), by rw [hx, List.take_of_length_le (by simp; omega)], Nat.le_trans hz (Nat.mul_le_mul_right _ (by omega))⟩
    rw [spec_LineOf.l0.eq_def]; simp only []; rw [if_neg (by omega)]
  | succ d ih =>
    intro i x3 hd hi hx hz
    have hlt : i < l.length := by omega
    have hr := rd45 l i hlt
    have hq := hs _ (List.getElem_mem hlt)
    have h1 : (⟨#[32]⟩ : ByteArray).size = 1 := rfl
    have g1 : (i : Int) < (l.length : Int) := by omega
    have g2 : 0 ≤ (i : Int) := by omega
    have w2 : wrap64 ((i : Int) + 1) = ((i + 1 : Nat) : Int) := by rw [w64 (by omega) (by omega)]; rfl
    have hz2 : x3.size ≤ 1048576 * 1048577 := Nat.le_trans hz (Nat.mul_le_mul_right _ (by omega))
    have hj := join_step (l.map ttext) i (ttext l[i]) (by simp [hlt]) [32]
    -- the token's own text
    obtain ⟨q, q1, q2, q3⟩ : ∃ q : ByteArray, (∀ (F : Nat → ByteArray → Option ByteArray) (r : ByteArray), Ev (fun k => F k q) r → Ev (fun k => if l[i].f0 = 2 then (spec_Oct.f k l[i].f1).bind (F k) else F k l[i].f2) r) ∧ q.data.toList = ttext l[i] ∧ q.size ≤ 1048576 := by
      by_cases c : l[i].f0 = 2
      · obtain ⟨q, e1, e2⟩ := specOct_ok l[i].f1
        refine ⟨q, fun F r h => Ev.congr (fun k => by rw [if_pos c]) (Ev.bind e1 h), by rw [e2, ttext, if_pos c], ?_⟩
        have := octF_len 6 (l[i].f1 % 65536).toNat
        rw [← e2, Array.length_toList] at this
        exact Nat.le_trans this (by omega)
      · exact ⟨l[i].f2, fun F r h => Ev.congr (fun k => by rw [if_neg c]) h, by rw [ttext, if_neg c], hq⟩
    by_cases c0 : i = 0
    · subst c0
      have e3 : (x3 ++ q).data.toList = Lib.join ((l.map ttext).take (0 + 1)) [32] := by
        rw [hj, if_pos rfl]; simp [hx, Lib.join_nil, q2]
      obtain ⟨r, r1, r2, r3⟩ := ih 1 (x3 ++ q) (by omega) (by omega) e3 (by rw [ByteArray.size_append]; omega)
      refine ⟨r, ?_, r2, r3⟩
      have st := q1 (fun k t => if x3.size + t.size ≤ 9223372036854775807 then spec_LineOf.l0 k l (x3 ++ t) ((1 : Nat) : Int) else none) r (Ev.congr (fun k => by rw [if_pos (by omega)]) r1)
      refine Ev.step (fun k => ?_) st
      rw [spec_LineOf.l0.eq_def]; simp only [hr, w2]
      rw [if_pos g1, if_neg (by omega), if_pos g2]
    · have e3 : ((x3 ++ (⟨#[32]⟩ : ByteArray)) ++ q).data.toList = Lib.join ((l.map ttext).take (i + 1)) [32] := by
        rw [hj, if_neg c0]; simp [hx, q2]
      obtain ⟨r, r1, r2, r3⟩ := ih (i + 1) ((x3 ++ (⟨#[32]⟩ : ByteArray)) ++ q) (by omega) (by omega) e3 (by rw [ByteArray.size_append, ByteArray.size_append, h1]; omega)
      refine ⟨r, ?_, r2, r3⟩
      have hsz : (x3 ++ (⟨#[32]⟩ : ByteArray)).size = x3.size + 1 := by rw [ByteArray.size_append, h1]
      have st := q1 (fun k t => if (x3 ++ (⟨#[32]⟩ : ByteArray)).size + t.size ≤ 9223372036854775807 then spec_LineOf.l0 k l ((x3 ++ (⟨#[32]⟩ : ByteArray)) ++ t) ((i + 1 : Nat) : Int) else none) r (Ev.congr (fun k => by rw [if_pos (by omega)]) r1)
      refine Ev.step (fun k => ?_) st
      rw [spec_LineOf.l0.eq_def]; simp only [hr, w2]
      rw [if_pos g1, if_pos (by omega), if_pos (by omega), if_pos g2]
theorem implLine_loop (l : List S45) (hl : l.length ≤ 1048576) (hj : (Lib.join (l.map ttext) [32]).length ≤ 140737488355328) : ∀ (d i : Nat) (x3 : List ByteArray), l.length - i = d → i ≤ l.length → x3.map (·.data.toList) = (l.map ttext).take i →
    ∃ r, Ev (fun k => impl_LineOf.l0 k x3 l (l.length : Int) (i : Int)) r ∧ r.data.toList = Lib.join (l.map ttext) [32] := by
  intro d
  induction d with
  | zero =>
    intro i x3 hd hi hx
    have e : x3.map (·.data.toList) = l.map ttext := by rw [hx, List.take_of_length_le (by simp; omega)]
    have hlen : x3.length = l.length := by have := congrArg List.length e; simpa using this
    refine ⟨⟨(Lib.join (l.map ttext) [32]).toArray⟩, Ev.step (f := fun _ => some ⟨(Lib.join (l.map ttext) [32]).toArray⟩) (fun k => ?_) (Ev.now _), rfl⟩
    rw [impl_LineOf.l0.eq_def]; simp only [strings_Join.f, e]
    rw [if_neg (by omega)]
    have hc : (Lib.join (l.map ttext) ((⟨#[32]⟩ : ByteArray)).data.toList).length ≤ 140737488355328 ∧ x3.length ≤ 140737488355328 := ⟨hj, by omega⟩
    rw [if_pos hc]; rfl
  | succ d ih =>
    intro i x3 hd hi hx
    have hlt : i < l.length := by omega
    have hr := rd45 l i hlt
    have hlen : x3.length = i := by have := congrArg List.length hx; simp at this; omega
    have g1 : (i : Int) < (l.length : Int) := by omega
    have g2 : 0 ≤ (i : Int) := by omega
    have w2 : wrap64 ((i : Int) + 1) = ((i + 1 : Nat) : Int) := by rw [w64 (by omega) (by omega)]; rfl
    obtain ⟨q, q1, q2⟩ : ∃ q : ByteArray, (if l[i].f0 = 2 then impl_Oct.f l[i].f1 else some l[i].f2) = some q ∧ q.data.toList = ttext l[i] := by
      by_cases c : l[i].f0 = 2
      · obtain ⟨q, e1, e2⟩ := implOct_ok l[i].f1
        exact ⟨q, by rw [if_pos c]; exact e1, by rw [e2, ttext, if_pos c]⟩
      · exact ⟨l[i].f2, if_neg c, by rw [ttext, if_neg c]⟩
    obtain ⟨r, r1, r2⟩ := ih (i + 1) (x3 ++ [q]) (by omega) (by omega) (by
      rw [List.map_append, hx, List.take_add_one, List.getElem?_map, List.getElem?_eq_getElem hlt]; simp [q2])
    refine ⟨r, Ev.step (f := fun k => impl_LineOf.l0 k (x3 ++ [q]) l (l.length : Int) ((i + 1 : Nat) : Int)) (fun k => ?_) r1, r2⟩
    rw [impl_LineOf.l0.eq_def]; simp only [hr, w2]
    rw [if_pos g1, if_pos g2, if_pos g1]
    by_cases c : l[i].f0 = 2
    · rw [if_pos c] at q1 ⊢
      rw [q1, Option.bind_some, if_pos (by omega)]
    · rw [if_neg c] at q1 ⊢
      rw [Option.some.inj q1, if_pos (by omega)]
theorem FnExactLineOf (l : List S78) (hl : l.length ≤ maxLen) (hs : ∀ x ∈ l, x.f2.size ≤ maxLen) : ∃ k, laws_FnExactLineOf.f k l = some true := by
  refine Ev.rounds (g := fun k => laws_FnExactLineOf.f k l) ?_
  simp only [laws_FnExactLineOf.f]
  obtain ⟨r, hr, hc⟩ := szTokenS_ok l hl hs
  refine Ev.bind hr ?_
  by_cases hn : r < 0
  · exact Ev.congr (f := fun _ => some true) (fun k => by rw [if_pos hn]) (Ev.now _)
  obtain ⟨n1, n2⟩ := hc.resolve_left hn
  refine Ev.congr (fun k => by rw [if_neg hn]) ?_
  have ht := toTokenS_ok l n1
  have m1 : (l.map tok45).length ≤ 1048576 := by simpa using n1
  have m2 : ∀ t ∈ l.map tok45, t.f2.size ≤ 1048576 := by
    intro t h; obtain ⟨x, hx, rfl⟩ := List.mem_map.1 h; exact n2 x hx
  obtain ⟨a, a1, a2, a3⟩ := specLine_loop (l.map tok45) m1 m2 (l.map tok45).length 0 (⟨#[]⟩ : ByteArray) (by omega) (by omega) rfl (by simp [ByteArray.size])
  obtain ⟨b, b1, b2⟩ := implLine_loop (l.map tok45) m1 (by rw [← a2, Array.length_toList]; exact Nat.le_trans a3 (by omega)) (l.map tok45).length 0 [] (by omega) (by omega) rfl
  have s1 : Ev (fun k => spec_LineOf.f k (l.map tok45)) a := by simp only [spec_LineOf.f]; exact a1
  have s2 : Ev (fun k => impl_LineOf.f k (l.map tok45)) b := by simp only [impl_LineOf.f]; exact b1
  have s3 : Ev (fun k => laws_eqTokenS.f k (l.map tok45) (l.map tok45)) true := Ev.congr (f := fun k => laws_eqTokenS.l0 k (l.map tok45) (l.map tok45) ((0 : Nat) : Int)) (fun k => by simp only [laws_eqTokenS.f]; rw [if_pos trivial]; rfl) (eqTokenS_ok (l.map tok45) m1 (l.map tok45).length 0 (by omega) (by omega))
  refine Ev.bind ht (Ev.bind s1 (Ev.bind ht (Ev.bind s2 ?_)))
  exact Ev.congr (f := fun k => (laws_toTokenS.f k l).bind fun t159 => ((laws_eqTokenS.f k (l.map tok45) t159).bind fun t162 => (if t162 = true then (some true) else (some false)))) (fun k => by rw [if_pos (show b.toList = a.toList by rw [bal, bal, a2, b2])]) (Ev.bind ht (Ev.bind s3 (Ev.now _)))

end Go.Proofs.YtbemgfdaenepjaaDoor.Pure
