/- Proved: the law FnExactGetRad, as a plain function, answers true at each row of words; no further conditions. -/
import Derived.Test.YtddaaoadodihpaaDoorPFnExactGetRadx1
import Derived.Test.YtddaaoadodihpaaDoorPFnExactGetRadx2
import Derived.Test.YtddaaoadodihpaaDoorVCFnExactGetRad
namespace Go.Proofs.YtddaaoadodihpaaDoor.Pure
open Go.RowKit Go.Proofs.YtddaaoadodihpaaDoor.PFnExactGetRad Go.Proofs.YtddaaoadodihpaaDoorW.PrintWords Go.Proofs.YtddaaoadodihpaaDoorW.PrintLast Go.Proofs.YtddaaoadodihpaaDoor.Common
set_option linter.unusedVariables false
set_option linter.unusedSimpArgs false
theorem l1In_ok (a b c : Int) : spec_l1In.f a b c = some (decide (b ≤ a ∧ a ≤ c)) := by
  unfold spec_l1In.f
  by_cases h : a ≥ b
  · have h' : b ≤ a := h
    rw [if_pos h]; simp [h']
  · have h' : ¬ b ≤ a := h
    rw [if_neg h]; simp [h']
def radL : ByteArray := ⟨#[32, 97, 98, 99, 100, 101, 102, 103, 104, 105, 106, 107, 108, 109, 110, 111, 112, 113, 114, 115, 116, 117, 118, 119, 120, 121, 122, 36, 46, 0, 48, 49, 50, 51, 52, 53, 54, 55, 56, 57]⟩
theorem letter_all : ∀ n : Fin 40, spec_l2Letter.f ((n.1 : Nat) : Int) = some (bt radL ((n.1 : Nat) : Int)) ∧ (bt radL ((n.1 : Nat) : Int) = 0 ↔ n.1 = 29) := by decide +kernel
theorem letter_ok (n : Int) (h0 : 0 ≤ n) (h1 : n < 40) : spec_l2Letter.f n = some (bt radL n) ∧ (bt radL n = 0 ↔ n = 29) := by
  have h := letter_all ⟨n.toNat, by omega⟩
  simp only [Int.toNat_of_nonneg h0] at h
  exact ⟨h.1, h.2.trans ⟨fun e => by omega, fun e => by omega⟩⟩
theorem sn_extract (xs : List Int) (m : Nat) : (strOfNums xs).extract 0 m = strOfNums (xs.take m) := by
  apply ByteArray.ext
  rw [ByteArray.data_extract]
  apply Array.toList_inj.1
  simp [strOfNums, List.map_take]
theorem sn_bt (xs : List Int) (i : Nat) (h : i < xs.length) (hb : 0 ≤ xs[i] ∧ xs[i] ≤ 255) : bt (strOfNums xs) (i : Int) = xs[i] := by
  have hs : ((i : Int)).toNat < (strOfNums xs).size := by rw [strOfNums_size]; simpa using h
  rw [← bt_at (strOfNums xs) (i : Int) hs]
  have e : (strOfNums xs)[((i : Int)).toNat]'hs = UInt8.ofNat xs[i].toNat := by
    show (strOfNums xs).data[((i : Int)).toNat]'_ = _
    simp [strOfNums]
  rw [e, UInt8.toNat_ofNat']
  omega
theorem trim_same (l : List Int) : ∀ n : Nat, l.length = n → n ≤ 1000 → (∀ x ∈ l, 0 ≤ x ∧ x ≤ 255) → ∃ s, Ev (fun k => spec_GetRad.l2 k l) (s, true) ∧ Ev (fun k => strings_trimRightByte.l0 k (strOfNums l) 32) s := by
  intro n
  induction n generalizing l with
  | zero =>
    intro hl _ _
    refine ⟨strOfNums l, Ev.step (f := fun _ => some (strOfNums l, true)) (fun k => ?_) (Ev.now _), Ev.step (f := fun _ => some (strOfNums l)) (fun k => ?_) (Ev.now _)⟩
    · rw [spec_GetRad.l2.eq_def]; simp only []; rw [if_neg (by omega)]
    · rw [strings_trimRightByte.l0.eq_def]; simp only [strOfNums_size]; rw [if_neg (by omega)]
  | succ n ih =>
    intro hl hn hb
    have hlt : n < l.length := by omega
    have w : wrap64 ((l.length : Int) - 1) = (n : Int) := by rw [w64 (by omega) (by omega)]; omega
    have g1 : (l.length : Int) > 0 := by omega
    have g2 : 0 ≤ (n : Int) := by omega
    have g3 : (n : Int) < (l.length : Int) := by omega
    have g4 : (n : Int) ≤ (l.length : Int) := by omega
    have r1 := rd_at l n hlt
    have r2 := sn_bt l n hlt (hb _ (List.getElem_mem hlt))
    by_cases c : l[n] = 32
    · obtain ⟨s, s1, s2⟩ := ih (l.take n) (by simp; omega) (by omega) (fun x hx => hb x (List.mem_of_mem_take hx))
      refine ⟨s, Ev.step (f := fun k => spec_GetRad.l2 k (l.take n)) (fun k => ?_) s1, Ev.step (f := fun k => strings_trimRightByte.l0 k (strOfNums (l.take n)) 32) (fun k => ?_) s2⟩
      · rw [spec_GetRad.l2.eq_def]; simp only [w, r1]; rw [if_pos g1, if_pos g2, if_pos g3, if_pos c, if_pos g4, Int.toNat_natCast]
      · rw [strings_trimRightByte.l0.eq_def]; simp only [strOfNums_size, w, r2]; rw [if_pos g1, if_pos g2, if_pos g3, if_pos c, if_pos g4, Int.toNat_natCast, sn_extract]
    · refine ⟨strOfNums l, Ev.step (f := fun _ => some (strOfNums l, true)) (fun k => ?_) (Ev.now _), Ev.step (f := fun _ => some (strOfNums l)) (fun k => ?_) (Ev.now _)⟩
      · rw [spec_GetRad.l2.eq_def]; simp only [w, r1]; rw [if_pos g1, if_pos g2, if_pos g3, if_neg c]
      · rw [strings_trimRightByte.l0.eq_def]; simp only [strOfNums_size, w, r2]; rw [if_pos g1, if_pos g2, if_pos g3, if_neg c]
def badW (x : Int) : Prop := ¬ (0 ≤ x ∧ x ≤ 63999) ∨ x / 1600 = 29 ∨ x / 40 % 40 = 29 ∨ x % 40 = 29
instance (x : Int) : Decidable (badW x) := by unfold badW; infer_instance
def threeW (x : Int) : List Int := [bt radL (x / 1600), bt radL (x / 40 % 40), bt radL (x % 40)]
theorem three_ok (x : Int) (h0 : 0 ≤ x) (h1 : x ≤ 9223372036854775807) : wrap64 (Int.tdiv x 1600) = x / 1600 ∧ Int.tmod (wrap64 (Int.tdiv x 40)) 40 = x / 40 % 40 ∧ Int.tmod x 40 = x % 40 := by
  refine ⟨?_, ?_, ?_⟩
  · rw [Int.tdiv_eq_ediv_of_nonneg h0, w64 (by omega) (by omega)]
  · rw [Int.tdiv_eq_ediv_of_nonneg h0, w64 (by omega) (by omega), Int.tmod_eq_emod_of_nonneg (by omega)]
  · rw [Int.tmod_eq_emod_of_nonneg h0]
theorem spec_l1_step (k : Nat) (x0 x4 : List Int) (x5 : Int) (y0 y1 y2 : Int) (j : Nat) (hj : j < 3) (n : Int) (hn : [y0, y1, y2][j] = n) (h0 : 0 ≤ n) (h1 : n < 40) (hl : x4.length ≤ 100) :
    spec_GetRad.l1 (k + 1) x0 x4 x5 [y0, y1, y2] (j : Int) = if n = 29 then some ((⟨#[]⟩ : ByteArray), false) else spec_GetRad.l1 k x0 (x4 ++ [bt radL n]) x5 [y0, y1, y2] ((j + 1 : Nat) : Int) := by
  have w : wrap64 ((j : Int) + 1) = ((j + 1 : Nat) : Int) := by rw [w64 (by omega) (by omega)]; rfl
  have r : rd [y0, y1, y2] (j : Int) = n := by rw [rd_at _ _ hj]; exact hn
  have q := letter_ok n h0 h1
  have g1 : (j : Int) < 3 := by omega
  have g2 : 0 ≤ (j : Int) := by omega
  have g3 : (j : Int) < (([y0, y1, y2] : List Int).length : Int) := g1
  rw [spec_GetRad.l1.eq_def]
  simp only [r, w, q.1, Option.bind_some]
  rw [if_pos g1, if_pos g2, if_pos g3]
  by_cases c : n = 29
  · rw [if_pos c, if_pos (q.2.2 c)]
  · rw [if_neg c, if_neg (fun h => c (q.2.1 h)), if_pos (by omega)]
theorem impl_l1_step (k : Nat) (x13 x4 : List Int) (x6 x14 x15 : Int) (y0 y1 y2 : Int) (j : Nat) (hj : j < 3) (n : Int) (hn : [y0, y1, y2][j] = n) (h0 : 0 ≤ n) (h1 : n < 40) (hl : x4.length ≤ 100) (hx : 0 ≤ x6) :
    impl_GetRad.l1 (k + 1) x4 x6 x13 x14 x15 [y0, y1, y2] 3 (j : Int) = if n = 29 then some ((⟨#[]⟩ : ByteArray), false) else impl_GetRad.l1 k (x4 ++ [bt radL n]) x6 x13 x14 x15 [y0, y1, y2] 3 ((j + 1 : Nat) : Int) := by
  have w : wrap64 ((j : Int) + 1) = ((j + 1 : Nat) : Int) := by rw [w64 (by omega) (by omega)]; rfl
  have r : rd [y0, y1, y2] (j : Int) = n := by rw [rd_at _ _ hj]; exact hn
  have g1 : (j : Int) < 3 := by omega
  have g2 : 0 ≤ (j : Int) := by omega
  have g3 : (j : Int) < (([y0, y1, y2] : List Int).length : Int) := g1
  have g4 : ¬ n > 39 := by omega
  have g5 : ¬ x6 < 0 := by omega
  have g6 : x4.length < 140737488355328 := by omega
  rw [impl_GetRad.l1.eq_def]
  simp only [r, w]
  rw [if_pos g1, if_pos g2, if_pos g3, if_neg g5, if_neg g4]
  by_cases c : n = 29
  · rw [if_pos c, if_pos c]
  · rw [if_neg c, if_neg c, if_pos h0, if_pos h1, if_pos g6]; rfl
theorem spec_radword (k : Nat) (x0 x4 : List Int) (i : Nat) (hi : i < x0.length) (hn : x0.length ≤ 2) (hl : x4.length ≤ 50) (hw : (Lit.int .i64 x0[i]).wf = true) :
    spec_GetRad.l0 (k + 5) x0 x4 (i : Int) = if badW x0[i] then some ((⟨#[]⟩ : ByteArray), false) else spec_GetRad.l0 k x0 (x4 ++ threeW x0[i]) ((i + 1 : Nat) : Int) := by
  have hw := wf64 hw
  have w : wrap64 ((i : Int) + 1) = ((i + 1 : Nat) : Int) := by rw [w64 (by omega) (by omega)]; rfl
  have r := rd_at x0 i hi
  rw [spec_GetRad.l0.eq_def]
  simp only [r, l1In_ok, Option.bind_some]
  revert hw
  generalize x0[i] = x
  intro hw
  rw [if_pos (by omega), if_pos (by omega)]
  by_cases c : 0 ≤ x ∧ x ≤ 63999
  · rw [if_pos (decide_eq_true c)]
    obtain ⟨t1, t2, t3⟩ := three_ok x c.1 (by omega)
    rw [t1, t2, t3]
    clear t1 t2 t3
    have s0 := spec_l1_step (k + 3) x0 x4 (i : Int) (x / 1600) (x / 40 % 40) (x % 40) 0 (by omega) _ rfl (show 0 ≤ x / 1600 by omega) (show x / 1600 < 40 by omega) (by omega)
    have s1 := spec_l1_step (k + 2) x0 (x4 ++ [bt radL (x / 1600)]) (i : Int) (x / 1600) (x / 40 % 40) (x % 40) 1 (by omega) _ rfl (show 0 ≤ x / 40 % 40 by omega) (show x / 40 % 40 < 40 by omega) (by simp; omega)
    have s2 := spec_l1_step (k + 1) x0 (x4 ++ [bt radL (x / 1600)] ++ [bt radL (x / 40 % 40)]) (i : Int) (x / 1600) (x / 40 % 40) (x % 40) 2 (by omega) _ rfl (show 0 ≤ x % 40 by omega) (show x % 40 < 40 by omega) (by simp; omega)
    refine Eq.trans s0 ?_
    by_cases b0 : x / 1600 = 29
    · rw [if_pos (show badW x from Or.inr (Or.inl b0))]; exact if_pos b0
    refine Eq.trans (if_neg b0) (Eq.trans s1 ?_)
    by_cases b1 : x / 40 % 40 = 29
    · rw [if_pos (show badW x from Or.inr (Or.inr (Or.inl b1)))]; exact if_pos b1
    refine Eq.trans (if_neg b1) (Eq.trans s2 ?_)
    by_cases b2 : x % 40 = 29
    · rw [if_pos (show badW x from Or.inr (Or.inr (Or.inr b2)))]; exact if_pos b2
    refine Eq.trans (if_neg b2) ?_
    rw [if_neg (show ¬ badW x by unfold badW; omega), spec_GetRad.l1.eq_def]
    simp only [w]
    rw [if_neg (by decide), List.append_assoc, List.append_assoc]
    rfl
  · rw [if_neg (by rw [decide_eq_true_eq]; exact c), if_pos (show badW x from Or.inl c)]
theorem impl_radword (k : Nat) (x13 x4 : List Int) (i : Nat) (hi : i < x13.length) (hn : x13.length ≤ 2) (hl : x4.length ≤ 50) (hw : (Lit.int .i64 x13[i]).wf = true) :
    impl_GetRad.l0 (k + 5) x4 x13 (x13.length : Int) (i : Int) = if badW x13[i] then some ((⟨#[]⟩ : ByteArray), false) else impl_GetRad.l0 k (x4 ++ threeW x13[i]) x13 (x13.length : Int) ((i + 1 : Nat) : Int) := by
  have hw := wf64 hw
  have w : wrap64 ((i : Int) + 1) = ((i + 1 : Nat) : Int) := by rw [w64 (by omega) (by omega)]; rfl
  have r := rd_at x13 i hi
  rw [impl_GetRad.l0.eq_def]
  simp only [r, Option.bind_some]
  revert hw
  generalize x13[i] = x
  intro hw
  rw [if_pos (by omega), if_pos (by omega), if_pos (by omega)]
  by_cases c : 0 ≤ x ∧ x ≤ 63999
  · obtain ⟨t1, t2, t3⟩ := three_ok x c.1 (by omega)
    rw [t1, t2, t3]
    clear t1 t2 t3
    have s0 := impl_l1_step (k + 3) x13 x4 x (x13.length : Int) (i : Int) (x / 1600) (x / 40 % 40) (x % 40) 0 (by omega) _ rfl (show 0 ≤ x / 1600 by omega) (show x / 1600 < 40 by omega) (by omega) c.1
    have s1 := impl_l1_step (k + 2) x13 (x4 ++ [bt radL (x / 1600)]) x (x13.length : Int) (i : Int) (x / 1600) (x / 40 % 40) (x % 40) 1 (by omega) _ rfl (show 0 ≤ x / 40 % 40 by omega) (show x / 40 % 40 < 40 by omega) (by simp; omega) c.1
    have s2 := impl_l1_step (k + 1) x13 (x4 ++ [bt radL (x / 1600)] ++ [bt radL (x / 40 % 40)]) x (x13.length : Int) (i : Int) (x / 1600) (x / 40 % 40) (x % 40) 2 (by omega) _ rfl (show 0 ≤ x % 40 by omega) (show x % 40 < 40 by omega) (by simp; omega) c.1
    refine Eq.trans s0 ?_
    by_cases b0 : x / 1600 = 29
    · rw [if_pos (show badW x from Or.inr (Or.inl b0))]; exact if_pos b0
    refine Eq.trans (if_neg b0) (Eq.trans s1 ?_)
    by_cases b1 : x / 40 % 40 = 29
    · rw [if_pos (show badW x from Or.inr (Or.inr (Or.inl b1)))]; exact if_pos b1
    refine Eq.trans (if_neg b1) (Eq.trans s2 ?_)
    by_cases b2 : x % 40 = 29
    · rw [if_pos (show badW x from Or.inr (Or.inr (Or.inr b2)))]; exact if_pos b2
    refine Eq.trans (if_neg b2) ?_
    rw [if_neg (show ¬ badW x by unfold badW; omega), impl_GetRad.l1.eq_def]
    simp only [w]
    rw [if_neg (by decide), List.append_assoc, List.append_assoc]
    rfl
  · rw [if_pos (show badW x from Or.inl c), impl_GetRad.l1.eq_def]
    simp only []
    rw [if_pos (by simp), if_pos (by omega), if_pos (by simp)]
    by_cases c0 : x < 0
    · rw [if_pos c0]
    · rw [if_neg c0]
      have t : rd [wrap64 (Int.tdiv x 1600), Int.tmod (wrap64 (Int.tdiv x 40)) 40, Int.tmod x 40] 0 = x / 1600 := (three_ok x (by omega) (by omega)).1
      rw [t, if_pos (by omega)]
theorem three_bytes (x : Int) (y : Int) (h : y ∈ threeW x) : 0 ≤ y ∧ y ≤ 255 := by
  simp only [threeW, List.mem_cons, List.not_mem_nil, or_false] at h
  rcases h with rfl | rfl | rfl <;> exact bt_range _ _
/-- both make the same of all words. -/
theorem getRad_loop (l : List Int) (hl : l.length ≤ 2) (hw : ∀ x ∈ l, (Lit.int .i64 x).wf = true) : ∀ (d i : Nat) (x4 : List Int), l.length - i = d → i ≤ l.length → x4.length ≤ 3 * i → (∀ x ∈ x4, 0 ≤ x ∧ x ≤ 255) →
    ∃ r, Ev (fun k => spec_GetRad.l0 k l x4 (i : Int)) r ∧ Ev (fun k => impl_GetRad.l0 k x4 l (l.length : Int) (i : Int)) r := by
  intro d
  induction d with
  | zero =>
    intro i x4 hd hi hx hb
    obtain ⟨s, s1, s2⟩ := trim_same x4 x4.length rfl (by omega) hb
    refine ⟨(s, true), Ev.step (f := fun k => spec_GetRad.l2 k x4) (fun k => ?_) s1, ?_⟩
    · rw [spec_GetRad.l0.eq_def]; simp only []; rw [if_neg (by omega)]
    · have s3 : Ev (fun k => strings_TrimRight.f k (strOfNums x4) (⟨#[32]⟩ : ByteArray)) s := by
        refine Ev.congr (fun k => by rw [strings_TrimRight.f, if_pos rfl]) ?_
        by_cases c : (strOfNums x4).size = 0
        · refine Ev.congr (f := fun _ => some s) (fun k => ?_) (Ev.now _)
          rw [if_pos c]
          have e : Ev (fun k => strings_trimRightByte.l0 k (strOfNums x4) 32) (strOfNums x4) := Ev.step (f := fun _ => some (strOfNums x4)) (fun k => by rw [strings_trimRightByte.l0.eq_def]; simp only []; rw [if_neg (by omega)]) (Ev.now _)
          obtain ⟨K, h1⟩ := e; obtain ⟨M, h2⟩ := s2
          have a := h1 (K + M) (by omega); have b := h2 (K + M) (by omega)
          rw [a] at b; exact b
        · exact Ev.congr (fun k => by rw [if_neg c, strings_trimRightByte.f]) s2
      refine Ev.step (f := fun k => (strings_TrimRight.f k (strOfNums x4) (⟨#[32]⟩ : ByteArray)).bind fun t129 => some (t129, true)) (fun k => ?_) (Ev.bind s3 (Ev.now _))
      rw [impl_GetRad.l0.eq_def]; simp only []; rw [if_neg (by omega)]
  | succ d ih =>
    intro i x4 hd hi hx hb
    have hlt : i < l.length := by omega
    have hq := hw _ (List.getElem_mem hlt)
    have e1 := fun k => spec_radword k l x4 i hlt hl (by omega) hq
    have e2 := fun k => impl_radword k l x4 i hlt hl (by omega) hq
    by_cases b : badW l[i]
    · refine ⟨((⟨#[]⟩ : ByteArray), false), ⟨5, fun k hk => ?_⟩, ⟨5, fun k hk => ?_⟩⟩
      · obtain ⟨m, rfl⟩ : ∃ m, k = m + 5 := ⟨k - 5, by omega⟩
        simp only [e1 m]; rw [if_pos b]
      · obtain ⟨m, rfl⟩ : ∃ m, k = m + 5 := ⟨k - 5, by omega⟩
        simp only [e2 m]; rw [if_pos b]
    · obtain ⟨r, ⟨K, r1⟩, ⟨M, r2⟩⟩ := ih (i + 1) (x4 ++ threeW l[i]) (by omega) (by omega) (by simp [threeW]; omega) (fun x h => by
        rcases List.mem_append.1 h with h | h
        · exact hb x h
        · exact three_bytes _ _ h)
      refine ⟨r, ⟨K + 5, fun k hk => ?_⟩, ⟨M + 5, fun k hk => ?_⟩⟩
      · obtain ⟨m, rfl⟩ : ∃ m, k = m + 5 := ⟨k - 5, by omega⟩
        simp only [e1 m]; rw [if_neg b]; exact r1 m (by omega)
      · obtain ⟨m, rfl⟩ : ∃ m, k = m + 5 := ⟨k - 5, by omega⟩
        simp only [e2 m]; rw [if_neg b]; exact r2 m (by omega)
theorem getRad_same (l : List Int) (hw : ∀ x ∈ l, (Lit.int .i64 x).wf = true) : ∃ r, Ev (fun k => spec_GetRad.f k l) r ∧ Ev (fun k => impl_GetRad.f k l) r := by
  by_cases c : (l.length : Int) > 2
  · exact ⟨((⟨#[]⟩ : ByteArray), false), Ev.congr (f := fun _ => some ((⟨#[]⟩ : ByteArray), false)) (fun k => by rw [spec_GetRad.f, if_pos c]) (Ev.now _), Ev.congr (f := fun _ => some ((⟨#[]⟩ : ByteArray), false)) (fun k => by rw [impl_GetRad.f, if_pos c]) (Ev.now _)⟩
  · obtain ⟨r, r1, r2⟩ := getRad_loop l (by omega) hw l.length 0 [] (by omega) (by omega) (by simp) (by simp)
    exact ⟨r, Ev.congr (fun k => by rw [spec_GetRad.f, if_neg c]; rfl) r1, Ev.congr (fun k => by rw [impl_GetRad.f, if_neg c]; rfl) r2⟩
theorem toIntS_ok (l : List Int) (h : l.length ≤ 35184372088832) (k : Nat) (hk : l.length < k) : laws_toIntS.f k l = some l := by
  unfold laws_toIntS.f
  rw [if_pos (by omega), if_pos (by omega)]
  exact copy_loop 0 l (by omega) (fun k z i => laws_toIntS.l0 k l z i) (fun _ _ _ => rfl) k _ (by simp) hk
theorem eqIntS_ok (a b : List Int) (h : a.length ≤ 4611686018427387904) (k : Nat) (hk : a.length < k) : laws_eqIntS.f k a b = some (decide (a = b)) := by
  unfold laws_eqIntS.f
  by_cases e : (a.length : Int) = (b.length : Int)
  · rw [if_pos e]; exact eq_loop 0 a b (by omega) h (fun k x => laws_eqIntS.l0 k a b x) (fun _ _ => rfl) k hk
  · rw [if_neg e]; congr 1; symm; rw [decide_eq_false_iff_not]; intro h; subst h; exact e rfl
theorem eqIntS_self (a : List Int) (h : a.length ≤ 4611686018427387904) (k : Nat) (hk : a.length < k) : laws_eqIntS.f k a a = some true := by
  rw [eqIntS_ok a a h k hk]; simp
theorem FnExactGetRad : laws_FnExactGetRad.Pure := by
  intro l _ hl hw
  refine Ev.rounds (g := fun k => laws_FnExactGetRad.f k l) ?_
  simp only [laws_FnExactGetRad.f]
  by_cases c : (l.length : Int) > 1048576
  · exact Ev.congr (f := fun _ => some true) (fun k => by rw [if_pos c]) (Ev.now _)
  refine Ev.congr (fun k => by rw [if_neg c]) ?_
  have i1 : Ev (fun k => laws_toIntS.f k l) l := ⟨l.length + 1, fun k hk => toIntS_ok l (by omega) k (by omega)⟩
  have q1 : Ev (fun k => laws_eqIntS.f k l l) true := ⟨l.length + 1, fun k hk => eqIntS_self l (by omega) k (by omega)⟩
  obtain ⟨r, r1, r2⟩ := getRad_same l hw
  refine Ev.bind i1 (Ev.bind r1 (Ev.bind i1 (Ev.bind r2 ?_)))
  refine Ev.congr (f := fun k => laws_FnExactGetRad.j0 k l l (r.2 != r.2)) (fun k => by rw [if_pos rfl]) ?_
  refine Ev.step (f := fun k => (laws_toIntS.f k l).bind fun t150 => ((laws_eqIntS.f k l t150).bind fun t153 => (if t153 = true then (some true) else (some false)))) (fun k => by rw [laws_FnExactGetRad.j0.eq_def]; simp only []; rw [if_neg (by simp)]) (Ev.bind i1 (Ev.bind q1 (Ev.now _)))

end Go.Proofs.YtddaaoadodihpaaDoor.Pure
