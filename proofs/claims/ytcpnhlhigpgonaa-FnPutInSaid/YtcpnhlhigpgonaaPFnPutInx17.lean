-- Laid by a program of this session; Lean checks every line.
import Derived.Test.YtcpnhlhigpgonaaPFnPutInx16
namespace Go.Proofs.Ytcpnhlhigpgonaa.PFnPutIn
open Go.RowKit Go.Proofs.YtcpnhlhigpgonaaW.PrintWords Go.Proofs.YtcpnhlhigpgonaaW.PrintLast Go.Proofs.YtcpnhlhigpgonaaW.PrintMore Go.Proofs.Ytcpnhlhigpgonaa.Chg
set_option linter.unusedVariables false
set_option linter.unusedSimpArgs false
attribute [local go_sem] max2_int min2_int max_two min_two max_three min_three max_four min_four
set_option maxHeartbeats 32000000 in
set_option maxRecDepth 100000 in
theorem spec_DrawWorth.q0 (k : Nat) (Ab : Option Addr) (cb : Nat) (lb : List Int) (lc : List Int) (s0 t0 s1 t1 : Int) (sq tq : Nat → Int) (f0 f1 : Int) (f2 : ByteArray) (lf : List S29)  (x1 x2 x3 n1 y1 y2 n2 : Int) (w : World) (hr : Kd.C (Kd.int .u8) w Ab lb.length lb) (hc : lb.length ≤ cb) (hn : spec_l1New.f k lb = some (lc, s0, t0)) (hf : spec_l11Flat.f k lc s0 t0 3 = some (f0, f1, f2, lf, s1, t1)) (ho : spec_l1Once.f lc s1 t1 6 = some (false, sq 0, tq 0)) (hw1 : spec_l1Word.f lc (sq 0) (tq 0) = some (x1, sq 1, tq 1)) (hw2 : spec_l1Word.f lc (sq 1) (tq 1) = some (x2, sq 2, tq 2)) (hw3 : spec_l1Num.f lc (sq 2) (tq 2) = some (x3, sq 3, tq 3)) (hw4 : spec_l1Int.f lc (sq 3) (tq 3) [3, 3, 3, 1] = some (n1, sq 4, tq 4)) (hw5 : spec_l1Word.f lc (sq 4) (tq 4) = some (y1, sq 5, tq 5)) (hw6 : spec_l1Num.f lc (sq 5) (tq 5) = some (y2, sq 6, tq 6)) (hw7 : spec_l1Int.f lc (sq 6) (tq 6) [2, 2, 2, 1] = some (n2, sq 7, tq 7)) (hn1 : 0 ≤ n1 ∧ n1 ≤ 3) (hn2 : 0 ≤ n2 ∧ n2 ≤ 2) :
    Calls Try.prog 45 #[.slice Ab lb.length cb] w fun e w' => ∃ (Au : Option Addr) (cu : Nat) (A1 A2 A3 : Option Addr), e = .returned (.tuple #[.agg #[.int .i64 f0, .int .i64 f1, .string f2, .slice Au lf.length cu], .slice A1 ([x1, x2, x3].take n1.toNat).length 3, .slice A2 2 2, .slice A3 ([y1, y2].take n2.toNat).length 2]) ∧ lf.length ≤ cu ∧ Kd.F k29 w' (fun k => w.heap.size ≤ k ∧ k < w'.heap.size) Au lf.length lf ∧ Kd.F (Kd.int .i64) w' (fun k => w.heap.size ≤ k ∧ k < w'.heap.size) A1 ([x1, x2, x3].take n1.toNat).length ([x1, x2, x3].take n1.toNat) ∧ Kd.F Kd.string w' (fun k => w.heap.size ≤ k ∧ k < w'.heap.size) A2 2 [(⟨#[103]⟩ : ByteArray), (⟨#[104]⟩ : ByteArray)] ∧ Kd.F (Kd.int .i64) w' (fun k => w.heap.size ≤ k ∧ k < w'.heap.size) A3 ([y1, y2].take n2.toNat).length ([y1, y2].take n2.toNat) ∧ Below w.heap.size w w' := by
  have HR := A_ hr
  have HC := A_ hc
  clear hr hc
  have HB := A_ (Below.refl w.heap.size w)
  have S : Aside0 (w.heap.size ≤ w.heap.size) := A_ (Nat.le_refl _)
  have Hn := A_ hn
  have Hf := A_ hf
  have Ho := A_ ho
  clear hn hf ho
  have Hw1 := A_ hw1
  have Hw2 := A_ hw2
  have Hw3 := A_ hw3
  have Hw4 := A_ hw4
  have Hw5 := A_ hw5
  have Hw6 := A_ hw6
  have Hw7 := A_ hw7
  clear hw1 hw2 hw3 hw4 hw5 hw6 hw7
  go_enter Try.func45, Try.ntmps45
  go_wp2_with (first | ((with_reducible refine gate_dst (N := 2) rfl ?_); refine bx_ 2 #[.int .i64 0, .int .i64 0, .string (⟨#[]⟩ : ByteArray), .slice none 0 0] 29 ?_; intro g2 hg w' hbox hb; have hc := co_ hb; have F1 : w.heap.size ≤ g2 := (by have := S.out; omega); clear hg; replace HB := hz_ hc HB; replace S := t_ hc S; clear S; have S : Aside0 (g2 + 1 ≤ w'.heap.size) := A_ (blk_lt hbox); have BK2 := A_ hbox; clear hbox hb hc) | ((with_reducible refine gate_callee (f := 48) rfl ?_); (try (refine gate_guard (by rfl) ?_; dsimp only)); refine gL_ (some 9) Try.func48 #[.slice Ab lb.length cb] ?_; refine (spec_l1New.calls k Ab cb lb lc s0 t0 w _ HB.out HR.out HC.out Hn.out).mono ?_; have hS_ := S.out; rintro e w' ⟨gc, rfl, hi, hB1, hb⟩; have hc := co_ hb; refine ⟨_, rfl, ?_⟩; replace BK2 := bz_ hc BK2; replace HB := hz_ hc HB; replace S := t_ hc S; have HI := A_ hi; clear hi hB1; have F2 : gc ≠ g2 := (IsS77.ne_blk HI.out BK2.out (by decide)); obtain ⟨tp, htp_⟩ : ∃ q_, q_ = w'.heap.size := ⟨_, rfl⟩; have F3 : gc + 1 ≤ tp := (by have := IsS77.lt HI.out; omega); have F4 : w.heap.size ≤ gc := (IsS77.ge HI.out); have F5 : g2 + 1 ≤ tp := (by have := S.out; omega); clear S; have S : Aside0 (tp ≤ w'.heap.size) := A_ (by omega); clear hb hc hS_ htp_) | ((with_reducible refine gate_callee (f := 63) rfl ?_); (try (refine gate_guard (by rfl) ?_; dsimp only)); refine gL_ (some 11) Try.func63 #[.pointer (some ⟨gc, 0, none⟩), .int .i64 3] ?_; obtain ⟨lof, hlo_⟩ : ∃ q_, q_ = w'.heap.size := ⟨_, rfl⟩; have F6 : tp ≤ lof := (by have := S.out; omega); refine (spec_l11Flat.calls k gc lc s0 t0 3 f0 f1 f2 lf s1 t1 w _ HI.out HB.out Hf.out).mono ?_; rintro e w' ⟨vv_, rfl, hR, hi, hB1, hk⟩; obtain ⟨Af, cf, rfl, hlf, hF⟩ := N_in hR; have hc := k_ch hk HB.out hB1; refine ⟨_, rfl, ?_⟩; rw [← hlo_] at hF; obtain ⟨hif, hhi_⟩ : ∃ q_, q_ = w'.heap.size := ⟨_, rfl⟩; rw [← hhi_] at hF; have F7 : lof ≤ hif := (by have := hc.size; omega); replace BK2 := bs_ hc BK2 (by have := S.out; omega); replace HB := hs_ hc HB (by have := S.out; omega); replace S := t_ hc S; clear HI; have HI := A_ hi; clear hi hB1 hk; clear S hR hc; have S : Aside0 (hif ≤ w'.heap.size) := A_ (by omega); have Tf := A_ hF; clear hF hlo_ hhi_) | ((with_reducible refine gate_dst (N := 7) rfl ?_); refine bx_ 7 #[.int .i64 0, .int .i64 0, .string (⟨#[]⟩ : ByteArray), .slice none 0 0] 29 ?_; intro g7 hg w' hbox hb; have hc := co_ hb; have F8 : hif ≤ g7 := (by have := S.out; omega); clear hg; replace BK2 := bz_ hc BK2; replace HI := iz_ hc HI; replace Tf := fz_ hc Tf; replace HB := hz_ hc HB; replace S := t_ hc S; clear S; have S : Aside0 (g7 + 1 ≤ w'.heap.size) := A_ (blk_lt hbox); have BK7 := A_ hbox; clear hbox hb hc) | ((with_reducible refine gate_ (.store 29 (.tmp 7) (.tmp 11)) rfl ?_); refine ss_ 29 7 11 #[.int .i64 f0, .int .i64 f1, .string f2, .slice Af lf.length cf] BK7.out ?_; intro w' hbox hc; replace BK2 := bs_ hc BK2 (by have := S.out; omega); replace HI := is_ hc HI (by have := S.out; omega); replace Tf := fs_ hc Tf (by have := S.out; omega); replace HB := hs_ hc HB (by have := S.out; omega); replace S := t_ hc S; clear BK7; have BK7 := A_ hbox; clear hbox hc) | ((with_reducible refine gate_callee (f := 50) rfl ?_); (try (refine gate_guard (by rfl) ?_; dsimp only)); refine gL_ (some 13) Try.func50 #[.pointer (some ⟨gc, 0, none⟩), .int .i64 6] ?_; refine (spec_l1Once.calls gc lc s1 t1 6 false (sq 0) (tq 0) w _ HI.out HB.out Ho.out).mono ?_; rintro e w' ⟨rfl, hi, hB1, hk⟩; have hc := k_ch hk HB.out hB1; refine ⟨_, rfl, ?_⟩; replace BK2 := bs_ hc BK2 (by have := S.out; omega); replace Tf := fs_ hc Tf (by have := S.out; omega); replace BK7 := bs_ hc BK7 (by have := S.out; omega); replace HB := hs_ hc HB (by have := S.out; omega); replace S := t_ hc S; clear HI; have HI := A_ hi; clear hi hB1 hk hc))
  have hc := Ch.drew w'
  replace BK2 := bz_ hc BK2
  replace HI := iz_ hc HI
  replace Tf := fz_ hc Tf
  replace BK7 := bz_ hc BK7
  replace HB := hz_ hc HB
  replace S := t_ hc S
  clear hc
  refine start_ (n := 26) (S := fun _ => True) (ds := []) #[false, false, false, false, false, false, false, false, false, false, false, false, false, false, false, false, false, false, false, false, false, false, false, false, false, false] (by kernel_rfl) rfl rfl trivial (fun _ => ?_)
  generalize w'.drew = w' at BK2 HI Tf BK7 HB S ⊢
  have hcS : gc < w'.heap.size := IsS77.lt HI.out
  first | generalize hA : Act.put _ _ _ = aA | generalize hA : Act.mk _ _ = aA
  refine open2_ (n := 26) (σ := (Nat → Value) × (Nat → Nat)) (fun s => ns45 s.1) (fun l s w1 => DW (.agg #[.int .i64 f0, .int .i64 f1, .string f2, .slice Af lf.length cf]) (.pointer (some ⟨gc, 0, none⟩)) x1 x2 x3 n1 y1 y2 n2 (.cells #[.int .i64 f0, .int .i64 f1, .string f2, .slice Af lf.length cf] 29 (0, 0)) (.cells #[.int .i64 0, .int .i64 0, .string (⟨#[]⟩ : ByteArray), .slice none 0 0] 29 (0, 0)) sq tq lc w w' gc g2 (fun j => l.getD j false) s.1 s.2 w1) rfl (by kernel_rfl) ?step ?stop (wU, fun _ => 0) ?act rfl (by decide) ?init
  case act =>
    subst hA
    simp only [putAll, ns45, Act.put, List.setIfInBounds_toArray, List.set_cons_zero, List.set_cons_succ, wU]
  case init =>
    have l0_ : ∀ i, (#[false, false, false, false, false, false, false, false, false, false, false, false, false, false, false, false, false, false, false, false, false, false, false, false, false, false] : Array Bool).getD i false = false := fun i => getD_rep 26 i
    refine ⟨fun i hi h22 => ?_, fun i hi h => absurd (h.symm.trans (l0_ i)) (by decide), fun i h => absurd (h.symm.trans (l0_ i)) (by decide), ?_, HB.out, rfl, rfl, rfl, Nat.le_refl _, fun _ _ _ _ => rfl, ?_⟩
    · show wU i = if _ then _ else wU i
      rw [if_neg (by rw [l0_ i]; decide)]
    · have : cnt (fun j => (#[false, false, false, false, false, false, false, false, false, false, false, false, false, false, false, false, false, false, false, false, false, false, false, false, false, false] : Array Bool).getD j false) = 0 := by simp [cnt, l0_]
      rw [this]; exact HI.out
    · rw [if_neg (by rw [l0_ 22]; decide)]; exact BK2.out
  case step =>
    rintro i oi l ⟨s, b⟩ w1 hi ho hl hun hd hI K hK
    have hf : (fun j => l.getD j false) i = false := gun hl hi hun
    have e : (fun j => (l.setIfInBounds i true).getD j false) = up (fun j => l.getD j false) i := funext (fun j => gst hl hi)
    dsimp only at hI
    refine Aside0.out ?_
    obtain rfl | rfl | rfl | rfl | rfl | rfl | rfl | rfl | rfl | rfl | rfl | rfl | rfl | rfl | rfl | rfl | rfl | rfl | rfl | rfl | rfl | rfl | rfl | rfl | rfl | rfl : i = 0 ∨ i = 1 ∨ i = 2 ∨ i = 3 ∨ i = 4 ∨ i = 5 ∨ i = 6 ∨ i = 7 ∨ i = 8 ∨ i = 9 ∨ i = 10 ∨ i = 11 ∨ i = 12 ∨ i = 13 ∨ i = 14 ∨ i = 15 ∨ i = 16 ∨ i = 17 ∨ i = 18 ∨ i = 19 ∨ i = 20 ∨ i = 21 ∨ i = 22 ∨ i = 23 ∨ i = 24 ∨ i = 25 := by omega
    all_goals (simp only [List.getElem?_toArray, List.getElem?_cons_zero, List.getElem?_cons_succ, Option.some.injEq] at ho; subst ho)
    · refine lit2A_ (a1 := ?_) ?_ (fun e0 => ?_)
      rotate_left
      · subst hA
        simp only [putAll, ns45, Act.put, List.setIfInBounds_toArray, List.set_cons_zero, List.set_cons_succ]
        rfl
      refine valueA_ (N := some 16) (by rfl) rfl (v := .agg #[.int .i64 f0, .int .i64 f1, .string f2, .slice Af lf.length cf]) (w1 := w1) ?_ ?_
      · refine load_yields 29 (.tmp 7) (by rfl) g7 (by rfl) 29 _ _ ?_ Try.underlying29 rfl (by kernel_rfl)
        exact (hI.blk g7 (blk_lt BK7.out) (by omega) (by omega)).trans BK7.out
      have hq : K ((putAll aA (ns45 s)).put (some 16) (.agg #[.int .i64 f0, .int .i64 f1, .string f2, .slice Af lf.length cf])) w1 := by
        have hq0 := hK (us s 0 (wV (.agg #[.int .i64 f0, .int .i64 f1, .string f2, .slice Af lf.length cf]) (.pointer (some ⟨gc, 0, none⟩)) x1 x2 x3 n1 y1 y2 n2 b 0), b) w1 (by show DW _ _ _ _ _ _ _ _ _ _ _ _ _ _ _ _ _ _ (fun j => (l.setIfInBounds 0 true).getD j false) _ _ _; rw [e]; exact hI.pure (by decide) (by decide) (by decide) (fun _ h => absurd h List.not_mem_nil))
        subst hA
        simp only [putAll, ns45, Act.put, List.setIfInBounds_toArray, List.set_cons_zero, List.set_cons_succ] at hq0 ⊢
        exact hq0
      rw [e0] at hq
      exact hq
    · refine Aside0.mk ?_
      refine lit2_ (a1 := ?_) ?_ (fun e0 => ?_)
      rotate_left
      · subst hA
        simp only [putAll, ns45, Act.put, List.setIfInBounds_toArray, List.set_cons_zero, List.set_cons_succ]
        rfl
      refine value_ (N := some 17) (by rfl) rfl (v := ?_) (w1 := w1) ?_ ?_
      rotate_left
      · go_simp
        with_reducible rfl
      have hq : K ((putAll aA (ns45 s)).put (some 17) (.pointer (some ⟨gc, 0, none⟩))) w1 := by
        have hq0 := hK (us s 1 (wV (.agg #[.int .i64 f0, .int .i64 f1, .string f2, .slice Af lf.length cf]) (.pointer (some ⟨gc, 0, none⟩)) x1 x2 x3 n1 y1 y2 n2 b 1), b) w1 (by show DW _ _ _ _ _ _ _ _ _ _ _ _ _ _ _ _ _ _ (fun j => (l.setIfInBounds 1 true).getD j false) _ _ _; rw [e]; exact hI.pure (by decide) (by decide) (by decide) (fun _ h => absurd h List.not_mem_nil))
        subst hA
        simp only [putAll, ns45, Act.put, List.setIfInBounds_toArray, List.set_cons_zero, List.set_cons_succ] at hq0 ⊢
        exact hq0
      rw [e0] at hq
      exact hq
    · refine Aside0.mk ?_
      refine Aside0.out ?_
      obtain ⟨k0_, k1_⟩ := hI.at2 hf
      have hcu := hI.cur
      rw [k0_] at hcu
      refine Aside0.mk ?_
      have q1 := hI.of_true 1 (hd { on := 1, ground := .data } (by simp) rfl)
      dsimp only [wV] at q1
      refine lit2_ (a1 := ?_) ?_ (fun e0 => ?_)
      rotate_left
      · subst hA
        simp only [putAll, ns45, Act.put, List.setIfInBounds_toArray, List.set_cons_zero, List.set_cons_succ, q1]
        rfl
      refine goes_ Try.func64 (by kernel_rfl) rfl #[.pointer (some ⟨gc, 0, none⟩)] (by rfl) rfl rfl (by simp only [List.map_toArray, List.map_cons, List.map_nil]; rfl) ?_
      refine (spec_l1Word.calls gc lc (sq 0) (tq 0) x1 (sq 1) (tq 1) w w1 hcu hI.bel Hw1.out).mono ?_
      rintro _ w2 ⟨rfl, hi2, hB2, hk2⟩
      refine ⟨_, rfl, ?_⟩
      have hq : K ((putAll aA (ns45 s)).put (some 18) (.int .i64 x1)) w2 := by
        have hq0 := hK (us s 2 (wV (.agg #[.int .i64 f0, .int .i64 f1, .string f2, .slice Af lf.length cf]) (.pointer (some ⟨gc, 0, none⟩)) x1 x2 x3 n1 y1 y2 n2 b 2), b) w2 (by show DW _ _ _ _ _ _ _ _ _ _ _ _ _ _ _ _ _ _ (fun j => (l.setIfInBounds 2 true).getD j false) _ _ _; rw [e]; exact hI.call (by decide) (fun _ h => absurd h List.not_mem_nil) hcS (by omega) (by rw [k1_]; exact hi2) hB2 hk2)
        subst hA
        simp only [putAll, ns45, Act.put, List.setIfInBounds_toArray, List.set_cons_zero, List.set_cons_succ] at hq0 ⊢
        exact hq0
      rw [e0] at hq
      exact hq
    · refine Aside0.mk ?_
      refine lit2_ (a1 := ?_) ?_ (fun e0 => ?_)
      rotate_left
      · subst hA
        simp only [putAll, ns45, Act.put, List.setIfInBounds_toArray, List.set_cons_zero, List.set_cons_succ]
        rfl
      refine value_ (N := some 19) (by rfl) rfl (v := ?_) (w1 := w1) ?_ ?_
      rotate_left
      · go_simp
        with_reducible rfl
      have hq : K ((putAll aA (ns45 s)).put (some 19) (.pointer (some ⟨gc, 0, none⟩))) w1 := by
        have hq0 := hK (us s 3 (wV (.agg #[.int .i64 f0, .int .i64 f1, .string f2, .slice Af lf.length cf]) (.pointer (some ⟨gc, 0, none⟩)) x1 x2 x3 n1 y1 y2 n2 b 3), b) w1 (by show DW _ _ _ _ _ _ _ _ _ _ _ _ _ _ _ _ _ _ (fun j => (l.setIfInBounds 3 true).getD j false) _ _ _; rw [e]; exact hI.pure (by decide) (by decide) (by decide) (fun _ h => absurd h List.not_mem_nil))
        subst hA
        simp only [putAll, ns45, Act.put, List.setIfInBounds_toArray, List.set_cons_zero, List.set_cons_succ] at hq0 ⊢
        exact hq0
      rw [e0] at hq
      exact hq
    · refine Aside0.mk ?_
      refine Aside0.out ?_
      obtain ⟨k0_, k1_⟩ := hI.at4 hf (hd { on := 2, ground := .chain } (by simp) rfl)
      have hcu := hI.cur
      rw [k0_] at hcu
      refine Aside0.mk ?_
      have q3 := hI.of_true 3 (hd { on := 3, ground := .data } (by simp) rfl)
      dsimp only [wV] at q3
      refine lit2_ (a1 := ?_) ?_ (fun e0 => ?_)
      rotate_left
      · subst hA
        simp only [putAll, ns45, Act.put, List.setIfInBounds_toArray, List.set_cons_zero, List.set_cons_succ, q3]
        rfl
      refine goes_ Try.func64 (by kernel_rfl) rfl #[.pointer (some ⟨gc, 0, none⟩)] (by rfl) rfl rfl (by simp only [List.map_toArray, List.map_cons, List.map_nil]; rfl) ?_
      refine (spec_l1Word.calls gc lc (sq 1) (tq 1) x2 (sq 2) (tq 2) w w1 hcu hI.bel Hw2.out).mono ?_
      rintro _ w2 ⟨rfl, hi2, hB2, hk2⟩
      refine ⟨_, rfl, ?_⟩
      have hq : K ((putAll aA (ns45 s)).put (some 20) (.int .i64 x2)) w2 := by
        have hq0 := hK (us s 4 (wV (.agg #[.int .i64 f0, .int .i64 f1, .string f2, .slice Af lf.length cf]) (.pointer (some ⟨gc, 0, none⟩)) x1 x2 x3 n1 y1 y2 n2 b 4), b) w2 (by show DW _ _ _ _ _ _ _ _ _ _ _ _ _ _ _ _ _ _ (fun j => (l.setIfInBounds 4 true).getD j false) _ _ _; rw [e]; exact hI.call (by decide) (List.forall_mem_cons.2 ⟨(hd { on := 2, ground := .chain } (by simp) rfl), (fun _ h => absurd h List.not_mem_nil)⟩) hcS (by omega) (by rw [k1_]; exact hi2) hB2 hk2)
        subst hA
        simp only [putAll, ns45, Act.put, List.setIfInBounds_toArray, List.set_cons_zero, List.set_cons_succ] at hq0 ⊢
        exact hq0
      rw [e0] at hq
      exact hq
    · refine Aside0.mk ?_
      refine lit2_ (a1 := ?_) ?_ (fun e0 => ?_)
      rotate_left
      · subst hA
        simp only [putAll, ns45, Act.put, List.setIfInBounds_toArray, List.set_cons_zero, List.set_cons_succ]
        rfl
      refine value_ (N := some 21) (by rfl) rfl (v := ?_) (w1 := w1) ?_ ?_
      rotate_left
      · go_simp
        with_reducible rfl
      have hq : K ((putAll aA (ns45 s)).put (some 21) (.pointer (some ⟨gc, 0, none⟩))) w1 := by
        have hq0 := hK (us s 5 (wV (.agg #[.int .i64 f0, .int .i64 f1, .string f2, .slice Af lf.length cf]) (.pointer (some ⟨gc, 0, none⟩)) x1 x2 x3 n1 y1 y2 n2 b 5), b) w1 (by show DW _ _ _ _ _ _ _ _ _ _ _ _ _ _ _ _ _ _ (fun j => (l.setIfInBounds 5 true).getD j false) _ _ _; rw [e]; exact hI.pure (by decide) (by decide) (by decide) (fun _ h => absurd h List.not_mem_nil))
        subst hA
        simp only [putAll, ns45, Act.put, List.setIfInBounds_toArray, List.set_cons_zero, List.set_cons_succ] at hq0 ⊢
        exact hq0
      rw [e0] at hq
      exact hq
    · refine Aside0.mk ?_
      refine Aside0.out ?_
      obtain ⟨k0_, k1_⟩ := hI.at6 hf (hd { on := 4, ground := .chain } (by simp) rfl)
      have hcu := hI.cur
      rw [k0_] at hcu
      refine Aside0.mk ?_
      have q5 := hI.of_true 5 (hd { on := 5, ground := .data } (by simp) rfl)
      dsimp only [wV] at q5
      refine lit2_ (a1 := ?_) ?_ (fun e0 => ?_)
      rotate_left
      · subst hA
        simp only [putAll, ns45, Act.put, List.setIfInBounds_toArray, List.set_cons_zero, List.set_cons_succ, q5]
        rfl
      refine goes_ Try.func65 (by kernel_rfl) rfl #[.pointer (some ⟨gc, 0, none⟩)] (by rfl) rfl rfl (by simp only [List.map_toArray, List.map_cons, List.map_nil]; rfl) ?_
      refine (spec_l1Num.calls gc lc (sq 2) (tq 2) x3 (sq 3) (tq 3) w w1 hcu hI.bel Hw3.out).mono ?_
      rintro _ w2 ⟨rfl, hi2, hB2, hk2⟩
      refine ⟨_, rfl, ?_⟩
      have hq : K ((putAll aA (ns45 s)).put (some 22) (.int .i64 x3)) w2 := by
        have hq0 := hK (us s 6 (wV (.agg #[.int .i64 f0, .int .i64 f1, .string f2, .slice Af lf.length cf]) (.pointer (some ⟨gc, 0, none⟩)) x1 x2 x3 n1 y1 y2 n2 b 6), b) w2 (by show DW _ _ _ _ _ _ _ _ _ _ _ _ _ _ _ _ _ _ (fun j => (l.setIfInBounds 6 true).getD j false) _ _ _; rw [e]; exact hI.call (by decide) (List.forall_mem_cons.2 ⟨(hd { on := 4, ground := .chain } (by simp) rfl), (fun _ h => absurd h List.not_mem_nil)⟩) hcS (by omega) (by rw [k1_]; exact hi2) hB2 hk2)
        subst hA
        simp only [putAll, ns45, Act.put, List.setIfInBounds_toArray, List.set_cons_zero, List.set_cons_succ] at hq0 ⊢
        exact hq0
      rw [e0] at hq
      exact hq
    · refine Aside0.mk ?_
      have q2 := hI.of_true 2 (hd { on := 2, ground := .data } (by simp) rfl)
      have q4 := hI.of_true 4 (hd { on := 4, ground := .data } (by simp) rfl)
      have q6 := hI.of_true 6 (hd { on := 6, ground := .data } (by simp) rfl)
      dsimp only [wV] at q2
      dsimp only [wV] at q4
      dsimp only [wV] at q6
      refine lit2_ (a1 := ?_) ?_ (fun e0 => ?_)
      rotate_left
      · subst hA
        simp only [putAll, ns45, Act.put, List.setIfInBounds_toArray, List.set_cons_zero, List.set_cons_succ, q2, q4, q6]
        rfl
      refine bl2_step 23 #[.int .i64 x1, .int .i64 x2, .int .i64 x3] 3 3 (by rfl) ?_
      intro g' hg w2 hbox hb
      have hq : K ((putAll aA (ns45 s)).put (some 23) (.slice (some ⟨g', 0, none⟩) 3 3)) w2 := by
        have hq0 := hK (us s 7 (wV (.agg #[.int .i64 f0, .int .i64 f1, .string f2, .slice Af lf.length cf]) (.pointer (some ⟨gc, 0, none⟩)) x1 x2 x3 n1 y1 y2 n2 (ub b 7 g') 7), ub b 7 g') w2 (by show DW _ _ _ _ _ _ _ _ _ _ _ _ _ _ _ _ _ _ (fun j => (l.setIfInBounds 7 true).getD j false) _ _ _; rw [e]; exact hI.lit (by decide) hf (List.forall_mem_cons.2 ⟨(hd { on := 2, ground := .data } (by simp) rfl), (List.forall_mem_cons.2 ⟨(hd { on := 4, ground := .data } (by simp) rfl), (List.forall_mem_cons.2 ⟨(hd { on := 6, ground := .data } (by simp) rfl), (fun _ h => absurd h List.not_mem_nil)⟩)⟩)⟩) hg hbox hb)
        subst hA
        simp only [putAll, ns45, Act.put, List.setIfInBounds_toArray, List.set_cons_zero, List.set_cons_succ] at hq0 ⊢
        exact hq0
      rw [e0] at hq
      exact hq
    · refine Aside0.mk ?_
      refine lit2_ (a1 := ?_) ?_ (fun e0 => ?_)
      rotate_left
      · subst hA
        simp only [putAll, ns45, Act.put, List.setIfInBounds_toArray, List.set_cons_zero, List.set_cons_succ]
        rfl
      refine value_ (N := some 24) (by rfl) rfl (v := ?_) (w1 := w1) ?_ ?_
      rotate_left
      · go_simp
        with_reducible rfl
      have hq : K ((putAll aA (ns45 s)).put (some 24) (.pointer (some ⟨gc, 0, none⟩))) w1 := by
        have hq0 := hK (us s 8 (wV (.agg #[.int .i64 f0, .int .i64 f1, .string f2, .slice Af lf.length cf]) (.pointer (some ⟨gc, 0, none⟩)) x1 x2 x3 n1 y1 y2 n2 b 8), b) w1 (by show DW _ _ _ _ _ _ _ _ _ _ _ _ _ _ _ _ _ _ (fun j => (l.setIfInBounds 8 true).getD j false) _ _ _; rw [e]; exact hI.pure (by decide) (by decide) (by decide) (fun _ h => absurd h List.not_mem_nil))
        subst hA
        simp only [putAll, ns45, Act.put, List.setIfInBounds_toArray, List.set_cons_zero, List.set_cons_succ] at hq0 ⊢
        exact hq0
      rw [e0] at hq
      exact hq
    · refine Aside0.mk ?_
      refine lit2_ (a1 := ?_) ?_ (fun e0 => ?_)
      rotate_left
      · subst hA
        simp only [putAll, ns45, Act.put, List.setIfInBounds_toArray, List.set_cons_zero, List.set_cons_succ]
        rfl
      refine bl2_step 25 #[.int .i64 3, .int .i64 3, .int .i64 3, .int .i64 1] 3 4 (by rfl) ?_
      intro g' hg w2 hbox hb
      have hq : K ((putAll aA (ns45 s)).put (some 25) (.slice (some ⟨g', 0, none⟩) 4 4)) w2 := by
        have hq0 := hK (us s 9 (wV (.agg #[.int .i64 f0, .int .i64 f1, .string f2, .slice Af lf.length cf]) (.pointer (some ⟨gc, 0, none⟩)) x1 x2 x3 n1 y1 y2 n2 (ub b 9 g') 9), ub b 9 g') w2 (by show DW _ _ _ _ _ _ _ _ _ _ _ _ _ _ _ _ _ _ (fun j => (l.setIfInBounds 9 true).getD j false) _ _ _; rw [e]; exact hI.lit (by decide) hf (fun _ h => absurd h List.not_mem_nil) hg hbox hb)
        subst hA
        simp only [putAll, ns45, Act.put, List.setIfInBounds_toArray, List.set_cons_zero, List.set_cons_succ] at hq0 ⊢
        exact hq0
      rw [e0] at hq
      exact hq
    · refine Aside0.mk ?_
      refine Aside0.out ?_
      obtain ⟨k0_, k1_⟩ := hI.at10 hf (hd { on := 6, ground := .chain } (by simp) rfl)
      have hcu := hI.cur
      rw [k0_] at hcu
      refine Aside0.mk ?_
      have hrw := hI.row 9 (by decide) (hd { on := 9, ground := .data } (by simp) rfl)
      have q9 := hI.of_true 9 (hd { on := 9, ground := .data } (by simp) rfl)
      dsimp only [wV] at q9
      have hF_ : Kd.C (Kd.int .i64) w1 (some ⟨b 9, 0, none⟩) 4 ([3, 3, 3, 1] : List Int) := Kd.F_now (plain_F (enc := Value.int .i64) (lo := b 9) (hi := b 9 + 1) (xs := ([3, 3, 3, 1] : List Int)) 4 hrw.2 ⟨Nat.le_refl _, Nat.lt_succ_self _⟩ rfl (by decide))
      have q8 := hI.of_true 8 (hd { on := 8, ground := .data } (by simp) rfl)
      dsimp only [wV] at q8
      refine lit2_ (a1 := ?_) ?_ (fun e0 => ?_)
      rotate_left
      · subst hA
        simp only [putAll, ns45, Act.put, List.setIfInBounds_toArray, List.set_cons_zero, List.set_cons_succ, q8, q9]
        rfl
      refine goes_ Try.func66 (by kernel_rfl) rfl #[.pointer (some ⟨gc, 0, none⟩), .slice (some ⟨b 9, 0, none⟩) 4 4] (by rfl) rfl rfl (by simp only [List.map_toArray, List.map_cons, List.map_nil]; rfl) ?_
      refine (spec_l1Int.calls gc lc (sq 3) (tq 3) (some ⟨b 9, 0, none⟩) 4 [3, 3, 3, 1] n1 (sq 4) (tq 4) w w1 hcu hI.bel hF_ (by decide) (fun ad h_ _ => by obtain rfl := Option.some.inj h_; show b 9 ≠ gc; have := hrw.1; have := hcS; omega) Hw4.out).mono ?_
      rintro _ w2 ⟨rfl, hi2, hB2, hk2⟩
      refine ⟨_, rfl, ?_⟩
      have hq : K ((putAll aA (ns45 s)).put (some 26) (.int .i64 n1)) w2 := by
        have hq0 := hK (us s 10 (wV (.agg #[.int .i64 f0, .int .i64 f1, .string f2, .slice Af lf.length cf]) (.pointer (some ⟨gc, 0, none⟩)) x1 x2 x3 n1 y1 y2 n2 b 10), b) w2 (by show DW _ _ _ _ _ _ _ _ _ _ _ _ _ _ _ _ _ _ (fun j => (l.setIfInBounds 10 true).getD j false) _ _ _; rw [e]; exact hI.call (by decide) (List.forall_mem_cons.2 ⟨(hd { on := 6, ground := .chain } (by simp) rfl), (List.forall_mem_cons.2 ⟨(hd { on := 9, ground := .data } (by simp) rfl), (fun _ h => absurd h List.not_mem_nil)⟩)⟩) hcS (by omega) (by rw [k1_]; exact hi2) hB2 hk2)
        subst hA
        simp only [putAll, ns45, Act.put, List.setIfInBounds_toArray, List.set_cons_zero, List.set_cons_succ] at hq0 ⊢
        exact hq0
      rw [e0] at hq
      exact hq
    · have q7 := hI.of_true 7 (hd { on := 7, ground := .data } (by simp) rfl)
      have q10 := hI.of_true 10 (hd { on := 10, ground := .data } (by simp) rfl)
      dsimp only [wV] at q7
      dsimp only [wV] at q10
      refine lit2A_ (a1 := ?_) ?_ (fun e0 => ?_)
      rotate_left
      · subst hA
        simp only [putAll, ns45, Act.put, List.setIfInBounds_toArray, List.set_cons_zero, List.set_cons_succ, q7, q10]
        rfl
      refine valueA_ (N := some 27) (by rfl) rfl (v := .slice (some ⟨b 7, 0, none⟩) n1.toNat 3) (w1 := w1) ?_ ?_
      · exact slice_yields (oi := _) 39 3 (.tmp 23) (.tmp 26) .i64 Try.underlying39 (by rfl) (by rfl) (some ⟨b 7, 0, none⟩) 3 3 n1 (by rfl) (by rfl) hn1.1 (by have := hn1.2; omega) (Nat.le_refl _)
      have hq : K ((putAll aA (ns45 s)).put (some 27) (.slice (some ⟨b 7, 0, none⟩) n1.toNat 3)) w1 := by
        have hq0 := hK (us s 11 (wV (.agg #[.int .i64 f0, .int .i64 f1, .string f2, .slice Af lf.length cf]) (.pointer (some ⟨gc, 0, none⟩)) x1 x2 x3 n1 y1 y2 n2 b 11), b) w1 (by show DW _ _ _ _ _ _ _ _ _ _ _ _ _ _ _ _ _ _ (fun j => (l.setIfInBounds 11 true).getD j false) _ _ _; rw [e]; exact hI.pure (by decide) (by decide) (by decide) (List.forall_mem_cons.2 ⟨(hd { on := 7, ground := .data } (by simp) rfl), (List.forall_mem_cons.2 ⟨(hd { on := 10, ground := .data } (by simp) rfl), (fun _ h => absurd h List.not_mem_nil)⟩)⟩))
        subst hA
        simp only [putAll, ns45, Act.put, List.setIfInBounds_toArray, List.set_cons_zero, List.set_cons_succ] at hq0 ⊢
        exact hq0
      rw [e0] at hq
      exact hq
    · refine Aside0.mk ?_
      refine lit2_ (a1 := ?_) ?_ (fun e0 => ?_)
      rotate_left
      · subst hA
        simp only [putAll, ns45, Act.put, List.setIfInBounds_toArray, List.set_cons_zero, List.set_cons_succ]
        rfl
      refine bl2_step 28 #[.string (⟨#[103]⟩ : ByteArray), .string (⟨#[104]⟩ : ByteArray)] 9 2 (by rfl) ?_
      intro g' hg w2 hbox hb
      have hq : K ((putAll aA (ns45 s)).put (some 28) (.slice (some ⟨g', 0, none⟩) 2 2)) w2 := by
        have hq0 := hK (us s 12 (wV (.agg #[.int .i64 f0, .int .i64 f1, .string f2, .slice Af lf.length cf]) (.pointer (some ⟨gc, 0, none⟩)) x1 x2 x3 n1 y1 y2 n2 (ub b 12 g') 12), ub b 12 g') w2 (by show DW _ _ _ _ _ _ _ _ _ _ _ _ _ _ _ _ _ _ (fun j => (l.setIfInBounds 12 true).getD j false) _ _ _; rw [e]; exact hI.lit (by decide) hf (fun _ h => absurd h List.not_mem_nil) hg hbox hb)
        subst hA
        simp only [putAll, ns45, Act.put, List.setIfInBounds_toArray, List.set_cons_zero, List.set_cons_succ] at hq0 ⊢
        exact hq0
      rw [e0] at hq
      exact hq
    · refine Aside0.mk ?_
      refine lit2_ (a1 := ?_) ?_ (fun e0 => ?_)
      rotate_left
      · subst hA
        simp only [putAll, ns45, Act.put, List.setIfInBounds_toArray, List.set_cons_zero, List.set_cons_succ]
        rfl
      refine value_ (N := some 29) (by rfl) rfl (v := ?_) (w1 := w1) ?_ ?_
      rotate_left
      · go_simp
        with_reducible rfl
      have hq : K ((putAll aA (ns45 s)).put (some 29) (.pointer (some ⟨gc, 0, none⟩))) w1 := by
        have hq0 := hK (us s 13 (wV (.agg #[.int .i64 f0, .int .i64 f1, .string f2, .slice Af lf.length cf]) (.pointer (some ⟨gc, 0, none⟩)) x1 x2 x3 n1 y1 y2 n2 b 13), b) w1 (by show DW _ _ _ _ _ _ _ _ _ _ _ _ _ _ _ _ _ _ (fun j => (l.setIfInBounds 13 true).getD j false) _ _ _; rw [e]; exact hI.pure (by decide) (by decide) (by decide) (fun _ h => absurd h List.not_mem_nil))
        subst hA
        simp only [putAll, ns45, Act.put, List.setIfInBounds_toArray, List.set_cons_zero, List.set_cons_succ] at hq0 ⊢
        exact hq0
      rw [e0] at hq
      exact hq
    · refine Aside0.mk ?_
      refine Aside0.out ?_
      obtain ⟨k0_, k1_⟩ := hI.at14 hf (hd { on := 10, ground := .chain } (by simp) rfl)
      have hcu := hI.cur
      rw [k0_] at hcu
      refine Aside0.mk ?_
      have q13 := hI.of_true 13 (hd { on := 13, ground := .data } (by simp) rfl)
      dsimp only [wV] at q13
      refine lit2_ (a1 := ?_) ?_ (fun e0 => ?_)
      rotate_left
      · subst hA
        simp only [putAll, ns45, Act.put, List.setIfInBounds_toArray, List.set_cons_zero, List.set_cons_succ, q13]
        rfl
      refine goes_ Try.func64 (by kernel_rfl) rfl #[.pointer (some ⟨gc, 0, none⟩)] (by rfl) rfl rfl (by simp only [List.map_toArray, List.map_cons, List.map_nil]; rfl) ?_
      refine (spec_l1Word.calls gc lc (sq 4) (tq 4) y1 (sq 5) (tq 5) w w1 hcu hI.bel Hw5.out).mono ?_
      rintro _ w2 ⟨rfl, hi2, hB2, hk2⟩
      refine ⟨_, rfl, ?_⟩
      have hq : K ((putAll aA (ns45 s)).put (some 30) (.int .i64 y1)) w2 := by
        have hq0 := hK (us s 14 (wV (.agg #[.int .i64 f0, .int .i64 f1, .string f2, .slice Af lf.length cf]) (.pointer (some ⟨gc, 0, none⟩)) x1 x2 x3 n1 y1 y2 n2 b 14), b) w2 (by show DW _ _ _ _ _ _ _ _ _ _ _ _ _ _ _ _ _ _ (fun j => (l.setIfInBounds 14 true).getD j false) _ _ _; rw [e]; exact hI.call (by decide) (List.forall_mem_cons.2 ⟨(hd { on := 10, ground := .chain } (by simp) rfl), (fun _ h => absurd h List.not_mem_nil)⟩) hcS (by omega) (by rw [k1_]; exact hi2) hB2 hk2)
        subst hA
        simp only [putAll, ns45, Act.put, List.setIfInBounds_toArray, List.set_cons_zero, List.set_cons_succ] at hq0 ⊢
        exact hq0
      rw [e0] at hq
      exact hq
    · refine Aside0.mk ?_
      refine lit2_ (a1 := ?_) ?_ (fun e0 => ?_)
      rotate_left
      · subst hA
        simp only [putAll, ns45, Act.put, List.setIfInBounds_toArray, List.set_cons_zero, List.set_cons_succ]
        rfl
      refine value_ (N := some 31) (by rfl) rfl (v := ?_) (w1 := w1) ?_ ?_
      rotate_left
      · go_simp
        with_reducible rfl
      have hq : K ((putAll aA (ns45 s)).put (some 31) (.pointer (some ⟨gc, 0, none⟩))) w1 := by
        have hq0 := hK (us s 15 (wV (.agg #[.int .i64 f0, .int .i64 f1, .string f2, .slice Af lf.length cf]) (.pointer (some ⟨gc, 0, none⟩)) x1 x2 x3 n1 y1 y2 n2 b 15), b) w1 (by show DW _ _ _ _ _ _ _ _ _ _ _ _ _ _ _ _ _ _ (fun j => (l.setIfInBounds 15 true).getD j false) _ _ _; rw [e]; exact hI.pure (by decide) (by decide) (by decide) (fun _ h => absurd h List.not_mem_nil))
        subst hA
        simp only [putAll, ns45, Act.put, List.setIfInBounds_toArray, List.set_cons_zero, List.set_cons_succ] at hq0 ⊢
        exact hq0
      rw [e0] at hq
      exact hq
    · refine Aside0.mk ?_
      refine Aside0.out ?_
      obtain ⟨k0_, k1_⟩ := hI.at16 hf (hd { on := 14, ground := .chain } (by simp) rfl)
      have hcu := hI.cur
      rw [k0_] at hcu
      refine Aside0.mk ?_
      have q15 := hI.of_true 15 (hd { on := 15, ground := .data } (by simp) rfl)
      dsimp only [wV] at q15
      refine lit2_ (a1 := ?_) ?_ (fun e0 => ?_)
      rotate_left
      · subst hA
        simp only [putAll, ns45, Act.put, List.setIfInBounds_toArray, List.set_cons_zero, List.set_cons_succ, q15]
        rfl
      refine goes_ Try.func65 (by kernel_rfl) rfl #[.pointer (some ⟨gc, 0, none⟩)] (by rfl) rfl rfl (by simp only [List.map_toArray, List.map_cons, List.map_nil]; rfl) ?_
      refine (spec_l1Num.calls gc lc (sq 5) (tq 5) y2 (sq 6) (tq 6) w w1 hcu hI.bel Hw6.out).mono ?_
      rintro _ w2 ⟨rfl, hi2, hB2, hk2⟩
      refine ⟨_, rfl, ?_⟩
      have hq : K ((putAll aA (ns45 s)).put (some 32) (.int .i64 y2)) w2 := by
        have hq0 := hK (us s 16 (wV (.agg #[.int .i64 f0, .int .i64 f1, .string f2, .slice Af lf.length cf]) (.pointer (some ⟨gc, 0, none⟩)) x1 x2 x3 n1 y1 y2 n2 b 16), b) w2 (by show DW _ _ _ _ _ _ _ _ _ _ _ _ _ _ _ _ _ _ (fun j => (l.setIfInBounds 16 true).getD j false) _ _ _; rw [e]; exact hI.call (by decide) (List.forall_mem_cons.2 ⟨(hd { on := 14, ground := .chain } (by simp) rfl), (fun _ h => absurd h List.not_mem_nil)⟩) hcS (by omega) (by rw [k1_]; exact hi2) hB2 hk2)
        subst hA
        simp only [putAll, ns45, Act.put, List.setIfInBounds_toArray, List.set_cons_zero, List.set_cons_succ] at hq0 ⊢
        exact hq0
      rw [e0] at hq
      exact hq
    · refine Aside0.mk ?_
      have q14 := hI.of_true 14 (hd { on := 14, ground := .data } (by simp) rfl)
      have q16 := hI.of_true 16 (hd { on := 16, ground := .data } (by simp) rfl)
      dsimp only [wV] at q14
      dsimp only [wV] at q16
      refine lit2_ (a1 := ?_) ?_ (fun e0 => ?_)
      rotate_left
      · subst hA
        simp only [putAll, ns45, Act.put, List.setIfInBounds_toArray, List.set_cons_zero, List.set_cons_succ, q14, q16]
        rfl
      refine bl2_step 33 #[.int .i64 y1, .int .i64 y2] 3 2 (by rfl) ?_
      intro g' hg w2 hbox hb
      have hq : K ((putAll aA (ns45 s)).put (some 33) (.slice (some ⟨g', 0, none⟩) 2 2)) w2 := by
        have hq0 := hK (us s 17 (wV (.agg #[.int .i64 f0, .int .i64 f1, .string f2, .slice Af lf.length cf]) (.pointer (some ⟨gc, 0, none⟩)) x1 x2 x3 n1 y1 y2 n2 (ub b 17 g') 17), ub b 17 g') w2 (by show DW _ _ _ _ _ _ _ _ _ _ _ _ _ _ _ _ _ _ (fun j => (l.setIfInBounds 17 true).getD j false) _ _ _; rw [e]; exact hI.lit (by decide) hf (List.forall_mem_cons.2 ⟨(hd { on := 14, ground := .data } (by simp) rfl), (List.forall_mem_cons.2 ⟨(hd { on := 16, ground := .data } (by simp) rfl), (fun _ h => absurd h List.not_mem_nil)⟩)⟩) hg hbox hb)
        subst hA
        simp only [putAll, ns45, Act.put, List.setIfInBounds_toArray, List.set_cons_zero, List.set_cons_succ] at hq0 ⊢
        exact hq0
      rw [e0] at hq
      exact hq
    · refine Aside0.mk ?_
      refine lit2_ (a1 := ?_) ?_ (fun e0 => ?_)
      rotate_left
      · subst hA
        simp only [putAll, ns45, Act.put, List.setIfInBounds_toArray, List.set_cons_zero, List.set_cons_succ]
        rfl
      refine value_ (N := some 34) (by rfl) rfl (v := ?_) (w1 := w1) ?_ ?_
      rotate_left
      · go_simp
        with_reducible rfl
      have hq : K ((putAll aA (ns45 s)).put (some 34) (.pointer (some ⟨gc, 0, none⟩))) w1 := by
        have hq0 := hK (us s 18 (wV (.agg #[.int .i64 f0, .int .i64 f1, .string f2, .slice Af lf.length cf]) (.pointer (some ⟨gc, 0, none⟩)) x1 x2 x3 n1 y1 y2 n2 b 18), b) w1 (by show DW _ _ _ _ _ _ _ _ _ _ _ _ _ _ _ _ _ _ (fun j => (l.setIfInBounds 18 true).getD j false) _ _ _; rw [e]; exact hI.pure (by decide) (by decide) (by decide) (fun _ h => absurd h List.not_mem_nil))
        subst hA
        simp only [putAll, ns45, Act.put, List.setIfInBounds_toArray, List.set_cons_zero, List.set_cons_succ] at hq0 ⊢
        exact hq0
      rw [e0] at hq
      exact hq
    · refine Aside0.mk ?_
      refine lit2_ (a1 := ?_) ?_ (fun e0 => ?_)
      rotate_left
      · subst hA
        simp only [putAll, ns45, Act.put, List.setIfInBounds_toArray, List.set_cons_zero, List.set_cons_succ]
        rfl
      refine bl2_step 35 #[.int .i64 2, .int .i64 2, .int .i64 2, .int .i64 1] 3 4 (by rfl) ?_
      intro g' hg w2 hbox hb
      have hq : K ((putAll aA (ns45 s)).put (some 35) (.slice (some ⟨g', 0, none⟩) 4 4)) w2 := by
        have hq0 := hK (us s 19 (wV (.agg #[.int .i64 f0, .int .i64 f1, .string f2, .slice Af lf.length cf]) (.pointer (some ⟨gc, 0, none⟩)) x1 x2 x3 n1 y1 y2 n2 (ub b 19 g') 19), ub b 19 g') w2 (by show DW _ _ _ _ _ _ _ _ _ _ _ _ _ _ _ _ _ _ (fun j => (l.setIfInBounds 19 true).getD j false) _ _ _; rw [e]; exact hI.lit (by decide) hf (fun _ h => absurd h List.not_mem_nil) hg hbox hb)
        subst hA
        simp only [putAll, ns45, Act.put, List.setIfInBounds_toArray, List.set_cons_zero, List.set_cons_succ] at hq0 ⊢
        exact hq0
      rw [e0] at hq
      exact hq
    · refine Aside0.mk ?_
      refine Aside0.out ?_
      obtain ⟨k0_, k1_⟩ := hI.at20 hf (hd { on := 16, ground := .chain } (by simp) rfl)
      have hcu := hI.cur
      rw [k0_] at hcu
      refine Aside0.mk ?_
      have hrw := hI.row 19 (by decide) (hd { on := 19, ground := .data } (by simp) rfl)
      have q19 := hI.of_true 19 (hd { on := 19, ground := .data } (by simp) rfl)
      dsimp only [wV] at q19
      have hF_ : Kd.C (Kd.int .i64) w1 (some ⟨b 19, 0, none⟩) 4 ([2, 2, 2, 1] : List Int) := Kd.F_now (plain_F (enc := Value.int .i64) (lo := b 19) (hi := b 19 + 1) (xs := ([2, 2, 2, 1] : List Int)) 4 hrw.2 ⟨Nat.le_refl _, Nat.lt_succ_self _⟩ rfl (by decide))
      have q18 := hI.of_true 18 (hd { on := 18, ground := .data } (by simp) rfl)
      dsimp only [wV] at q18
      refine lit2_ (a1 := ?_) ?_ (fun e0 => ?_)
      rotate_left
      · subst hA
        simp only [putAll, ns45, Act.put, List.setIfInBounds_toArray, List.set_cons_zero, List.set_cons_succ, q18, q19]
        rfl
      refine goes_ Try.func66 (by kernel_rfl) rfl #[.pointer (some ⟨gc, 0, none⟩), .slice (some ⟨b 19, 0, none⟩) 4 4] (by rfl) rfl rfl (by simp only [List.map_toArray, List.map_cons, List.map_nil]; rfl) ?_
      refine (spec_l1Int.calls gc lc (sq 6) (tq 6) (some ⟨b 19, 0, none⟩) 4 [2, 2, 2, 1] n2 (sq 7) (tq 7) w w1 hcu hI.bel hF_ (by decide) (fun ad h_ _ => by obtain rfl := Option.some.inj h_; show b 19 ≠ gc; have := hrw.1; have := hcS; omega) Hw7.out).mono ?_
      rintro _ w2 ⟨rfl, hi2, hB2, hk2⟩
      refine ⟨_, rfl, ?_⟩
      have hq : K ((putAll aA (ns45 s)).put (some 36) (.int .i64 n2)) w2 := by
        have hq0 := hK (us s 20 (wV (.agg #[.int .i64 f0, .int .i64 f1, .string f2, .slice Af lf.length cf]) (.pointer (some ⟨gc, 0, none⟩)) x1 x2 x3 n1 y1 y2 n2 b 20), b) w2 (by show DW _ _ _ _ _ _ _ _ _ _ _ _ _ _ _ _ _ _ (fun j => (l.setIfInBounds 20 true).getD j false) _ _ _; rw [e]; exact hI.call (by decide) (List.forall_mem_cons.2 ⟨(hd { on := 16, ground := .chain } (by simp) rfl), (List.forall_mem_cons.2 ⟨(hd { on := 19, ground := .data } (by simp) rfl), (fun _ h => absurd h List.not_mem_nil)⟩)⟩) hcS (by omega) (by rw [k1_]; exact hi2) hB2 hk2)
        subst hA
        simp only [putAll, ns45, Act.put, List.setIfInBounds_toArray, List.set_cons_zero, List.set_cons_succ] at hq0 ⊢
        exact hq0
      rw [e0] at hq
      exact hq
    · have q17 := hI.of_true 17 (hd { on := 17, ground := .data } (by simp) rfl)
      have q20 := hI.of_true 20 (hd { on := 20, ground := .data } (by simp) rfl)
      dsimp only [wV] at q17
      dsimp only [wV] at q20
      refine lit2A_ (a1 := ?_) ?_ (fun e0 => ?_)
      rotate_left
      · subst hA
        simp only [putAll, ns45, Act.put, List.setIfInBounds_toArray, List.set_cons_zero, List.set_cons_succ, q17, q20]
        rfl
      refine valueA_ (N := some 37) (by rfl) rfl (v := .slice (some ⟨b 17, 0, none⟩) n2.toNat 2) (w1 := w1) ?_ ?_
      · exact slice_yields (oi := _) 39 3 (.tmp 33) (.tmp 36) .i64 Try.underlying39 (by rfl) (by rfl) (some ⟨b 17, 0, none⟩) 2 2 n2 (by rfl) (by rfl) hn2.1 (by have := hn2.2; omega) (Nat.le_refl _)
      have hq : K ((putAll aA (ns45 s)).put (some 37) (.slice (some ⟨b 17, 0, none⟩) n2.toNat 2)) w1 := by
        have hq0 := hK (us s 21 (wV (.agg #[.int .i64 f0, .int .i64 f1, .string f2, .slice Af lf.length cf]) (.pointer (some ⟨gc, 0, none⟩)) x1 x2 x3 n1 y1 y2 n2 b 21), b) w1 (by show DW _ _ _ _ _ _ _ _ _ _ _ _ _ _ _ _ _ _ (fun j => (l.setIfInBounds 21 true).getD j false) _ _ _; rw [e]; exact hI.pure (by decide) (by decide) (by decide) (List.forall_mem_cons.2 ⟨(hd { on := 17, ground := .data } (by simp) rfl), (List.forall_mem_cons.2 ⟨(hd { on := 20, ground := .data } (by simp) rfl), (fun _ h => absurd h List.not_mem_nil)⟩)⟩))
        subst hA
        simp only [putAll, ns45, Act.put, List.setIfInBounds_toArray, List.set_cons_zero, List.set_cons_succ] at hq0 ⊢
        exact hq0
      rw [e0] at hq
      exact hq
    · have q0 := hI.of_true 0 (hd { on := 0, ground := .data } (by simp) rfl)
      dsimp only [wV] at q0
      refine lit2A_ (a1 := ?_) ?_ (fun e0 => ?_)
      rotate_left
      · subst hA
        simp only [putAll, ns45, Act.put, List.setIfInBounds_toArray, List.set_cons_zero, List.set_cons_succ, q0]
        rfl
      refine storeA_ (by rfl) rfl 29 (.tmp 2) (.tmp 16) rfl (cs := #[.int .i64 f0, .int .i64 f1, .string f2, .slice Af lf.length cf]) (by rfl) (by rfl) (g := g2) (t' := 29) (old := #[.int .i64 0, .int .i64 0, .string (⟨#[]⟩ : ByteArray), .slice none 0 0]) (hI.two.trans (congrArg some (if_neg (fun (h_ : (fun j => l.getD j false) 22 = true) => absurd (h_.symm.trans hf) (by decide))))) (by kernel_rfl) rfl (by repeat (first | exact fun _ h => absurd h List.not_mem_nil | refine List.forall_mem_cons.2 ⟨rfl, ?_⟩)) ?_
      intro w2 hbox hc
      have hq : K (putAll aA (ns45 s)) w2 := hK (s, b) w2 (by show DW _ _ _ _ _ _ _ _ _ _ _ _ _ _ _ _ _ _ (fun j => (l.setIfInBounds 22 true).getD j false) _ _ _; rw [e]; exact hI.store (List.forall_mem_cons.2 ⟨(hd { on := 0, ground := .data } (by simp) rfl), (List.forall_mem_cons.2 ⟨(hd { on := 20, ground := .chain } (by simp) rfl), (fun _ h => absurd h List.not_mem_nil)⟩)⟩) (blk_lt BK2.out) (by omega) hbox hc (by omega))
      rw [e0] at hq
      exact hq
    · refine Aside0.mk ?_
      have q11 := hI.of_true 11 (hd { on := 11, ground := .data } (by simp) rfl)
      dsimp only [wV] at q11
      refine lit2_ (a1 := ?_) ?_ (fun e0 => ?_)
      rotate_left
      · subst hA
        simp only [putAll, ns45, Act.put, List.setIfInBounds_toArray, List.set_cons_zero, List.set_cons_succ, q11]
        rfl
      refine value_ (N := some 3) (by rfl) rfl (v := ?_) (w1 := w1) ?_ ?_
      rotate_left
      · go_simp
        with_reducible rfl
      have hq : K ((putAll aA (ns45 s)).put (some 3) (.slice (some ⟨b 7, 0, none⟩) n1.toNat 3)) w1 := by
        have hq0 := hK (us s 23 (wV (.agg #[.int .i64 f0, .int .i64 f1, .string f2, .slice Af lf.length cf]) (.pointer (some ⟨gc, 0, none⟩)) x1 x2 x3 n1 y1 y2 n2 b 23), b) w1 (by show DW _ _ _ _ _ _ _ _ _ _ _ _ _ _ _ _ _ _ (fun j => (l.setIfInBounds 23 true).getD j false) _ _ _; rw [e]; exact hI.pure (by decide) (by decide) (by decide) (List.forall_mem_cons.2 ⟨(hd { on := 11, ground := .data } (by simp) rfl), (List.forall_mem_cons.2 ⟨(hd { on := 22, ground := .chain } (by simp) rfl), (fun _ h => absurd h List.not_mem_nil)⟩)⟩))
        subst hA
        simp only [putAll, ns45, Act.put, List.setIfInBounds_toArray, List.set_cons_zero, List.set_cons_succ] at hq0 ⊢
        exact hq0
      rw [e0] at hq
      exact hq
    · refine Aside0.mk ?_
      have q12 := hI.of_true 12 (hd { on := 12, ground := .data } (by simp) rfl)
      dsimp only [wV] at q12
      refine lit2_ (a1 := ?_) ?_ (fun e0 => ?_)
      rotate_left
      · subst hA
        simp only [putAll, ns45, Act.put, List.setIfInBounds_toArray, List.set_cons_zero, List.set_cons_succ, q12]
        rfl
      refine value_ (N := some 4) (by rfl) rfl (v := ?_) (w1 := w1) ?_ ?_
      rotate_left
      · go_simp
        with_reducible rfl
      have hq : K ((putAll aA (ns45 s)).put (some 4) (.slice (some ⟨b 12, 0, none⟩) 2 2)) w1 := by
        have hq0 := hK (us s 24 (wV (.agg #[.int .i64 f0, .int .i64 f1, .string f2, .slice Af lf.length cf]) (.pointer (some ⟨gc, 0, none⟩)) x1 x2 x3 n1 y1 y2 n2 b 24), b) w1 (by show DW _ _ _ _ _ _ _ _ _ _ _ _ _ _ _ _ _ _ (fun j => (l.setIfInBounds 24 true).getD j false) _ _ _; rw [e]; exact hI.pure (by decide) (by decide) (by decide) (List.forall_mem_cons.2 ⟨(hd { on := 12, ground := .data } (by simp) rfl), (List.forall_mem_cons.2 ⟨(hd { on := 23, ground := .chain } (by simp) rfl), (fun _ h => absurd h List.not_mem_nil)⟩)⟩))
        subst hA
        simp only [putAll, ns45, Act.put, List.setIfInBounds_toArray, List.set_cons_zero, List.set_cons_succ] at hq0 ⊢
        exact hq0
      rw [e0] at hq
      exact hq
    · refine Aside0.mk ?_
      have q21 := hI.of_true 21 (hd { on := 21, ground := .data } (by simp) rfl)
      dsimp only [wV] at q21
      refine lit2_ (a1 := ?_) ?_ (fun e0 => ?_)
      rotate_left
      · subst hA
        simp only [putAll, ns45, Act.put, List.setIfInBounds_toArray, List.set_cons_zero, List.set_cons_succ, q21]
        rfl
      refine value_ (N := some 5) (by rfl) rfl (v := ?_) (w1 := w1) ?_ ?_
      rotate_left
      · go_simp
        with_reducible rfl
      have hq : K ((putAll aA (ns45 s)).put (some 5) (.slice (some ⟨b 17, 0, none⟩) n2.toNat 2)) w1 := by
        have hq0 := hK (us s 25 (wV (.agg #[.int .i64 f0, .int .i64 f1, .string f2, .slice Af lf.length cf]) (.pointer (some ⟨gc, 0, none⟩)) x1 x2 x3 n1 y1 y2 n2 b 25), b) w1 (by show DW _ _ _ _ _ _ _ _ _ _ _ _ _ _ _ _ _ _ (fun j => (l.setIfInBounds 25 true).getD j false) _ _ _; rw [e]; exact hI.pure (by decide) (by decide) (by decide) (List.forall_mem_cons.2 ⟨(hd { on := 21, ground := .data } (by simp) rfl), (List.forall_mem_cons.2 ⟨(hd { on := 24, ground := .chain } (by simp) rfl), (fun _ h => absurd h List.not_mem_nil)⟩)⟩))
        subst hA
        simp only [putAll, ns45, Act.put, List.setIfInBounds_toArray, List.set_cons_zero, List.set_cons_succ] at hq0 ⊢
        exact hq0
      rw [e0] at hq
      exact hq
  case stop =>
    rintro ⟨s, b⟩ w2 hI
    dsimp only at hI
    have z23 := hI.of_true 23 (getD_rept (by decide))
    have z24 := hI.of_true 24 (getD_rept (by decide))
    have z25 := hI.of_true 25 (getD_rept (by decide))
    dsimp only [wV] at z23 z24 z25
    have htwo : w2.heap[g2]? = some (.cells #[.int .i64 f0, .int .i64 f1, .string f2, .slice Af lf.length cf] 29 (0, 0)) := hI.two.trans (by rw [if_pos (getD_rept (by decide))])
    have r7 := hI.row 7 (by decide) (getD_rept (by decide))
    have r12 := hI.row 12 (by decide) (getD_rept (by decide))
    have r17 := hI.row 17 (by decide) (getD_rept (by decide))
    subst hA
    simp only [putAll, ns45, Act.put, List.setIfInBounds_toArray, List.set_cons_zero, List.set_cons_succ, z23, z24, z25]
    go_wp2
    have hsz := hI.size
    have hS_ := S.out
    have l7 := blk_lt r7.2
    have l12 := blk_lt r12.2
    have l17 := blk_lt r17.2
    have hb0 := HB.out.size
    have e1_ : n1.toNat = ([x1, x2, x3].take n1.toNat).length := by simp; omega
    have e2_ : n2.toNat = ([y1, y2].take n2.toNat).length := by simp; omega
    have F1_ : Kd.F (Kd.int .i64) w2 (fun k => w.heap.size ≤ k ∧ k < w2.heap.size) (some ⟨b 7, 0, none⟩) ([x1, x2, x3].take n1.toNat).length ([x1, x2, x3].take n1.toNat) := Kd.F_take (m := n1.toNat) (plain_F (enc := Value.int .i64) (lo := w.heap.size) (hi := w2.heap.size) (xs := [x1, x2, x3]) 3 r7.2 ⟨by have := r7.1; omega, l7⟩ rfl (by decide)) (by simp; omega)
    have F2_ : Kd.F (Kd.int .i64) w2 (fun k => w.heap.size ≤ k ∧ k < w2.heap.size) (some ⟨b 17, 0, none⟩) ([y1, y2].take n2.toNat).length ([y1, y2].take n2.toNat) := Kd.F_take (m := n2.toNat) (plain_F (enc := Value.int .i64) (lo := w.heap.size) (hi := w2.heap.size) (xs := [y1, y2]) 2 r17.2 ⟨by have := r17.1; omega, l17⟩ rfl (by decide)) (by simp; omega)
    rw [← e1_] at F1_
    rw [← e2_] at F2_
    refine bodyPost_ret (results_list (rs := [.cell 2 29, .tmp 3, .tmp 4, .tmp 5]) rfl (by simp) (.cell g2 29 #[.int .i64 f0, .int .i64 f1, .string f2, .slice Af lf.length cf] (0, 0) _ rfl htwo Try.underlying29 rfl (by kernel_rfl) (.tmp (.tmp (.tmp .nil))))) rfl ?_
    refine ⟨_, _, some ⟨b 7, 0, none⟩, some ⟨b 12, 0, none⟩, some ⟨b 17, 0, none⟩, rfl, hlf, Kd.F_mono (Kd.F_step Tf.out (fun k hk hlt => hI.blk k hlt (by omega) (by omega))) (fun k hk => ⟨by omega, by omega⟩), F1_, plain_F (enc := Value.string) (xs := [(⟨#[103]⟩ : ByteArray), (⟨#[104]⟩ : ByteArray)]) 2 r12.2 ⟨by have := r12.1; omega, l12⟩ rfl (by decide), F2_, hI.bel⟩
set_option maxHeartbeats 32000000 in
set_option maxRecDepth 100000 in
theorem spec_DrawWorth.q1 (k : Nat) (Ab : Option Addr) (cb : Nat) (lb : List Int) (lc : List Int) (s0 t0 s1 t1 s2 t2 : Int) (sq tq : Nat → Int) (f0 f1 : Int) (f2 : ByteArray) (lf : List S29) (v0 v1 : Int) (v2 : ByteArray) (lv : List S29) (x1 x2 x3 n1 y1 y2 n2 : Int) (w : World) (hr : Kd.C (Kd.int .u8) w Ab lb.length lb) (hc : lb.length ≤ cb) (hn : spec_l1New.f k lb = some (lc, s0, t0)) (hf : spec_l11Flat.f k lc s0 t0 3 = some (f0, f1, f2, lf, s1, t1)) (ho : spec_l1Once.f lc s1 t1 6 = some (true, s2, t2)) (hv : spec_l10Any.f k lc s2 t2 = some (v0, v1, v2, lv, sq 0, tq 0)) (hw1 : spec_l1Word.f lc (sq 0) (tq 0) = some (x1, sq 1, tq 1)) (hw2 : spec_l1Word.f lc (sq 1) (tq 1) = some (x2, sq 2, tq 2)) (hw3 : spec_l1Num.f lc (sq 2) (tq 2) = some (x3, sq 3, tq 3)) (hw4 : spec_l1Int.f lc (sq 3) (tq 3) [3, 3, 3, 1] = some (n1, sq 4, tq 4)) (hw5 : spec_l1Word.f lc (sq 4) (tq 4) = some (y1, sq 5, tq 5)) (hw6 : spec_l1Num.f lc (sq 5) (tq 5) = some (y2, sq 6, tq 6)) (hw7 : spec_l1Int.f lc (sq 6) (tq 6) [2, 2, 2, 1] = some (n2, sq 7, tq 7)) (hn1 : 0 ≤ n1 ∧ n1 ≤ 3) (hn2 : 0 ≤ n2 ∧ n2 ≤ 2) :
    Calls Try.prog 45 #[.slice Ab lb.length cb] w fun e w' => ∃ (Au : Option Addr) (cu : Nat) (A1 A2 A3 : Option Addr), e = .returned (.tuple #[.agg #[.int .i64 v0, .int .i64 v1, .string v2, .slice Au lv.length cu], .slice A1 ([x1, x2, x3].take n1.toNat).length 3, .slice A2 2 2, .slice A3 ([y1, y2].take n2.toNat).length 2]) ∧ lv.length ≤ cu ∧ Kd.F k29 w' (fun k => w.heap.size ≤ k ∧ k < w'.heap.size) Au lv.length lv ∧ Kd.F (Kd.int .i64) w' (fun k => w.heap.size ≤ k ∧ k < w'.heap.size) A1 ([x1, x2, x3].take n1.toNat).length ([x1, x2, x3].take n1.toNat) ∧ Kd.F Kd.string w' (fun k => w.heap.size ≤ k ∧ k < w'.heap.size) A2 2 [(⟨#[103]⟩ : ByteArray), (⟨#[104]⟩ : ByteArray)] ∧ Kd.F (Kd.int .i64) w' (fun k => w.heap.size ≤ k ∧ k < w'.heap.size) A3 ([y1, y2].take n2.toNat).length ([y1, y2].take n2.toNat) ∧ Below w.heap.size w w' := by
  have HR := A_ hr
  have HC := A_ hc
  clear hr hc
  have HB := A_ (Below.refl w.heap.size w)
  have S : Aside0 (w.heap.size ≤ w.heap.size) := A_ (Nat.le_refl _)
  have Hn := A_ hn
  have Hf := A_ hf
  have Ho := A_ ho
  clear hn hf ho
  have Hv := A_ hv
  clear hv
  have Hw1 := A_ hw1
  have Hw2 := A_ hw2
  have Hw3 := A_ hw3
  have Hw4 := A_ hw4
  have Hw5 := A_ hw5
  have Hw6 := A_ hw6
  have Hw7 := A_ hw7
  clear hw1 hw2 hw3 hw4 hw5 hw6 hw7
  go_enter Try.func45, Try.ntmps45
  go_wp2_with (first | ((with_reducible refine gate_dst (N := 2) rfl ?_); refine bx_ 2 #[.int .i64 0, .int .i64 0, .string (⟨#[]⟩ : ByteArray), .slice none 0 0] 29 ?_; intro g2 hg w' hbox hb; have hc := co_ hb; have F1 : w.heap.size ≤ g2 := (by have := S.out; omega); clear hg; replace HB := hz_ hc HB; replace S := t_ hc S; clear S; have S : Aside0 (g2 + 1 ≤ w'.heap.size) := A_ (blk_lt hbox); have BK2 := A_ hbox; clear hbox hb hc) | ((with_reducible refine gate_callee (f := 48) rfl ?_); (try (refine gate_guard (by rfl) ?_; dsimp only)); refine gL_ (some 9) Try.func48 #[.slice Ab lb.length cb] ?_; refine (spec_l1New.calls k Ab cb lb lc s0 t0 w _ HB.out HR.out HC.out Hn.out).mono ?_; have hS_ := S.out; rintro e w' ⟨gc, rfl, hi, hB1, hb⟩; have hc := co_ hb; refine ⟨_, rfl, ?_⟩; replace BK2 := bz_ hc BK2; replace HB := hz_ hc HB; replace S := t_ hc S; have HI := A_ hi; clear hi hB1; have F2 : gc ≠ g2 := (IsS77.ne_blk HI.out BK2.out (by decide)); obtain ⟨tp, htp_⟩ : ∃ q_, q_ = w'.heap.size := ⟨_, rfl⟩; have F3 : gc + 1 ≤ tp := (by have := IsS77.lt HI.out; omega); have F4 : w.heap.size ≤ gc := (IsS77.ge HI.out); have F5 : g2 + 1 ≤ tp := (by have := S.out; omega); clear S; have S : Aside0 (tp ≤ w'.heap.size) := A_ (by omega); clear hb hc hS_ htp_) | ((with_reducible refine gate_callee (f := 63) rfl ?_); (try (refine gate_guard (by rfl) ?_; dsimp only)); refine gL_ (some 11) Try.func63 #[.pointer (some ⟨gc, 0, none⟩), .int .i64 3] ?_; obtain ⟨lof, hlo_⟩ : ∃ q_, q_ = w'.heap.size := ⟨_, rfl⟩; have F6 : tp ≤ lof := (by have := S.out; omega); refine (spec_l11Flat.calls k gc lc s0 t0 3 f0 f1 f2 lf s1 t1 w _ HI.out HB.out Hf.out).mono ?_; rintro e w' ⟨vv_, rfl, hR, hi, hB1, hk⟩; obtain ⟨Af, cf, rfl, hlf, hF⟩ := N_in hR; have hc := k_ch hk HB.out hB1; refine ⟨_, rfl, ?_⟩; rw [← hlo_] at hF; obtain ⟨hif, hhi_⟩ : ∃ q_, q_ = w'.heap.size := ⟨_, rfl⟩; rw [← hhi_] at hF; have F7 : lof ≤ hif := (by have := hc.size; omega); replace BK2 := bs_ hc BK2 (by have := S.out; omega); replace HB := hs_ hc HB (by have := S.out; omega); replace S := t_ hc S; clear HI; have HI := A_ hi; clear hi hB1 hk; clear S hR hc; have S : Aside0 (hif ≤ w'.heap.size) := A_ (by omega); have Tf := A_ hF; clear hF hlo_ hhi_) | ((with_reducible refine gate_dst (N := 7) rfl ?_); refine bx_ 7 #[.int .i64 0, .int .i64 0, .string (⟨#[]⟩ : ByteArray), .slice none 0 0] 29 ?_; intro g7 hg w' hbox hb; have hc := co_ hb; have F8 : hif ≤ g7 := (by have := S.out; omega); clear hg; replace BK2 := bz_ hc BK2; replace HI := iz_ hc HI; replace Tf := fz_ hc Tf; replace HB := hz_ hc HB; replace S := t_ hc S; clear S; have S : Aside0 (g7 + 1 ≤ w'.heap.size) := A_ (blk_lt hbox); have BK7 := A_ hbox; clear hbox hb hc) | ((with_reducible refine gate_ (.store 29 (.tmp 7) (.tmp 11)) rfl ?_); refine ss_ 29 7 11 #[.int .i64 f0, .int .i64 f1, .string f2, .slice Af lf.length cf] BK7.out ?_; intro w' hbox hc; replace BK2 := bs_ hc BK2 (by have := S.out; omega); replace HI := is_ hc HI (by have := S.out; omega); replace Tf := fs_ hc Tf (by have := S.out; omega); replace HB := hs_ hc HB (by have := S.out; omega); replace S := t_ hc S; clear BK7; have BK7 := A_ hbox; clear hbox hc) | ((with_reducible refine gate_callee (f := 50) rfl ?_); (try (refine gate_guard (by rfl) ?_; dsimp only)); refine gL_ (some 13) Try.func50 #[.pointer (some ⟨gc, 0, none⟩), .int .i64 6] ?_; refine (spec_l1Once.calls gc lc s1 t1 6 true s2 t2 w _ HI.out HB.out Ho.out).mono ?_; rintro e w' ⟨rfl, hi, hB1, hk⟩; have hc := k_ch hk HB.out hB1; refine ⟨_, rfl, ?_⟩; replace BK2 := bs_ hc BK2 (by have := S.out; omega); replace Tf := fs_ hc Tf (by have := S.out; omega); replace BK7 := bs_ hc BK7 (by have := S.out; omega); replace HB := hs_ hc HB (by have := S.out; omega); replace S := t_ hc S; clear HI; have HI := A_ hi; clear hi hB1 hk hc) | ((with_reducible refine gate_callee (f := 49) rfl ?_); (try (refine gate_guard (by rfl) ?_; dsimp only)); refine gL_ (some 15) Try.func49 #[.pointer (some ⟨gc, 0, none⟩)] ?_; obtain ⟨lov, hlo_⟩ : ∃ q_, q_ = w'.heap.size := ⟨_, rfl⟩; have F9 : g7 + 1 ≤ lov := (by have := S.out; omega); refine (spec_l10Any.calls k gc lc s2 t2 v0 v1 v2 lv (sq 0) (tq 0) w _ HI.out HB.out Hv.out).mono ?_; rintro e w' ⟨vv_, rfl, hR, hi, hB1, hk⟩; obtain ⟨Av, cv, rfl, hlv, hF⟩ := N_in hR; have hc := k_ch hk HB.out hB1; refine ⟨_, rfl, ?_⟩; rw [← hlo_] at hF; obtain ⟨hiv, hhi_⟩ : ∃ q_, q_ = w'.heap.size := ⟨_, rfl⟩; rw [← hhi_] at hF; have F10 : lov ≤ hiv := (by have := hc.size; omega); replace BK2 := bs_ hc BK2 (by have := S.out; omega); replace Tf := fs_ hc Tf (by have := S.out; omega); replace BK7 := bs_ hc BK7 (by have := S.out; omega); replace HB := hs_ hc HB (by have := S.out; omega); replace S := t_ hc S; clear HI; have HI := A_ hi; clear hi hB1 hk; clear S hR hc; have S : Aside0 (hiv ≤ w'.heap.size) := A_ (by omega); have Tv := A_ hF; clear hF hlo_ hhi_) | ((with_reducible refine gate_ (.store 29 (.tmp 7) (.tmp 15)) rfl ?_); refine ss_ 29 7 15 #[.int .i64 v0, .int .i64 v1, .string v2, .slice Av lv.length cv] BK7.out ?_; intro w' hbox hc; replace BK2 := bs_ hc BK2 (by have := S.out; omega); replace HI := is_ hc HI (by have := S.out; omega); replace Tf := fs_ hc Tf (by have := S.out; omega); replace Tv := fs_ hc Tv (by have := S.out; omega); replace HB := hs_ hc HB (by have := S.out; omega); replace S := t_ hc S; clear BK7; have BK7 := A_ hbox; clear hbox hc))
  have hc := Ch.drew w'
  replace BK2 := bz_ hc BK2
  replace HI := iz_ hc HI
  replace Tf := fz_ hc Tf
  replace BK7 := bz_ hc BK7
  replace Tv := fz_ hc Tv
  replace HB := hz_ hc HB
  replace S := t_ hc S
  clear hc
  refine start_ (n := 26) (S := fun _ => True) (ds := []) #[false, false, false, false, false, false, false, false, false, false, false, false, false, false, false, false, false, false, false, false, false, false, false, false, false, false] (by kernel_rfl) rfl rfl trivial (fun _ => ?_)
  generalize w'.drew = w' at BK2 HI Tf BK7 Tv HB S ⊢
  have hcS : gc < w'.heap.size := IsS77.lt HI.out
  first | generalize hA : Act.put _ _ _ = aA | generalize hA : Act.mk _ _ = aA
  refine open2_ (n := 26) (σ := (Nat → Value) × (Nat → Nat)) (fun s => ns45 s.1) (fun l s w1 => DW (.agg #[.int .i64 v0, .int .i64 v1, .string v2, .slice Av lv.length cv]) (.pointer (some ⟨gc, 0, none⟩)) x1 x2 x3 n1 y1 y2 n2 (.cells #[.int .i64 v0, .int .i64 v1, .string v2, .slice Av lv.length cv] 29 (0, 0)) (.cells #[.int .i64 0, .int .i64 0, .string (⟨#[]⟩ : ByteArray), .slice none 0 0] 29 (0, 0)) sq tq lc w w' gc g2 (fun j => l.getD j false) s.1 s.2 w1) rfl (by kernel_rfl) ?step ?stop (wU, fun _ => 0) ?act rfl (by decide) ?init
  case act =>
    subst hA
    simp only [putAll, ns45, Act.put, List.setIfInBounds_toArray, List.set_cons_zero, List.set_cons_succ, wU]
  case init =>
    have l0_ : ∀ i, (#[false, false, false, false, false, false, false, false, false, false, false, false, false, false, false, false, false, false, false, false, false, false, false, false, false, false] : Array Bool).getD i false = false := fun i => getD_rep 26 i
    refine ⟨fun i hi h22 => ?_, fun i hi h => absurd (h.symm.trans (l0_ i)) (by decide), fun i h => absurd (h.symm.trans (l0_ i)) (by decide), ?_, HB.out, rfl, rfl, rfl, Nat.le_refl _, fun _ _ _ _ => rfl, ?_⟩
    · show wU i = if _ then _ else wU i
      rw [if_neg (by rw [l0_ i]; decide)]
    · have : cnt (fun j => (#[false, false, false, false, false, false, false, false, false, false, false, false, false, false, false, false, false, false, false, false, false, false, false, false, false, false] : Array Bool).getD j false) = 0 := by simp [cnt, l0_]
      rw [this]; exact HI.out
    · rw [if_neg (by rw [l0_ 22]; decide)]; exact BK2.out
  case step =>
    rintro i oi l ⟨s, b⟩ w1 hi ho hl hun hd hI K hK
    have hf : (fun j => l.getD j false) i = false := gun hl hi hun
    have e : (fun j => (l.setIfInBounds i true).getD j false) = up (fun j => l.getD j false) i := funext (fun j => gst hl hi)
    dsimp only at hI
    refine Aside0.out ?_
    obtain rfl | rfl | rfl | rfl | rfl | rfl | rfl | rfl | rfl | rfl | rfl | rfl | rfl | rfl | rfl | rfl | rfl | rfl | rfl | rfl | rfl | rfl | rfl | rfl | rfl | rfl : i = 0 ∨ i = 1 ∨ i = 2 ∨ i = 3 ∨ i = 4 ∨ i = 5 ∨ i = 6 ∨ i = 7 ∨ i = 8 ∨ i = 9 ∨ i = 10 ∨ i = 11 ∨ i = 12 ∨ i = 13 ∨ i = 14 ∨ i = 15 ∨ i = 16 ∨ i = 17 ∨ i = 18 ∨ i = 19 ∨ i = 20 ∨ i = 21 ∨ i = 22 ∨ i = 23 ∨ i = 24 ∨ i = 25 := by omega
    all_goals (simp only [List.getElem?_toArray, List.getElem?_cons_zero, List.getElem?_cons_succ, Option.some.injEq] at ho; subst ho)
    · refine lit2A_ (a1 := ?_) ?_ (fun e0 => ?_)
      rotate_left
      · subst hA
        simp only [putAll, ns45, Act.put, List.setIfInBounds_toArray, List.set_cons_zero, List.set_cons_succ]
        rfl
      refine valueA_ (N := some 16) (by rfl) rfl (v := .agg #[.int .i64 v0, .int .i64 v1, .string v2, .slice Av lv.length cv]) (w1 := w1) ?_ ?_
      · refine load_yields 29 (.tmp 7) (by rfl) g7 (by rfl) 29 _ _ ?_ Try.underlying29 rfl (by kernel_rfl)
        exact (hI.blk g7 (blk_lt BK7.out) (by omega) (by omega)).trans BK7.out
      have hq : K ((putAll aA (ns45 s)).put (some 16) (.agg #[.int .i64 v0, .int .i64 v1, .string v2, .slice Av lv.length cv])) w1 := by
        have hq0 := hK (us s 0 (wV (.agg #[.int .i64 v0, .int .i64 v1, .string v2, .slice Av lv.length cv]) (.pointer (some ⟨gc, 0, none⟩)) x1 x2 x3 n1 y1 y2 n2 b 0), b) w1 (by show DW _ _ _ _ _ _ _ _ _ _ _ _ _ _ _ _ _ _ (fun j => (l.setIfInBounds 0 true).getD j false) _ _ _; rw [e]; exact hI.pure (by decide) (by decide) (by decide) (fun _ h => absurd h List.not_mem_nil))
        subst hA
        simp only [putAll, ns45, Act.put, List.setIfInBounds_toArray, List.set_cons_zero, List.set_cons_succ] at hq0 ⊢
        exact hq0
      rw [e0] at hq
      exact hq
    · refine Aside0.mk ?_
      refine lit2_ (a1 := ?_) ?_ (fun e0 => ?_)
      rotate_left
      · subst hA
        simp only [putAll, ns45, Act.put, List.setIfInBounds_toArray, List.set_cons_zero, List.set_cons_succ]
        rfl
      refine value_ (N := some 17) (by rfl) rfl (v := ?_) (w1 := w1) ?_ ?_
      rotate_left
      · go_simp
        with_reducible rfl
      have hq : K ((putAll aA (ns45 s)).put (some 17) (.pointer (some ⟨gc, 0, none⟩))) w1 := by
        have hq0 := hK (us s 1 (wV (.agg #[.int .i64 v0, .int .i64 v1, .string v2, .slice Av lv.length cv]) (.pointer (some ⟨gc, 0, none⟩)) x1 x2 x3 n1 y1 y2 n2 b 1), b) w1 (by show DW _ _ _ _ _ _ _ _ _ _ _ _ _ _ _ _ _ _ (fun j => (l.setIfInBounds 1 true).getD j false) _ _ _; rw [e]; exact hI.pure (by decide) (by decide) (by decide) (fun _ h => absurd h List.not_mem_nil))
        subst hA
        simp only [putAll, ns45, Act.put, List.setIfInBounds_toArray, List.set_cons_zero, List.set_cons_succ] at hq0 ⊢
        exact hq0
      rw [e0] at hq
      exact hq
    · refine Aside0.mk ?_
      refine Aside0.out ?_
      obtain ⟨k0_, k1_⟩ := hI.at2 hf
      have hcu := hI.cur
      rw [k0_] at hcu
      refine Aside0.mk ?_
      have q1 := hI.of_true 1 (hd { on := 1, ground := .data } (by simp) rfl)
      dsimp only [wV] at q1
      refine lit2_ (a1 := ?_) ?_ (fun e0 => ?_)
      rotate_left
      · subst hA
        simp only [putAll, ns45, Act.put, List.setIfInBounds_toArray, List.set_cons_zero, List.set_cons_succ, q1]
        rfl
      refine goes_ Try.func64 (by kernel_rfl) rfl #[.pointer (some ⟨gc, 0, none⟩)] (by rfl) rfl rfl (by simp only [List.map_toArray, List.map_cons, List.map_nil]; rfl) ?_
      refine (spec_l1Word.calls gc lc (sq 0) (tq 0) x1 (sq 1) (tq 1) w w1 hcu hI.bel Hw1.out).mono ?_
      rintro _ w2 ⟨rfl, hi2, hB2, hk2⟩
      refine ⟨_, rfl, ?_⟩
      have hq : K ((putAll aA (ns45 s)).put (some 18) (.int .i64 x1)) w2 := by
        have hq0 := hK (us s 2 (wV (.agg #[.int .i64 v0, .int .i64 v1, .string v2, .slice Av lv.length cv]) (.pointer (some ⟨gc, 0, none⟩)) x1 x2 x3 n1 y1 y2 n2 b 2), b) w2 (by show DW _ _ _ _ _ _ _ _ _ _ _ _ _ _ _ _ _ _ (fun j => (l.setIfInBounds 2 true).getD j false) _ _ _; rw [e]; exact hI.call (by decide) (fun _ h => absurd h List.not_mem_nil) hcS (by omega) (by rw [k1_]; exact hi2) hB2 hk2)
        subst hA
        simp only [putAll, ns45, Act.put, List.setIfInBounds_toArray, List.set_cons_zero, List.set_cons_succ] at hq0 ⊢
        exact hq0
      rw [e0] at hq
      exact hq
    · refine Aside0.mk ?_
      refine lit2_ (a1 := ?_) ?_ (fun e0 => ?_)
      rotate_left
      · subst hA
        simp only [putAll, ns45, Act.put, List.setIfInBounds_toArray, List.set_cons_zero, List.set_cons_succ]
        rfl
      refine value_ (N := some 19) (by rfl) rfl (v := ?_) (w1 := w1) ?_ ?_
      rotate_left
      · go_simp
        with_reducible rfl
      have hq : K ((putAll aA (ns45 s)).put (some 19) (.pointer (some ⟨gc, 0, none⟩))) w1 := by
        have hq0 := hK (us s 3 (wV (.agg #[.int .i64 v0, .int .i64 v1, .string v2, .slice Av lv.length cv]) (.pointer (some ⟨gc, 0, none⟩)) x1 x2 x3 n1 y1 y2 n2 b 3), b) w1 (by show DW _ _ _ _ _ _ _ _ _ _ _ _ _ _ _ _ _ _ (fun j => (l.setIfInBounds 3 true).getD j false) _ _ _; rw [e]; exact hI.pure (by decide) (by decide) (by decide) (fun _ h => absurd h List.not_mem_nil))
        subst hA
        simp only [putAll, ns45, Act.put, List.setIfInBounds_toArray, List.set_cons_zero, List.set_cons_succ] at hq0 ⊢
        exact hq0
      rw [e0] at hq
      exact hq
    · refine Aside0.mk ?_
      refine Aside0.out ?_
      obtain ⟨k0_, k1_⟩ := hI.at4 hf (hd { on := 2, ground := .chain } (by simp) rfl)
      have hcu := hI.cur
      rw [k0_] at hcu
      refine Aside0.mk ?_
      have q3 := hI.of_true 3 (hd { on := 3, ground := .data } (by simp) rfl)
      dsimp only [wV] at q3
      refine lit2_ (a1 := ?_) ?_ (fun e0 => ?_)
      rotate_left
      · subst hA
        simp only [putAll, ns45, Act.put, List.setIfInBounds_toArray, List.set_cons_zero, List.set_cons_succ, q3]
        rfl
      refine goes_ Try.func64 (by kernel_rfl) rfl #[.pointer (some ⟨gc, 0, none⟩)] (by rfl) rfl rfl (by simp only [List.map_toArray, List.map_cons, List.map_nil]; rfl) ?_
      refine (spec_l1Word.calls gc lc (sq 1) (tq 1) x2 (sq 2) (tq 2) w w1 hcu hI.bel Hw2.out).mono ?_
      rintro _ w2 ⟨rfl, hi2, hB2, hk2⟩
      refine ⟨_, rfl, ?_⟩
      have hq : K ((putAll aA (ns45 s)).put (some 20) (.int .i64 x2)) w2 := by
        have hq0 := hK (us s 4 (wV (.agg #[.int .i64 v0, .int .i64 v1, .string v2, .slice Av lv.length cv]) (.pointer (some ⟨gc, 0, none⟩)) x1 x2 x3 n1 y1 y2 n2 b 4), b) w2 (by show DW _ _ _ _ _ _ _ _ _ _ _ _ _ _ _ _ _ _ (fun j => (l.setIfInBounds 4 true).getD j false) _ _ _; rw [e]; exact hI.call (by decide) (List.forall_mem_cons.2 ⟨(hd { on := 2, ground := .chain } (by simp) rfl), (fun _ h => absurd h List.not_mem_nil)⟩) hcS (by omega) (by rw [k1_]; exact hi2) hB2 hk2)
        subst hA
        simp only [putAll, ns45, Act.put, List.setIfInBounds_toArray, List.set_cons_zero, List.set_cons_succ] at hq0 ⊢
        exact hq0
      rw [e0] at hq
      exact hq
    · refine Aside0.mk ?_
      refine lit2_ (a1 := ?_) ?_ (fun e0 => ?_)
      rotate_left
      · subst hA
        simp only [putAll, ns45, Act.put, List.setIfInBounds_toArray, List.set_cons_zero, List.set_cons_succ]
        rfl
      refine value_ (N := some 21) (by rfl) rfl (v := ?_) (w1 := w1) ?_ ?_
      rotate_left
      · go_simp
        with_reducible rfl
      have hq : K ((putAll aA (ns45 s)).put (some 21) (.pointer (some ⟨gc, 0, none⟩))) w1 := by
        have hq0 := hK (us s 5 (wV (.agg #[.int .i64 v0, .int .i64 v1, .string v2, .slice Av lv.length cv]) (.pointer (some ⟨gc, 0, none⟩)) x1 x2 x3 n1 y1 y2 n2 b 5), b) w1 (by show DW _ _ _ _ _ _ _ _ _ _ _ _ _ _ _ _ _ _ (fun j => (l.setIfInBounds 5 true).getD j false) _ _ _; rw [e]; exact hI.pure (by decide) (by decide) (by decide) (fun _ h => absurd h List.not_mem_nil))
        subst hA
        simp only [putAll, ns45, Act.put, List.setIfInBounds_toArray, List.set_cons_zero, List.set_cons_succ] at hq0 ⊢
        exact hq0
      rw [e0] at hq
      exact hq
    · refine Aside0.mk ?_
      refine Aside0.out ?_
      obtain ⟨k0_, k1_⟩ := hI.at6 hf (hd { on := 4, ground := .chain } (by simp) rfl)
      have hcu := hI.cur
      rw [k0_] at hcu
      refine Aside0.mk ?_
      have q5 := hI.of_true 5 (hd { on := 5, ground := .data } (by simp) rfl)
      dsimp only [wV] at q5
      refine lit2_ (a1 := ?_) ?_ (fun e0 => ?_)
      rotate_left
      · subst hA
        simp only [putAll, ns45, Act.put, List.setIfInBounds_toArray, List.set_cons_zero, List.set_cons_succ, q5]
        rfl
      refine goes_ Try.func65 (by kernel_rfl) rfl #[.pointer (some ⟨gc, 0, none⟩)] (by rfl) rfl rfl (by simp only [List.map_toArray, List.map_cons, List.map_nil]; rfl) ?_
      refine (spec_l1Num.calls gc lc (sq 2) (tq 2) x3 (sq 3) (tq 3) w w1 hcu hI.bel Hw3.out).mono ?_
      rintro _ w2 ⟨rfl, hi2, hB2, hk2⟩
      refine ⟨_, rfl, ?_⟩
      have hq : K ((putAll aA (ns45 s)).put (some 22) (.int .i64 x3)) w2 := by
        have hq0 := hK (us s 6 (wV (.agg #[.int .i64 v0, .int .i64 v1, .string v2, .slice Av lv.length cv]) (.pointer (some ⟨gc, 0, none⟩)) x1 x2 x3 n1 y1 y2 n2 b 6), b) w2 (by show DW _ _ _ _ _ _ _ _ _ _ _ _ _ _ _ _ _ _ (fun j => (l.setIfInBounds 6 true).getD j false) _ _ _; rw [e]; exact hI.call (by decide) (List.forall_mem_cons.2 ⟨(hd { on := 4, ground := .chain } (by simp) rfl), (fun _ h => absurd h List.not_mem_nil)⟩) hcS (by omega) (by rw [k1_]; exact hi2) hB2 hk2)
        subst hA
        simp only [putAll, ns45, Act.put, List.setIfInBounds_toArray, List.set_cons_zero, List.set_cons_succ] at hq0 ⊢
        exact hq0
      rw [e0] at hq
      exact hq
    · refine Aside0.mk ?_
      have q2 := hI.of_true 2 (hd { on := 2, ground := .data } (by simp) rfl)
      have q4 := hI.of_true 4 (hd { on := 4, ground := .data } (by simp) rfl)
      have q6 := hI.of_true 6 (hd { on := 6, ground := .data } (by simp) rfl)
      dsimp only [wV] at q2
      dsimp only [wV] at q4
      dsimp only [wV] at q6
      refine lit2_ (a1 := ?_) ?_ (fun e0 => ?_)
      rotate_left
      · subst hA
        simp only [putAll, ns45, Act.put, List.setIfInBounds_toArray, List.set_cons_zero, List.set_cons_succ, q2, q4, q6]
        rfl
      refine bl2_step 23 #[.int .i64 x1, .int .i64 x2, .int .i64 x3] 3 3 (by rfl) ?_
      intro g' hg w2 hbox hb
      have hq : K ((putAll aA (ns45 s)).put (some 23) (.slice (some ⟨g', 0, none⟩) 3 3)) w2 := by
        have hq0 := hK (us s 7 (wV (.agg #[.int .i64 v0, .int .i64 v1, .string v2, .slice Av lv.length cv]) (.pointer (some ⟨gc, 0, none⟩)) x1 x2 x3 n1 y1 y2 n2 (ub b 7 g') 7), ub b 7 g') w2 (by show DW _ _ _ _ _ _ _ _ _ _ _ _ _ _ _ _ _ _ (fun j => (l.setIfInBounds 7 true).getD j false) _ _ _; rw [e]; exact hI.lit (by decide) hf (List.forall_mem_cons.2 ⟨(hd { on := 2, ground := .data } (by simp) rfl), (List.forall_mem_cons.2 ⟨(hd { on := 4, ground := .data } (by simp) rfl), (List.forall_mem_cons.2 ⟨(hd { on := 6, ground := .data } (by simp) rfl), (fun _ h => absurd h List.not_mem_nil)⟩)⟩)⟩) hg hbox hb)
        subst hA
        simp only [putAll, ns45, Act.put, List.setIfInBounds_toArray, List.set_cons_zero, List.set_cons_succ] at hq0 ⊢
        exact hq0
      rw [e0] at hq
      exact hq
    · refine Aside0.mk ?_
      refine lit2_ (a1 := ?_) ?_ (fun e0 => ?_)
      rotate_left
      · subst hA
        simp only [putAll, ns45, Act.put, List.setIfInBounds_toArray, List.set_cons_zero, List.set_cons_succ]
        rfl
      refine value_ (N := some 24) (by rfl) rfl (v := ?_) (w1 := w1) ?_ ?_
      rotate_left
      · go_simp
        with_reducible rfl
      have hq : K ((putAll aA (ns45 s)).put (some 24) (.pointer (some ⟨gc, 0, none⟩))) w1 := by
        have hq0 := hK (us s 8 (wV (.agg #[.int .i64 v0, .int .i64 v1, .string v2, .slice Av lv.length cv]) (.pointer (some ⟨gc, 0, none⟩)) x1 x2 x3 n1 y1 y2 n2 b 8), b) w1 (by show DW _ _ _ _ _ _ _ _ _ _ _ _ _ _ _ _ _ _ (fun j => (l.setIfInBounds 8 true).getD j false) _ _ _; rw [e]; exact hI.pure (by decide) (by decide) (by decide) (fun _ h => absurd h List.not_mem_nil))
        subst hA
        simp only [putAll, ns45, Act.put, List.setIfInBounds_toArray, List.set_cons_zero, List.set_cons_succ] at hq0 ⊢
        exact hq0
      rw [e0] at hq
      exact hq
    · refine Aside0.mk ?_
      refine lit2_ (a1 := ?_) ?_ (fun e0 => ?_)
      rotate_left
      · subst hA
        simp only [putAll, ns45, Act.put, List.setIfInBounds_toArray, List.set_cons_zero, List.set_cons_succ]
        rfl
      refine bl2_step 25 #[.int .i64 3, .int .i64 3, .int .i64 3, .int .i64 1] 3 4 (by rfl) ?_
      intro g' hg w2 hbox hb
      have hq : K ((putAll aA (ns45 s)).put (some 25) (.slice (some ⟨g', 0, none⟩) 4 4)) w2 := by
        have hq0 := hK (us s 9 (wV (.agg #[.int .i64 v0, .int .i64 v1, .string v2, .slice Av lv.length cv]) (.pointer (some ⟨gc, 0, none⟩)) x1 x2 x3 n1 y1 y2 n2 (ub b 9 g') 9), ub b 9 g') w2 (by show DW _ _ _ _ _ _ _ _ _ _ _ _ _ _ _ _ _ _ (fun j => (l.setIfInBounds 9 true).getD j false) _ _ _; rw [e]; exact hI.lit (by decide) hf (fun _ h => absurd h List.not_mem_nil) hg hbox hb)
        subst hA
        simp only [putAll, ns45, Act.put, List.setIfInBounds_toArray, List.set_cons_zero, List.set_cons_succ] at hq0 ⊢
        exact hq0
      rw [e0] at hq
      exact hq
    · refine Aside0.mk ?_
      refine Aside0.out ?_
      obtain ⟨k0_, k1_⟩ := hI.at10 hf (hd { on := 6, ground := .chain } (by simp) rfl)
      have hcu := hI.cur
      rw [k0_] at hcu
      refine Aside0.mk ?_
      have hrw := hI.row 9 (by decide) (hd { on := 9, ground := .data } (by simp) rfl)
      have q9 := hI.of_true 9 (hd { on := 9, ground := .data } (by simp) rfl)
      dsimp only [wV] at q9
      have hF_ : Kd.C (Kd.int .i64) w1 (some ⟨b 9, 0, none⟩) 4 ([3, 3, 3, 1] : List Int) := Kd.F_now (plain_F (enc := Value.int .i64) (lo := b 9) (hi := b 9 + 1) (xs := ([3, 3, 3, 1] : List Int)) 4 hrw.2 ⟨Nat.le_refl _, Nat.lt_succ_self _⟩ rfl (by decide))
      have q8 := hI.of_true 8 (hd { on := 8, ground := .data } (by simp) rfl)
      dsimp only [wV] at q8
      refine lit2_ (a1 := ?_) ?_ (fun e0 => ?_)
      rotate_left
      · subst hA
        simp only [putAll, ns45, Act.put, List.setIfInBounds_toArray, List.set_cons_zero, List.set_cons_succ, q8, q9]
        rfl
      refine goes_ Try.func66 (by kernel_rfl) rfl #[.pointer (some ⟨gc, 0, none⟩), .slice (some ⟨b 9, 0, none⟩) 4 4] (by rfl) rfl rfl (by simp only [List.map_toArray, List.map_cons, List.map_nil]; rfl) ?_
      refine (spec_l1Int.calls gc lc (sq 3) (tq 3) (some ⟨b 9, 0, none⟩) 4 [3, 3, 3, 1] n1 (sq 4) (tq 4) w w1 hcu hI.bel hF_ (by decide) (fun ad h_ _ => by obtain rfl := Option.some.inj h_; show b 9 ≠ gc; have := hrw.1; have := hcS; omega) Hw4.out).mono ?_
      rintro _ w2 ⟨rfl, hi2, hB2, hk2⟩
      refine ⟨_, rfl, ?_⟩
      have hq : K ((putAll aA (ns45 s)).put (some 26) (.int .i64 n1)) w2 := by
        have hq0 := hK (us s 10 (wV (.agg #[.int .i64 v0, .int .i64 v1, .string v2, .slice Av lv.length cv]) (.pointer (some ⟨gc, 0, none⟩)) x1 x2 x3 n1 y1 y2 n2 b 10), b) w2 (by show DW _ _ _ _ _ _ _ _ _ _ _ _ _ _ _ _ _ _ (fun j => (l.setIfInBounds 10 true).getD j false) _ _ _; rw [e]; exact hI.call (by decide) (List.forall_mem_cons.2 ⟨(hd { on := 6, ground := .chain } (by simp) rfl), (List.forall_mem_cons.2 ⟨(hd { on := 9, ground := .data } (by simp) rfl), (fun _ h => absurd h List.not_mem_nil)⟩)⟩) hcS (by omega) (by rw [k1_]; exact hi2) hB2 hk2)
        subst hA
        simp only [putAll, ns45, Act.put, List.setIfInBounds_toArray, List.set_cons_zero, List.set_cons_succ] at hq0 ⊢
        exact hq0
      rw [e0] at hq
      exact hq
    · have q7 := hI.of_true 7 (hd { on := 7, ground := .data } (by simp) rfl)
      have q10 := hI.of_true 10 (hd { on := 10, ground := .data } (by simp) rfl)
      dsimp only [wV] at q7
      dsimp only [wV] at q10
      refine lit2A_ (a1 := ?_) ?_ (fun e0 => ?_)
      rotate_left
      · subst hA
        simp only [putAll, ns45, Act.put, List.setIfInBounds_toArray, List.set_cons_zero, List.set_cons_succ, q7, q10]
        rfl
      refine valueA_ (N := some 27) (by rfl) rfl (v := .slice (some ⟨b 7, 0, none⟩) n1.toNat 3) (w1 := w1) ?_ ?_
      · exact slice_yields (oi := _) 39 3 (.tmp 23) (.tmp 26) .i64 Try.underlying39 (by rfl) (by rfl) (some ⟨b 7, 0, none⟩) 3 3 n1 (by rfl) (by rfl) hn1.1 (by have := hn1.2; omega) (Nat.le_refl _)
      have hq : K ((putAll aA (ns45 s)).put (some 27) (.slice (some ⟨b 7, 0, none⟩) n1.toNat 3)) w1 := by
        have hq0 := hK (us s 11 (wV (.agg #[.int .i64 v0, .int .i64 v1, .string v2, .slice Av lv.length cv]) (.pointer (some ⟨gc, 0, none⟩)) x1 x2 x3 n1 y1 y2 n2 b 11), b) w1 (by show DW _ _ _ _ _ _ _ _ _ _ _ _ _ _ _ _ _ _ (fun j => (l.setIfInBounds 11 true).getD j false) _ _ _; rw [e]; exact hI.pure (by decide) (by decide) (by decide) (List.forall_mem_cons.2 ⟨(hd { on := 7, ground := .data } (by simp) rfl), (List.forall_mem_cons.2 ⟨(hd { on := 10, ground := .data } (by simp) rfl), (fun _ h => absurd h List.not_mem_nil)⟩)⟩))
        subst hA
        simp only [putAll, ns45, Act.put, List.setIfInBounds_toArray, List.set_cons_zero, List.set_cons_succ] at hq0 ⊢
        exact hq0
      rw [e0] at hq
      exact hq
    · refine Aside0.mk ?_
      refine lit2_ (a1 := ?_) ?_ (fun e0 => ?_)
      rotate_left
      · subst hA
        simp only [putAll, ns45, Act.put, List.setIfInBounds_toArray, List.set_cons_zero, List.set_cons_succ]
        rfl
      refine bl2_step 28 #[.string (⟨#[103]⟩ : ByteArray), .string (⟨#[104]⟩ : ByteArray)] 9 2 (by rfl) ?_
      intro g' hg w2 hbox hb
      have hq : K ((putAll aA (ns45 s)).put (some 28) (.slice (some ⟨g', 0, none⟩) 2 2)) w2 := by
        have hq0 := hK (us s 12 (wV (.agg #[.int .i64 v0, .int .i64 v1, .string v2, .slice Av lv.length cv]) (.pointer (some ⟨gc, 0, none⟩)) x1 x2 x3 n1 y1 y2 n2 (ub b 12 g') 12), ub b 12 g') w2 (by show DW _ _ _ _ _ _ _ _ _ _ _ _ _ _ _ _ _ _ (fun j => (l.setIfInBounds 12 true).getD j false) _ _ _; rw [e]; exact hI.lit (by decide) hf (fun _ h => absurd h List.not_mem_nil) hg hbox hb)
        subst hA
        simp only [putAll, ns45, Act.put, List.setIfInBounds_toArray, List.set_cons_zero, List.set_cons_succ] at hq0 ⊢
        exact hq0
      rw [e0] at hq
      exact hq
    · refine Aside0.mk ?_
      refine lit2_ (a1 := ?_) ?_ (fun e0 => ?_)
      rotate_left
      · subst hA
        simp only [putAll, ns45, Act.put, List.setIfInBounds_toArray, List.set_cons_zero, List.set_cons_succ]
        rfl
      refine value_ (N := some 29) (by rfl) rfl (v := ?_) (w1 := w1) ?_ ?_
      rotate_left
      · go_simp
        with_reducible rfl
      have hq : K ((putAll aA (ns45 s)).put (some 29) (.pointer (some ⟨gc, 0, none⟩))) w1 := by
        have hq0 := hK (us s 13 (wV (.agg #[.int .i64 v0, .int .i64 v1, .string v2, .slice Av lv.length cv]) (.pointer (some ⟨gc, 0, none⟩)) x1 x2 x3 n1 y1 y2 n2 b 13), b) w1 (by show DW _ _ _ _ _ _ _ _ _ _ _ _ _ _ _ _ _ _ (fun j => (l.setIfInBounds 13 true).getD j false) _ _ _; rw [e]; exact hI.pure (by decide) (by decide) (by decide) (fun _ h => absurd h List.not_mem_nil))
        subst hA
        simp only [putAll, ns45, Act.put, List.setIfInBounds_toArray, List.set_cons_zero, List.set_cons_succ] at hq0 ⊢
        exact hq0
      rw [e0] at hq
      exact hq
    · refine Aside0.mk ?_
      refine Aside0.out ?_
      obtain ⟨k0_, k1_⟩ := hI.at14 hf (hd { on := 10, ground := .chain } (by simp) rfl)
      have hcu := hI.cur
      rw [k0_] at hcu
      refine Aside0.mk ?_
      have q13 := hI.of_true 13 (hd { on := 13, ground := .data } (by simp) rfl)
      dsimp only [wV] at q13
      refine lit2_ (a1 := ?_) ?_ (fun e0 => ?_)
      rotate_left
      · subst hA
        simp only [putAll, ns45, Act.put, List.setIfInBounds_toArray, List.set_cons_zero, List.set_cons_succ, q13]
        rfl
      refine goes_ Try.func64 (by kernel_rfl) rfl #[.pointer (some ⟨gc, 0, none⟩)] (by rfl) rfl rfl (by simp only [List.map_toArray, List.map_cons, List.map_nil]; rfl) ?_
      refine (spec_l1Word.calls gc lc (sq 4) (tq 4) y1 (sq 5) (tq 5) w w1 hcu hI.bel Hw5.out).mono ?_
      rintro _ w2 ⟨rfl, hi2, hB2, hk2⟩
      refine ⟨_, rfl, ?_⟩
      have hq : K ((putAll aA (ns45 s)).put (some 30) (.int .i64 y1)) w2 := by
        have hq0 := hK (us s 14 (wV (.agg #[.int .i64 v0, .int .i64 v1, .string v2, .slice Av lv.length cv]) (.pointer (some ⟨gc, 0, none⟩)) x1 x2 x3 n1 y1 y2 n2 b 14), b) w2 (by show DW _ _ _ _ _ _ _ _ _ _ _ _ _ _ _ _ _ _ (fun j => (l.setIfInBounds 14 true).getD j false) _ _ _; rw [e]; exact hI.call (by decide) (List.forall_mem_cons.2 ⟨(hd { on := 10, ground := .chain } (by simp) rfl), (fun _ h => absurd h List.not_mem_nil)⟩) hcS (by omega) (by rw [k1_]; exact hi2) hB2 hk2)
        subst hA
        simp only [putAll, ns45, Act.put, List.setIfInBounds_toArray, List.set_cons_zero, List.set_cons_succ] at hq0 ⊢
        exact hq0
      rw [e0] at hq
      exact hq
    · refine Aside0.mk ?_
      refine lit2_ (a1 := ?_) ?_ (fun e0 => ?_)
      rotate_left
      · subst hA
        simp only [putAll, ns45, Act.put, List.setIfInBounds_toArray, List.set_cons_zero, List.set_cons_succ]
        rfl
      refine value_ (N := some 31) (by rfl) rfl (v := ?_) (w1 := w1) ?_ ?_
      rotate_left
      · go_simp
        with_reducible rfl
      have hq : K ((putAll aA (ns45 s)).put (some 31) (.pointer (some ⟨gc, 0, none⟩))) w1 := by
        have hq0 := hK (us s 15 (wV (.agg #[.int .i64 v0, .int .i64 v1, .string v2, .slice Av lv.length cv]) (.pointer (some ⟨gc, 0, none⟩)) x1 x2 x3 n1 y1 y2 n2 b 15), b) w1 (by show DW _ _ _ _ _ _ _ _ _ _ _ _ _ _ _ _ _ _ (fun j => (l.setIfInBounds 15 true).getD j false) _ _ _; rw [e]; exact hI.pure (by decide) (by decide) (by decide) (fun _ h => absurd h List.not_mem_nil))
        subst hA
        simp only [putAll, ns45, Act.put, List.setIfInBounds_toArray, List.set_cons_zero, List.set_cons_succ] at hq0 ⊢
        exact hq0
      rw [e0] at hq
      exact hq
    · refine Aside0.mk ?_
      refine Aside0.out ?_
      obtain ⟨k0_, k1_⟩ := hI.at16 hf (hd { on := 14, ground := .chain } (by simp) rfl)
      have hcu := hI.cur
      rw [k0_] at hcu
      refine Aside0.mk ?_
      have q15 := hI.of_true 15 (hd { on := 15, ground := .data } (by simp) rfl)
      dsimp only [wV] at q15
      refine lit2_ (a1 := ?_) ?_ (fun e0 => ?_)
      rotate_left
      · subst hA
        simp only [putAll, ns45, Act.put, List.setIfInBounds_toArray, List.set_cons_zero, List.set_cons_succ, q15]
        rfl
      refine goes_ Try.func65 (by kernel_rfl) rfl #[.pointer (some ⟨gc, 0, none⟩)] (by rfl) rfl rfl (by simp only [List.map_toArray, List.map_cons, List.map_nil]; rfl) ?_
      refine (spec_l1Num.calls gc lc (sq 5) (tq 5) y2 (sq 6) (tq 6) w w1 hcu hI.bel Hw6.out).mono ?_
      rintro _ w2 ⟨rfl, hi2, hB2, hk2⟩
      refine ⟨_, rfl, ?_⟩
      have hq : K ((putAll aA (ns45 s)).put (some 32) (.int .i64 y2)) w2 := by
        have hq0 := hK (us s 16 (wV (.agg #[.int .i64 v0, .int .i64 v1, .string v2, .slice Av lv.length cv]) (.pointer (some ⟨gc, 0, none⟩)) x1 x2 x3 n1 y1 y2 n2 b 16), b) w2 (by show DW _ _ _ _ _ _ _ _ _ _ _ _ _ _ _ _ _ _ (fun j => (l.setIfInBounds 16 true).getD j false) _ _ _; rw [e]; exact hI.call (by decide) (List.forall_mem_cons.2 ⟨(hd { on := 14, ground := .chain } (by simp) rfl), (fun _ h => absurd h List.not_mem_nil)⟩) hcS (by omega) (by rw [k1_]; exact hi2) hB2 hk2)
        subst hA
        simp only [putAll, ns45, Act.put, List.setIfInBounds_toArray, List.set_cons_zero, List.set_cons_succ] at hq0 ⊢
        exact hq0
      rw [e0] at hq
      exact hq
    · refine Aside0.mk ?_
      have q14 := hI.of_true 14 (hd { on := 14, ground := .data } (by simp) rfl)
      have q16 := hI.of_true 16 (hd { on := 16, ground := .data } (by simp) rfl)
      dsimp only [wV] at q14
      dsimp only [wV] at q16
      refine lit2_ (a1 := ?_) ?_ (fun e0 => ?_)
      rotate_left
      · subst hA
        simp only [putAll, ns45, Act.put, List.setIfInBounds_toArray, List.set_cons_zero, List.set_cons_succ, q14, q16]
        rfl
      refine bl2_step 33 #[.int .i64 y1, .int .i64 y2] 3 2 (by rfl) ?_
      intro g' hg w2 hbox hb
      have hq : K ((putAll aA (ns45 s)).put (some 33) (.slice (some ⟨g', 0, none⟩) 2 2)) w2 := by
        have hq0 := hK (us s 17 (wV (.agg #[.int .i64 v0, .int .i64 v1, .string v2, .slice Av lv.length cv]) (.pointer (some ⟨gc, 0, none⟩)) x1 x2 x3 n1 y1 y2 n2 (ub b 17 g') 17), ub b 17 g') w2 (by show DW _ _ _ _ _ _ _ _ _ _ _ _ _ _ _ _ _ _ (fun j => (l.setIfInBounds 17 true).getD j false) _ _ _; rw [e]; exact hI.lit (by decide) hf (List.forall_mem_cons.2 ⟨(hd { on := 14, ground := .data } (by simp) rfl), (List.forall_mem_cons.2 ⟨(hd { on := 16, ground := .data } (by simp) rfl), (fun _ h => absurd h List.not_mem_nil)⟩)⟩) hg hbox hb)
        subst hA
        simp only [putAll, ns45, Act.put, List.setIfInBounds_toArray, List.set_cons_zero, List.set_cons_succ] at hq0 ⊢
        exact hq0
      rw [e0] at hq
      exact hq
    · refine Aside0.mk ?_
      refine lit2_ (a1 := ?_) ?_ (fun e0 => ?_)
      rotate_left
      · subst hA
        simp only [putAll, ns45, Act.put, List.setIfInBounds_toArray, List.set_cons_zero, List.set_cons_succ]
        rfl
      refine value_ (N := some 34) (by rfl) rfl (v := ?_) (w1 := w1) ?_ ?_
      rotate_left
      · go_simp
        with_reducible rfl
      have hq : K ((putAll aA (ns45 s)).put (some 34) (.pointer (some ⟨gc, 0, none⟩))) w1 := by
        have hq0 := hK (us s 18 (wV (.agg #[.int .i64 v0, .int .i64 v1, .string v2, .slice Av lv.length cv]) (.pointer (some ⟨gc, 0, none⟩)) x1 x2 x3 n1 y1 y2 n2 b 18), b) w1 (by show DW _ _ _ _ _ _ _ _ _ _ _ _ _ _ _ _ _ _ (fun j => (l.setIfInBounds 18 true).getD j false) _ _ _; rw [e]; exact hI.pure (by decide) (by decide) (by decide) (fun _ h => absurd h List.not_mem_nil))
        subst hA
        simp only [putAll, ns45, Act.put, List.setIfInBounds_toArray, List.set_cons_zero, List.set_cons_succ] at hq0 ⊢
        exact hq0
      rw [e0] at hq
      exact hq
    · refine Aside0.mk ?_
      refine lit2_ (a1 := ?_) ?_ (fun e0 => ?_)
      rotate_left
      · subst hA
        simp only [putAll, ns45, Act.put, List.setIfInBounds_toArray, List.set_cons_zero, List.set_cons_succ]
        rfl
      refine bl2_step 35 #[.int .i64 2, .int .i64 2, .int .i64 2, .int .i64 1] 3 4 (by rfl) ?_
      intro g' hg w2 hbox hb
      have hq : K ((putAll aA (ns45 s)).put (some 35) (.slice (some ⟨g', 0, none⟩) 4 4)) w2 := by
        have hq0 := hK (us s 19 (wV (.agg #[.int .i64 v0, .int .i64 v1, .string v2, .slice Av lv.length cv]) (.pointer (some ⟨gc, 0, none⟩)) x1 x2 x3 n1 y1 y2 n2 (ub b 19 g') 19), ub b 19 g') w2 (by show DW _ _ _ _ _ _ _ _ _ _ _ _ _ _ _ _ _ _ (fun j => (l.setIfInBounds 19 true).getD j false) _ _ _; rw [e]; exact hI.lit (by decide) hf (fun _ h => absurd h List.not_mem_nil) hg hbox hb)
        subst hA
        simp only [putAll, ns45, Act.put, List.setIfInBounds_toArray, List.set_cons_zero, List.set_cons_succ] at hq0 ⊢
        exact hq0
      rw [e0] at hq
      exact hq
    · refine Aside0.mk ?_
      refine Aside0.out ?_
      obtain ⟨k0_, k1_⟩ := hI.at20 hf (hd { on := 16, ground := .chain } (by simp) rfl)
      have hcu := hI.cur
      rw [k0_] at hcu
      refine Aside0.mk ?_
      have hrw := hI.row 19 (by decide) (hd { on := 19, ground := .data } (by simp) rfl)
      have q19 := hI.of_true 19 (hd { on := 19, ground := .data } (by simp) rfl)
      dsimp only [wV] at q19
      have hF_ : Kd.C (Kd.int .i64) w1 (some ⟨b 19, 0, none⟩) 4 ([2, 2, 2, 1] : List Int) := Kd.F_now (plain_F (enc := Value.int .i64) (lo := b 19) (hi := b 19 + 1) (xs := ([2, 2, 2, 1] : List Int)) 4 hrw.2 ⟨Nat.le_refl _, Nat.lt_succ_self _⟩ rfl (by decide))
      have q18 := hI.of_true 18 (hd { on := 18, ground := .data } (by simp) rfl)
      dsimp only [wV] at q18
      refine lit2_ (a1 := ?_) ?_ (fun e0 => ?_)
      rotate_left
      · subst hA
        simp only [putAll, ns45, Act.put, List.setIfInBounds_toArray, List.set_cons_zero, List.set_cons_succ, q18, q19]
        rfl
      refine goes_ Try.func66 (by kernel_rfl) rfl #[.pointer (some ⟨gc, 0, none⟩), .slice (some ⟨b 19, 0, none⟩) 4 4] (by rfl) rfl rfl (by simp only [List.map_toArray, List.map_cons, List.map_nil]; rfl) ?_
      refine (spec_l1Int.calls gc lc (sq 6) (tq 6) (some ⟨b 19, 0, none⟩) 4 [2, 2, 2, 1] n2 (sq 7) (tq 7) w w1 hcu hI.bel hF_ (by decide) (fun ad h_ _ => by obtain rfl := Option.some.inj h_; show b 19 ≠ gc; have := hrw.1; have := hcS; omega) Hw7.out).mono ?_
      rintro _ w2 ⟨rfl, hi2, hB2, hk2⟩
      refine ⟨_, rfl, ?_⟩
      have hq : K ((putAll aA (ns45 s)).put (some 36) (.int .i64 n2)) w2 := by
        have hq0 := hK (us s 20 (wV (.agg #[.int .i64 v0, .int .i64 v1, .string v2, .slice Av lv.length cv]) (.pointer (some ⟨gc, 0, none⟩)) x1 x2 x3 n1 y1 y2 n2 b 20), b) w2 (by show DW _ _ _ _ _ _ _ _ _ _ _ _ _ _ _ _ _ _ (fun j => (l.setIfInBounds 20 true).getD j false) _ _ _; rw [e]; exact hI.call (by decide) (List.forall_mem_cons.2 ⟨(hd { on := 16, ground := .chain } (by simp) rfl), (List.forall_mem_cons.2 ⟨(hd { on := 19, ground := .data } (by simp) rfl), (fun _ h => absurd h List.not_mem_nil)⟩)⟩) hcS (by omega) (by rw [k1_]; exact hi2) hB2 hk2)
        subst hA
        simp only [putAll, ns45, Act.put, List.setIfInBounds_toArray, List.set_cons_zero, List.set_cons_succ] at hq0 ⊢
        exact hq0
      rw [e0] at hq
      exact hq
    · have q17 := hI.of_true 17 (hd { on := 17, ground := .data } (by simp) rfl)
      have q20 := hI.of_true 20 (hd { on := 20, ground := .data } (by simp) rfl)
      dsimp only [wV] at q17
      dsimp only [wV] at q20
      refine lit2A_ (a1 := ?_) ?_ (fun e0 => ?_)
      rotate_left
      · subst hA
        simp only [putAll, ns45, Act.put, List.setIfInBounds_toArray, List.set_cons_zero, List.set_cons_succ, q17, q20]
        rfl
      refine valueA_ (N := some 37) (by rfl) rfl (v := .slice (some ⟨b 17, 0, none⟩) n2.toNat 2) (w1 := w1) ?_ ?_
      · exact slice_yields (oi := _) 39 3 (.tmp 33) (.tmp 36) .i64 Try.underlying39 (by rfl) (by rfl) (some ⟨b 17, 0, none⟩) 2 2 n2 (by rfl) (by rfl) hn2.1 (by have := hn2.2; omega) (Nat.le_refl _)
      have hq : K ((putAll aA (ns45 s)).put (some 37) (.slice (some ⟨b 17, 0, none⟩) n2.toNat 2)) w1 := by
        have hq0 := hK (us s 21 (wV (.agg #[.int .i64 v0, .int .i64 v1, .string v2, .slice Av lv.length cv]) (.pointer (some ⟨gc, 0, none⟩)) x1 x2 x3 n1 y1 y2 n2 b 21), b) w1 (by show DW _ _ _ _ _ _ _ _ _ _ _ _ _ _ _ _ _ _ (fun j => (l.setIfInBounds 21 true).getD j false) _ _ _; rw [e]; exact hI.pure (by decide) (by decide) (by decide) (List.forall_mem_cons.2 ⟨(hd { on := 17, ground := .data } (by simp) rfl), (List.forall_mem_cons.2 ⟨(hd { on := 20, ground := .data } (by simp) rfl), (fun _ h => absurd h List.not_mem_nil)⟩)⟩))
        subst hA
        simp only [putAll, ns45, Act.put, List.setIfInBounds_toArray, List.set_cons_zero, List.set_cons_succ] at hq0 ⊢
        exact hq0
      rw [e0] at hq
      exact hq
    · have q0 := hI.of_true 0 (hd { on := 0, ground := .data } (by simp) rfl)
      dsimp only [wV] at q0
      refine lit2A_ (a1 := ?_) ?_ (fun e0 => ?_)
      rotate_left
      · subst hA
        simp only [putAll, ns45, Act.put, List.setIfInBounds_toArray, List.set_cons_zero, List.set_cons_succ, q0]
        rfl
      refine storeA_ (by rfl) rfl 29 (.tmp 2) (.tmp 16) rfl (cs := #[.int .i64 v0, .int .i64 v1, .string v2, .slice Av lv.length cv]) (by rfl) (by rfl) (g := g2) (t' := 29) (old := #[.int .i64 0, .int .i64 0, .string (⟨#[]⟩ : ByteArray), .slice none 0 0]) (hI.two.trans (congrArg some (if_neg (fun (h_ : (fun j => l.getD j false) 22 = true) => absurd (h_.symm.trans hf) (by decide))))) (by kernel_rfl) rfl (by repeat (first | exact fun _ h => absurd h List.not_mem_nil | refine List.forall_mem_cons.2 ⟨rfl, ?_⟩)) ?_
      intro w2 hbox hc
      have hq : K (putAll aA (ns45 s)) w2 := hK (s, b) w2 (by show DW _ _ _ _ _ _ _ _ _ _ _ _ _ _ _ _ _ _ (fun j => (l.setIfInBounds 22 true).getD j false) _ _ _; rw [e]; exact hI.store (List.forall_mem_cons.2 ⟨(hd { on := 0, ground := .data } (by simp) rfl), (List.forall_mem_cons.2 ⟨(hd { on := 20, ground := .chain } (by simp) rfl), (fun _ h => absurd h List.not_mem_nil)⟩)⟩) (blk_lt BK2.out) (by omega) hbox hc (by omega))
      rw [e0] at hq
      exact hq
    · refine Aside0.mk ?_
      have q11 := hI.of_true 11 (hd { on := 11, ground := .data } (by simp) rfl)
      dsimp only [wV] at q11
      refine lit2_ (a1 := ?_) ?_ (fun e0 => ?_)
      rotate_left
      · subst hA
        simp only [putAll, ns45, Act.put, List.setIfInBounds_toArray, List.set_cons_zero, List.set_cons_succ, q11]
        rfl
      refine value_ (N := some 3) (by rfl) rfl (v := ?_) (w1 := w1) ?_ ?_
      rotate_left
      · go_simp
        with_reducible rfl
      have hq : K ((putAll aA (ns45 s)).put (some 3) (.slice (some ⟨b 7, 0, none⟩) n1.toNat 3)) w1 := by
        have hq0 := hK (us s 23 (wV (.agg #[.int .i64 v0, .int .i64 v1, .string v2, .slice Av lv.length cv]) (.pointer (some ⟨gc, 0, none⟩)) x1 x2 x3 n1 y1 y2 n2 b 23), b) w1 (by show DW _ _ _ _ _ _ _ _ _ _ _ _ _ _ _ _ _ _ (fun j => (l.setIfInBounds 23 true).getD j false) _ _ _; rw [e]; exact hI.pure (by decide) (by decide) (by decide) (List.forall_mem_cons.2 ⟨(hd { on := 11, ground := .data } (by simp) rfl), (List.forall_mem_cons.2 ⟨(hd { on := 22, ground := .chain } (by simp) rfl), (fun _ h => absurd h List.not_mem_nil)⟩)⟩))
        subst hA
        simp only [putAll, ns45, Act.put, List.setIfInBounds_toArray, List.set_cons_zero, List.set_cons_succ] at hq0 ⊢
        exact hq0
      rw [e0] at hq
      exact hq
    · refine Aside0.mk ?_
      have q12 := hI.of_true 12 (hd { on := 12, ground := .data } (by simp) rfl)
      dsimp only [wV] at q12
      refine lit2_ (a1 := ?_) ?_ (fun e0 => ?_)
      rotate_left
      · subst hA
        simp only [putAll, ns45, Act.put, List.setIfInBounds_toArray, List.set_cons_zero, List.set_cons_succ, q12]
        rfl
      refine value_ (N := some 4) (by rfl) rfl (v := ?_) (w1 := w1) ?_ ?_
      rotate_left
      · go_simp
        with_reducible rfl
      have hq : K ((putAll aA (ns45 s)).put (some 4) (.slice (some ⟨b 12, 0, none⟩) 2 2)) w1 := by
        have hq0 := hK (us s 24 (wV (.agg #[.int .i64 v0, .int .i64 v1, .string v2, .slice Av lv.length cv]) (.pointer (some ⟨gc, 0, none⟩)) x1 x2 x3 n1 y1 y2 n2 b 24), b) w1 (by show DW _ _ _ _ _ _ _ _ _ _ _ _ _ _ _ _ _ _ (fun j => (l.setIfInBounds 24 true).getD j false) _ _ _; rw [e]; exact hI.pure (by decide) (by decide) (by decide) (List.forall_mem_cons.2 ⟨(hd { on := 12, ground := .data } (by simp) rfl), (List.forall_mem_cons.2 ⟨(hd { on := 23, ground := .chain } (by simp) rfl), (fun _ h => absurd h List.not_mem_nil)⟩)⟩))
        subst hA
        simp only [putAll, ns45, Act.put, List.setIfInBounds_toArray, List.set_cons_zero, List.set_cons_succ] at hq0 ⊢
        exact hq0
      rw [e0] at hq
      exact hq
    · refine Aside0.mk ?_
      have q21 := hI.of_true 21 (hd { on := 21, ground := .data } (by simp) rfl)
      dsimp only [wV] at q21
      refine lit2_ (a1 := ?_) ?_ (fun e0 => ?_)
      rotate_left
      · subst hA
        simp only [putAll, ns45, Act.put, List.setIfInBounds_toArray, List.set_cons_zero, List.set_cons_succ, q21]
        rfl
      refine value_ (N := some 5) (by rfl) rfl (v := ?_) (w1 := w1) ?_ ?_
      rotate_left
      · go_simp
        with_reducible rfl
      have hq : K ((putAll aA (ns45 s)).put (some 5) (.slice (some ⟨b 17, 0, none⟩) n2.toNat 2)) w1 := by
        have hq0 := hK (us s 25 (wV (.agg #[.int .i64 v0, .int .i64 v1, .string v2, .slice Av lv.length cv]) (.pointer (some ⟨gc, 0, none⟩)) x1 x2 x3 n1 y1 y2 n2 b 25), b) w1 (by show DW _ _ _ _ _ _ _ _ _ _ _ _ _ _ _ _ _ _ (fun j => (l.setIfInBounds 25 true).getD j false) _ _ _; rw [e]; exact hI.pure (by decide) (by decide) (by decide) (List.forall_mem_cons.2 ⟨(hd { on := 21, ground := .data } (by simp) rfl), (List.forall_mem_cons.2 ⟨(hd { on := 24, ground := .chain } (by simp) rfl), (fun _ h => absurd h List.not_mem_nil)⟩)⟩))
        subst hA
        simp only [putAll, ns45, Act.put, List.setIfInBounds_toArray, List.set_cons_zero, List.set_cons_succ] at hq0 ⊢
        exact hq0
      rw [e0] at hq
      exact hq
  case stop =>
    rintro ⟨s, b⟩ w2 hI
    dsimp only at hI
    have z23 := hI.of_true 23 (getD_rept (by decide))
    have z24 := hI.of_true 24 (getD_rept (by decide))
    have z25 := hI.of_true 25 (getD_rept (by decide))
    dsimp only [wV] at z23 z24 z25
    have htwo : w2.heap[g2]? = some (.cells #[.int .i64 v0, .int .i64 v1, .string v2, .slice Av lv.length cv] 29 (0, 0)) := hI.two.trans (by rw [if_pos (getD_rept (by decide))])
    have r7 := hI.row 7 (by decide) (getD_rept (by decide))
    have r12 := hI.row 12 (by decide) (getD_rept (by decide))
    have r17 := hI.row 17 (by decide) (getD_rept (by decide))
    subst hA
    simp only [putAll, ns45, Act.put, List.setIfInBounds_toArray, List.set_cons_zero, List.set_cons_succ, z23, z24, z25]
    go_wp2
    have hsz := hI.size
    have hS_ := S.out
    have l7 := blk_lt r7.2
    have l12 := blk_lt r12.2
    have l17 := blk_lt r17.2
    have hb0 := HB.out.size
    have e1_ : n1.toNat = ([x1, x2, x3].take n1.toNat).length := by simp; omega
    have e2_ : n2.toNat = ([y1, y2].take n2.toNat).length := by simp; omega
    have F1_ : Kd.F (Kd.int .i64) w2 (fun k => w.heap.size ≤ k ∧ k < w2.heap.size) (some ⟨b 7, 0, none⟩) ([x1, x2, x3].take n1.toNat).length ([x1, x2, x3].take n1.toNat) := Kd.F_take (m := n1.toNat) (plain_F (enc := Value.int .i64) (lo := w.heap.size) (hi := w2.heap.size) (xs := [x1, x2, x3]) 3 r7.2 ⟨by have := r7.1; omega, l7⟩ rfl (by decide)) (by simp; omega)
    have F2_ : Kd.F (Kd.int .i64) w2 (fun k => w.heap.size ≤ k ∧ k < w2.heap.size) (some ⟨b 17, 0, none⟩) ([y1, y2].take n2.toNat).length ([y1, y2].take n2.toNat) := Kd.F_take (m := n2.toNat) (plain_F (enc := Value.int .i64) (lo := w.heap.size) (hi := w2.heap.size) (xs := [y1, y2]) 2 r17.2 ⟨by have := r17.1; omega, l17⟩ rfl (by decide)) (by simp; omega)
    rw [← e1_] at F1_
    rw [← e2_] at F2_
    refine bodyPost_ret (results_list (rs := [.cell 2 29, .tmp 3, .tmp 4, .tmp 5]) rfl (by simp) (.cell g2 29 #[.int .i64 v0, .int .i64 v1, .string v2, .slice Av lv.length cv] (0, 0) _ rfl htwo Try.underlying29 rfl (by kernel_rfl) (.tmp (.tmp (.tmp .nil))))) rfl ?_
    refine ⟨_, _, some ⟨b 7, 0, none⟩, some ⟨b 12, 0, none⟩, some ⟨b 17, 0, none⟩, rfl, hlv, Kd.F_mono (Kd.F_step Tv.out (fun k hk hlt => hI.blk k hlt (by omega) (by omega))) (fun k hk => ⟨by omega, by omega⟩), F1_, plain_F (enc := Value.string) (xs := [(⟨#[103]⟩ : ByteArray), (⟨#[104]⟩ : ByteArray)]) 2 r12.2 ⟨by have := r12.1; omega, l12⟩ rfl (by decide), F2_, hI.bel⟩
end Go.Proofs.Ytcpnhlhigpgonaa.PFnPutIn
