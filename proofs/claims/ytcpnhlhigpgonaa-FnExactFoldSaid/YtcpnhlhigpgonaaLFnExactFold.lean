/- Proved: what the law FnExactFold answers, by its walk. -/
-- Laid by a program of this session; Lean checks every line.
import Derived.Test.YtcpnhlhigpgonaaPFnExactFoldx16
import Derived.Test.YtcpnhlhigpgonaaPureFnExactFold
namespace Go.Proofs.Ytcpnhlhigpgonaa.WFnExactFold
open Go.RowKit Go.Proofs.Ytcpnhlhigpgonaa.PFnExactFold Go.Proofs.YtcpnhlhigpgonaaW.PrintWords Go.Proofs.YtcpnhlhigpgonaaW.PrintLast Go.Proofs.YtcpnhlhigpgonaaW.PrintMore Go.Proofs.Ytcpnhlhigpgonaa.Chg
set_option linter.unusedVariables false
set_option linter.unusedSimpArgs false
attribute [local go_sem] max2_int min2_int max_two min_two max_three min_three max_four min_four
set_option maxHeartbeats 32000000 in
set_option maxRecDepth 100000 in
theorem early1 (k : Nat) (a0 a1 : Int) (a2 : ByteArray) (Aa : Option Addr) (ca : Nat) (la : List S24) (r1 : Int) (w : World) (hra : Kd.C k24 w Aa la.length la) (hca : la.length ≤ ca) (hs1 : laws_szExpr.f k a0 a1 a2 la 1048576 = some r1) (hd1 : decide (r1 < 0) = true) :
    Calls Try.prog 10 #[.agg #[.int .i64 a0, .int .i64 a1, .string a2, .slice Aa la.length ca]] w fun e w' => e = .returned (.bool true) ∧ Below w.heap.size w w' := by
  have Hra := A_ hra
  have Hca := A_ hca
  clear hra hca
  have HB := A_ (Below.refl w.heap.size w)
  have S : Aside0 (w.heap.size ≤ w.heap.size) := A_ (Nat.le_refl _)
  have Hs1 := A_ hs1
  clear hs1
  go_enter Try.func10, Try.ntmps10
  go_wp2_with (first | ((with_reducible refine gate_dst (N := 1) rfl ?_); refine bx_ 1 #[.int .i64 a0, .int .i64 a1, .string a2, .slice Aa la.length ca] 24 ?_; intro g1 hg w' hbox hb; have hc := co_ hb; have F1 : w.heap.size ≤ g1 := (by have := S.out; omega); clear hg; replace HB := hz_ hc HB; replace S := t_ hc S; clear S; have S : Aside0 (g1 + 1 ≤ w'.heap.size) := A_ (blk_lt hbox); have BK1 := A_ hbox; clear hbox hb hc) | ((with_reducible refine gate_ (.load 24 (.tmp 1)) rfl ?_); (try (refine gate_guard (by rfl) ?_; dsimp only)); refine ld_ 24 1 BK1.out Try.underlying24 ?_) | ((with_reducible refine gate_callee (f := 12) rfl ?_); (try (refine gate_guard (by rfl) ?_; dsimp only)); refine gL_ (some 13) Try.func12 #[.agg #[.int .i64 a0, .int .i64 a1, .string a2, .slice Aa la.length ca], .int .i64 1048576] ?_; refine (sz4 k a0 a1 a2 Aa ca la 1048576 r1 w _ HB.out Hra.out Hca.out Hs1.out).mono ?_; rintro e w' ⟨rfl, hc⟩; refine ⟨_, rfl, ?_⟩; replace BK1 := bz_ hc BK1; replace HB := hz_ hc HB; replace S := t_ hc S; clear hc))
  go_ret
  exact ⟨rfl, HB.out⟩
set_option maxHeartbeats 32000000 in
set_option maxRecDepth 100000 in
theorem whole (k : Nat) (a0 a1 : Int) (a2 : ByteArray) (Aa : Option Addr) (ca : Nat) (la : List S24) (r1 : Int) (e0 e1 : Int) (e2 : ByteArray) (le : List S29) (p0 p1 : Int) (p2 : ByteArray) (lp : List S29) (me mp : List S29) (k1 m : Int) (w : World) (hra : Kd.C k24 w Aa la.length la) (hca : la.length ≤ ca) (hs1 : laws_szExpr.f k a0 a1 a2 la 1048576 = some r1) (hd1 : decide (r1 < 0) = false) (hte : laws_toExpr.f k a0 a1 a2 la = some (e0, e1, e2, le)) (hsp : spec_Fold.f k e0 e1 e2 le = some (p0, p1, p2, lp)) (hip : impl_Fold.f k e0 e1 e2 le = some (p0, p1, p2, lp)) (hqp : laws_eqExpr.f k p0 p1 p2 lp p0 p1 p2 lp = some true) (hqe : laws_eqExpr.f k e0 e1 e2 le e0 e1 e2 le = some true) (hm1 : laws_markExprS.f k le 1 = some (k1, me)) (hl1 : me.length = le.length) (hm5 : laws_markExprS.f k lp 1 = some (m, mp)) (hl5 : mp.length = lp.length) (hh : laws_heldExpr.f k p0 p1 p2 mp 1 = some m) (hd5 : decide (k1 < 0) = false) (hd6 : decide (m < 0) = false) :
    Calls Try.prog 10 #[.agg #[.int .i64 a0, .int .i64 a1, .string a2, .slice Aa la.length ca]] w fun e w' => e = .returned (.bool true) ∧ Below w.heap.size w w' := by
  have Hra := A_ hra
  have Hca := A_ hca
  clear hra hca
  have HB := A_ (Below.refl w.heap.size w)
  have S : Aside0 (w.heap.size ≤ w.heap.size) := A_ (Nat.le_refl _)
  have Hs1 := A_ hs1
  clear hs1
  have Hte := A_ hte
  have Hsp := A_ hsp
  have Hip := A_ hip
  have Hqp := A_ hqp
  have Hqe := A_ hqe
  have Hm1 := A_ hm1
  have Hl1 := A_ hl1
  have Hm5 := A_ hm5
  have Hl5 := A_ hl5
  have Hh := A_ hh
  clear hte hsp hip hqp hqe hm1 hl1 hm5 hl5 hh
  go_enter Try.func10, Try.ntmps10
  go_wp2_with (first | ((with_reducible refine gate_dst (N := 1) rfl ?_); refine bx_ 1 #[.int .i64 a0, .int .i64 a1, .string a2, .slice Aa la.length ca] 24 ?_; intro g1 hg w' hbox hb; have hc := co_ hb; have F1 : w.heap.size ≤ g1 := (by have := S.out; omega); clear hg; replace HB := hz_ hc HB; replace S := t_ hc S; clear S; have S : Aside0 (g1 + 1 ≤ w'.heap.size) := A_ (blk_lt hbox); have BK1 := A_ hbox; clear hbox hb hc) | ((with_reducible refine gate_ (.load 24 (.tmp 1)) rfl ?_); (try (refine gate_guard (by rfl) ?_; dsimp only)); refine ld_ 24 1 BK1.out Try.underlying24 ?_) | ((with_reducible refine gate_callee (f := 12) rfl ?_); (try (refine gate_guard (by rfl) ?_; dsimp only)); refine gL_ (some 13) Try.func12 #[.agg #[.int .i64 a0, .int .i64 a1, .string a2, .slice Aa la.length ca], .int .i64 1048576] ?_; refine (sz4 k a0 a1 a2 Aa ca la 1048576 r1 w _ HB.out Hra.out Hca.out Hs1.out).mono ?_; rintro e w' ⟨rfl, hc⟩; refine ⟨_, rfl, ?_⟩; replace BK1 := bz_ hc BK1; replace HB := hz_ hc HB; replace S := t_ hc S; clear hc) | ((with_reducible refine gate_ (.load 24 (.tmp 1)) rfl ?_); (try (refine gate_guard (by rfl) ?_; dsimp only)); refine ld_ 24 1 BK1.out Try.underlying24 ?_) | ((with_reducible refine gate_callee (f := 14) rfl ?_); (try (refine gate_guard (by rfl) ?_; dsimp only)); refine gL_ (some 17) Try.func14 #[.agg #[.int .i64 a0, .int .i64 a1, .string a2, .slice Aa la.length ca]] ?_; refine (te4 k a0 a1 a2 Aa ca la e0 e1 e2 le w _ HB.out Hra.out Hca.out Hte.out).mono ?_; rintro e w' ⟨Ae, ce, loe, hie, rfl, h1, h2, h3, hR, hc⟩; refine ⟨_, rfl, ?_⟩; have F2 : g1 + 1 ≤ loe := (Nat.le_trans S.out h1); have F3 : loe ≤ hie := h2; replace BK1 := bz_ hc BK1; replace HB := hz_ hc HB; replace S := t_ hc S; clear S; have S := A_ h3; have Me := A_ hR; clear h1 h2 h3 hR hc) | ((with_reducible refine gate_callee (f := 42) rfl ?_); (try (refine gate_guard (by rfl) ?_; dsimp only)); refine gL_ (some 18) Try.func42 #[.agg #[.int .i64 e0, .int .i64 e1, .string e2, .slice Ae le.length ce]] ?_; refine (sf4 k e0 e1 e2 Ae ce le p0 p1 p2 lp _ Me.out.rd Hsp.out).mono ?_; rintro e w' ⟨Ao, co, loo, hio, rfl, h1, h2, h3, hR, hc⟩; refine ⟨_, rfl, ?_⟩; have F4 : hie ≤ loo := (Nat.le_trans S.out h1); have F5 : loo ≤ hio := h2; clear Me; replace BK1 := bz_ hc BK1; replace HB := hz_ hc HB; replace S := t_ hc S; clear S; have S := A_ h3; have Mo := A_ hR; clear h1 h2 h3 hR hc) | ((with_reducible refine gate_dst (N := 4) rfl ?_); refine bx_ 4 #[.int .i64 0, .int .i64 0, .string (⟨#[]⟩ : ByteArray), .slice none 0 0] 29 ?_; intro g4 hg w' hbox hb; have hc := co_ hb; have F6 : hio ≤ g4 := (by have := S.out; omega); clear hg; replace BK1 := bz_ hc BK1; replace Mo := fz_ hc Mo; replace HB := hz_ hc HB; replace S := t_ hc S; clear S; have S : Aside0 (g4 + 1 ≤ w'.heap.size) := A_ (blk_lt hbox); have BK4 := A_ hbox; clear hbox hb hc) | ((with_reducible refine gate_ (.store 29 (.tmp 4) (.tmp 18)) rfl ?_); refine nrm_ (a' := ?_) ?_ ?_; rotate_left; (simp only [Act.put, List.setIfInBounds_toArray, List.set_cons_zero, List.set_cons_succ]; rfl); refine ss_ 29 4 18 #[.int .i64 p0, .int .i64 p1, .string p2, .slice Ao lp.length co] BK4.out ?_; intro w' hbox hc; replace BK1 := bs_ hc BK1 (by have := S.out; omega); replace Mo := fs_ hc Mo (by have := S.out; omega); replace HB := hs_ hc HB (by have := S.out; omega); replace S := t_ hc S; clear BK4; have BK4 := A_ hbox; clear hbox hc) | ((with_reducible refine gate_ (.load 24 (.tmp 1)) rfl ?_); (try (refine gate_guard (by rfl) ?_; dsimp only)); refine ld_ 24 1 BK1.out Try.underlying24 ?_) | ((with_reducible refine gate_callee (f := 14) rfl ?_); (try (refine gate_guard (by rfl) ?_; dsimp only)); refine gL_ (some 20) Try.func14 #[.agg #[.int .i64 a0, .int .i64 a1, .string a2, .slice Aa la.length ca]] ?_; refine (te4 k a0 a1 a2 Aa ca la e0 e1 e2 le w _ HB.out Hra.out Hca.out Hte.out).mono ?_; rintro e w' ⟨Ax, cx, lox, hix, rfl, h1, h2, h3, hR, hc⟩; refine ⟨_, rfl, ?_⟩; have F7 : g4 + 1 ≤ lox := (Nat.le_trans S.out h1); have F8 : lox ≤ hix := h2; replace BK1 := bz_ hc BK1; replace Mo := fz_ hc Mo; replace BK4 := bz_ hc BK4; replace HB := hz_ hc HB; replace S := t_ hc S; clear S; have S := A_ h3; have Mx := A_ hR; clear h1 h2 h3 hR hc) | ((with_reducible refine gate_dst (N := 5) rfl ?_); refine bx_ 5 #[.int .i64 0, .int .i64 0, .string (⟨#[]⟩ : ByteArray), .slice none 0 0] 29 ?_; intro g5 hg w' hbox hb; have hc := co_ hb; have F9 : hix ≤ g5 := (by have := S.out; omega); clear hg; replace BK1 := bz_ hc BK1; replace Mo := fz_ hc Mo; replace BK4 := bz_ hc BK4; replace Mx := uz_ hc Mx; replace HB := hz_ hc HB; replace S := t_ hc S; clear S; have S : Aside0 (g5 + 1 ≤ w'.heap.size) := A_ (blk_lt hbox); have BK5 := A_ hbox; clear hbox hb hc) | ((with_reducible refine gate_ (.store 29 (.tmp 5) (.tmp 20)) rfl ?_); refine nrm_ (a' := ?_) ?_ ?_; rotate_left; (simp only [Act.put, List.setIfInBounds_toArray, List.set_cons_zero, List.set_cons_succ]; rfl); refine ss_ 29 5 20 #[.int .i64 e0, .int .i64 e1, .string e2, .slice Ax le.length cx] BK5.out ?_; intro w' hbox hc; replace BK1 := bs_ hc BK1 (by have := S.out; omega); replace Mo := fs_ hc Mo (by have := S.out; omega); replace BK4 := bs_ hc BK4 (by have := S.out; omega); replace Mx := us_ hc Mx (by have := S.out; omega); replace HB := hs_ hc HB (by have := S.out; omega); replace S := t_ hc S; clear BK5; have BK5 := A_ hbox; clear hbox hc) | ((with_reducible refine gate_ (.load 29 (.tmp 5)) rfl ?_); (try (refine gate_guard (by rfl) ?_; dsimp only)); refine ld_ 29 5 BK5.out Try.underlying29 ?_) | ((with_reducible refine gate_callee (f := 43) rfl ?_); (try (refine gate_guard (by rfl) ?_; dsimp only)); refine gL_ (some 22) Try.func43 #[.agg #[.int .i64 e0, .int .i64 e1, .string e2, .slice Ax le.length cx]] ?_; refine (if4 k e0 e1 e2 Ax cx le p0 p1 p2 lp w _ HB.out Mx.out.rd Hip.out).mono ?_; rintro e w' ⟨Ag, cg, log, hig, rfl, h1, h2, h3, hR, hc⟩; refine ⟨_, rfl, ?_⟩; have F10 : g5 + 1 ≤ log := (Nat.le_trans S.out h1); have F11 : log ≤ hig := h2; replace BK1 := bz_ hc BK1; replace Mo := fz_ hc Mo; replace BK4 := bz_ hc BK4; replace Mx := uz_ hc Mx; replace BK5 := bz_ hc BK5; replace HB := hz_ hc HB; replace S := t_ hc S; clear S; have S := A_ h3; have Mg := A_ hR; clear h1 h2 h3 hR hc) | ((with_reducible refine gate_dst (N := 6) rfl ?_); refine bx_ 6 #[.int .i64 0, .int .i64 0, .string (⟨#[]⟩ : ByteArray), .slice none 0 0] 29 ?_; intro g6 hg w' hbox hb; have hc := co_ hb; have F12 : hig ≤ g6 := (by have := S.out; omega); clear hg; replace BK1 := bz_ hc BK1; replace Mo := fz_ hc Mo; replace BK4 := bz_ hc BK4; replace Mx := uz_ hc Mx; replace BK5 := bz_ hc BK5; replace Mg := uz_ hc Mg; replace HB := hz_ hc HB; replace S := t_ hc S; clear S; have S : Aside0 (g6 + 1 ≤ w'.heap.size) := A_ (blk_lt hbox); have BK6 := A_ hbox; clear hbox hb hc) | ((with_reducible refine gate_ (.store 29 (.tmp 6) (.tmp 22)) rfl ?_); refine nrm_ (a' := ?_) ?_ ?_; rotate_left; (simp only [Act.put, List.setIfInBounds_toArray, List.set_cons_zero, List.set_cons_succ]; rfl); refine ss_ 29 6 22 #[.int .i64 p0, .int .i64 p1, .string p2, .slice Ag lp.length cg] BK6.out ?_; intro w' hbox hc; replace BK1 := bs_ hc BK1 (by have := S.out; omega); replace Mo := fs_ hc Mo (by have := S.out; omega); replace BK4 := bs_ hc BK4 (by have := S.out; omega); replace Mx := us_ hc Mx (by have := S.out; omega); replace BK5 := bs_ hc BK5 (by have := S.out; omega); replace Mg := us_ hc Mg (by have := S.out; omega); replace HB := hs_ hc HB (by have := S.out; omega); replace S := t_ hc S; clear BK6; have BK6 := A_ hbox; clear hbox hc) | ((with_reducible refine gate_ (.load 29 (.tmp 6)) rfl ?_); (try (refine gate_guard (by rfl) ?_; dsimp only)); refine ld_ 29 6 BK6.out Try.underlying29 ?_) | ((with_reducible refine gate_ (.load 29 (.tmp 4)) rfl ?_); (try (refine gate_guard (by rfl) ?_; dsimp only)); refine ld_ 29 4 BK4.out Try.underlying29 ?_) | ((with_reducible refine gate_callee (f := 16) rfl ?_); (try (refine gate_guard (by rfl) ?_; dsimp only)); refine gL_ (some 25) Try.func16 #[.agg #[.int .i64 p0, .int .i64 p1, .string p2, .slice Ag lp.length cg], .agg #[.int .i64 p0, .int .i64 p1, .string p2, .slice Ao lp.length co]] ?_; refine (eq4 k p0 p1 p2 Ag cg lp p0 p1 p2 Ao co lp true _ Mg.out.rd Mo.out.rd Hqp.out).mono ?_; rintro e w' ⟨rfl, hc⟩; refine ⟨_, rfl, ?_⟩; replace BK1 := bz_ hc BK1; replace Mo := fz_ hc Mo; replace BK4 := bz_ hc BK4; replace Mx := uz_ hc Mx; replace BK5 := bz_ hc BK5; replace Mg := uz_ hc Mg; replace BK6 := bz_ hc BK6; replace HB := hz_ hc HB; replace S := t_ hc S; clear hc))
  have hc := Ch.drew w'
  replace BK1 := bz_ hc BK1
  replace Mo := fz_ hc Mo
  replace BK4 := bz_ hc BK4
  replace Mx := uz_ hc Mx
  replace BK5 := bz_ hc BK5
  replace Mg := uz_ hc Mg
  replace BK6 := bz_ hc BK6
  replace HB := hz_ hc HB
  replace S := t_ hc S
  clear hc
  refine start_ (n := 5) (S := fun w' => w'.heap[g5]? = some (.cells #[.int .i64 e0, .int .i64 e1, .string e2, .slice Ax le.length cx] 29 (0, 0)) ∧ w'.heap[g1]? = some (.cells #[.int .i64 a0, .int .i64 a1, .string a2, .slice Aa la.length ca] 24 (0, 0))) (ds := []) #[false, false, false, false, false] (by kernel_rfl) rfl rfl ⟨BK5.out, BK1.out⟩ (fun hHeld => ?_)
  generalize w'.drew = w' at BK1 Mo BK4 Mx BK5 Mg BK6 HB S hHeld ⊢
  refine take_ (i := 0) (N := some 27) (v := .agg #[.int .i64 e0, .int .i64 e1, .string e2, .slice Ax le.length cx]) (a' := ?_) #[true, false, false, false, false] rfl rfl (by kernel_rfl) (fun _ _ _ h => h) (Or.inl ⟨by rfl, ?_⟩) hHeld ?_ ?_
  · rintro w' ⟨s0, s1⟩
    exact load_yields 29 (.tmp 5) (by rfl) g5 (by rfl) 29 _ _ s0 Try.underlying29 rfl (by kernel_rfl)
  rotate_left
  · simp only [Act.put, List.setIfInBounds_toArray, List.set_cons_zero, List.set_cons_succ, i64_w, i32_w]
    rfl
  refine take_ (i := 1) (N := some 28) (v := .agg #[.int .i64 a0, .int .i64 a1, .string a2, .slice Aa la.length ca]) (a' := ?_) #[true, true, false, false, false] rfl rfl (by kernel_rfl) (fun _ _ _ h => h) (Or.inl ⟨by rfl, ?_⟩) hHeld ?_ ?_
  · rintro w' ⟨s0, s1⟩
    exact load_yields 24 (.tmp 1) (by rfl) g1 (by rfl) 24 _ _ s1 Try.underlying24 rfl (by kernel_rfl)
  rotate_left
  · simp only [Act.put, List.setIfInBounds_toArray, List.set_cons_zero, List.set_cons_succ, i64_w, i32_w]
    rfl
  refine one_ (i := 2) (N := some 29) #[true, true, true, false, false] rfl rfl (by kernel_rfl) (by decide) (fun K hK => ?_)
  refine goes_ Try.func14 (by kernel_rfl) rfl #[.agg #[.int .i64 a0, .int .i64 a1, .string a2, .slice Aa la.length ca]] (by rfl) rfl rfl dA_ ?_
  refine (te4 k a0 a1 a2 Aa ca la e0 e1 e2 le w _ HB.out Hra.out Hca.out Hte.out).mono ?_
  rintro e w' ⟨Aq, cq, loq, hiq, rfl, h1, h2, h3, hR, hc⟩
  refine ⟨_, rfl, ?_⟩
  have F13 : g6 + 1 ≤ loq := (Nat.le_trans S.out h1)
  have F14 : loq ≤ hiq := h2
  replace BK1 := bz_ hc BK1
  replace Mo := fz_ hc Mo
  replace BK4 := bz_ hc BK4
  replace Mx := uz_ hc Mx
  replace BK5 := bz_ hc BK5
  replace Mg := uz_ hc Mg
  replace BK6 := bz_ hc BK6
  replace HB := hz_ hc HB
  replace S := t_ hc S
  clear S
  have S := A_ h3
  have Mq := A_ hR
  clear h1 h2 h3 hR hc
  refine hK.out _ _ ⟨BK5.out, BK1.out⟩ (fun hHeld => ?_)
  clear hK K
  refine norm_ (a' := ?_) ?_ ?_
  rotate_left
  · show Act.put _ (some 29) _ = _
    simp only [Act.put, List.setIfInBounds_toArray, List.set_cons_zero, List.set_cons_succ, i64_w, i32_w]
    rfl
  refine one_ (i := 3) (N := some 30) #[true, true, true, true, false] rfl rfl (by kernel_rfl) (by decide) (fun K hK => ?_)
  refine goes_ Try.func16 (by kernel_rfl) rfl #[.agg #[.int .i64 e0, .int .i64 e1, .string e2, .slice Ax le.length cx], .agg #[.int .i64 e0, .int .i64 e1, .string e2, .slice Aq le.length cq]] (by rfl) rfl rfl dA_ ?_
  refine (eq4 k e0 e1 e2 Ax cx le e0 e1 e2 Aq cq le true _ Mx.out.rd Mq.out.rd Hqe.out).mono ?_
  rintro e w' ⟨rfl, hc⟩
  refine ⟨_, rfl, ?_⟩
  replace BK1 := bz_ hc BK1
  replace Mo := fz_ hc Mo
  replace BK4 := bz_ hc BK4
  replace Mx := uz_ hc Mx
  replace BK5 := bz_ hc BK5
  replace Mg := uz_ hc Mg
  replace BK6 := bz_ hc BK6
  replace Mq := uz_ hc Mq
  replace HB := hz_ hc HB
  replace S := t_ hc S
  clear hc
  refine hK.out _ _ ⟨BK5.out, BK1.out⟩ (fun hHeld => ?_)
  clear hK K
  refine norm_ (a' := ?_) ?_ ?_
  rotate_left
  · show Act.put _ (some 30) _ = _
    simp only [Act.put, List.setIfInBounds_toArray, List.set_cons_zero, List.set_cons_succ, i64_w, i32_w]
    rfl
  refine pure_ (i := 4) (N := some 31) (v := ?_) (a' := ?_) #[true, true, true, true, true] rfl rfl (by kernel_rfl) (fun _ _ _ h => h) (Or.inl ⟨by rfl, ?_⟩) ?_ ?_
  rotate_left
  · intro w'
    go_simp
    with_reducible rfl
  rotate_left
  · simp only [Act.put, List.setIfInBounds_toArray, List.set_cons_zero, List.set_cons_succ, i64_w, i32_w]
    rfl
  refine done_ (by kernel_rfl) ?_
  clear Mq
  go_wp2_with (first | ((with_reducible refine gate_ (.load 29 (.tmp 5)) rfl ?_); (try (refine gate_guard (by rfl) ?_; dsimp only)); refine ld_ 29 5 BK5.out Try.underlying29 ?_) | ((with_reducible refine gate_callee (f := 36) rfl ?_); (try (refine gate_guard (by rfl) ?_; dsimp only)); refine gL_ (some 34) Try.func36 #[.agg #[.int .i64 e0, .int .i64 e1, .string e2, .slice Ax le.length cx], .int .i64 1] ?_; refine (mark4 k e0 e1 e2 Ax cx le me 1 k1 lox hix w _ HB.out Mx.out Hm1.out Hl1.out).mono ?_; rintro e w' ⟨rfl, hR, hc⟩; refine ⟨_, rfl, ?_⟩; replace BK1 := bs_ hc BK1 (by have := S.out; omega); replace Mo := fs_ hc Mo (by have := S.out; omega); replace BK4 := bs_ hc BK4 (by have := S.out; omega); replace BK5 := bs_ hc BK5 (by have := S.out; omega); replace Mg := us_ hc Mg (by have := S.out; omega); replace BK6 := bs_ hc BK6 (by have := S.out; omega); replace HB := hs_ hc HB (by have := S.out; omega); replace S := t_ hc S; clear Mx; have Mx := A_ hR; clear hR hc) | ((with_reducible refine gate_ (.load 29 (.tmp 6)) rfl ?_); (try (refine gate_guard (by rfl) ?_; dsimp only)); refine ld_ 29 6 BK6.out Try.underlying29 ?_) | ((with_reducible refine gate_ (.load 29 (.tmp 4)) rfl ?_); (try (refine gate_guard (by rfl) ?_; dsimp only)); refine ld_ 29 4 BK4.out Try.underlying29 ?_) | ((with_reducible refine gate_callee (f := 16) rfl ?_); (try (refine gate_guard (by rfl) ?_; dsimp only)); refine gL_ (some 40) Try.func16 #[.agg #[.int .i64 p0, .int .i64 p1, .string p2, .slice Ag lp.length cg], .agg #[.int .i64 p0, .int .i64 p1, .string p2, .slice Ao lp.length co]] ?_; refine (eq4 k p0 p1 p2 Ag cg lp p0 p1 p2 Ao co lp true _ Mg.out.rd Mo.out.rd Hqp.out).mono ?_; rintro e w' ⟨rfl, hc⟩; refine ⟨_, rfl, ?_⟩; replace BK1 := bz_ hc BK1; replace Mo := fz_ hc Mo; replace BK4 := bz_ hc BK4; replace Mx := uz_ hc Mx; replace BK5 := bz_ hc BK5; replace Mg := uz_ hc Mg; replace BK6 := bz_ hc BK6; replace HB := hz_ hc HB; replace S := t_ hc S; clear hc) | ((with_reducible refine gate_callee (f := 36) rfl ?_); (try (refine gate_guard (by rfl) ?_; dsimp only)); refine gL_ (some 45) Try.func36 #[.agg #[.int .i64 p0, .int .i64 p1, .string p2, .slice Ag lp.length cg], .int .i64 1] ?_; refine (mark4 k p0 p1 p2 Ag cg lp mp 1 m log hig w _ HB.out Mg.out Hm5.out Hl5.out).mono ?_; rintro e w' ⟨rfl, hR, hc⟩; refine ⟨_, rfl, ?_⟩; replace BK1 := bs_ hc BK1 (by have := S.out; omega); replace Mo := fs_ hc Mo (by have := S.out; omega); replace BK4 := bs_ hc BK4 (by have := S.out; omega); replace Mx := us_ hc Mx (by have := S.out; omega); replace BK5 := bs_ hc BK5 (by have := S.out; omega); replace BK6 := bs_ hc BK6 (by have := S.out; omega); replace HB := hs_ hc HB (by have := S.out; omega); replace S := t_ hc S; clear Mg; have Mg := A_ hR; clear hR hc) | ((with_reducible refine gate_callee (f := 39) rfl ?_); (try (refine gate_guard (by rfl) ?_; dsimp only)); refine gL_ (some 48) Try.func39 #[.agg #[.int .i64 p0, .int .i64 p1, .string p2, .slice Ag lp.length cg], .int .i64 1] ?_; refine (held4 k p0 p1 p2 Ag cg lp.length mp Hl5.out 1 m _ Mg.out.rd Hh.out).mono ?_; rintro e w' ⟨rfl, hc⟩; refine ⟨_, rfl, ?_⟩; replace BK1 := bz_ hc BK1; replace Mo := fz_ hc Mo; replace BK4 := bz_ hc BK4; replace Mx := uz_ hc Mx; replace BK5 := bz_ hc BK5; replace Mg := uz_ hc Mg; replace BK6 := bz_ hc BK6; replace HB := hz_ hc HB; replace S := t_ hc S; clear hc) | ((with_reducible refine gate_ (.load 24 (.tmp 1)) rfl ?_); (try (refine gate_guard (by rfl) ?_; dsimp only)); refine ld_ 24 1 BK1.out Try.underlying24 ?_) | ((with_reducible refine gate_callee (f := 14) rfl ?_); (try (refine gate_guard (by rfl) ?_; dsimp only)); refine gL_ (some 55) Try.func14 #[.agg #[.int .i64 a0, .int .i64 a1, .string a2, .slice Aa la.length ca]] ?_; refine (te4 k a0 a1 a2 Aa ca la e0 e1 e2 le w _ HB.out Hra.out Hca.out Hte.out).mono ?_; rintro e w' ⟨Ay, cy, loy, hiy, rfl, h1, h2, h3, hR, hc⟩; refine ⟨_, rfl, ?_⟩; have F15 : hiq ≤ loy := (Nat.le_trans S.out h1); have F16 : loy ≤ hiy := h2; replace BK1 := bz_ hc BK1; replace Mo := fz_ hc Mo; replace BK4 := bz_ hc BK4; replace Mx := uz_ hc Mx; replace BK5 := bz_ hc BK5; replace Mg := uz_ hc Mg; replace BK6 := bz_ hc BK6; replace HB := hz_ hc HB; replace S := t_ hc S; clear S; have S := A_ h3; have My := A_ hR; clear h1 h2 h3 hR hc) | ((with_reducible refine gate_callee (f := 43) rfl ?_); (try (refine gate_guard (by rfl) ?_; dsimp only)); refine gL_ (some 56) Try.func43 #[.agg #[.int .i64 e0, .int .i64 e1, .string e2, .slice Ay le.length cy]] ?_; refine (if4 k e0 e1 e2 Ay cy le p0 p1 p2 lp w _ HB.out My.out.rd Hip.out).mono ?_; rintro e w' ⟨Ar, cr, lor, hir, rfl, h1, h2, h3, hR, hc⟩; refine ⟨_, rfl, ?_⟩; have F17 : hiy ≤ lor := (Nat.le_trans S.out h1); have F18 : lor ≤ hir := h2; clear My; replace BK1 := bz_ hc BK1; replace Mo := fz_ hc Mo; replace BK4 := bz_ hc BK4; replace Mx := uz_ hc Mx; replace BK5 := bz_ hc BK5; replace Mg := uz_ hc Mg; replace BK6 := bz_ hc BK6; replace HB := hz_ hc HB; replace S := t_ hc S; clear S; have S := A_ h3; have Mr := A_ hR; clear h1 h2 h3 hR hc) | ((with_reducible refine gate_dst (N := 10) rfl ?_); refine bx_ 10 #[.int .i64 0, .int .i64 0, .string (⟨#[]⟩ : ByteArray), .slice none 0 0] 29 ?_; intro g10 hg w' hbox hb; have hc := co_ hb; have F19 : hir ≤ g10 := (by have := S.out; omega); clear hg; replace BK1 := bz_ hc BK1; replace Mo := fz_ hc Mo; replace BK4 := bz_ hc BK4; replace Mx := uz_ hc Mx; replace BK5 := bz_ hc BK5; replace Mg := uz_ hc Mg; replace BK6 := bz_ hc BK6; replace Mr := uz_ hc Mr; replace HB := hz_ hc HB; replace S := t_ hc S; clear S; have S : Aside0 (g10 + 1 ≤ w'.heap.size) := A_ (blk_lt hbox); have BK10 := A_ hbox; clear hbox hb hc) | ((with_reducible refine gate_ (.store 29 (.tmp 10) (.tmp 56)) rfl ?_); refine nrm_ (a' := ?_) ?_ ?_; rotate_left; (simp only [Act.put, List.setIfInBounds_toArray, List.set_cons_zero, List.set_cons_succ]; rfl); refine ss_ 29 10 56 #[.int .i64 p0, .int .i64 p1, .string p2, .slice Ar lp.length cr] BK10.out ?_; intro w' hbox hc; replace BK1 := bs_ hc BK1 (by have := S.out; omega); replace Mo := fs_ hc Mo (by have := S.out; omega); replace BK4 := bs_ hc BK4 (by have := S.out; omega); replace Mx := us_ hc Mx (by have := S.out; omega); replace BK5 := bs_ hc BK5 (by have := S.out; omega); replace Mg := us_ hc Mg (by have := S.out; omega); replace BK6 := bs_ hc BK6 (by have := S.out; omega); replace Mr := us_ hc Mr (by have := S.out; omega); replace HB := hs_ hc HB (by have := S.out; omega); replace S := t_ hc S; clear BK10; have BK10 := A_ hbox; clear hbox hc) | ((with_reducible refine gate_ (.load 29 (.tmp 10)) rfl ?_); (try (refine gate_guard (by rfl) ?_; dsimp only)); refine ld_ 29 10 BK10.out Try.underlying29 ?_) | ((with_reducible refine gate_ (.load 29 (.tmp 4)) rfl ?_); (try (refine gate_guard (by rfl) ?_; dsimp only)); refine ld_ 29 4 BK4.out Try.underlying29 ?_) | ((with_reducible refine gate_ (.load 29 (.tmp 6)) rfl ?_); (try (refine gate_guard (by rfl) ?_; dsimp only)); refine ld_ 29 6 BK6.out Try.underlying29 ?_) | ((with_reducible refine gate_callee (f := 16) rfl ?_); (try (refine gate_guard (by rfl) ?_; dsimp only)); refine gL_ (some 59) Try.func16 #[.agg #[.int .i64 p0, .int .i64 p1, .string p2, .slice Ar lp.length cr], .agg #[.int .i64 p0, .int .i64 p1, .string p2, .slice Ao lp.length co]] ?_; refine (eq4 k p0 p1 p2 Ar cr lp p0 p1 p2 Ao co lp true _ Mr.out.rd Mo.out.rd Hqp.out).mono ?_; rintro e w' ⟨rfl, hc⟩; refine ⟨_, rfl, ?_⟩; replace BK1 := bz_ hc BK1; replace Mo := fz_ hc Mo; replace BK4 := bz_ hc BK4; replace Mx := uz_ hc Mx; replace BK5 := bz_ hc BK5; replace Mg := uz_ hc Mg; replace BK6 := bz_ hc BK6; replace Mr := uz_ hc Mr; replace BK10 := bz_ hc BK10; replace HB := hz_ hc HB; replace S := t_ hc S; clear hc) | ((with_reducible refine gate_callee (f := 39) rfl ?_); (try (refine gate_guard (by rfl) ?_; dsimp only)); refine gL_ (some 63) Try.func39 #[.agg #[.int .i64 p0, .int .i64 p1, .string p2, .slice Ag lp.length cg], .int .i64 1] ?_; refine (held4 k p0 p1 p2 Ag cg lp.length mp Hl5.out 1 m _ Mg.out.rd Hh.out).mono ?_; rintro e w' ⟨rfl, hc⟩; refine ⟨_, rfl, ?_⟩; replace BK1 := bz_ hc BK1; replace Mo := fz_ hc Mo; replace BK4 := bz_ hc BK4; replace Mx := uz_ hc Mx; replace BK5 := bz_ hc BK5; replace Mg := uz_ hc Mg; replace BK6 := bz_ hc BK6; replace Mr := uz_ hc Mr; replace BK10 := bz_ hc BK10; replace HB := hz_ hc HB; replace S := t_ hc S; clear hc))
  go_ret
  exact ⟨rfl, HB.out⟩
theorem law (a0 a1 : Int) (a2 : ByteArray) (Aa : Option Addr) (ca : Nat) (la : List S24) (w : World) (hra : Kd.C k24 w Aa la.length la) (hca : la.length ≤ ca) (hf : Pure.Facts a0 a1 a2 la) :
    Calls Try.prog 10 #[.agg #[.int .i64 a0, .int .i64 a1, .string a2, .slice Aa la.length ca]] w fun e w' => e = .returned (.bool true) ∧ Below w.heap.size w w' := by
  obtain ⟨k, hf⟩ := hf
  rcases hf with ⟨r1, hs1, hd1⟩ | ⟨r1, e0, e1, e2, le, p0, p1, p2, lp, me, mp, k1, m, hs1, hd1, hte, hsp, hip, hqp, hqe, hm1, hl1, hm5, hl5, hh, hd5, hd6⟩
  · exact early1 k a0 a1 a2 Aa ca la r1 w hra hca hs1 hd1
  · exact whole k a0 a1 a2 Aa ca la r1 e0 e1 e2 le p0 p1 p2 lp me mp k1 m w hra hca hs1 hd1 hte hsp hip hqp hqe hm1 hl1 hm5 hl5 hh hd5 hd6
end Go.Proofs.Ytcpnhlhigpgonaa.WFnExactFold
