/- Proved: what the law FnExactPut answers, by its walk. -/
-- Laid by a program of this session; Lean checks every line.
import Derived.Test.YtcpnhlhigpgonaaPFnExactPutx15
import Derived.Test.YtcpnhlhigpgonaaPureFnExactPut
namespace Go.Proofs.Ytcpnhlhigpgonaa.WFnExactPut
open Go.RowKit Go.Proofs.Ytcpnhlhigpgonaa.PFnExactPut Go.Proofs.YtcpnhlhigpgonaaW.PrintWords Go.Proofs.YtcpnhlhigpgonaaW.PrintLast Go.Proofs.YtcpnhlhigpgonaaW.PrintMore Go.Proofs.Ytcpnhlhigpgonaa.Chg
set_option linter.unusedVariables false
set_option linter.unusedSimpArgs false
attribute [local go_sem] max2_int min2_int max_two min_two max_three min_three max_four min_four
set_option maxHeartbeats 32000000 in
set_option maxRecDepth 100000 in
theorem early1 (k : Nat) (a0 a1 : Int) (a2 : ByteArray) (Aa : Option Addr) (ca : Nat) (la : List S24) (b0 b1 : Int) (b2 : ByteArray) (Ab : Option Addr) (cb : Nat) (lb : List S24) (An : Option Addr) (cn : Nat) (ln : List ByteArray) (Aw : Option Addr) (cw : Nat) (lw : List S24) (r1 : Int) (w : World) (hra : Kd.C k24 w Aa la.length la) (hca : la.length ≤ ca) (hrb : Kd.C k24 w Ab lb.length lb) (hcb : lb.length ≤ cb) (hrn : Kd.C Kd.string w An ln.length ln) (hcn : ln.length ≤ cn) (hrw : Kd.C k24 w Aw lw.length lw) (hcw : lw.length ≤ cw) (hs1 : laws_szExpr.f k a0 a1 a2 la 1048576 = some r1) (hd1 : decide (r1 < 0) = true) :
    Calls Try.prog 8 #[.agg #[.int .i64 a0, .int .i64 a1, .string a2, .slice Aa la.length ca], .agg #[.int .i64 b0, .int .i64 b1, .string b2, .slice Ab lb.length cb], .slice An ln.length cn, .slice Aw lw.length cw] w fun e w' => e = .returned (.bool true) ∧ Below w.heap.size w w' := by
  have Hra := A_ hra
  have Hca := A_ hca
  have Hrb := A_ hrb
  have Hcb := A_ hcb
  have Hrn := A_ hrn
  have Hcn := A_ hcn
  have Hrw := A_ hrw
  have Hcw := A_ hcw
  clear hra hca hrb hcb hrn hcn hrw hcw
  have HB := A_ (Below.refl w.heap.size w)
  have S : Aside0 (w.heap.size ≤ w.heap.size) := A_ (Nat.le_refl _)
  have Hs1 := A_ hs1
  clear hs1
  go_enter Try.func8, Try.ntmps8
  go_wp2_with (first | ((with_reducible refine gate_dst (N := 4) rfl ?_); refine bx_ 4 #[.int .i64 a0, .int .i64 a1, .string a2, .slice Aa la.length ca] 24 ?_; intro g4 hg w' hbox hb; have hc := co_ hb; have F1 : w.heap.size ≤ g4 := (by have := S.out; omega); clear hg; replace HB := hz_ hc HB; replace S := t_ hc S; clear S; have S : Aside0 (g4 + 1 ≤ w'.heap.size) := A_ (blk_lt hbox); have BK4 := A_ hbox; clear hbox hb hc) | ((with_reducible refine gate_dst (N := 5) rfl ?_); refine bx_ 5 #[.int .i64 b0, .int .i64 b1, .string b2, .slice Ab lb.length cb] 24 ?_; intro g5 hg w' hbox hb; have hc := co_ hb; have F2 : g4 + 1 ≤ g5 := (by have := S.out; omega); clear hg; replace BK4 := bz_ hc BK4; replace HB := hz_ hc HB; replace S := t_ hc S; clear S; have S : Aside0 (g5 + 1 ≤ w'.heap.size) := A_ (blk_lt hbox); have BK5 := A_ hbox; clear hbox hb hc) | ((with_reducible refine gate_ (.load 24 (.tmp 4)) rfl ?_); (try (refine gate_guard (by rfl) ?_; dsimp only)); refine ld_ 24 4 BK4.out Try.underlying24 ?_) | ((with_reducible refine gate_callee (f := 12) rfl ?_); (try (refine gate_guard (by rfl) ?_; dsimp only)); refine gL_ (some 22) Try.func12 #[.agg #[.int .i64 a0, .int .i64 a1, .string a2, .slice Aa la.length ca], .int .i64 1048576] ?_; refine (sz4 k a0 a1 a2 Aa ca la 1048576 r1 w _ HB.out Hra.out Hca.out Hs1.out).mono ?_; rintro e w' ⟨rfl, hc⟩; refine ⟨_, rfl, ?_⟩; replace BK4 := bz_ hc BK4; replace BK5 := bz_ hc BK5; replace HB := hz_ hc HB; replace S := t_ hc S; clear hc))
  go_ret
  exact ⟨rfl, HB.out⟩
set_option maxHeartbeats 32000000 in
set_option maxRecDepth 100000 in
theorem early2 (k : Nat) (a0 a1 : Int) (a2 : ByteArray) (Aa : Option Addr) (ca : Nat) (la : List S24) (b0 b1 : Int) (b2 : ByteArray) (Ab : Option Addr) (cb : Nat) (lb : List S24) (An : Option Addr) (cn : Nat) (ln : List ByteArray) (Aw : Option Addr) (cw : Nat) (lw : List S24) (r1 r2 : Int) (w : World) (hra : Kd.C k24 w Aa la.length la) (hca : la.length ≤ ca) (hrb : Kd.C k24 w Ab lb.length lb) (hcb : lb.length ≤ cb) (hrn : Kd.C Kd.string w An ln.length ln) (hcn : ln.length ≤ cn) (hrw : Kd.C k24 w Aw lw.length lw) (hcw : lw.length ≤ cw) (hs1 : laws_szExpr.f k a0 a1 a2 la 1048576 = some r1) (hs2 : laws_szExpr.f k b0 b1 b2 lb r1 = some r2) (hd1 : decide (r1 < 0) = false) (hd2 : decide (r2 < 0) = true) :
    Calls Try.prog 8 #[.agg #[.int .i64 a0, .int .i64 a1, .string a2, .slice Aa la.length ca], .agg #[.int .i64 b0, .int .i64 b1, .string b2, .slice Ab lb.length cb], .slice An ln.length cn, .slice Aw lw.length cw] w fun e w' => e = .returned (.bool true) ∧ Below w.heap.size w w' := by
  have Hra := A_ hra
  have Hca := A_ hca
  have Hrb := A_ hrb
  have Hcb := A_ hcb
  have Hrn := A_ hrn
  have Hcn := A_ hcn
  have Hrw := A_ hrw
  have Hcw := A_ hcw
  clear hra hca hrb hcb hrn hcn hrw hcw
  have HB := A_ (Below.refl w.heap.size w)
  have S : Aside0 (w.heap.size ≤ w.heap.size) := A_ (Nat.le_refl _)
  have Hs1 := A_ hs1
  have Hs2 := A_ hs2
  clear hs1 hs2
  go_enter Try.func8, Try.ntmps8
  go_wp2_with (first | ((with_reducible refine gate_dst (N := 4) rfl ?_); refine bx_ 4 #[.int .i64 a0, .int .i64 a1, .string a2, .slice Aa la.length ca] 24 ?_; intro g4 hg w' hbox hb; have hc := co_ hb; have F1 : w.heap.size ≤ g4 := (by have := S.out; omega); clear hg; replace HB := hz_ hc HB; replace S := t_ hc S; clear S; have S : Aside0 (g4 + 1 ≤ w'.heap.size) := A_ (blk_lt hbox); have BK4 := A_ hbox; clear hbox hb hc) | ((with_reducible refine gate_dst (N := 5) rfl ?_); refine bx_ 5 #[.int .i64 b0, .int .i64 b1, .string b2, .slice Ab lb.length cb] 24 ?_; intro g5 hg w' hbox hb; have hc := co_ hb; have F2 : g4 + 1 ≤ g5 := (by have := S.out; omega); clear hg; replace BK4 := bz_ hc BK4; replace HB := hz_ hc HB; replace S := t_ hc S; clear S; have S : Aside0 (g5 + 1 ≤ w'.heap.size) := A_ (blk_lt hbox); have BK5 := A_ hbox; clear hbox hb hc) | ((with_reducible refine gate_ (.load 24 (.tmp 4)) rfl ?_); (try (refine gate_guard (by rfl) ?_; dsimp only)); refine ld_ 24 4 BK4.out Try.underlying24 ?_) | ((with_reducible refine gate_callee (f := 12) rfl ?_); (try (refine gate_guard (by rfl) ?_; dsimp only)); refine gL_ (some 22) Try.func12 #[.agg #[.int .i64 a0, .int .i64 a1, .string a2, .slice Aa la.length ca], .int .i64 1048576] ?_; refine (sz4 k a0 a1 a2 Aa ca la 1048576 r1 w _ HB.out Hra.out Hca.out Hs1.out).mono ?_; rintro e w' ⟨rfl, hc⟩; refine ⟨_, rfl, ?_⟩; replace BK4 := bz_ hc BK4; replace BK5 := bz_ hc BK5; replace HB := hz_ hc HB; replace S := t_ hc S; clear hc) | ((with_reducible refine gate_ (.load 24 (.tmp 5)) rfl ?_); (try (refine gate_guard (by rfl) ?_; dsimp only)); refine ld_ 24 5 BK5.out Try.underlying24 ?_) | ((with_reducible refine gate_callee (f := 12) rfl ?_); (try (refine gate_guard (by rfl) ?_; dsimp only)); refine gL_ (some 27) Try.func12 #[.agg #[.int .i64 b0, .int .i64 b1, .string b2, .slice Ab lb.length cb], .int .i64 r1] ?_; refine (sz4 k b0 b1 b2 Ab cb lb r1 r2 w _ HB.out Hrb.out Hcb.out Hs2.out).mono ?_; rintro e w' ⟨rfl, hc⟩; refine ⟨_, rfl, ?_⟩; replace BK4 := bz_ hc BK4; replace BK5 := bz_ hc BK5; replace HB := hz_ hc HB; replace S := t_ hc S; clear hc))
  go_ret
  exact ⟨rfl, HB.out⟩
set_option maxHeartbeats 32000000 in
set_option maxRecDepth 100000 in
theorem early3 (k : Nat) (a0 a1 : Int) (a2 : ByteArray) (Aa : Option Addr) (ca : Nat) (la : List S24) (b0 b1 : Int) (b2 : ByteArray) (Ab : Option Addr) (cb : Nat) (lb : List S24) (An : Option Addr) (cn : Nat) (ln : List ByteArray) (Aw : Option Addr) (cw : Nat) (lw : List S24) (r1 r2 r3 : Int) (w : World) (hra : Kd.C k24 w Aa la.length la) (hca : la.length ≤ ca) (hrb : Kd.C k24 w Ab lb.length lb) (hcb : lb.length ≤ cb) (hrn : Kd.C Kd.string w An ln.length ln) (hcn : ln.length ≤ cn) (hrw : Kd.C k24 w Aw lw.length lw) (hcw : lw.length ≤ cw) (hs1 : laws_szExpr.f k a0 a1 a2 la 1048576 = some r1) (hs2 : laws_szExpr.f k b0 b1 b2 lb r1 = some r2) (hs3 : laws_szStringS.f k ln r2 = some r3) (hd1 : decide (r1 < 0) = false) (hd2 : decide (r2 < 0) = false) (hd3 : decide (r3 < 0) = true) :
    Calls Try.prog 8 #[.agg #[.int .i64 a0, .int .i64 a1, .string a2, .slice Aa la.length ca], .agg #[.int .i64 b0, .int .i64 b1, .string b2, .slice Ab lb.length cb], .slice An ln.length cn, .slice Aw lw.length cw] w fun e w' => e = .returned (.bool true) ∧ Below w.heap.size w w' := by
  have Hra := A_ hra
  have Hca := A_ hca
  have Hrb := A_ hrb
  have Hcb := A_ hcb
  have Hrn := A_ hrn
  have Hcn := A_ hcn
  have Hrw := A_ hrw
  have Hcw := A_ hcw
  clear hra hca hrb hcb hrn hcn hrw hcw
  have HB := A_ (Below.refl w.heap.size w)
  have S : Aside0 (w.heap.size ≤ w.heap.size) := A_ (Nat.le_refl _)
  have Hs1 := A_ hs1
  have Hs2 := A_ hs2
  have Hs3 := A_ hs3
  clear hs1 hs2 hs3
  go_enter Try.func8, Try.ntmps8
  go_wp2_with (first | ((with_reducible refine gate_dst (N := 4) rfl ?_); refine bx_ 4 #[.int .i64 a0, .int .i64 a1, .string a2, .slice Aa la.length ca] 24 ?_; intro g4 hg w' hbox hb; have hc := co_ hb; have F1 : w.heap.size ≤ g4 := (by have := S.out; omega); clear hg; replace HB := hz_ hc HB; replace S := t_ hc S; clear S; have S : Aside0 (g4 + 1 ≤ w'.heap.size) := A_ (blk_lt hbox); have BK4 := A_ hbox; clear hbox hb hc) | ((with_reducible refine gate_dst (N := 5) rfl ?_); refine bx_ 5 #[.int .i64 b0, .int .i64 b1, .string b2, .slice Ab lb.length cb] 24 ?_; intro g5 hg w' hbox hb; have hc := co_ hb; have F2 : g4 + 1 ≤ g5 := (by have := S.out; omega); clear hg; replace BK4 := bz_ hc BK4; replace HB := hz_ hc HB; replace S := t_ hc S; clear S; have S : Aside0 (g5 + 1 ≤ w'.heap.size) := A_ (blk_lt hbox); have BK5 := A_ hbox; clear hbox hb hc) | ((with_reducible refine gate_ (.load 24 (.tmp 4)) rfl ?_); (try (refine gate_guard (by rfl) ?_; dsimp only)); refine ld_ 24 4 BK4.out Try.underlying24 ?_) | ((with_reducible refine gate_callee (f := 12) rfl ?_); (try (refine gate_guard (by rfl) ?_; dsimp only)); refine gL_ (some 22) Try.func12 #[.agg #[.int .i64 a0, .int .i64 a1, .string a2, .slice Aa la.length ca], .int .i64 1048576] ?_; refine (sz4 k a0 a1 a2 Aa ca la 1048576 r1 w _ HB.out Hra.out Hca.out Hs1.out).mono ?_; rintro e w' ⟨rfl, hc⟩; refine ⟨_, rfl, ?_⟩; replace BK4 := bz_ hc BK4; replace BK5 := bz_ hc BK5; replace HB := hz_ hc HB; replace S := t_ hc S; clear hc) | ((with_reducible refine gate_ (.load 24 (.tmp 5)) rfl ?_); (try (refine gate_guard (by rfl) ?_; dsimp only)); refine ld_ 24 5 BK5.out Try.underlying24 ?_) | ((with_reducible refine gate_callee (f := 12) rfl ?_); (try (refine gate_guard (by rfl) ?_; dsimp only)); refine gL_ (some 27) Try.func12 #[.agg #[.int .i64 b0, .int .i64 b1, .string b2, .slice Ab lb.length cb], .int .i64 r1] ?_; refine (sz4 k b0 b1 b2 Ab cb lb r1 r2 w _ HB.out Hrb.out Hcb.out Hs2.out).mono ?_; rintro e w' ⟨rfl, hc⟩; refine ⟨_, rfl, ?_⟩; replace BK4 := bz_ hc BK4; replace BK5 := bz_ hc BK5; replace HB := hz_ hc HB; replace S := t_ hc S; clear hc) | ((with_reducible refine gate_callee (f := 24) rfl ?_); (try (refine gate_guard (by rfl) ?_; dsimp only)); refine gL_ (some 32) Try.func24 #[.slice An ln.length cn, .int .i64 r2] ?_; refine (zs4 k An cn ln r2 r3 w _ HB.out Hrn.out Hcn.out Hs3.out).mono ?_; rintro e w' ⟨rfl, hc⟩; refine ⟨_, rfl, ?_⟩; replace BK4 := bz_ hc BK4; replace BK5 := bz_ hc BK5; replace HB := hz_ hc HB; replace S := t_ hc S; clear hc))
  go_ret
  exact ⟨rfl, HB.out⟩
set_option maxHeartbeats 32000000 in
set_option maxRecDepth 100000 in
theorem early4 (k : Nat) (a0 a1 : Int) (a2 : ByteArray) (Aa : Option Addr) (ca : Nat) (la : List S24) (b0 b1 : Int) (b2 : ByteArray) (Ab : Option Addr) (cb : Nat) (lb : List S24) (An : Option Addr) (cn : Nat) (ln : List ByteArray) (Aw : Option Addr) (cw : Nat) (lw : List S24) (r1 r2 r3 r4 : Int) (w : World) (hra : Kd.C k24 w Aa la.length la) (hca : la.length ≤ ca) (hrb : Kd.C k24 w Ab lb.length lb) (hcb : lb.length ≤ cb) (hrn : Kd.C Kd.string w An ln.length ln) (hcn : ln.length ≤ cn) (hrw : Kd.C k24 w Aw lw.length lw) (hcw : lw.length ≤ cw) (hs1 : laws_szExpr.f k a0 a1 a2 la 1048576 = some r1) (hs2 : laws_szExpr.f k b0 b1 b2 lb r1 = some r2) (hs3 : laws_szStringS.f k ln r2 = some r3) (hs4 : laws_szExprS.f k lw r3 = some r4) (hd1 : decide (r1 < 0) = false) (hd2 : decide (r2 < 0) = false) (hd3 : decide (r3 < 0) = false) (hd4 : decide (r4 < 0) = true) :
    Calls Try.prog 8 #[.agg #[.int .i64 a0, .int .i64 a1, .string a2, .slice Aa la.length ca], .agg #[.int .i64 b0, .int .i64 b1, .string b2, .slice Ab lb.length cb], .slice An ln.length cn, .slice Aw lw.length cw] w fun e w' => e = .returned (.bool true) ∧ Below w.heap.size w w' := by
  have Hra := A_ hra
  have Hca := A_ hca
  have Hrb := A_ hrb
  have Hcb := A_ hcb
  have Hrn := A_ hrn
  have Hcn := A_ hcn
  have Hrw := A_ hrw
  have Hcw := A_ hcw
  clear hra hca hrb hcb hrn hcn hrw hcw
  have HB := A_ (Below.refl w.heap.size w)
  have S : Aside0 (w.heap.size ≤ w.heap.size) := A_ (Nat.le_refl _)
  have Hs1 := A_ hs1
  have Hs2 := A_ hs2
  have Hs3 := A_ hs3
  have Hs4 := A_ hs4
  clear hs1 hs2 hs3 hs4
  go_enter Try.func8, Try.ntmps8
  go_wp2_with (first | ((with_reducible refine gate_dst (N := 4) rfl ?_); refine bx_ 4 #[.int .i64 a0, .int .i64 a1, .string a2, .slice Aa la.length ca] 24 ?_; intro g4 hg w' hbox hb; have hc := co_ hb; have F1 : w.heap.size ≤ g4 := (by have := S.out; omega); clear hg; replace HB := hz_ hc HB; replace S := t_ hc S; clear S; have S : Aside0 (g4 + 1 ≤ w'.heap.size) := A_ (blk_lt hbox); have BK4 := A_ hbox; clear hbox hb hc) | ((with_reducible refine gate_dst (N := 5) rfl ?_); refine bx_ 5 #[.int .i64 b0, .int .i64 b1, .string b2, .slice Ab lb.length cb] 24 ?_; intro g5 hg w' hbox hb; have hc := co_ hb; have F2 : g4 + 1 ≤ g5 := (by have := S.out; omega); clear hg; replace BK4 := bz_ hc BK4; replace HB := hz_ hc HB; replace S := t_ hc S; clear S; have S : Aside0 (g5 + 1 ≤ w'.heap.size) := A_ (blk_lt hbox); have BK5 := A_ hbox; clear hbox hb hc) | ((with_reducible refine gate_ (.load 24 (.tmp 4)) rfl ?_); (try (refine gate_guard (by rfl) ?_; dsimp only)); refine ld_ 24 4 BK4.out Try.underlying24 ?_) | ((with_reducible refine gate_callee (f := 12) rfl ?_); (try (refine gate_guard (by rfl) ?_; dsimp only)); refine gL_ (some 22) Try.func12 #[.agg #[.int .i64 a0, .int .i64 a1, .string a2, .slice Aa la.length ca], .int .i64 1048576] ?_; refine (sz4 k a0 a1 a2 Aa ca la 1048576 r1 w _ HB.out Hra.out Hca.out Hs1.out).mono ?_; rintro e w' ⟨rfl, hc⟩; refine ⟨_, rfl, ?_⟩; replace BK4 := bz_ hc BK4; replace BK5 := bz_ hc BK5; replace HB := hz_ hc HB; replace S := t_ hc S; clear hc) | ((with_reducible refine gate_ (.load 24 (.tmp 5)) rfl ?_); (try (refine gate_guard (by rfl) ?_; dsimp only)); refine ld_ 24 5 BK5.out Try.underlying24 ?_) | ((with_reducible refine gate_callee (f := 12) rfl ?_); (try (refine gate_guard (by rfl) ?_; dsimp only)); refine gL_ (some 27) Try.func12 #[.agg #[.int .i64 b0, .int .i64 b1, .string b2, .slice Ab lb.length cb], .int .i64 r1] ?_; refine (sz4 k b0 b1 b2 Ab cb lb r1 r2 w _ HB.out Hrb.out Hcb.out Hs2.out).mono ?_; rintro e w' ⟨rfl, hc⟩; refine ⟨_, rfl, ?_⟩; replace BK4 := bz_ hc BK4; replace BK5 := bz_ hc BK5; replace HB := hz_ hc HB; replace S := t_ hc S; clear hc) | ((with_reducible refine gate_callee (f := 24) rfl ?_); (try (refine gate_guard (by rfl) ?_; dsimp only)); refine gL_ (some 32) Try.func24 #[.slice An ln.length cn, .int .i64 r2] ?_; refine (zs4 k An cn ln r2 r3 w _ HB.out Hrn.out Hcn.out Hs3.out).mono ?_; rintro e w' ⟨rfl, hc⟩; refine ⟨_, rfl, ?_⟩; replace BK4 := bz_ hc BK4; replace BK5 := bz_ hc BK5; replace HB := hz_ hc HB; replace S := t_ hc S; clear hc) | ((with_reducible refine gate_callee (f := 31) rfl ?_); (try (refine gate_guard (by rfl) ?_; dsimp only)); refine gL_ (some 37) Try.func31 #[.slice Aw lw.length cw, .int .i64 r3] ?_; refine (zz4 k Aw cw lw r3 r4 w _ HB.out Hrw.out Hcw.out Hs4.out).mono ?_; rintro e w' ⟨rfl, hc⟩; refine ⟨_, rfl, ?_⟩; replace BK4 := bz_ hc BK4; replace BK5 := bz_ hc BK5; replace HB := hz_ hc HB; replace S := t_ hc S; clear hc))
  go_ret
  exact ⟨rfl, HB.out⟩
set_option maxHeartbeats 32000000 in
set_option maxRecDepth 100000 in
theorem whole (k : Nat) (a0 a1 : Int) (a2 : ByteArray) (Aa : Option Addr) (ca : Nat) (la : List S24) (b0 b1 : Int) (b2 : ByteArray) (Ab : Option Addr) (cb : Nat) (lb : List S24) (An : Option Addr) (cn : Nat) (ln : List ByteArray) (Aw : Option Addr) (cw : Nat) (lw : List S24) (r1 r2 r3 r4 : Int) (e0 e1 : Int) (e2 : ByteArray) (le : List S29) (z0 z1 : Int) (z2 : ByteArray) (lz : List S29) (lv : List S29) (p0 p1 : Int) (p2 : ByteArray) (lp : List S29) (me mz mv mp : List S29) (mn : List ByteArray) (k1 k2 k3 k4 m : Int) (w : World) (hra : Kd.C k24 w Aa la.length la) (hca : la.length ≤ ca) (hrb : Kd.C k24 w Ab lb.length lb) (hcb : lb.length ≤ cb) (hrn : Kd.C Kd.string w An ln.length ln) (hcn : ln.length ≤ cn) (hrw : Kd.C k24 w Aw lw.length lw) (hcw : lw.length ≤ cw) (hs1 : laws_szExpr.f k a0 a1 a2 la 1048576 = some r1) (hs2 : laws_szExpr.f k b0 b1 b2 lb r1 = some r2) (hs3 : laws_szStringS.f k ln r2 = some r3) (hs4 : laws_szExprS.f k lw r3 = some r4) (hd1 : decide (r1 < 0) = false) (hd2 : decide (r2 < 0) = false) (hd3 : decide (r3 < 0) = false) (hd4 : decide (r4 < 0) = false) (hte : laws_toExpr.f k a0 a1 a2 la = some (e0, e1, e2, le)) (htz : laws_toExpr.f k b0 b1 b2 lb = some (z0, z1, z2, lz)) (htn : laws_toStringS.f k ln = some ln) (htv : laws_toExprS.f k lw = some lv) (hsp : spec_Put.f k e0 e1 e2 le z0 z1 z2 lz ln lv = some (p0, p1, p2, lp)) (hip : impl_Put.f k e0 e1 e2 le z0 z1 z2 lz ln lv = some (p0, p1, p2, lp)) (hqp : laws_eqExpr.f k p0 p1 p2 lp p0 p1 p2 lp = some true) (hqe : laws_eqExpr.f k e0 e1 e2 le e0 e1 e2 le = some true) (hqz : laws_eqExpr.f k z0 z1 z2 lz z0 z1 z2 lz = some true) (hqn : laws_eqStringS.f k ln ln = some true) (hqv : laws_eqExprS.f k lv lv = some true) (hm1 : laws_markExprS.f k le 1 = some (k1, me)) (hl1 : me.length = le.length) (hm2 : laws_markExprS.f k lz k1 = some (k2, mz)) (hl2 : mz.length = lz.length) (hm3 : laws_markStringS.f k ln k2 = some (k3, mn)) (hl3 : mn.length = ln.length) (hm4 : laws_markExprS.f k lv k3 = some (k4, mv)) (hl4 : mv.length = lv.length) (hm5 : laws_markExprS.f k lp 1 = some (m, mp)) (hl5 : mp.length = lp.length) (hh : laws_heldExpr.f k p0 p1 p2 mp 1 = some m) (hd5 : decide (k4 < 0) = false) (hd6 : decide (m < 0) = false) :
    Calls Try.prog 8 #[.agg #[.int .i64 a0, .int .i64 a1, .string a2, .slice Aa la.length ca], .agg #[.int .i64 b0, .int .i64 b1, .string b2, .slice Ab lb.length cb], .slice An ln.length cn, .slice Aw lw.length cw] w fun e w' => e = .returned (.bool true) ∧ Below w.heap.size w w' := by
  have Hra := A_ hra
  have Hca := A_ hca
  have Hrb := A_ hrb
  have Hcb := A_ hcb
  have Hrn := A_ hrn
  have Hcn := A_ hcn
  have Hrw := A_ hrw
  have Hcw := A_ hcw
  clear hra hca hrb hcb hrn hcn hrw hcw
  have HB := A_ (Below.refl w.heap.size w)
  have S : Aside0 (w.heap.size ≤ w.heap.size) := A_ (Nat.le_refl _)
  have Hs1 := A_ hs1
  have Hs2 := A_ hs2
  have Hs3 := A_ hs3
  have Hs4 := A_ hs4
  clear hs1 hs2 hs3 hs4
  have Hte := A_ hte
  have Htz := A_ htz
  have Htn := A_ htn
  have Htv := A_ htv
  have Hsp := A_ hsp
  have Hip := A_ hip
  have Hqp := A_ hqp
  have Hqe := A_ hqe
  have Hqz := A_ hqz
  have Hqn := A_ hqn
  have Hqv := A_ hqv
  have Hm1 := A_ hm1
  have Hl1 := A_ hl1
  have Hm2 := A_ hm2
  have Hl2 := A_ hl2
  have Hm3 := A_ hm3
  have Hl3 := A_ hl3
  have Hm4 := A_ hm4
  have Hl4 := A_ hl4
  have Hm5 := A_ hm5
  have Hl5 := A_ hl5
  have Hh := A_ hh
  clear hte htz htn htv hsp hip hqp hqe hqz hqn hqv hm1 hl1 hm2 hl2 hm3 hl3 hm4 hl4 hm5 hl5 hh
  go_enter Try.func8, Try.ntmps8
  go_wp2_with (first | ((with_reducible refine gate_dst (N := 4) rfl ?_); refine bx_ 4 #[.int .i64 a0, .int .i64 a1, .string a2, .slice Aa la.length ca] 24 ?_; intro g4 hg w' hbox hb; have hc := co_ hb; have F1 : w.heap.size ≤ g4 := (by have := S.out; omega); clear hg; replace HB := hz_ hc HB; replace S := t_ hc S; clear S; have S : Aside0 (g4 + 1 ≤ w'.heap.size) := A_ (blk_lt hbox); have BK4 := A_ hbox; clear hbox hb hc) | ((with_reducible refine gate_dst (N := 5) rfl ?_); refine bx_ 5 #[.int .i64 b0, .int .i64 b1, .string b2, .slice Ab lb.length cb] 24 ?_; intro g5 hg w' hbox hb; have hc := co_ hb; have F2 : g4 + 1 ≤ g5 := (by have := S.out; omega); clear hg; replace BK4 := bz_ hc BK4; replace HB := hz_ hc HB; replace S := t_ hc S; clear S; have S : Aside0 (g5 + 1 ≤ w'.heap.size) := A_ (blk_lt hbox); have BK5 := A_ hbox; clear hbox hb hc) | ((with_reducible refine gate_ (.load 24 (.tmp 4)) rfl ?_); (try (refine gate_guard (by rfl) ?_; dsimp only)); refine ld_ 24 4 BK4.out Try.underlying24 ?_) | ((with_reducible refine gate_callee (f := 12) rfl ?_); (try (refine gate_guard (by rfl) ?_; dsimp only)); refine gL_ (some 22) Try.func12 #[.agg #[.int .i64 a0, .int .i64 a1, .string a2, .slice Aa la.length ca], .int .i64 1048576] ?_; refine (sz4 k a0 a1 a2 Aa ca la 1048576 r1 w _ HB.out Hra.out Hca.out Hs1.out).mono ?_; rintro e w' ⟨rfl, hc⟩; refine ⟨_, rfl, ?_⟩; replace BK4 := bz_ hc BK4; replace BK5 := bz_ hc BK5; replace HB := hz_ hc HB; replace S := t_ hc S; clear hc) | ((with_reducible refine gate_ (.load 24 (.tmp 5)) rfl ?_); (try (refine gate_guard (by rfl) ?_; dsimp only)); refine ld_ 24 5 BK5.out Try.underlying24 ?_) | ((with_reducible refine gate_callee (f := 12) rfl ?_); (try (refine gate_guard (by rfl) ?_; dsimp only)); refine gL_ (some 27) Try.func12 #[.agg #[.int .i64 b0, .int .i64 b1, .string b2, .slice Ab lb.length cb], .int .i64 r1] ?_; refine (sz4 k b0 b1 b2 Ab cb lb r1 r2 w _ HB.out Hrb.out Hcb.out Hs2.out).mono ?_; rintro e w' ⟨rfl, hc⟩; refine ⟨_, rfl, ?_⟩; replace BK4 := bz_ hc BK4; replace BK5 := bz_ hc BK5; replace HB := hz_ hc HB; replace S := t_ hc S; clear hc) | ((with_reducible refine gate_callee (f := 24) rfl ?_); (try (refine gate_guard (by rfl) ?_; dsimp only)); refine gL_ (some 32) Try.func24 #[.slice An ln.length cn, .int .i64 r2] ?_; refine (zs4 k An cn ln r2 r3 w _ HB.out Hrn.out Hcn.out Hs3.out).mono ?_; rintro e w' ⟨rfl, hc⟩; refine ⟨_, rfl, ?_⟩; replace BK4 := bz_ hc BK4; replace BK5 := bz_ hc BK5; replace HB := hz_ hc HB; replace S := t_ hc S; clear hc) | ((with_reducible refine gate_callee (f := 31) rfl ?_); (try (refine gate_guard (by rfl) ?_; dsimp only)); refine gL_ (some 37) Try.func31 #[.slice Aw lw.length cw, .int .i64 r3] ?_; refine (zz4 k Aw cw lw r3 r4 w _ HB.out Hrw.out Hcw.out Hs4.out).mono ?_; rintro e w' ⟨rfl, hc⟩; refine ⟨_, rfl, ?_⟩; replace BK4 := bz_ hc BK4; replace BK5 := bz_ hc BK5; replace HB := hz_ hc HB; replace S := t_ hc S; clear hc))
  have hc := Ch.drew w'
  replace BK4 := bz_ hc BK4
  replace BK5 := bz_ hc BK5
  replace HB := hz_ hc HB
  replace S := t_ hc S
  clear hc
  refine start_ (n := 11) (S := fun w' => w'.heap[g4]? = some (.cells #[.int .i64 a0, .int .i64 a1, .string a2, .slice Aa la.length ca] 24 (0, 0)) ∧ w'.heap[g5]? = some (.cells #[.int .i64 b0, .int .i64 b1, .string b2, .slice Ab lb.length cb] 24 (0, 0))) (ds := []) #[false, false, false, false, false, false, false, false, false, false, false] (by kernel_rfl) rfl rfl ⟨BK4.out, BK5.out⟩ (fun hHeld => ?_)
  generalize w'.drew = w' at BK4 BK5 HB S hHeld ⊢
  refine pure_ (i := 4) (N := some 44) (v := ?_) (a' := ?_) #[false, false, false, false, true, false, false, false, false, false, false] rfl rfl (by kernel_rfl) (fun _ _ _ h => h) (Or.inl ⟨by rfl, ?_⟩) ?_ ?_
  rotate_left
  · intro w'
    go_simp
    with_reducible rfl
  rotate_left
  · simp only [Act.put, List.setIfInBounds_toArray, List.set_cons_zero, List.set_cons_succ, i64_w, i32_w]
    rfl
  refine pure_ (i := 6) (N := some 46) (v := ?_) (a' := ?_) #[false, false, false, false, true, false, true, false, false, false, false] rfl rfl (by kernel_rfl) (fun _ _ _ h => h) (Or.inl ⟨by rfl, ?_⟩) ?_ ?_
  rotate_left
  · intro w'
    go_simp
    with_reducible rfl
  rotate_left
  · simp only [Act.put, List.setIfInBounds_toArray, List.set_cons_zero, List.set_cons_succ, i64_w, i32_w]
    rfl
  refine take_ (i := 0) (N := some 40) (v := .agg #[.int .i64 a0, .int .i64 a1, .string a2, .slice Aa la.length ca]) (a' := ?_) #[true, false, false, false, true, false, true, false, false, false, false] rfl rfl (by kernel_rfl) (fun _ _ _ h => h) (Or.inl ⟨by rfl, ?_⟩) hHeld ?_ ?_
  · rintro w' ⟨s0, s1⟩
    exact load_yields 24 (.tmp 4) (by rfl) g4 (by rfl) 24 _ _ s0 Try.underlying24 rfl (by kernel_rfl)
  rotate_left
  · simp only [Act.put, List.setIfInBounds_toArray, List.set_cons_zero, List.set_cons_succ, i64_w, i32_w]
    rfl
  refine take_ (i := 2) (N := some 42) (v := .agg #[.int .i64 b0, .int .i64 b1, .string b2, .slice Ab lb.length cb]) (a' := ?_) #[true, false, true, false, true, false, true, false, false, false, false] rfl rfl (by kernel_rfl) (fun _ _ _ h => h) (Or.inl ⟨by rfl, ?_⟩) hHeld ?_ ?_
  · rintro w' ⟨s0, s1⟩
    exact load_yields 24 (.tmp 5) (by rfl) g5 (by rfl) 24 _ _ s1 Try.underlying24 rfl (by kernel_rfl)
  rotate_left
  · simp only [Act.put, List.setIfInBounds_toArray, List.set_cons_zero, List.set_cons_succ, i64_w, i32_w]
    rfl
  refine join_ (σ := Option Addr × Nat × Option Addr × Nat × Option Addr × Nat × Option Addr × Nat × Option Addr × Nat × Nat × Nat × Nat × Nat) 1 #[true, true, true, true, true, true, true, true, true, true, false] (fun s_ => [(41, .agg #[.int .i64 e0, .int .i64 e1, .string e2, .slice s_.1 le.length s_.2.1]), (43, .agg #[.int .i64 z0, .int .i64 z1, .string z2, .slice s_.2.2.1 lz.length s_.2.2.2.1]), (45, .slice s_.2.2.2.2.1 ln.length s_.2.2.2.2.2.1), (47, .slice s_.2.2.2.2.2.2.1 lv.length s_.2.2.2.2.2.2.2.1), (48, .agg #[.int .i64 p0, .int .i64 p1, .string p2, .slice s_.2.2.2.2.2.2.2.2.1 lp.length s_.2.2.2.2.2.2.2.2.2.1]), (10, .pointer (some ⟨s_.2.2.2.2.2.2.2.2.2.2.2.2.1, 0, none⟩))]) (fun s_ w' => (w'.heap[g4]? = some (.cells #[.int .i64 a0, .int .i64 a1, .string a2, .slice Aa la.length ca] 24 (0, 0)) ∧ w'.heap[g5]? = some (.cells #[.int .i64 b0, .int .i64 b1, .string b2, .slice Ab lb.length cb] 24 (0, 0))) ∧ (w'.heap[g4]? = some (.cells #[.int .i64 a0, .int .i64 a1, .string a2, .slice Aa la.length ca] 24 (0, 0))) ∧ (w'.heap[g5]? = some (.cells #[.int .i64 b0, .int .i64 b1, .string b2, .slice Ab lb.length cb] 24 (0, 0))) ∧ (FR w' s_.2.2.2.2.2.2.2.2.2.2.1 s_.2.2.2.2.2.2.2.2.2.2.2.1 s_.2.2.2.2.2.2.2.2.1 s_.2.2.2.2.2.2.2.2.2.1 lp) ∧ (w'.heap[s_.2.2.2.2.2.2.2.2.2.2.2.2.1]? = some (.cells #[.int .i64 0, .int .i64 0, .string (⟨#[]⟩ : ByteArray), .slice none 0 0] 29 (0, 0))) ∧ (Below w.heap.size w w') ∧ (g5 + 1 ≤ s_.2.2.2.2.2.2.2.2.2.2.2.2.1) ∧ (g5 + 1 ≤ s_.2.2.2.2.2.2.2.2.2.2.1) ∧ (s_.2.2.2.2.2.2.2.2.2.2.1 ≤ s_.2.2.2.2.2.2.2.2.2.2.2.1) ∧ (s_.2.2.2.2.2.2.2.2.2.2.2.2.1 + 1 ≤ s_.2.2.2.2.2.2.2.2.2.2.1 ∨ s_.2.2.2.2.2.2.2.2.2.2.2.1 ≤ s_.2.2.2.2.2.2.2.2.2.2.2.2.1) ∧ (s_.2.2.2.2.2.2.2.2.2.2.2.1 ≤ s_.2.2.2.2.2.2.2.2.2.2.2.2.2) ∧ (s_.2.2.2.2.2.2.2.2.2.2.2.2.1 + 1 ≤ s_.2.2.2.2.2.2.2.2.2.2.2.2.2) ∧ (s_.2.2.2.2.2.2.2.2.2.2.2.2.2 ≤ w'.heap.size)) ?_ ?_
  rotate_left
  · intro hCont
    refine two_ (i := 1) (j := 9) (Ni := some 41) (Nj := some 10) #[true, true, true, false, true, false, true, false, false, false, false] #[true, false, true, false, true, false, true, false, false, true, false] rfl rfl rfl rfl (by kernel_rfl) (by decide) (by decide) (fun K hK => ?_) (fun K hK => ?_)
    · skip
      refine goes_ Try.func14 (by kernel_rfl) rfl #[.agg #[.int .i64 a0, .int .i64 a1, .string a2, .slice Aa la.length ca]] (by rfl) rfl rfl dA_ ?_
      refine (te4 k a0 a1 a2 Aa ca la e0 e1 e2 le w _ HB.out Hra.out Hca.out Hte.out).mono ?_
      rintro e w' ⟨Ae, ce, loe, hie, rfl, h1, h2, h3, hR, hc⟩
      refine ⟨_, rfl, ?_⟩
      have F3 : g5 + 1 ≤ loe := (Nat.le_trans S.out h1)
      have F4 : loe ≤ hie := h2
      replace BK4 := bz_ hc BK4
      replace BK5 := bz_ hc BK5
      replace HB := hz_ hc HB
      replace S := t_ hc S
      clear S
      have S := A_ h3
      have Me := A_ hR
      clear h1 h2 h3 hR hc
      refine hK.out _ _ ⟨BK4.out, BK5.out⟩ (fun hHeld => ?_)
      clear hK K
      refine norm_ (a' := ?_) ?_ ?_
      rotate_left
      · show Act.put _ (some 41) _ = _
        simp only [Act.put, List.setIfInBounds_toArray, List.set_cons_zero, List.set_cons_succ, i64_w, i32_w]
        rfl
      refine two_ (i := 3) (j := 9) (Ni := some 43) (Nj := some 10) #[true, true, true, true, true, false, true, false, false, false, false] #[true, true, true, false, true, false, true, false, false, true, false] rfl rfl rfl rfl (by kernel_rfl) (by decide) (by decide) (fun K hK => ?_) (fun K hK => ?_)
      · skip
        refine goes_ Try.func14 (by kernel_rfl) rfl #[.agg #[.int .i64 b0, .int .i64 b1, .string b2, .slice Ab lb.length cb]] (by rfl) rfl rfl dA_ ?_
        refine (te4 k b0 b1 b2 Ab cb lb z0 z1 z2 lz w _ HB.out Hrb.out Hcb.out Htz.out).mono ?_
        rintro e w' ⟨Az, cz, loz, hiz, rfl, h1, h2, h3, hR, hc⟩
        refine ⟨_, rfl, ?_⟩
        have F5 : hie ≤ loz := (Nat.le_trans S.out h1)
        have F6 : loz ≤ hiz := h2
        replace BK4 := bz_ hc BK4
        replace BK5 := bz_ hc BK5
        replace Me := uz_ hc Me
        replace HB := hz_ hc HB
        replace S := t_ hc S
        clear S
        have S := A_ h3
        have Mz := A_ hR
        clear h1 h2 h3 hR hc
        refine hK.out _ _ ⟨BK4.out, BK5.out⟩ (fun hHeld => ?_)
        clear hK K
        refine norm_ (a' := ?_) ?_ ?_
        rotate_left
        · show Act.put _ (some 43) _ = _
          simp only [Act.put, List.setIfInBounds_toArray, List.set_cons_zero, List.set_cons_succ, i64_w, i32_w]
          rfl
        refine two_ (i := 5) (j := 9) (Ni := some 45) (Nj := some 10) #[true, true, true, true, true, true, true, false, false, false, false] #[true, true, true, true, true, false, true, false, false, true, false] rfl rfl rfl rfl (by kernel_rfl) (by decide) (by decide) (fun K hK => ?_) (fun K hK => ?_)
        · skip
          refine goes_ Try.func27 (by kernel_rfl) rfl #[.slice An ln.length cn] (by rfl) rfl rfl dA_ ?_
          refine (tt4 k An cn ln ln w _ HB.out Hrn.out Hcn.out Htn.out).mono ?_
          rintro e w' ⟨As, cs, los, his, rfl, h1, h2, h3, hR, hc⟩
          refine ⟨_, rfl, ?_⟩
          have F7 : hiz ≤ los := (Nat.le_trans S.out h1)
          have F8 : los ≤ his := h2
          replace BK4 := bz_ hc BK4
          replace BK5 := bz_ hc BK5
          replace Me := uz_ hc Me
          replace Mz := uz_ hc Mz
          replace HB := hz_ hc HB
          replace S := t_ hc S
          clear S
          have S := A_ h3
          have Ms := A_ hR
          clear h1 h2 h3 hR hc
          refine hK.out _ _ ⟨BK4.out, BK5.out⟩ (fun hHeld => ?_)
          clear hK K
          refine norm_ (a' := ?_) ?_ ?_
          rotate_left
          · show Act.put _ (some 45) _ = _
            simp only [Act.put, List.setIfInBounds_toArray, List.set_cons_zero, List.set_cons_succ, i64_w, i32_w]
            rfl
          refine two_ (i := 7) (j := 9) (Ni := some 47) (Nj := some 10) #[true, true, true, true, true, true, true, true, false, false, false] #[true, true, true, true, true, true, true, false, false, true, false] rfl rfl rfl rfl (by kernel_rfl) (by decide) (by decide) (fun K hK => ?_) (fun K hK => ?_)
          · skip
            refine goes_ Try.func33 (by kernel_rfl) rfl #[.slice Aw lw.length cw] (by rfl) rfl rfl dA_ ?_
            refine (ts4 k Aw cw lw lv w _ HB.out Hrw.out Hcw.out Htv.out).mono ?_
            rintro e w' ⟨Av, cv, lov, hiv, rfl, h1, h2, h3, hR, hc⟩
            refine ⟨_, rfl, ?_⟩
            have F9 : his ≤ lov := (Nat.le_trans S.out h1)
            have F10 : lov ≤ hiv := h2
            replace BK4 := bz_ hc BK4
            replace BK5 := bz_ hc BK5
            replace Me := uz_ hc Me
            replace Mz := uz_ hc Mz
            replace Ms := vz_ hc Ms
            replace HB := hz_ hc HB
            replace S := t_ hc S
            clear S
            have S := A_ h3
            have Mv := A_ hR
            clear h1 h2 h3 hR hc
            refine hK.out _ _ ⟨BK4.out, BK5.out⟩ (fun hHeld => ?_)
            clear hK K
            refine norm_ (a' := ?_) ?_ ?_
            rotate_left
            · show Act.put _ (some 47) _ = _
              simp only [Act.put, List.setIfInBounds_toArray, List.set_cons_zero, List.set_cons_succ, i64_w, i32_w]
              rfl
            refine two_ (i := 8) (j := 9) (Ni := some 48) (Nj := some 10) #[true, true, true, true, true, true, true, true, true, false, false] #[true, true, true, true, true, true, true, true, false, true, false] rfl rfl rfl rfl (by kernel_rfl) (by decide) (by decide) (fun K hK => ?_) (fun K hK => ?_)
            · skip
              refine goes_ Try.func32 (by kernel_rfl) rfl #[.agg #[.int .i64 e0, .int .i64 e1, .string e2, .slice Ae le.length ce], .agg #[.int .i64 z0, .int .i64 z1, .string z2, .slice Az lz.length cz], .slice As ln.length cs, .slice Av lv.length cv] (by rfl) rfl rfl dA_ ?_
              refine (sp4 k e0 e1 e2 Ae ce le z0 z1 z2 Az cz lz As cs ln Av cv lv p0 p1 p2 lp w _ HB.out Me.out.rd Mz.out.rd Ms.out.rd Mv.out.rd Hsp.out).mono ?_
              rintro e w' ⟨Ao, co, loo, hio, rfl, h1, h2, h3, hR, hc⟩
              refine ⟨_, rfl, ?_⟩
              have F11 : hiv ≤ loo := (Nat.le_trans S.out h1)
              have F12 : loo ≤ hio := h2
              clear Me
              clear Mz
              clear Ms
              clear Mv
              replace BK4 := bz_ hc BK4
              replace BK5 := bz_ hc BK5
              replace HB := hz_ hc HB
              replace S := t_ hc S
              clear S
              have S := A_ h3
              have Mo := A_ hR
              clear h1 h2 h3 hR hc
              refine hK.out _ _ ⟨BK4.out, BK5.out⟩ (fun hHeld => ?_)
              clear hK K
              refine norm_ (a' := ?_) ?_ ?_
              rotate_left
              · show Act.put _ (some 48) _ = _
                simp only [Act.put, List.setIfInBounds_toArray, List.set_cons_zero, List.set_cons_succ, i64_w, i32_w]
                rfl
              refine one_ (i := 9) (N := some 10) #[true, true, true, true, true, true, true, true, true, true, false] rfl rfl (by kernel_rfl) (by decide) (fun K hK => ?_)
              refine box_step ?hg (N := 10) ?hd (cs := #[.int .i64 0, .int .i64 0, .string (⟨#[]⟩ : ByteArray), .slice none 0 0]) (t := 29) ?hr ?_; (case hd => rfl); (case hg => rfl); (case hr => first | (go_simp; done) | (go_simp; rfl))
              intro g10 hg w' hbox hb
              have hc := co_ hb
              have F13 : hio ≤ g10 := (by have := S.out; omega)
              clear hg
              replace BK4 := bz_ hc BK4
              replace BK5 := bz_ hc BK5
              replace Mo := fz_ hc Mo
              replace HB := hz_ hc HB
              replace S := t_ hc S
              clear S
              have S : Aside0 (g10 + 1 ≤ w'.heap.size) := A_ (blk_lt hbox)
              have BK10 := A_ hbox
              clear hbox hb hc
              refine hK.out _ _ ⟨BK4.out, BK5.out⟩ (fun hHeld => ?_)
              clear hK K
              refine norm_ (a' := ?_) ?_ ?_
              rotate_left
              · show Act.put _ (some 10) _ = _
                simp only [Act.put, List.setIfInBounds_toArray, List.set_cons_zero, List.set_cons_succ, i64_w, i32_w]
                rfl
              exact norm_ (by simp only [putAll, Act.put, List.setIfInBounds_toArray, List.set_cons_zero, List.set_cons_succ]) (hCont (Ae, ce, Az, cz, As, cs, Av, cv, Ao, co, loo, hio, g10, w'.heap.size) _ ⟨hHeld, BK4.out, BK5.out, Mo.out, BK10.out, HB.out, (by (try dsimp only); have := S.out; omega), (by (try dsimp only); have := S.out; omega), (by (try dsimp only); have := S.out; omega), (by (try dsimp only); have := S.out; omega), (by (try dsimp only); have := S.out; omega), (by (try dsimp only); have := S.out; omega), (by (try dsimp only); have := S.out; omega)⟩)
            · refine box_step ?hg (N := 10) ?hd (cs := #[.int .i64 0, .int .i64 0, .string (⟨#[]⟩ : ByteArray), .slice none 0 0]) (t := 29) ?hr ?_; (case hd => rfl); (case hg => rfl); (case hr => first | (go_simp; done) | (go_simp; rfl))
              intro g10 hg w' hbox hb
              have hc := co_ hb
              have F11 : hiv ≤ g10 := (by have := S.out; omega)
              clear hg
              replace BK4 := bz_ hc BK4
              replace BK5 := bz_ hc BK5
              replace Me := uz_ hc Me
              replace Mz := uz_ hc Mz
              replace Ms := vz_ hc Ms
              replace Mv := uz_ hc Mv
              replace HB := hz_ hc HB
              replace S := t_ hc S
              clear S
              have S : Aside0 (g10 + 1 ≤ w'.heap.size) := A_ (blk_lt hbox)
              have BK10 := A_ hbox
              clear hbox hb hc
              refine hK.out _ _ ⟨BK4.out, BK5.out⟩ (fun hHeld => ?_)
              clear hK K
              refine norm_ (a' := ?_) ?_ ?_
              rotate_left
              · show Act.put _ (some 10) _ = _
                simp only [Act.put, List.setIfInBounds_toArray, List.set_cons_zero, List.set_cons_succ, i64_w, i32_w]
                rfl
              refine one_ (i := 8) (N := some 48) #[true, true, true, true, true, true, true, true, true, true, false] rfl rfl (by kernel_rfl) (by decide) (fun K hK => ?_)
              refine goes_ Try.func32 (by kernel_rfl) rfl #[.agg #[.int .i64 e0, .int .i64 e1, .string e2, .slice Ae le.length ce], .agg #[.int .i64 z0, .int .i64 z1, .string z2, .slice Az lz.length cz], .slice As ln.length cs, .slice Av lv.length cv] (by rfl) rfl rfl dA_ ?_
              refine (sp4 k e0 e1 e2 Ae ce le z0 z1 z2 Az cz lz As cs ln Av cv lv p0 p1 p2 lp w _ HB.out Me.out.rd Mz.out.rd Ms.out.rd Mv.out.rd Hsp.out).mono ?_
              rintro e w' ⟨Ao, co, loo, hio, rfl, h1, h2, h3, hR, hc⟩
              refine ⟨_, rfl, ?_⟩
              have F12 : g10 + 1 ≤ loo := (Nat.le_trans S.out h1)
              have F13 : loo ≤ hio := h2
              clear Me
              clear Mz
              clear Ms
              clear Mv
              replace BK4 := bz_ hc BK4
              replace BK5 := bz_ hc BK5
              replace BK10 := bz_ hc BK10
              replace HB := hz_ hc HB
              replace S := t_ hc S
              clear S
              have S := A_ h3
              have Mo := A_ hR
              clear h1 h2 h3 hR hc
              refine hK.out _ _ ⟨BK4.out, BK5.out⟩ (fun hHeld => ?_)
              clear hK K
              refine norm_ (a' := ?_) ?_ ?_
              rotate_left
              · show Act.put _ (some 48) _ = _
                simp only [Act.put, List.setIfInBounds_toArray, List.set_cons_zero, List.set_cons_succ, i64_w, i32_w]
                rfl
              exact norm_ (by simp only [putAll, Act.put, List.setIfInBounds_toArray, List.set_cons_zero, List.set_cons_succ]) (hCont (Ae, ce, Az, cz, As, cs, Av, cv, Ao, co, loo, hio, g10, w'.heap.size) _ ⟨hHeld, BK4.out, BK5.out, Mo.out, BK10.out, HB.out, (by (try dsimp only); have := S.out; omega), (by (try dsimp only); have := S.out; omega), (by (try dsimp only); have := S.out; omega), (by (try dsimp only); have := S.out; omega), (by (try dsimp only); have := S.out; omega), (by (try dsimp only); have := S.out; omega), (by (try dsimp only); have := S.out; omega)⟩)
          · refine box_step ?hg (N := 10) ?hd (cs := #[.int .i64 0, .int .i64 0, .string (⟨#[]⟩ : ByteArray), .slice none 0 0]) (t := 29) ?hr ?_; (case hd => rfl); (case hg => rfl); (case hr => first | (go_simp; done) | (go_simp; rfl))
            intro g10 hg w' hbox hb
            have hc := co_ hb
            have F9 : his ≤ g10 := (by have := S.out; omega)
            clear hg
            replace BK4 := bz_ hc BK4
            replace BK5 := bz_ hc BK5
            replace Me := uz_ hc Me
            replace Mz := uz_ hc Mz
            replace Ms := vz_ hc Ms
            replace HB := hz_ hc HB
            replace S := t_ hc S
            clear S
            have S : Aside0 (g10 + 1 ≤ w'.heap.size) := A_ (blk_lt hbox)
            have BK10 := A_ hbox
            clear hbox hb hc
            refine hK.out _ _ ⟨BK4.out, BK5.out⟩ (fun hHeld => ?_)
            clear hK K
            refine norm_ (a' := ?_) ?_ ?_
            rotate_left
            · show Act.put _ (some 10) _ = _
              simp only [Act.put, List.setIfInBounds_toArray, List.set_cons_zero, List.set_cons_succ, i64_w, i32_w]
              rfl
            refine one_ (i := 7) (N := some 47) #[true, true, true, true, true, true, true, true, false, true, false] rfl rfl (by kernel_rfl) (by decide) (fun K hK => ?_)
            refine goes_ Try.func33 (by kernel_rfl) rfl #[.slice Aw lw.length cw] (by rfl) rfl rfl dA_ ?_
            refine (ts4 k Aw cw lw lv w _ HB.out Hrw.out Hcw.out Htv.out).mono ?_
            rintro e w' ⟨Av, cv, lov, hiv, rfl, h1, h2, h3, hR, hc⟩
            refine ⟨_, rfl, ?_⟩
            have F10 : g10 + 1 ≤ lov := (Nat.le_trans S.out h1)
            have F11 : lov ≤ hiv := h2
            replace BK4 := bz_ hc BK4
            replace BK5 := bz_ hc BK5
            replace Me := uz_ hc Me
            replace Mz := uz_ hc Mz
            replace Ms := vz_ hc Ms
            replace BK10 := bz_ hc BK10
            replace HB := hz_ hc HB
            replace S := t_ hc S
            clear S
            have S := A_ h3
            have Mv := A_ hR
            clear h1 h2 h3 hR hc
            refine hK.out _ _ ⟨BK4.out, BK5.out⟩ (fun hHeld => ?_)
            clear hK K
            refine norm_ (a' := ?_) ?_ ?_
            rotate_left
            · show Act.put _ (some 47) _ = _
              simp only [Act.put, List.setIfInBounds_toArray, List.set_cons_zero, List.set_cons_succ, i64_w, i32_w]
              rfl
            refine one_ (i := 8) (N := some 48) #[true, true, true, true, true, true, true, true, true, true, false] rfl rfl (by kernel_rfl) (by decide) (fun K hK => ?_)
            refine goes_ Try.func32 (by kernel_rfl) rfl #[.agg #[.int .i64 e0, .int .i64 e1, .string e2, .slice Ae le.length ce], .agg #[.int .i64 z0, .int .i64 z1, .string z2, .slice Az lz.length cz], .slice As ln.length cs, .slice Av lv.length cv] (by rfl) rfl rfl dA_ ?_
            refine (sp4 k e0 e1 e2 Ae ce le z0 z1 z2 Az cz lz As cs ln Av cv lv p0 p1 p2 lp w _ HB.out Me.out.rd Mz.out.rd Ms.out.rd Mv.out.rd Hsp.out).mono ?_
            rintro e w' ⟨Ao, co, loo, hio, rfl, h1, h2, h3, hR, hc⟩
            refine ⟨_, rfl, ?_⟩
            have F12 : hiv ≤ loo := (Nat.le_trans S.out h1)
            have F13 : loo ≤ hio := h2
            clear Me
            clear Mz
            clear Ms
            clear Mv
            replace BK4 := bz_ hc BK4
            replace BK5 := bz_ hc BK5
            replace BK10 := bz_ hc BK10
            replace HB := hz_ hc HB
            replace S := t_ hc S
            clear S
            have S := A_ h3
            have Mo := A_ hR
            clear h1 h2 h3 hR hc
            refine hK.out _ _ ⟨BK4.out, BK5.out⟩ (fun hHeld => ?_)
            clear hK K
            refine norm_ (a' := ?_) ?_ ?_
            rotate_left
            · show Act.put _ (some 48) _ = _
              simp only [Act.put, List.setIfInBounds_toArray, List.set_cons_zero, List.set_cons_succ, i64_w, i32_w]
              rfl
            exact norm_ (by simp only [putAll, Act.put, List.setIfInBounds_toArray, List.set_cons_zero, List.set_cons_succ]) (hCont (Ae, ce, Az, cz, As, cs, Av, cv, Ao, co, loo, hio, g10, w'.heap.size) _ ⟨hHeld, BK4.out, BK5.out, Mo.out, BK10.out, HB.out, (by (try dsimp only); have := S.out; omega), (by (try dsimp only); have := S.out; omega), (by (try dsimp only); have := S.out; omega), (by (try dsimp only); have := S.out; omega), (by (try dsimp only); have := S.out; omega), (by (try dsimp only); have := S.out; omega), (by (try dsimp only); have := S.out; omega)⟩)
        · refine box_step ?hg (N := 10) ?hd (cs := #[.int .i64 0, .int .i64 0, .string (⟨#[]⟩ : ByteArray), .slice none 0 0]) (t := 29) ?hr ?_; (case hd => rfl); (case hg => rfl); (case hr => first | (go_simp; done) | (go_simp; rfl))
          intro g10 hg w' hbox hb
          have hc := co_ hb
          have F7 : hiz ≤ g10 := (by have := S.out; omega)
          clear hg
          replace BK4 := bz_ hc BK4
          replace BK5 := bz_ hc BK5
          replace Me := uz_ hc Me
          replace Mz := uz_ hc Mz
          replace HB := hz_ hc HB
          replace S := t_ hc S
          clear S
          have S : Aside0 (g10 + 1 ≤ w'.heap.size) := A_ (blk_lt hbox)
          have BK10 := A_ hbox
          clear hbox hb hc
          refine hK.out _ _ ⟨BK4.out, BK5.out⟩ (fun hHeld => ?_)
          clear hK K
          refine norm_ (a' := ?_) ?_ ?_
          rotate_left
          · show Act.put _ (some 10) _ = _
            simp only [Act.put, List.setIfInBounds_toArray, List.set_cons_zero, List.set_cons_succ, i64_w, i32_w]
            rfl
          refine one_ (i := 5) (N := some 45) #[true, true, true, true, true, true, true, false, false, true, false] rfl rfl (by kernel_rfl) (by decide) (fun K hK => ?_)
          refine goes_ Try.func27 (by kernel_rfl) rfl #[.slice An ln.length cn] (by rfl) rfl rfl dA_ ?_
          refine (tt4 k An cn ln ln w _ HB.out Hrn.out Hcn.out Htn.out).mono ?_
          rintro e w' ⟨As, cs, los, his, rfl, h1, h2, h3, hR, hc⟩
          refine ⟨_, rfl, ?_⟩
          have F8 : g10 + 1 ≤ los := (Nat.le_trans S.out h1)
          have F9 : los ≤ his := h2
          replace BK4 := bz_ hc BK4
          replace BK5 := bz_ hc BK5
          replace Me := uz_ hc Me
          replace Mz := uz_ hc Mz
          replace BK10 := bz_ hc BK10
          replace HB := hz_ hc HB
          replace S := t_ hc S
          clear S
          have S := A_ h3
          have Ms := A_ hR
          clear h1 h2 h3 hR hc
          refine hK.out _ _ ⟨BK4.out, BK5.out⟩ (fun hHeld => ?_)
          clear hK K
          refine norm_ (a' := ?_) ?_ ?_
          rotate_left
          · show Act.put _ (some 45) _ = _
            simp only [Act.put, List.setIfInBounds_toArray, List.set_cons_zero, List.set_cons_succ, i64_w, i32_w]
            rfl
          refine one_ (i := 7) (N := some 47) #[true, true, true, true, true, true, true, true, false, true, false] rfl rfl (by kernel_rfl) (by decide) (fun K hK => ?_)
          refine goes_ Try.func33 (by kernel_rfl) rfl #[.slice Aw lw.length cw] (by rfl) rfl rfl dA_ ?_
          refine (ts4 k Aw cw lw lv w _ HB.out Hrw.out Hcw.out Htv.out).mono ?_
          rintro e w' ⟨Av, cv, lov, hiv, rfl, h1, h2, h3, hR, hc⟩
          refine ⟨_, rfl, ?_⟩
          have F10 : his ≤ lov := (Nat.le_trans S.out h1)
          have F11 : lov ≤ hiv := h2
          replace BK4 := bz_ hc BK4
          replace BK5 := bz_ hc BK5
          replace Me := uz_ hc Me
          replace Mz := uz_ hc Mz
          replace BK10 := bz_ hc BK10
          replace Ms := vz_ hc Ms
          replace HB := hz_ hc HB
          replace S := t_ hc S
          clear S
          have S := A_ h3
          have Mv := A_ hR
          clear h1 h2 h3 hR hc
          refine hK.out _ _ ⟨BK4.out, BK5.out⟩ (fun hHeld => ?_)
          clear hK K
          refine norm_ (a' := ?_) ?_ ?_
          rotate_left
          · show Act.put _ (some 47) _ = _
            simp only [Act.put, List.setIfInBounds_toArray, List.set_cons_zero, List.set_cons_succ, i64_w, i32_w]
            rfl
          refine one_ (i := 8) (N := some 48) #[true, true, true, true, true, true, true, true, true, true, false] rfl rfl (by kernel_rfl) (by decide) (fun K hK => ?_)
          refine goes_ Try.func32 (by kernel_rfl) rfl #[.agg #[.int .i64 e0, .int .i64 e1, .string e2, .slice Ae le.length ce], .agg #[.int .i64 z0, .int .i64 z1, .string z2, .slice Az lz.length cz], .slice As ln.length cs, .slice Av lv.length cv] (by rfl) rfl rfl dA_ ?_
          refine (sp4 k e0 e1 e2 Ae ce le z0 z1 z2 Az cz lz As cs ln Av cv lv p0 p1 p2 lp w _ HB.out Me.out.rd Mz.out.rd Ms.out.rd Mv.out.rd Hsp.out).mono ?_
          rintro e w' ⟨Ao, co, loo, hio, rfl, h1, h2, h3, hR, hc⟩
          refine ⟨_, rfl, ?_⟩
          have F12 : hiv ≤ loo := (Nat.le_trans S.out h1)
          have F13 : loo ≤ hio := h2
          clear Me
          clear Mz
          clear Ms
          clear Mv
          replace BK4 := bz_ hc BK4
          replace BK5 := bz_ hc BK5
          replace BK10 := bz_ hc BK10
          replace HB := hz_ hc HB
          replace S := t_ hc S
          clear S
          have S := A_ h3
          have Mo := A_ hR
          clear h1 h2 h3 hR hc
          refine hK.out _ _ ⟨BK4.out, BK5.out⟩ (fun hHeld => ?_)
          clear hK K
          refine norm_ (a' := ?_) ?_ ?_
          rotate_left
          · show Act.put _ (some 48) _ = _
            simp only [Act.put, List.setIfInBounds_toArray, List.set_cons_zero, List.set_cons_succ, i64_w, i32_w]
            rfl
          exact norm_ (by simp only [putAll, Act.put, List.setIfInBounds_toArray, List.set_cons_zero, List.set_cons_succ]) (hCont (Ae, ce, Az, cz, As, cs, Av, cv, Ao, co, loo, hio, g10, w'.heap.size) _ ⟨hHeld, BK4.out, BK5.out, Mo.out, BK10.out, HB.out, (by (try dsimp only); have := S.out; omega), (by (try dsimp only); have := S.out; omega), (by (try dsimp only); have := S.out; omega), (by (try dsimp only); have := S.out; omega), (by (try dsimp only); have := S.out; omega), (by (try dsimp only); have := S.out; omega), (by (try dsimp only); have := S.out; omega)⟩)
      · refine box_step ?hg (N := 10) ?hd (cs := #[.int .i64 0, .int .i64 0, .string (⟨#[]⟩ : ByteArray), .slice none 0 0]) (t := 29) ?hr ?_; (case hd => rfl); (case hg => rfl); (case hr => first | (go_simp; done) | (go_simp; rfl))
        intro g10 hg w' hbox hb
        have hc := co_ hb
        have F5 : hie ≤ g10 := (by have := S.out; omega)
        clear hg
        replace BK4 := bz_ hc BK4
        replace BK5 := bz_ hc BK5
        replace Me := uz_ hc Me
        replace HB := hz_ hc HB
        replace S := t_ hc S
        clear S
        have S : Aside0 (g10 + 1 ≤ w'.heap.size) := A_ (blk_lt hbox)
        have BK10 := A_ hbox
        clear hbox hb hc
        refine hK.out _ _ ⟨BK4.out, BK5.out⟩ (fun hHeld => ?_)
        clear hK K
        refine norm_ (a' := ?_) ?_ ?_
        rotate_left
        · show Act.put _ (some 10) _ = _
          simp only [Act.put, List.setIfInBounds_toArray, List.set_cons_zero, List.set_cons_succ, i64_w, i32_w]
          rfl
        refine one_ (i := 3) (N := some 43) #[true, true, true, true, true, false, true, false, false, true, false] rfl rfl (by kernel_rfl) (by decide) (fun K hK => ?_)
        refine goes_ Try.func14 (by kernel_rfl) rfl #[.agg #[.int .i64 b0, .int .i64 b1, .string b2, .slice Ab lb.length cb]] (by rfl) rfl rfl dA_ ?_
        refine (te4 k b0 b1 b2 Ab cb lb z0 z1 z2 lz w _ HB.out Hrb.out Hcb.out Htz.out).mono ?_
        rintro e w' ⟨Az, cz, loz, hiz, rfl, h1, h2, h3, hR, hc⟩
        refine ⟨_, rfl, ?_⟩
        have F6 : g10 + 1 ≤ loz := (Nat.le_trans S.out h1)
        have F7 : loz ≤ hiz := h2
        replace BK4 := bz_ hc BK4
        replace BK5 := bz_ hc BK5
        replace Me := uz_ hc Me
        replace BK10 := bz_ hc BK10
        replace HB := hz_ hc HB
        replace S := t_ hc S
        clear S
        have S := A_ h3
        have Mz := A_ hR
        clear h1 h2 h3 hR hc
        refine hK.out _ _ ⟨BK4.out, BK5.out⟩ (fun hHeld => ?_)
        clear hK K
        refine norm_ (a' := ?_) ?_ ?_
        rotate_left
        · show Act.put _ (some 43) _ = _
          simp only [Act.put, List.setIfInBounds_toArray, List.set_cons_zero, List.set_cons_succ, i64_w, i32_w]
          rfl
        refine one_ (i := 5) (N := some 45) #[true, true, true, true, true, true, true, false, false, true, false] rfl rfl (by kernel_rfl) (by decide) (fun K hK => ?_)
        refine goes_ Try.func27 (by kernel_rfl) rfl #[.slice An ln.length cn] (by rfl) rfl rfl dA_ ?_
        refine (tt4 k An cn ln ln w _ HB.out Hrn.out Hcn.out Htn.out).mono ?_
        rintro e w' ⟨As, cs, los, his, rfl, h1, h2, h3, hR, hc⟩
        refine ⟨_, rfl, ?_⟩
        have F8 : hiz ≤ los := (Nat.le_trans S.out h1)
        have F9 : los ≤ his := h2
        replace BK4 := bz_ hc BK4
        replace BK5 := bz_ hc BK5
        replace Me := uz_ hc Me
        replace BK10 := bz_ hc BK10
        replace Mz := uz_ hc Mz
        replace HB := hz_ hc HB
        replace S := t_ hc S
        clear S
        have S := A_ h3
        have Ms := A_ hR
        clear h1 h2 h3 hR hc
        refine hK.out _ _ ⟨BK4.out, BK5.out⟩ (fun hHeld => ?_)
        clear hK K
        refine norm_ (a' := ?_) ?_ ?_
        rotate_left
        · show Act.put _ (some 45) _ = _
          simp only [Act.put, List.setIfInBounds_toArray, List.set_cons_zero, List.set_cons_succ, i64_w, i32_w]
          rfl
        refine one_ (i := 7) (N := some 47) #[true, true, true, true, true, true, true, true, false, true, false] rfl rfl (by kernel_rfl) (by decide) (fun K hK => ?_)
        refine goes_ Try.func33 (by kernel_rfl) rfl #[.slice Aw lw.length cw] (by rfl) rfl rfl dA_ ?_
        refine (ts4 k Aw cw lw lv w _ HB.out Hrw.out Hcw.out Htv.out).mono ?_
        rintro e w' ⟨Av, cv, lov, hiv, rfl, h1, h2, h3, hR, hc⟩
        refine ⟨_, rfl, ?_⟩
        have F10 : his ≤ lov := (Nat.le_trans S.out h1)
        have F11 : lov ≤ hiv := h2
        replace BK4 := bz_ hc BK4
        replace BK5 := bz_ hc BK5
        replace Me := uz_ hc Me
        replace BK10 := bz_ hc BK10
        replace Mz := uz_ hc Mz
        replace Ms := vz_ hc Ms
        replace HB := hz_ hc HB
        replace S := t_ hc S
        clear S
        have S := A_ h3
        have Mv := A_ hR
        clear h1 h2 h3 hR hc
        refine hK.out _ _ ⟨BK4.out, BK5.out⟩ (fun hHeld => ?_)
        clear hK K
        refine norm_ (a' := ?_) ?_ ?_
        rotate_left
        · show Act.put _ (some 47) _ = _
          simp only [Act.put, List.setIfInBounds_toArray, List.set_cons_zero, List.set_cons_succ, i64_w, i32_w]
          rfl
        refine one_ (i := 8) (N := some 48) #[true, true, true, true, true, true, true, true, true, true, false] rfl rfl (by kernel_rfl) (by decide) (fun K hK => ?_)
        refine goes_ Try.func32 (by kernel_rfl) rfl #[.agg #[.int .i64 e0, .int .i64 e1, .string e2, .slice Ae le.length ce], .agg #[.int .i64 z0, .int .i64 z1, .string z2, .slice Az lz.length cz], .slice As ln.length cs, .slice Av lv.length cv] (by rfl) rfl rfl dA_ ?_
        refine (sp4 k e0 e1 e2 Ae ce le z0 z1 z2 Az cz lz As cs ln Av cv lv p0 p1 p2 lp w _ HB.out Me.out.rd Mz.out.rd Ms.out.rd Mv.out.rd Hsp.out).mono ?_
        rintro e w' ⟨Ao, co, loo, hio, rfl, h1, h2, h3, hR, hc⟩
        refine ⟨_, rfl, ?_⟩
        have F12 : hiv ≤ loo := (Nat.le_trans S.out h1)
        have F13 : loo ≤ hio := h2
        clear Me
        clear Mz
        clear Ms
        clear Mv
        replace BK4 := bz_ hc BK4
        replace BK5 := bz_ hc BK5
        replace BK10 := bz_ hc BK10
        replace HB := hz_ hc HB
        replace S := t_ hc S
        clear S
        have S := A_ h3
        have Mo := A_ hR
        clear h1 h2 h3 hR hc
        refine hK.out _ _ ⟨BK4.out, BK5.out⟩ (fun hHeld => ?_)
        clear hK K
        refine norm_ (a' := ?_) ?_ ?_
        rotate_left
        · show Act.put _ (some 48) _ = _
          simp only [Act.put, List.setIfInBounds_toArray, List.set_cons_zero, List.set_cons_succ, i64_w, i32_w]
          rfl
        exact norm_ (by simp only [putAll, Act.put, List.setIfInBounds_toArray, List.set_cons_zero, List.set_cons_succ]) (hCont (Ae, ce, Az, cz, As, cs, Av, cv, Ao, co, loo, hio, g10, w'.heap.size) _ ⟨hHeld, BK4.out, BK5.out, Mo.out, BK10.out, HB.out, (by (try dsimp only); have := S.out; omega), (by (try dsimp only); have := S.out; omega), (by (try dsimp only); have := S.out; omega), (by (try dsimp only); have := S.out; omega), (by (try dsimp only); have := S.out; omega), (by (try dsimp only); have := S.out; omega), (by (try dsimp only); have := S.out; omega)⟩)
    · refine box_step ?hg (N := 10) ?hd (cs := #[.int .i64 0, .int .i64 0, .string (⟨#[]⟩ : ByteArray), .slice none 0 0]) (t := 29) ?hr ?_; (case hd => rfl); (case hg => rfl); (case hr => first | (go_simp; done) | (go_simp; rfl))
      intro g10 hg w' hbox hb
      have hc := co_ hb
      have F3 : g5 + 1 ≤ g10 := (by have := S.out; omega)
      clear hg
      replace BK4 := bz_ hc BK4
      replace BK5 := bz_ hc BK5
      replace HB := hz_ hc HB
      replace S := t_ hc S
      clear S
      have S : Aside0 (g10 + 1 ≤ w'.heap.size) := A_ (blk_lt hbox)
      have BK10 := A_ hbox
      clear hbox hb hc
      refine hK.out _ _ ⟨BK4.out, BK5.out⟩ (fun hHeld => ?_)
      clear hK K
      refine norm_ (a' := ?_) ?_ ?_
      rotate_left
      · show Act.put _ (some 10) _ = _
        simp only [Act.put, List.setIfInBounds_toArray, List.set_cons_zero, List.set_cons_succ, i64_w, i32_w]
        rfl
      refine one_ (i := 1) (N := some 41) #[true, true, true, false, true, false, true, false, false, true, false] rfl rfl (by kernel_rfl) (by decide) (fun K hK => ?_)
      refine goes_ Try.func14 (by kernel_rfl) rfl #[.agg #[.int .i64 a0, .int .i64 a1, .string a2, .slice Aa la.length ca]] (by rfl) rfl rfl dA_ ?_
      refine (te4 k a0 a1 a2 Aa ca la e0 e1 e2 le w _ HB.out Hra.out Hca.out Hte.out).mono ?_
      rintro e w' ⟨Ae, ce, loe, hie, rfl, h1, h2, h3, hR, hc⟩
      refine ⟨_, rfl, ?_⟩
      have F4 : g10 + 1 ≤ loe := (Nat.le_trans S.out h1)
      have F5 : loe ≤ hie := h2
      replace BK4 := bz_ hc BK4
      replace BK5 := bz_ hc BK5
      replace BK10 := bz_ hc BK10
      replace HB := hz_ hc HB
      replace S := t_ hc S
      clear S
      have S := A_ h3
      have Me := A_ hR
      clear h1 h2 h3 hR hc
      refine hK.out _ _ ⟨BK4.out, BK5.out⟩ (fun hHeld => ?_)
      clear hK K
      refine norm_ (a' := ?_) ?_ ?_
      rotate_left
      · show Act.put _ (some 41) _ = _
        simp only [Act.put, List.setIfInBounds_toArray, List.set_cons_zero, List.set_cons_succ, i64_w, i32_w]
        rfl
      refine one_ (i := 3) (N := some 43) #[true, true, true, true, true, false, true, false, false, true, false] rfl rfl (by kernel_rfl) (by decide) (fun K hK => ?_)
      refine goes_ Try.func14 (by kernel_rfl) rfl #[.agg #[.int .i64 b0, .int .i64 b1, .string b2, .slice Ab lb.length cb]] (by rfl) rfl rfl dA_ ?_
      refine (te4 k b0 b1 b2 Ab cb lb z0 z1 z2 lz w _ HB.out Hrb.out Hcb.out Htz.out).mono ?_
      rintro e w' ⟨Az, cz, loz, hiz, rfl, h1, h2, h3, hR, hc⟩
      refine ⟨_, rfl, ?_⟩
      have F6 : hie ≤ loz := (Nat.le_trans S.out h1)
      have F7 : loz ≤ hiz := h2
      replace BK4 := bz_ hc BK4
      replace BK5 := bz_ hc BK5
      replace BK10 := bz_ hc BK10
      replace Me := uz_ hc Me
      replace HB := hz_ hc HB
      replace S := t_ hc S
      clear S
      have S := A_ h3
      have Mz := A_ hR
      clear h1 h2 h3 hR hc
      refine hK.out _ _ ⟨BK4.out, BK5.out⟩ (fun hHeld => ?_)
      clear hK K
      refine norm_ (a' := ?_) ?_ ?_
      rotate_left
      · show Act.put _ (some 43) _ = _
        simp only [Act.put, List.setIfInBounds_toArray, List.set_cons_zero, List.set_cons_succ, i64_w, i32_w]
        rfl
      refine one_ (i := 5) (N := some 45) #[true, true, true, true, true, true, true, false, false, true, false] rfl rfl (by kernel_rfl) (by decide) (fun K hK => ?_)
      refine goes_ Try.func27 (by kernel_rfl) rfl #[.slice An ln.length cn] (by rfl) rfl rfl dA_ ?_
      refine (tt4 k An cn ln ln w _ HB.out Hrn.out Hcn.out Htn.out).mono ?_
      rintro e w' ⟨As, cs, los, his, rfl, h1, h2, h3, hR, hc⟩
      refine ⟨_, rfl, ?_⟩
      have F8 : hiz ≤ los := (Nat.le_trans S.out h1)
      have F9 : los ≤ his := h2
      replace BK4 := bz_ hc BK4
      replace BK5 := bz_ hc BK5
      replace BK10 := bz_ hc BK10
      replace Me := uz_ hc Me
      replace Mz := uz_ hc Mz
      replace HB := hz_ hc HB
      replace S := t_ hc S
      clear S
      have S := A_ h3
      have Ms := A_ hR
      clear h1 h2 h3 hR hc
      refine hK.out _ _ ⟨BK4.out, BK5.out⟩ (fun hHeld => ?_)
      clear hK K
      refine norm_ (a' := ?_) ?_ ?_
      rotate_left
      · show Act.put _ (some 45) _ = _
        simp only [Act.put, List.setIfInBounds_toArray, List.set_cons_zero, List.set_cons_succ, i64_w, i32_w]
        rfl
      refine one_ (i := 7) (N := some 47) #[true, true, true, true, true, true, true, true, false, true, false] rfl rfl (by kernel_rfl) (by decide) (fun K hK => ?_)
      refine goes_ Try.func33 (by kernel_rfl) rfl #[.slice Aw lw.length cw] (by rfl) rfl rfl dA_ ?_
      refine (ts4 k Aw cw lw lv w _ HB.out Hrw.out Hcw.out Htv.out).mono ?_
      rintro e w' ⟨Av, cv, lov, hiv, rfl, h1, h2, h3, hR, hc⟩
      refine ⟨_, rfl, ?_⟩
      have F10 : his ≤ lov := (Nat.le_trans S.out h1)
      have F11 : lov ≤ hiv := h2
      replace BK4 := bz_ hc BK4
      replace BK5 := bz_ hc BK5
      replace BK10 := bz_ hc BK10
      replace Me := uz_ hc Me
      replace Mz := uz_ hc Mz
      replace Ms := vz_ hc Ms
      replace HB := hz_ hc HB
      replace S := t_ hc S
      clear S
      have S := A_ h3
      have Mv := A_ hR
      clear h1 h2 h3 hR hc
      refine hK.out _ _ ⟨BK4.out, BK5.out⟩ (fun hHeld => ?_)
      clear hK K
      refine norm_ (a' := ?_) ?_ ?_
      rotate_left
      · show Act.put _ (some 47) _ = _
        simp only [Act.put, List.setIfInBounds_toArray, List.set_cons_zero, List.set_cons_succ, i64_w, i32_w]
        rfl
      refine one_ (i := 8) (N := some 48) #[true, true, true, true, true, true, true, true, true, true, false] rfl rfl (by kernel_rfl) (by decide) (fun K hK => ?_)
      refine goes_ Try.func32 (by kernel_rfl) rfl #[.agg #[.int .i64 e0, .int .i64 e1, .string e2, .slice Ae le.length ce], .agg #[.int .i64 z0, .int .i64 z1, .string z2, .slice Az lz.length cz], .slice As ln.length cs, .slice Av lv.length cv] (by rfl) rfl rfl dA_ ?_
      refine (sp4 k e0 e1 e2 Ae ce le z0 z1 z2 Az cz lz As cs ln Av cv lv p0 p1 p2 lp w _ HB.out Me.out.rd Mz.out.rd Ms.out.rd Mv.out.rd Hsp.out).mono ?_
      rintro e w' ⟨Ao, co, loo, hio, rfl, h1, h2, h3, hR, hc⟩
      refine ⟨_, rfl, ?_⟩
      have F12 : hiv ≤ loo := (Nat.le_trans S.out h1)
      have F13 : loo ≤ hio := h2
      clear Me
      clear Mz
      clear Ms
      clear Mv
      replace BK4 := bz_ hc BK4
      replace BK5 := bz_ hc BK5
      replace BK10 := bz_ hc BK10
      replace HB := hz_ hc HB
      replace S := t_ hc S
      clear S
      have S := A_ h3
      have Mo := A_ hR
      clear h1 h2 h3 hR hc
      refine hK.out _ _ ⟨BK4.out, BK5.out⟩ (fun hHeld => ?_)
      clear hK K
      refine norm_ (a' := ?_) ?_ ?_
      rotate_left
      · show Act.put _ (some 48) _ = _
        simp only [Act.put, List.setIfInBounds_toArray, List.set_cons_zero, List.set_cons_succ, i64_w, i32_w]
        rfl
      exact norm_ (by simp only [putAll, Act.put, List.setIfInBounds_toArray, List.set_cons_zero, List.set_cons_succ]) (hCont (Ae, ce, Az, cz, As, cs, Av, cv, Ao, co, loo, hio, g10, w'.heap.size) _ ⟨hHeld, BK4.out, BK5.out, Mo.out, BK10.out, HB.out, (by (try dsimp only); have := S.out; omega), (by (try dsimp only); have := S.out; omega), (by (try dsimp only); have := S.out; omega), (by (try dsimp only); have := S.out; omega), (by (try dsimp only); have := S.out; omega), (by (try dsimp only); have := S.out; omega), (by (try dsimp only); have := S.out; omega)⟩)
  clear HB S BK4 BK5
  rintro ⟨Ae, ce, Az, cz, As, cs, Av, cv, Ao, co, loo, hio, g10, tp⟩ w' ⟨hHeld, h0_, h1_, h2_, h3_, h4_, h5_, h6_, h7_, h8_, h9_, h10_, h11_⟩
  have BK4 : Aside0 (w'.heap[g4]? = some (.cells #[.int .i64 a0, .int .i64 a1, .string a2, .slice Aa la.length ca] 24 (0, 0))) := ⟨h0_⟩
  have BK5 : Aside0 (w'.heap[g5]? = some (.cells #[.int .i64 b0, .int .i64 b1, .string b2, .slice Ab lb.length cb] 24 (0, 0))) := ⟨h1_⟩
  have Mo : Aside0 (FR w' loo hio Ao co lp) := ⟨h2_⟩
  have BK10 : Aside0 (w'.heap[g10]? = some (.cells #[.int .i64 0, .int .i64 0, .string (⟨#[]⟩ : ByteArray), .slice none 0 0] 29 (0, 0))) := ⟨h3_⟩
  have HB : Aside0 (Below w.heap.size w w') := ⟨h4_⟩
  have F114 : g5 + 1 ≤ g10 := h5_
  have F115 : g5 + 1 ≤ loo := h6_
  have F116 : loo ≤ hio := h7_
  have F117 : g10 + 1 ≤ loo ∨ hio ≤ g10 := h8_
  have F118 : hio ≤ tp := h9_
  have F119 : g10 + 1 ≤ tp := h10_
  have S : Aside0 (tp ≤ w'.heap.size) := ⟨h11_⟩
  clear h0_ h1_ h2_ h3_ h4_ h5_ h6_ h7_ h8_ h9_ h10_ h11_
  have hHeld : w'.heap[g4]? = some (.cells #[.int .i64 a0, .int .i64 a1, .string a2, .slice Aa la.length ca] 24 (0, 0)) ∧ w'.heap[g5]? = some (.cells #[.int .i64 b0, .int .i64 b1, .string b2, .slice Ab lb.length cb] 24 (0, 0)) := hHeld
  refine norm_ (a' := ?_) ?_ ?_
  rotate_left
  · simp only [putAll, Act.put, List.setIfInBounds_toArray, List.set_cons_zero, List.set_cons_succ]
    rfl
  refine one_ (i := 10) (N := none) #[true, true, true, true, true, true, true, true, true, true, true] rfl rfl (by kernel_rfl) (by decide) (fun K hK => ?_)
  refine store_struct_step (by rfl) rfl 29 (.tmp 10) (.tmp 48) rfl (cs := #[.int .i64 p0, .int .i64 p1, .string p2, .slice Ao lp.length co]) (by rfl) (by rfl) BK10.out (by kernel_rfl) rfl (by repeat (first | exact fun _ h => absurd h List.not_mem_nil | refine List.forall_mem_cons.2 ⟨rfl, ?_⟩)) ?_
  intro w' hbox hc
  replace BK4 := bs_ hc BK4 (by have := S.out; omega)
  replace BK5 := bs_ hc BK5 (by have := S.out; omega)
  replace Mo := fs_ hc Mo (by have := S.out; omega)
  replace HB := hs_ hc HB (by have := S.out; omega)
  replace S := t_ hc S
  clear BK10
  have BK10 := A_ hbox
  clear hbox hc
  refine hK.out _ _ ⟨BK4.out, BK5.out⟩ (fun hHeld => ?_)
  clear hK K
  refine done_ (by kernel_rfl) ?_
  go_wp2_with (first | ((with_reducible refine gate_ (.load 24 (.tmp 4)) rfl ?_); (try (refine gate_guard (by rfl) ?_; dsimp only)); refine ld_ 24 4 BK4.out Try.underlying24 ?_) | ((with_reducible refine gate_callee (f := 14) rfl ?_); (try (refine gate_guard (by rfl) ?_; dsimp only)); refine gL_ (some 50) Try.func14 #[.agg #[.int .i64 a0, .int .i64 a1, .string a2, .slice Aa la.length ca]] ?_; refine (te4 k a0 a1 a2 Aa ca la e0 e1 e2 le w _ HB.out Hra.out Hca.out Hte.out).mono ?_; rintro e w' ⟨Ax, cx, lox, hix, rfl, h1, h2, h3, hR, hc⟩; refine ⟨_, rfl, ?_⟩; have F120 : tp ≤ lox := (Nat.le_trans S.out h1); have F121 : lox ≤ hix := h2; replace BK4 := bz_ hc BK4; replace BK5 := bz_ hc BK5; replace Mo := fz_ hc Mo; replace BK10 := bz_ hc BK10; replace HB := hz_ hc HB; replace S := t_ hc S; clear S; have S := A_ h3; have Mx := A_ hR; clear h1 h2 h3 hR hc) | ((with_reducible refine gate_dst (N := 11) rfl ?_); refine bx_ 11 #[.int .i64 0, .int .i64 0, .string (⟨#[]⟩ : ByteArray), .slice none 0 0] 29 ?_; intro g11 hg w' hbox hb; have hc := co_ hb; have F122 : hix ≤ g11 := (by have := S.out; omega); clear hg; replace BK4 := bz_ hc BK4; replace BK5 := bz_ hc BK5; replace Mo := fz_ hc Mo; replace BK10 := bz_ hc BK10; replace Mx := uz_ hc Mx; replace HB := hz_ hc HB; replace S := t_ hc S; clear S; have S : Aside0 (g11 + 1 ≤ w'.heap.size) := A_ (blk_lt hbox); have BK11 := A_ hbox; clear hbox hb hc) | ((with_reducible refine gate_ (.store 29 (.tmp 11) (.tmp 50)) rfl ?_); refine nrm_ (a' := ?_) ?_ ?_; rotate_left; (simp only [Act.put, List.setIfInBounds_toArray, List.set_cons_zero, List.set_cons_succ]; rfl); refine ss_ 29 11 50 #[.int .i64 e0, .int .i64 e1, .string e2, .slice Ax le.length cx] BK11.out ?_; intro w' hbox hc; replace BK4 := bs_ hc BK4 (by have := S.out; omega); replace BK5 := bs_ hc BK5 (by have := S.out; omega); replace Mo := fs_ hc Mo (by have := S.out; omega); replace BK10 := bs_ hc BK10 (by have := S.out; omega); replace Mx := us_ hc Mx (by have := S.out; omega); replace HB := hs_ hc HB (by have := S.out; omega); replace S := t_ hc S; clear BK11; have BK11 := A_ hbox; clear hbox hc) | ((with_reducible refine gate_ (.load 24 (.tmp 5)) rfl ?_); (try (refine gate_guard (by rfl) ?_; dsimp only)); refine ld_ 24 5 BK5.out Try.underlying24 ?_) | ((with_reducible refine gate_callee (f := 14) rfl ?_); (try (refine gate_guard (by rfl) ?_; dsimp only)); refine gL_ (some 52) Try.func14 #[.agg #[.int .i64 b0, .int .i64 b1, .string b2, .slice Ab lb.length cb]] ?_; refine (te4 k b0 b1 b2 Ab cb lb z0 z1 z2 lz w _ HB.out Hrb.out Hcb.out Htz.out).mono ?_; rintro e w' ⟨Ay, cy, loy, hiy, rfl, h1, h2, h3, hR, hc⟩; refine ⟨_, rfl, ?_⟩; have F123 : g11 + 1 ≤ loy := (Nat.le_trans S.out h1); have F124 : loy ≤ hiy := h2; replace BK4 := bz_ hc BK4; replace BK5 := bz_ hc BK5; replace Mo := fz_ hc Mo; replace BK10 := bz_ hc BK10; replace Mx := uz_ hc Mx; replace BK11 := bz_ hc BK11; replace HB := hz_ hc HB; replace S := t_ hc S; clear S; have S := A_ h3; have My := A_ hR; clear h1 h2 h3 hR hc) | ((with_reducible refine gate_dst (N := 12) rfl ?_); refine bx_ 12 #[.int .i64 0, .int .i64 0, .string (⟨#[]⟩ : ByteArray), .slice none 0 0] 29 ?_; intro g12 hg w' hbox hb; have hc := co_ hb; have F125 : hiy ≤ g12 := (by have := S.out; omega); clear hg; replace BK4 := bz_ hc BK4; replace BK5 := bz_ hc BK5; replace Mo := fz_ hc Mo; replace BK10 := bz_ hc BK10; replace Mx := uz_ hc Mx; replace BK11 := bz_ hc BK11; replace My := uz_ hc My; replace HB := hz_ hc HB; replace S := t_ hc S; clear S; have S : Aside0 (g12 + 1 ≤ w'.heap.size) := A_ (blk_lt hbox); have BK12 := A_ hbox; clear hbox hb hc) | ((with_reducible refine gate_ (.store 29 (.tmp 12) (.tmp 52)) rfl ?_); refine nrm_ (a' := ?_) ?_ ?_; rotate_left; (simp only [Act.put, List.setIfInBounds_toArray, List.set_cons_zero, List.set_cons_succ]; rfl); refine ss_ 29 12 52 #[.int .i64 z0, .int .i64 z1, .string z2, .slice Ay lz.length cy] BK12.out ?_; intro w' hbox hc; replace BK4 := bs_ hc BK4 (by have := S.out; omega); replace BK5 := bs_ hc BK5 (by have := S.out; omega); replace Mo := fs_ hc Mo (by have := S.out; omega); replace BK10 := bs_ hc BK10 (by have := S.out; omega); replace Mx := us_ hc Mx (by have := S.out; omega); replace BK11 := bs_ hc BK11 (by have := S.out; omega); replace My := us_ hc My (by have := S.out; omega); replace HB := hs_ hc HB (by have := S.out; omega); replace S := t_ hc S; clear BK12; have BK12 := A_ hbox; clear hbox hc) | ((with_reducible refine gate_callee (f := 27) rfl ?_); (try (refine gate_guard (by rfl) ?_; dsimp only)); refine gL_ (some 54) Try.func27 #[.slice An ln.length cn] ?_; refine (tt4 k An cn ln ln w _ HB.out Hrn.out Hcn.out Htn.out).mono ?_; rintro e w' ⟨At, ct, lot, hit, rfl, h1, h2, h3, hR, hc⟩; refine ⟨_, rfl, ?_⟩; have F126 : g12 + 1 ≤ lot := (Nat.le_trans S.out h1); have F127 : lot ≤ hit := h2; replace BK4 := bz_ hc BK4; replace BK5 := bz_ hc BK5; replace Mo := fz_ hc Mo; replace BK10 := bz_ hc BK10; replace Mx := uz_ hc Mx; replace BK11 := bz_ hc BK11; replace My := uz_ hc My; replace BK12 := bz_ hc BK12; replace HB := hz_ hc HB; replace S := t_ hc S; clear S; have S := A_ h3; have Mt := A_ hR; clear h1 h2 h3 hR hc) | ((with_reducible refine gate_callee (f := 33) rfl ?_); (try (refine gate_guard (by rfl) ?_; dsimp only)); refine gL_ (some 56) Try.func33 #[.slice Aw lw.length cw] ?_; refine (ts4 k Aw cw lw lv w _ HB.out Hrw.out Hcw.out Htv.out).mono ?_; rintro e w' ⟨Au, cu, lou, hiu, rfl, h1, h2, h3, hR, hc⟩; refine ⟨_, rfl, ?_⟩; have F128 : hit ≤ lou := (Nat.le_trans S.out h1); have F129 : lou ≤ hiu := h2; replace BK4 := bz_ hc BK4; replace BK5 := bz_ hc BK5; replace Mo := fz_ hc Mo; replace BK10 := bz_ hc BK10; replace Mx := uz_ hc Mx; replace BK11 := bz_ hc BK11; replace My := uz_ hc My; replace BK12 := bz_ hc BK12; replace Mt := vz_ hc Mt; replace HB := hz_ hc HB; replace S := t_ hc S; clear S; have S := A_ h3; have Mu := A_ hR; clear h1 h2 h3 hR hc) | ((with_reducible refine gate_ (.load 29 (.tmp 11)) rfl ?_); (try (refine gate_guard (by rfl) ?_; dsimp only)); refine ld_ 29 11 BK11.out Try.underlying29 ?_) | ((with_reducible refine gate_ (.load 29 (.tmp 12)) rfl ?_); (try (refine gate_guard (by rfl) ?_; dsimp only)); refine ld_ 29 12 BK12.out Try.underlying29 ?_) | ((with_reducible refine gate_callee (f := 34) rfl ?_); (try (refine gate_guard (by rfl) ?_; dsimp only)); refine gL_ (some 61) Try.func34 #[.agg #[.int .i64 e0, .int .i64 e1, .string e2, .slice Ax le.length cx], .agg #[.int .i64 z0, .int .i64 z1, .string z2, .slice Ay lz.length cy], .slice At ln.length ct, .slice Au lv.length cu] ?_; refine (ip4 k e0 e1 e2 Ax cx le z0 z1 z2 Ay cy lz At ct ln Au cu lv p0 p1 p2 lp w _ HB.out Mx.out.rd My.out.rd Mt.out.rd Mu.out.rd Hip.out).mono ?_; rintro e w' ⟨Ag, cg, log, hig, rfl, h1, h2, h3, hR, hc⟩; refine ⟨_, rfl, ?_⟩; have F130 : hiu ≤ log := (Nat.le_trans S.out h1); have F131 : log ≤ hig := h2; replace BK4 := bz_ hc BK4; replace BK5 := bz_ hc BK5; replace Mo := fz_ hc Mo; replace BK10 := bz_ hc BK10; replace Mx := uz_ hc Mx; replace BK11 := bz_ hc BK11; replace My := uz_ hc My; replace BK12 := bz_ hc BK12; replace Mt := vz_ hc Mt; replace Mu := uz_ hc Mu; replace HB := hz_ hc HB; replace S := t_ hc S; clear S; have S := A_ h3; have Mg := A_ hR; clear h1 h2 h3 hR hc) | ((with_reducible refine gate_dst (N := 15) rfl ?_); refine bx_ 15 #[.int .i64 0, .int .i64 0, .string (⟨#[]⟩ : ByteArray), .slice none 0 0] 29 ?_; intro g15 hg w' hbox hb; have hc := co_ hb; have F132 : hig ≤ g15 := (by have := S.out; omega); clear hg; replace BK4 := bz_ hc BK4; replace BK5 := bz_ hc BK5; replace Mo := fz_ hc Mo; replace BK10 := bz_ hc BK10; replace Mx := uz_ hc Mx; replace BK11 := bz_ hc BK11; replace My := uz_ hc My; replace BK12 := bz_ hc BK12; replace Mt := vz_ hc Mt; replace Mu := uz_ hc Mu; replace Mg := uz_ hc Mg; replace HB := hz_ hc HB; replace S := t_ hc S; clear S; have S : Aside0 (g15 + 1 ≤ w'.heap.size) := A_ (blk_lt hbox); have BK15 := A_ hbox; clear hbox hb hc) | ((with_reducible refine gate_ (.store 29 (.tmp 15) (.tmp 61)) rfl ?_); refine nrm_ (a' := ?_) ?_ ?_; rotate_left; (simp only [Act.put, List.setIfInBounds_toArray, List.set_cons_zero, List.set_cons_succ]; rfl); refine ss_ 29 15 61 #[.int .i64 p0, .int .i64 p1, .string p2, .slice Ag lp.length cg] BK15.out ?_; intro w' hbox hc; replace BK4 := bs_ hc BK4 (by have := S.out; omega); replace BK5 := bs_ hc BK5 (by have := S.out; omega); replace Mo := fs_ hc Mo (by have := S.out; omega); replace BK10 := bs_ hc BK10 (by have := S.out; omega); replace Mx := us_ hc Mx (by have := S.out; omega); replace BK11 := bs_ hc BK11 (by have := S.out; omega); replace My := us_ hc My (by have := S.out; omega); replace BK12 := bs_ hc BK12 (by have := S.out; omega); replace Mt := vs_ hc Mt (by have := S.out; omega); replace Mu := us_ hc Mu (by have := S.out; omega); replace Mg := us_ hc Mg (by have := S.out; omega); replace HB := hs_ hc HB (by have := S.out; omega); replace S := t_ hc S; clear BK15; have BK15 := A_ hbox; clear hbox hc) | ((with_reducible refine gate_ (.load 29 (.tmp 15)) rfl ?_); (try (refine gate_guard (by rfl) ?_; dsimp only)); refine ld_ 29 15 BK15.out Try.underlying29 ?_) | ((with_reducible refine gate_ (.load 29 (.tmp 10)) rfl ?_); (try (refine gate_guard (by rfl) ?_; dsimp only)); refine ld_ 29 10 BK10.out Try.underlying29 ?_) | ((with_reducible refine gate_callee (f := 16) rfl ?_); (try (refine gate_guard (by rfl) ?_; dsimp only)); refine gL_ (some 64) Try.func16 #[.agg #[.int .i64 p0, .int .i64 p1, .string p2, .slice Ag lp.length cg], .agg #[.int .i64 p0, .int .i64 p1, .string p2, .slice Ao lp.length co]] ?_; refine (eq4 k p0 p1 p2 Ag cg lp p0 p1 p2 Ao co lp true _ Mg.out.rd Mo.out.rd Hqp.out).mono ?_; rintro e w' ⟨rfl, hc⟩; refine ⟨_, rfl, ?_⟩; replace BK4 := bz_ hc BK4; replace BK5 := bz_ hc BK5; replace Mo := fz_ hc Mo; replace BK10 := bz_ hc BK10; replace Mx := uz_ hc Mx; replace BK11 := bz_ hc BK11; replace My := uz_ hc My; replace BK12 := bz_ hc BK12; replace Mt := vz_ hc Mt; replace Mu := uz_ hc Mu; replace Mg := uz_ hc Mg; replace BK15 := bz_ hc BK15; replace HB := hz_ hc HB; replace S := t_ hc S; clear hc))
  have hc := Ch.drew w'
  replace BK4 := bz_ hc BK4
  replace BK5 := bz_ hc BK5
  replace Mo := fz_ hc Mo
  replace BK10 := bz_ hc BK10
  replace Mx := uz_ hc Mx
  replace BK11 := bz_ hc BK11
  replace My := uz_ hc My
  replace BK12 := bz_ hc BK12
  replace Mt := vz_ hc Mt
  replace Mu := uz_ hc Mu
  replace Mg := uz_ hc Mg
  replace BK15 := bz_ hc BK15
  replace HB := hz_ hc HB
  replace S := t_ hc S
  clear hc
  refine start_ (n := 5) (S := fun w' => w'.heap[g11]? = some (.cells #[.int .i64 e0, .int .i64 e1, .string e2, .slice Ax le.length cx] 29 (0, 0)) ∧ w'.heap[g4]? = some (.cells #[.int .i64 a0, .int .i64 a1, .string a2, .slice Aa la.length ca] 24 (0, 0))) (ds := []) #[false, false, false, false, false] (by kernel_rfl) rfl rfl ⟨BK11.out, BK4.out⟩ (fun hHeld => ?_)
  generalize w'.drew = w' at BK4 BK5 Mo BK10 Mx BK11 My BK12 Mt Mu Mg BK15 HB S hHeld ⊢
  refine take_ (i := 0) (N := some 66) (v := .agg #[.int .i64 e0, .int .i64 e1, .string e2, .slice Ax le.length cx]) (a' := ?_) #[true, false, false, false, false] rfl rfl (by kernel_rfl) (fun _ _ _ h => h) (Or.inl ⟨by rfl, ?_⟩) hHeld ?_ ?_
  · rintro w' ⟨s0, s1⟩
    exact load_yields 29 (.tmp 11) (by rfl) g11 (by rfl) 29 _ _ s0 Try.underlying29 rfl (by kernel_rfl)
  rotate_left
  · simp only [Act.put, List.setIfInBounds_toArray, List.set_cons_zero, List.set_cons_succ, i64_w, i32_w]
    rfl
  refine take_ (i := 1) (N := some 67) (v := .agg #[.int .i64 a0, .int .i64 a1, .string a2, .slice Aa la.length ca]) (a' := ?_) #[true, true, false, false, false] rfl rfl (by kernel_rfl) (fun _ _ _ h => h) (Or.inl ⟨by rfl, ?_⟩) hHeld ?_ ?_
  · rintro w' ⟨s0, s1⟩
    exact load_yields 24 (.tmp 4) (by rfl) g4 (by rfl) 24 _ _ s1 Try.underlying24 rfl (by kernel_rfl)
  rotate_left
  · simp only [Act.put, List.setIfInBounds_toArray, List.set_cons_zero, List.set_cons_succ, i64_w, i32_w]
    rfl
  refine one_ (i := 2) (N := some 68) #[true, true, true, false, false] rfl rfl (by kernel_rfl) (by decide) (fun K hK => ?_)
  refine goes_ Try.func14 (by kernel_rfl) rfl #[.agg #[.int .i64 a0, .int .i64 a1, .string a2, .slice Aa la.length ca]] (by rfl) rfl rfl dA_ ?_
  refine (te4 k a0 a1 a2 Aa ca la e0 e1 e2 le w _ HB.out Hra.out Hca.out Hte.out).mono ?_
  rintro e w' ⟨Aqe, cqe, loqe, hiqe, rfl, h1, h2, h3, hR, hc⟩
  refine ⟨_, rfl, ?_⟩
  have F133 : g15 + 1 ≤ loqe := (Nat.le_trans S.out h1)
  have F134 : loqe ≤ hiqe := h2
  replace BK4 := bz_ hc BK4
  replace BK5 := bz_ hc BK5
  replace Mo := fz_ hc Mo
  replace BK10 := bz_ hc BK10
  replace Mx := uz_ hc Mx
  replace BK11 := bz_ hc BK11
  replace My := uz_ hc My
  replace BK12 := bz_ hc BK12
  replace Mt := vz_ hc Mt
  replace Mu := uz_ hc Mu
  replace Mg := uz_ hc Mg
  replace BK15 := bz_ hc BK15
  replace HB := hz_ hc HB
  replace S := t_ hc S
  clear S
  have S := A_ h3
  have Mq := A_ hR
  clear h1 h2 h3 hR hc
  refine hK.out _ _ ⟨BK11.out, BK4.out⟩ (fun hHeld => ?_)
  clear hK K
  refine norm_ (a' := ?_) ?_ ?_
  rotate_left
  · show Act.put _ (some 68) _ = _
    simp only [Act.put, List.setIfInBounds_toArray, List.set_cons_zero, List.set_cons_succ, i64_w, i32_w]
    rfl
  refine one_ (i := 3) (N := some 69) #[true, true, true, true, false] rfl rfl (by kernel_rfl) (by decide) (fun K hK => ?_)
  refine goes_ Try.func16 (by kernel_rfl) rfl #[.agg #[.int .i64 e0, .int .i64 e1, .string e2, .slice Ax le.length cx], .agg #[.int .i64 e0, .int .i64 e1, .string e2, .slice Aqe le.length cqe]] (by rfl) rfl rfl dA_ ?_
  refine (eq4 k e0 e1 e2 Ax cx le e0 e1 e2 Aqe cqe le true _ Mx.out.rd Mq.out.rd Hqe.out).mono ?_
  rintro e w' ⟨rfl, hc⟩
  refine ⟨_, rfl, ?_⟩
  replace BK4 := bz_ hc BK4
  replace BK5 := bz_ hc BK5
  replace Mo := fz_ hc Mo
  replace BK10 := bz_ hc BK10
  replace Mx := uz_ hc Mx
  replace BK11 := bz_ hc BK11
  replace My := uz_ hc My
  replace BK12 := bz_ hc BK12
  replace Mt := vz_ hc Mt
  replace Mu := uz_ hc Mu
  replace Mg := uz_ hc Mg
  replace BK15 := bz_ hc BK15
  replace Mq := uz_ hc Mq
  replace HB := hz_ hc HB
  replace S := t_ hc S
  clear hc
  refine hK.out _ _ ⟨BK11.out, BK4.out⟩ (fun hHeld => ?_)
  clear hK K
  refine norm_ (a' := ?_) ?_ ?_
  rotate_left
  · show Act.put _ (some 69) _ = _
    simp only [Act.put, List.setIfInBounds_toArray, List.set_cons_zero, List.set_cons_succ, i64_w, i32_w]
    rfl
  refine pure_ (i := 4) (N := some 70) (v := ?_) (a' := ?_) #[true, true, true, true, true] rfl rfl (by kernel_rfl) (fun _ _ _ h => h) (Or.inl ⟨by rfl, ?_⟩) ?_ ?_
  rotate_left
  · intro w'
    go_simp
    with_reducible rfl
  rotate_left
  · simp only [Act.put, List.setIfInBounds_toArray, List.set_cons_zero, List.set_cons_succ, i64_w, i32_w]
    rfl
  refine done_ (by kernel_rfl) ?_
  clear Mq
  go_wp2
  have hc := Ch.drew w'
  replace BK4 := bz_ hc BK4
  replace BK5 := bz_ hc BK5
  replace Mo := fz_ hc Mo
  replace BK10 := bz_ hc BK10
  replace Mx := uz_ hc Mx
  replace BK11 := bz_ hc BK11
  replace My := uz_ hc My
  replace BK12 := bz_ hc BK12
  replace Mt := vz_ hc Mt
  replace Mu := uz_ hc Mu
  replace Mg := uz_ hc Mg
  replace BK15 := bz_ hc BK15
  replace HB := hz_ hc HB
  replace S := t_ hc S
  clear hc
  refine start_ (n := 5) (S := fun w' => w'.heap[g12]? = some (.cells #[.int .i64 z0, .int .i64 z1, .string z2, .slice Ay lz.length cy] 29 (0, 0)) ∧ w'.heap[g5]? = some (.cells #[.int .i64 b0, .int .i64 b1, .string b2, .slice Ab lb.length cb] 24 (0, 0))) (ds := []) #[false, false, false, false, false] (by kernel_rfl) rfl rfl ⟨BK12.out, BK5.out⟩ (fun hHeld => ?_)
  generalize w'.drew = w' at BK4 BK5 Mo BK10 Mx BK11 My BK12 Mt Mu Mg BK15 HB S hHeld ⊢
  refine take_ (i := 0) (N := some 71) (v := .agg #[.int .i64 z0, .int .i64 z1, .string z2, .slice Ay lz.length cy]) (a' := ?_) #[true, false, false, false, false] rfl rfl (by kernel_rfl) (fun _ _ _ h => h) (Or.inl ⟨by rfl, ?_⟩) hHeld ?_ ?_
  · rintro w' ⟨s0, s1⟩
    exact load_yields 29 (.tmp 12) (by rfl) g12 (by rfl) 29 _ _ s0 Try.underlying29 rfl (by kernel_rfl)
  rotate_left
  · simp only [Act.put, List.setIfInBounds_toArray, List.set_cons_zero, List.set_cons_succ, i64_w, i32_w]
    rfl
  refine take_ (i := 1) (N := some 72) (v := .agg #[.int .i64 b0, .int .i64 b1, .string b2, .slice Ab lb.length cb]) (a' := ?_) #[true, true, false, false, false] rfl rfl (by kernel_rfl) (fun _ _ _ h => h) (Or.inl ⟨by rfl, ?_⟩) hHeld ?_ ?_
  · rintro w' ⟨s0, s1⟩
    exact load_yields 24 (.tmp 5) (by rfl) g5 (by rfl) 24 _ _ s1 Try.underlying24 rfl (by kernel_rfl)
  rotate_left
  · simp only [Act.put, List.setIfInBounds_toArray, List.set_cons_zero, List.set_cons_succ, i64_w, i32_w]
    rfl
  refine one_ (i := 2) (N := some 73) #[true, true, true, false, false] rfl rfl (by kernel_rfl) (by decide) (fun K hK => ?_)
  refine goes_ Try.func14 (by kernel_rfl) rfl #[.agg #[.int .i64 b0, .int .i64 b1, .string b2, .slice Ab lb.length cb]] (by rfl) rfl rfl dA_ ?_
  refine (te4 k b0 b1 b2 Ab cb lb z0 z1 z2 lz w _ HB.out Hrb.out Hcb.out Htz.out).mono ?_
  rintro e w' ⟨Aqz, cqz, loqz, hiqz, rfl, h1, h2, h3, hR, hc⟩
  refine ⟨_, rfl, ?_⟩
  have F135 : hiqe ≤ loqz := (Nat.le_trans S.out h1)
  have F136 : loqz ≤ hiqz := h2
  replace BK4 := bz_ hc BK4
  replace BK5 := bz_ hc BK5
  replace Mo := fz_ hc Mo
  replace BK10 := bz_ hc BK10
  replace Mx := uz_ hc Mx
  replace BK11 := bz_ hc BK11
  replace My := uz_ hc My
  replace BK12 := bz_ hc BK12
  replace Mt := vz_ hc Mt
  replace Mu := uz_ hc Mu
  replace Mg := uz_ hc Mg
  replace BK15 := bz_ hc BK15
  replace HB := hz_ hc HB
  replace S := t_ hc S
  clear S
  have S := A_ h3
  have Mq := A_ hR
  clear h1 h2 h3 hR hc
  refine hK.out _ _ ⟨BK12.out, BK5.out⟩ (fun hHeld => ?_)
  clear hK K
  refine norm_ (a' := ?_) ?_ ?_
  rotate_left
  · show Act.put _ (some 73) _ = _
    simp only [Act.put, List.setIfInBounds_toArray, List.set_cons_zero, List.set_cons_succ, i64_w, i32_w]
    rfl
  refine one_ (i := 3) (N := some 74) #[true, true, true, true, false] rfl rfl (by kernel_rfl) (by decide) (fun K hK => ?_)
  refine goes_ Try.func16 (by kernel_rfl) rfl #[.agg #[.int .i64 z0, .int .i64 z1, .string z2, .slice Ay lz.length cy], .agg #[.int .i64 z0, .int .i64 z1, .string z2, .slice Aqz lz.length cqz]] (by rfl) rfl rfl dA_ ?_
  refine (eq4 k z0 z1 z2 Ay cy lz z0 z1 z2 Aqz cqz lz true _ My.out.rd Mq.out.rd Hqz.out).mono ?_
  rintro e w' ⟨rfl, hc⟩
  refine ⟨_, rfl, ?_⟩
  replace BK4 := bz_ hc BK4
  replace BK5 := bz_ hc BK5
  replace Mo := fz_ hc Mo
  replace BK10 := bz_ hc BK10
  replace Mx := uz_ hc Mx
  replace BK11 := bz_ hc BK11
  replace My := uz_ hc My
  replace BK12 := bz_ hc BK12
  replace Mt := vz_ hc Mt
  replace Mu := uz_ hc Mu
  replace Mg := uz_ hc Mg
  replace BK15 := bz_ hc BK15
  replace Mq := uz_ hc Mq
  replace HB := hz_ hc HB
  replace S := t_ hc S
  clear hc
  refine hK.out _ _ ⟨BK12.out, BK5.out⟩ (fun hHeld => ?_)
  clear hK K
  refine norm_ (a' := ?_) ?_ ?_
  rotate_left
  · show Act.put _ (some 74) _ = _
    simp only [Act.put, List.setIfInBounds_toArray, List.set_cons_zero, List.set_cons_succ, i64_w, i32_w]
    rfl
  refine pure_ (i := 4) (N := some 75) (v := ?_) (a' := ?_) #[true, true, true, true, true] rfl rfl (by kernel_rfl) (fun _ _ _ h => h) (Or.inl ⟨by rfl, ?_⟩) ?_ ?_
  rotate_left
  · intro w'
    go_simp
    with_reducible rfl
  rotate_left
  · simp only [Act.put, List.setIfInBounds_toArray, List.set_cons_zero, List.set_cons_succ, i64_w, i32_w]
    rfl
  refine done_ (by kernel_rfl) ?_
  clear Mq
  go_wp2_with (first | ((with_reducible refine gate_callee (f := 27) rfl ?_); (try (refine gate_guard (by rfl) ?_; dsimp only)); refine gL_ (some 78) Try.func27 #[.slice An ln.length cn] ?_; refine (tt4 k An cn ln ln w _ HB.out Hrn.out Hcn.out Htn.out).mono ?_; rintro e w' ⟨Af, cf, lof, hif, rfl, h1, h2, h3, hR, hc⟩; refine ⟨_, rfl, ?_⟩; have F137 : hiqz ≤ lof := (Nat.le_trans S.out h1); have F138 : lof ≤ hif := h2; replace BK4 := bz_ hc BK4; replace BK5 := bz_ hc BK5; replace Mo := fz_ hc Mo; replace BK10 := bz_ hc BK10; replace Mx := uz_ hc Mx; replace BK11 := bz_ hc BK11; replace My := uz_ hc My; replace BK12 := bz_ hc BK12; replace Mt := vz_ hc Mt; replace Mu := uz_ hc Mu; replace Mg := uz_ hc Mg; replace BK15 := bz_ hc BK15; replace HB := hz_ hc HB; replace S := t_ hc S; clear S; have S := A_ h3; have Mf := A_ hR; clear h1 h2 h3 hR hc) | ((with_reducible refine gate_callee (f := 30) rfl ?_); (try (refine gate_guard (by rfl) ?_; dsimp only)); refine gL_ (some 79) Try.func30 #[.slice At ln.length ct, .slice Af ln.length cf] ?_; refine (eqs4 k At ct ln Af cf ln true _ Mt.out.rd Mf.out.rd Hqn.out).mono ?_; rintro e w' ⟨rfl, hc⟩; refine ⟨_, rfl, ?_⟩; replace BK4 := bz_ hc BK4; replace BK5 := bz_ hc BK5; replace Mo := fz_ hc Mo; replace BK10 := bz_ hc BK10; replace Mx := uz_ hc Mx; replace BK11 := bz_ hc BK11; replace My := uz_ hc My; replace BK12 := bz_ hc BK12; replace Mt := vz_ hc Mt; replace Mu := uz_ hc Mu; replace Mg := uz_ hc Mg; replace BK15 := bz_ hc BK15; replace Mf := vz_ hc Mf; replace HB := hz_ hc HB; replace S := t_ hc S; clear hc; clear Mf) | ((with_reducible refine gate_callee (f := 33) rfl ?_); (try (refine gate_guard (by rfl) ?_; dsimp only)); refine gL_ (some 83) Try.func33 #[.slice Aw lw.length cw] ?_; refine (ts4 k Aw cw lw lv w _ HB.out Hrw.out Hcw.out Htv.out).mono ?_; rintro e w' ⟨Aj, cj, loj, hij, rfl, h1, h2, h3, hR, hc⟩; refine ⟨_, rfl, ?_⟩; have F139 : hif ≤ loj := (Nat.le_trans S.out h1); have F140 : loj ≤ hij := h2; replace BK4 := bz_ hc BK4; replace BK5 := bz_ hc BK5; replace Mo := fz_ hc Mo; replace BK10 := bz_ hc BK10; replace Mx := uz_ hc Mx; replace BK11 := bz_ hc BK11; replace My := uz_ hc My; replace BK12 := bz_ hc BK12; replace Mt := vz_ hc Mt; replace Mu := uz_ hc Mu; replace Mg := uz_ hc Mg; replace BK15 := bz_ hc BK15; replace HB := hz_ hc HB; replace S := t_ hc S; clear S; have S := A_ h3; have Mj := A_ hR; clear h1 h2 h3 hR hc) | ((with_reducible refine gate_callee (f := 35) rfl ?_); (try (refine gate_guard (by rfl) ?_; dsimp only)); refine gL_ (some 84) Try.func35 #[.slice Au lv.length cu, .slice Aj lv.length cj] ?_; refine (eqv4 k Au cu lv Aj cj lv true _ Mu.out.rd Mj.out.rd Hqv.out).mono ?_; rintro e w' ⟨rfl, hc⟩; refine ⟨_, rfl, ?_⟩; replace BK4 := bz_ hc BK4; replace BK5 := bz_ hc BK5; replace Mo := fz_ hc Mo; replace BK10 := bz_ hc BK10; replace Mx := uz_ hc Mx; replace BK11 := bz_ hc BK11; replace My := uz_ hc My; replace BK12 := bz_ hc BK12; replace Mt := vz_ hc Mt; replace Mu := uz_ hc Mu; replace Mg := uz_ hc Mg; replace BK15 := bz_ hc BK15; replace Mj := uz_ hc Mj; replace HB := hz_ hc HB; replace S := t_ hc S; clear hc; clear Mj) | ((with_reducible refine gate_ (.load 29 (.tmp 11)) rfl ?_); (try (refine gate_guard (by rfl) ?_; dsimp only)); refine ld_ 29 11 BK11.out Try.underlying29 ?_) | ((with_reducible refine gate_callee (f := 36) rfl ?_); (try (refine gate_guard (by rfl) ?_; dsimp only)); refine gL_ (some 88) Try.func36 #[.agg #[.int .i64 e0, .int .i64 e1, .string e2, .slice Ax le.length cx], .int .i64 1] ?_; refine (mark4 k e0 e1 e2 Ax cx le me 1 k1 lox hix w _ HB.out Mx.out Hm1.out Hl1.out).mono ?_; rintro e w' ⟨rfl, hR, hc⟩; refine ⟨_, rfl, ?_⟩; replace BK4 := bs_ hc BK4 (by have := S.out; omega); replace BK5 := bs_ hc BK5 (by have := S.out; omega); replace Mo := fs_ hc Mo (by have := S.out; omega); replace BK10 := bs_ hc BK10 (by have := S.out; omega); replace BK11 := bs_ hc BK11 (by have := S.out; omega); replace My := us_ hc My (by have := S.out; omega); replace BK12 := bs_ hc BK12 (by have := S.out; omega); replace Mt := vs_ hc Mt (by have := S.out; omega); replace Mu := us_ hc Mu (by have := S.out; omega); replace Mg := us_ hc Mg (by have := S.out; omega); replace BK15 := bs_ hc BK15 (by have := S.out; omega); replace HB := hs_ hc HB (by have := S.out; omega); replace S := t_ hc S; clear Mx; have Mx := A_ hR; clear hR hc) | ((with_reducible refine gate_ (.load 29 (.tmp 12)) rfl ?_); (try (refine gate_guard (by rfl) ?_; dsimp only)); refine ld_ 29 12 BK12.out Try.underlying29 ?_) | ((with_reducible refine gate_callee (f := 36) rfl ?_); (try (refine gate_guard (by rfl) ?_; dsimp only)); refine gL_ (some 91) Try.func36 #[.agg #[.int .i64 z0, .int .i64 z1, .string z2, .slice Ay lz.length cy], .int .i64 k1] ?_; refine (mark4 k z0 z1 z2 Ay cy lz mz k1 k2 loy hiy w _ HB.out My.out Hm2.out Hl2.out).mono ?_; rintro e w' ⟨rfl, hR, hc⟩; refine ⟨_, rfl, ?_⟩; replace BK4 := bs_ hc BK4 (by have := S.out; omega); replace BK5 := bs_ hc BK5 (by have := S.out; omega); replace Mo := fs_ hc Mo (by have := S.out; omega); replace BK10 := bs_ hc BK10 (by have := S.out; omega); replace Mx := us_ hc Mx (by have := S.out; omega); replace BK11 := bs_ hc BK11 (by have := S.out; omega); replace BK12 := bs_ hc BK12 (by have := S.out; omega); replace Mt := vs_ hc Mt (by have := S.out; omega); replace Mu := us_ hc Mu (by have := S.out; omega); replace Mg := us_ hc Mg (by have := S.out; omega); replace BK15 := bs_ hc BK15 (by have := S.out; omega); replace HB := hs_ hc HB (by have := S.out; omega); replace S := t_ hc S; clear My; have My := A_ hR; clear hR hc) | ((with_reducible refine gate_callee (f := 37) rfl ?_); (try (refine gate_guard (by rfl) ?_; dsimp only)); refine gL_ (some 94) Try.func37 #[.slice At ln.length ct, .int .i64 k2] ?_; refine (markn4 k At ct ln mn k2 k3 lot hit w _ HB.out Mt.out Hm3.out Hl3.out).mono ?_; rintro e w' ⟨rfl, hR, hc⟩; refine ⟨_, rfl, ?_⟩; replace BK4 := bs_ hc BK4 (by have := S.out; omega); replace BK5 := bs_ hc BK5 (by have := S.out; omega); replace Mo := fs_ hc Mo (by have := S.out; omega); replace BK10 := bs_ hc BK10 (by have := S.out; omega); replace Mx := us_ hc Mx (by have := S.out; omega); replace BK11 := bs_ hc BK11 (by have := S.out; omega); replace My := us_ hc My (by have := S.out; omega); replace BK12 := bs_ hc BK12 (by have := S.out; omega); replace Mu := us_ hc Mu (by have := S.out; omega); replace Mg := us_ hc Mg (by have := S.out; omega); replace BK15 := bs_ hc BK15 (by have := S.out; omega); replace HB := hs_ hc HB (by have := S.out; omega); replace S := t_ hc S; clear Mt; have Mt := A_ hR; clear hR hc) | ((with_reducible refine gate_callee (f := 38) rfl ?_); (try (refine gate_guard (by rfl) ?_; dsimp only)); refine gL_ (some 97) Try.func38 #[.slice Au lv.length cu, .int .i64 k3] ?_; refine (marks4 k Au cu lv mv k3 k4 lou hiu w _ HB.out Mu.out Hm4.out Hl4.out).mono ?_; rintro e w' ⟨rfl, hR, hc⟩; refine ⟨_, rfl, ?_⟩; replace BK4 := bs_ hc BK4 (by have := S.out; omega); replace BK5 := bs_ hc BK5 (by have := S.out; omega); replace Mo := fs_ hc Mo (by have := S.out; omega); replace BK10 := bs_ hc BK10 (by have := S.out; omega); replace Mx := us_ hc Mx (by have := S.out; omega); replace BK11 := bs_ hc BK11 (by have := S.out; omega); replace My := us_ hc My (by have := S.out; omega); replace BK12 := bs_ hc BK12 (by have := S.out; omega); replace Mt := vs_ hc Mt (by have := S.out; omega); replace Mg := us_ hc Mg (by have := S.out; omega); replace BK15 := bs_ hc BK15 (by have := S.out; omega); replace HB := hs_ hc HB (by have := S.out; omega); replace S := t_ hc S; clear Mu; have Mu := A_ hR; clear hR hc) | ((with_reducible refine gate_ (.load 29 (.tmp 15)) rfl ?_); (try (refine gate_guard (by rfl) ?_; dsimp only)); refine ld_ 29 15 BK15.out Try.underlying29 ?_) | ((with_reducible refine gate_ (.load 29 (.tmp 10)) rfl ?_); (try (refine gate_guard (by rfl) ?_; dsimp only)); refine ld_ 29 10 BK10.out Try.underlying29 ?_) | ((with_reducible refine gate_callee (f := 16) rfl ?_); (try (refine gate_guard (by rfl) ?_; dsimp only)); refine gL_ (some 103) Try.func16 #[.agg #[.int .i64 p0, .int .i64 p1, .string p2, .slice Ag lp.length cg], .agg #[.int .i64 p0, .int .i64 p1, .string p2, .slice Ao lp.length co]] ?_; refine (eq4 k p0 p1 p2 Ag cg lp p0 p1 p2 Ao co lp true _ Mg.out.rd Mo.out.rd Hqp.out).mono ?_; rintro e w' ⟨rfl, hc⟩; refine ⟨_, rfl, ?_⟩; replace BK4 := bz_ hc BK4; replace BK5 := bz_ hc BK5; replace Mo := fz_ hc Mo; replace BK10 := bz_ hc BK10; replace Mx := uz_ hc Mx; replace BK11 := bz_ hc BK11; replace My := uz_ hc My; replace BK12 := bz_ hc BK12; replace Mt := vz_ hc Mt; replace Mu := uz_ hc Mu; replace Mg := uz_ hc Mg; replace BK15 := bz_ hc BK15; replace HB := hz_ hc HB; replace S := t_ hc S; clear hc) | ((with_reducible refine gate_callee (f := 36) rfl ?_); (try (refine gate_guard (by rfl) ?_; dsimp only)); refine gL_ (some 108) Try.func36 #[.agg #[.int .i64 p0, .int .i64 p1, .string p2, .slice Ag lp.length cg], .int .i64 1] ?_; refine (mark4 k p0 p1 p2 Ag cg lp mp 1 m log hig w _ HB.out Mg.out Hm5.out Hl5.out).mono ?_; rintro e w' ⟨rfl, hR, hc⟩; refine ⟨_, rfl, ?_⟩; replace BK4 := bs_ hc BK4 (by have := S.out; omega); replace BK5 := bs_ hc BK5 (by have := S.out; omega); replace Mo := fs_ hc Mo (by have := S.out; omega); replace BK10 := bs_ hc BK10 (by have := S.out; omega); replace Mx := us_ hc Mx (by have := S.out; omega); replace BK11 := bs_ hc BK11 (by have := S.out; omega); replace My := us_ hc My (by have := S.out; omega); replace BK12 := bs_ hc BK12 (by have := S.out; omega); replace Mt := vs_ hc Mt (by have := S.out; omega); replace Mu := us_ hc Mu (by have := S.out; omega); replace BK15 := bs_ hc BK15 (by have := S.out; omega); replace HB := hs_ hc HB (by have := S.out; omega); replace S := t_ hc S; clear Mg; have Mg := A_ hR; clear hR hc) | ((with_reducible refine gate_callee (f := 39) rfl ?_); (try (refine gate_guard (by rfl) ?_; dsimp only)); refine gL_ (some 111) Try.func39 #[.agg #[.int .i64 p0, .int .i64 p1, .string p2, .slice Ag lp.length cg], .int .i64 1] ?_; refine (held4 k p0 p1 p2 Ag cg lp.length mp Hl5.out 1 m _ Mg.out.rd Hh.out).mono ?_; rintro e w' ⟨rfl, hc⟩; refine ⟨_, rfl, ?_⟩; replace BK4 := bz_ hc BK4; replace BK5 := bz_ hc BK5; replace Mo := fz_ hc Mo; replace BK10 := bz_ hc BK10; replace Mx := uz_ hc Mx; replace BK11 := bz_ hc BK11; replace My := uz_ hc My; replace BK12 := bz_ hc BK12; replace Mt := vz_ hc Mt; replace Mu := uz_ hc Mu; replace Mg := uz_ hc Mg; replace BK15 := bz_ hc BK15; replace HB := hz_ hc HB; replace S := t_ hc S; clear hc))
  clear Mx
  clear My
  clear Mt
  clear Mu
  have hc := Ch.drew w'
  replace BK4 := bz_ hc BK4
  replace BK5 := bz_ hc BK5
  replace Mo := fz_ hc Mo
  replace BK10 := bz_ hc BK10
  replace BK11 := bz_ hc BK11
  replace BK12 := bz_ hc BK12
  replace Mg := uz_ hc Mg
  replace BK15 := bz_ hc BK15
  replace HB := hz_ hc HB
  replace S := t_ hc S
  clear hc
  refine start_ (n := 11) (S := fun w' => w'.heap[g4]? = some (.cells #[.int .i64 a0, .int .i64 a1, .string a2, .slice Aa la.length ca] 24 (0, 0)) ∧ w'.heap[g5]? = some (.cells #[.int .i64 b0, .int .i64 b1, .string b2, .slice Ab lb.length cb] 24 (0, 0))) (ds := []) #[false, false, false, false, false, false, false, false, false, false, false] (by kernel_rfl) rfl rfl ⟨BK4.out, BK5.out⟩ (fun hHeld => ?_)
  generalize w'.drew = w' at BK4 BK5 Mo BK10 BK11 BK12 Mg BK15 HB S hHeld ⊢
  refine pure_ (i := 4) (N := some 121) (v := ?_) (a' := ?_) #[false, false, false, false, true, false, false, false, false, false, false] rfl rfl (by kernel_rfl) (fun _ _ _ h => h) (Or.inl ⟨by rfl, ?_⟩) ?_ ?_
  rotate_left
  · intro w'
    go_simp
    with_reducible rfl
  rotate_left
  · simp only [Act.put, List.setIfInBounds_toArray, List.set_cons_zero, List.set_cons_succ, i64_w, i32_w]
    rfl
  refine pure_ (i := 6) (N := some 123) (v := ?_) (a' := ?_) #[false, false, false, false, true, false, true, false, false, false, false] rfl rfl (by kernel_rfl) (fun _ _ _ h => h) (Or.inl ⟨by rfl, ?_⟩) ?_ ?_
  rotate_left
  · intro w'
    go_simp
    with_reducible rfl
  rotate_left
  · simp only [Act.put, List.setIfInBounds_toArray, List.set_cons_zero, List.set_cons_succ, i64_w, i32_w]
    rfl
  refine take_ (i := 0) (N := some 117) (v := .agg #[.int .i64 a0, .int .i64 a1, .string a2, .slice Aa la.length ca]) (a' := ?_) #[true, false, false, false, true, false, true, false, false, false, false] rfl rfl (by kernel_rfl) (fun _ _ _ h => h) (Or.inl ⟨by rfl, ?_⟩) hHeld ?_ ?_
  · rintro w' ⟨s0, s1⟩
    exact load_yields 24 (.tmp 4) (by rfl) g4 (by rfl) 24 _ _ s0 Try.underlying24 rfl (by kernel_rfl)
  rotate_left
  · simp only [Act.put, List.setIfInBounds_toArray, List.set_cons_zero, List.set_cons_succ, i64_w, i32_w]
    rfl
  refine take_ (i := 2) (N := some 119) (v := .agg #[.int .i64 b0, .int .i64 b1, .string b2, .slice Ab lb.length cb]) (a' := ?_) #[true, false, true, false, true, false, true, false, false, false, false] rfl rfl (by kernel_rfl) (fun _ _ _ h => h) (Or.inl ⟨by rfl, ?_⟩) hHeld ?_ ?_
  · rintro w' ⟨s0, s1⟩
    exact load_yields 24 (.tmp 5) (by rfl) g5 (by rfl) 24 _ _ s1 Try.underlying24 rfl (by kernel_rfl)
  rotate_left
  · simp only [Act.put, List.setIfInBounds_toArray, List.set_cons_zero, List.set_cons_succ, i64_w, i32_w]
    rfl
  refine join_ (σ := Option Addr × Nat × Option Addr × Nat × Option Addr × Nat × Option Addr × Nat × Option Addr × Nat × Nat × Nat × Nat × Nat) 1 #[true, true, true, true, true, true, true, true, true, true, false] (fun s_ => [(118, .agg #[.int .i64 e0, .int .i64 e1, .string e2, .slice s_.1 le.length s_.2.1]), (120, .agg #[.int .i64 z0, .int .i64 z1, .string z2, .slice s_.2.2.1 lz.length s_.2.2.2.1]), (122, .slice s_.2.2.2.2.1 ln.length s_.2.2.2.2.2.1), (124, .slice s_.2.2.2.2.2.2.1 lv.length s_.2.2.2.2.2.2.2.1), (125, .agg #[.int .i64 p0, .int .i64 p1, .string p2, .slice s_.2.2.2.2.2.2.2.2.1 lp.length s_.2.2.2.2.2.2.2.2.2.1]), (19, .pointer (some ⟨s_.2.2.2.2.2.2.2.2.2.2.2.2.1, 0, none⟩))]) (fun s_ w' => (w'.heap[g4]? = some (.cells #[.int .i64 a0, .int .i64 a1, .string a2, .slice Aa la.length ca] 24 (0, 0)) ∧ w'.heap[g5]? = some (.cells #[.int .i64 b0, .int .i64 b1, .string b2, .slice Ab lb.length cb] 24 (0, 0))) ∧ (w'.heap[g4]? = some (.cells #[.int .i64 a0, .int .i64 a1, .string a2, .slice Aa la.length ca] 24 (0, 0))) ∧ (w'.heap[g5]? = some (.cells #[.int .i64 b0, .int .i64 b1, .string b2, .slice Ab lb.length cb] 24 (0, 0))) ∧ (FR w' loo hio Ao co lp) ∧ (w'.heap[g10]? = some (.cells #[.int .i64 p0, .int .i64 p1, .string p2, .slice Ao lp.length co] 29 (0, 0))) ∧ (w'.heap[g11]? = some (.cells #[.int .i64 e0, .int .i64 e1, .string e2, .slice Ax le.length cx] 29 (0, 0))) ∧ (w'.heap[g12]? = some (.cells #[.int .i64 z0, .int .i64 z1, .string z2, .slice Ay lz.length cy] 29 (0, 0))) ∧ (TR w.heap.size w' log hig Ag cg mp) ∧ (w'.heap[g15]? = some (.cells #[.int .i64 p0, .int .i64 p1, .string p2, .slice Ag lp.length cg] 29 (0, 0))) ∧ (TR w.heap.size w' s_.2.2.2.2.2.2.2.2.2.2.1 s_.2.2.2.2.2.2.2.2.2.2.2.1 s_.2.2.2.2.2.2.2.2.1 s_.2.2.2.2.2.2.2.2.2.1 lp) ∧ (w'.heap[s_.2.2.2.2.2.2.2.2.2.2.2.2.1]? = some (.cells #[.int .i64 0, .int .i64 0, .string (⟨#[]⟩ : ByteArray), .slice none 0 0] 29 (0, 0))) ∧ (Below w.heap.size w w') ∧ (hij ≤ s_.2.2.2.2.2.2.2.2.2.2.2.2.1) ∧ (hij ≤ s_.2.2.2.2.2.2.2.2.2.2.1) ∧ (s_.2.2.2.2.2.2.2.2.2.2.1 ≤ s_.2.2.2.2.2.2.2.2.2.2.2.1) ∧ (s_.2.2.2.2.2.2.2.2.2.2.2.2.1 + 1 ≤ s_.2.2.2.2.2.2.2.2.2.2.1 ∨ s_.2.2.2.2.2.2.2.2.2.2.2.1 ≤ s_.2.2.2.2.2.2.2.2.2.2.2.2.1) ∧ (s_.2.2.2.2.2.2.2.2.2.2.2.1 ≤ s_.2.2.2.2.2.2.2.2.2.2.2.2.2) ∧ (s_.2.2.2.2.2.2.2.2.2.2.2.2.1 + 1 ≤ s_.2.2.2.2.2.2.2.2.2.2.2.2.2) ∧ (s_.2.2.2.2.2.2.2.2.2.2.2.2.2 ≤ w'.heap.size)) ?_ ?_
  rotate_left
  · intro hCont
    refine two_ (i := 1) (j := 9) (Ni := some 118) (Nj := some 19) #[true, true, true, false, true, false, true, false, false, false, false] #[true, false, true, false, true, false, true, false, false, true, false] rfl rfl rfl rfl (by kernel_rfl) (by decide) (by decide) (fun K hK => ?_) (fun K hK => ?_)
    · skip
      refine goes_ Try.func14 (by kernel_rfl) rfl #[.agg #[.int .i64 a0, .int .i64 a1, .string a2, .slice Aa la.length ca]] (by rfl) rfl rfl dA_ ?_
      refine (te4 k a0 a1 a2 Aa ca la e0 e1 e2 le w _ HB.out Hra.out Hca.out Hte.out).mono ?_
      rintro e w' ⟨Ae, ce, loe, hie, rfl, h1, h2, h3, hR, hc⟩
      refine ⟨_, rfl, ?_⟩
      have F141 : hij ≤ loe := (Nat.le_trans S.out h1)
      have F142 : loe ≤ hie := h2
      replace BK4 := bz_ hc BK4
      replace BK5 := bz_ hc BK5
      replace Mo := fz_ hc Mo
      replace BK10 := bz_ hc BK10
      replace BK11 := bz_ hc BK11
      replace BK12 := bz_ hc BK12
      replace Mg := uz_ hc Mg
      replace BK15 := bz_ hc BK15
      replace HB := hz_ hc HB
      replace S := t_ hc S
      clear S
      have S := A_ h3
      have Me := A_ hR
      clear h1 h2 h3 hR hc
      refine hK.out _ _ ⟨BK4.out, BK5.out⟩ (fun hHeld => ?_)
      clear hK K
      refine norm_ (a' := ?_) ?_ ?_
      rotate_left
      · show Act.put _ (some 118) _ = _
        simp only [Act.put, List.setIfInBounds_toArray, List.set_cons_zero, List.set_cons_succ, i64_w, i32_w]
        rfl
      refine two_ (i := 3) (j := 9) (Ni := some 120) (Nj := some 19) #[true, true, true, true, true, false, true, false, false, false, false] #[true, true, true, false, true, false, true, false, false, true, false] rfl rfl rfl rfl (by kernel_rfl) (by decide) (by decide) (fun K hK => ?_) (fun K hK => ?_)
      · skip
        refine goes_ Try.func14 (by kernel_rfl) rfl #[.agg #[.int .i64 b0, .int .i64 b1, .string b2, .slice Ab lb.length cb]] (by rfl) rfl rfl dA_ ?_
        refine (te4 k b0 b1 b2 Ab cb lb z0 z1 z2 lz w _ HB.out Hrb.out Hcb.out Htz.out).mono ?_
        rintro e w' ⟨Az, cz, loz, hiz, rfl, h1, h2, h3, hR, hc⟩
        refine ⟨_, rfl, ?_⟩
        have F143 : hie ≤ loz := (Nat.le_trans S.out h1)
        have F144 : loz ≤ hiz := h2
        replace BK4 := bz_ hc BK4
        replace BK5 := bz_ hc BK5
        replace Mo := fz_ hc Mo
        replace BK10 := bz_ hc BK10
        replace BK11 := bz_ hc BK11
        replace BK12 := bz_ hc BK12
        replace Mg := uz_ hc Mg
        replace BK15 := bz_ hc BK15
        replace Me := uz_ hc Me
        replace HB := hz_ hc HB
        replace S := t_ hc S
        clear S
        have S := A_ h3
        have Mz := A_ hR
        clear h1 h2 h3 hR hc
        refine hK.out _ _ ⟨BK4.out, BK5.out⟩ (fun hHeld => ?_)
        clear hK K
        refine norm_ (a' := ?_) ?_ ?_
        rotate_left
        · show Act.put _ (some 120) _ = _
          simp only [Act.put, List.setIfInBounds_toArray, List.set_cons_zero, List.set_cons_succ, i64_w, i32_w]
          rfl
        refine two_ (i := 5) (j := 9) (Ni := some 122) (Nj := some 19) #[true, true, true, true, true, true, true, false, false, false, false] #[true, true, true, true, true, false, true, false, false, true, false] rfl rfl rfl rfl (by kernel_rfl) (by decide) (by decide) (fun K hK => ?_) (fun K hK => ?_)
        · skip
          refine goes_ Try.func27 (by kernel_rfl) rfl #[.slice An ln.length cn] (by rfl) rfl rfl dA_ ?_
          refine (tt4 k An cn ln ln w _ HB.out Hrn.out Hcn.out Htn.out).mono ?_
          rintro e w' ⟨As, cs, los, his, rfl, h1, h2, h3, hR, hc⟩
          refine ⟨_, rfl, ?_⟩
          have F145 : hiz ≤ los := (Nat.le_trans S.out h1)
          have F146 : los ≤ his := h2
          replace BK4 := bz_ hc BK4
          replace BK5 := bz_ hc BK5
          replace Mo := fz_ hc Mo
          replace BK10 := bz_ hc BK10
          replace BK11 := bz_ hc BK11
          replace BK12 := bz_ hc BK12
          replace Mg := uz_ hc Mg
          replace BK15 := bz_ hc BK15
          replace Me := uz_ hc Me
          replace Mz := uz_ hc Mz
          replace HB := hz_ hc HB
          replace S := t_ hc S
          clear S
          have S := A_ h3
          have Ms := A_ hR
          clear h1 h2 h3 hR hc
          refine hK.out _ _ ⟨BK4.out, BK5.out⟩ (fun hHeld => ?_)
          clear hK K
          refine norm_ (a' := ?_) ?_ ?_
          rotate_left
          · show Act.put _ (some 122) _ = _
            simp only [Act.put, List.setIfInBounds_toArray, List.set_cons_zero, List.set_cons_succ, i64_w, i32_w]
            rfl
          refine two_ (i := 7) (j := 9) (Ni := some 124) (Nj := some 19) #[true, true, true, true, true, true, true, true, false, false, false] #[true, true, true, true, true, true, true, false, false, true, false] rfl rfl rfl rfl (by kernel_rfl) (by decide) (by decide) (fun K hK => ?_) (fun K hK => ?_)
          · skip
            refine goes_ Try.func33 (by kernel_rfl) rfl #[.slice Aw lw.length cw] (by rfl) rfl rfl dA_ ?_
            refine (ts4 k Aw cw lw lv w _ HB.out Hrw.out Hcw.out Htv.out).mono ?_
            rintro e w' ⟨Av, cv, lov, hiv, rfl, h1, h2, h3, hR, hc⟩
            refine ⟨_, rfl, ?_⟩
            have F147 : his ≤ lov := (Nat.le_trans S.out h1)
            have F148 : lov ≤ hiv := h2
            replace BK4 := bz_ hc BK4
            replace BK5 := bz_ hc BK5
            replace Mo := fz_ hc Mo
            replace BK10 := bz_ hc BK10
            replace BK11 := bz_ hc BK11
            replace BK12 := bz_ hc BK12
            replace Mg := uz_ hc Mg
            replace BK15 := bz_ hc BK15
            replace Me := uz_ hc Me
            replace Mz := uz_ hc Mz
            replace Ms := vz_ hc Ms
            replace HB := hz_ hc HB
            replace S := t_ hc S
            clear S
            have S := A_ h3
            have Mv := A_ hR
            clear h1 h2 h3 hR hc
            refine hK.out _ _ ⟨BK4.out, BK5.out⟩ (fun hHeld => ?_)
            clear hK K
            refine norm_ (a' := ?_) ?_ ?_
            rotate_left
            · show Act.put _ (some 124) _ = _
              simp only [Act.put, List.setIfInBounds_toArray, List.set_cons_zero, List.set_cons_succ, i64_w, i32_w]
              rfl
            refine two_ (i := 8) (j := 9) (Ni := some 125) (Nj := some 19) #[true, true, true, true, true, true, true, true, true, false, false] #[true, true, true, true, true, true, true, true, false, true, false] rfl rfl rfl rfl (by kernel_rfl) (by decide) (by decide) (fun K hK => ?_) (fun K hK => ?_)
            · skip
              refine goes_ Try.func34 (by kernel_rfl) rfl #[.agg #[.int .i64 e0, .int .i64 e1, .string e2, .slice Ae le.length ce], .agg #[.int .i64 z0, .int .i64 z1, .string z2, .slice Az lz.length cz], .slice As ln.length cs, .slice Av lv.length cv] (by rfl) rfl rfl dA_ ?_
              refine (ip4 k e0 e1 e2 Ae ce le z0 z1 z2 Az cz lz As cs ln Av cv lv p0 p1 p2 lp w _ HB.out Me.out.rd Mz.out.rd Ms.out.rd Mv.out.rd Hip.out).mono ?_
              rintro e w' ⟨Ar, cr, lor, hir, rfl, h1, h2, h3, hR, hc⟩
              refine ⟨_, rfl, ?_⟩
              have F149 : hiv ≤ lor := (Nat.le_trans S.out h1)
              have F150 : lor ≤ hir := h2
              clear Me
              clear Mz
              clear Ms
              clear Mv
              replace BK4 := bz_ hc BK4
              replace BK5 := bz_ hc BK5
              replace Mo := fz_ hc Mo
              replace BK10 := bz_ hc BK10
              replace BK11 := bz_ hc BK11
              replace BK12 := bz_ hc BK12
              replace Mg := uz_ hc Mg
              replace BK15 := bz_ hc BK15
              replace HB := hz_ hc HB
              replace S := t_ hc S
              clear S
              have S := A_ h3
              have Mr := A_ hR
              clear h1 h2 h3 hR hc
              refine hK.out _ _ ⟨BK4.out, BK5.out⟩ (fun hHeld => ?_)
              clear hK K
              refine norm_ (a' := ?_) ?_ ?_
              rotate_left
              · show Act.put _ (some 125) _ = _
                simp only [Act.put, List.setIfInBounds_toArray, List.set_cons_zero, List.set_cons_succ, i64_w, i32_w]
                rfl
              refine one_ (i := 9) (N := some 19) #[true, true, true, true, true, true, true, true, true, true, false] rfl rfl (by kernel_rfl) (by decide) (fun K hK => ?_)
              refine box_step ?hg (N := 19) ?hd (cs := #[.int .i64 0, .int .i64 0, .string (⟨#[]⟩ : ByteArray), .slice none 0 0]) (t := 29) ?hr ?_; (case hd => rfl); (case hg => rfl); (case hr => first | (go_simp; done) | (go_simp; rfl))
              intro g19 hg w' hbox hb
              have hc := co_ hb
              have F151 : hir ≤ g19 := (by have := S.out; omega)
              clear hg
              replace BK4 := bz_ hc BK4
              replace BK5 := bz_ hc BK5
              replace Mo := fz_ hc Mo
              replace BK10 := bz_ hc BK10
              replace BK11 := bz_ hc BK11
              replace BK12 := bz_ hc BK12
              replace Mg := uz_ hc Mg
              replace BK15 := bz_ hc BK15
              replace Mr := uz_ hc Mr
              replace HB := hz_ hc HB
              replace S := t_ hc S
              clear S
              have S : Aside0 (g19 + 1 ≤ w'.heap.size) := A_ (blk_lt hbox)
              have BK19 := A_ hbox
              clear hbox hb hc
              refine hK.out _ _ ⟨BK4.out, BK5.out⟩ (fun hHeld => ?_)
              clear hK K
              refine norm_ (a' := ?_) ?_ ?_
              rotate_left
              · show Act.put _ (some 19) _ = _
                simp only [Act.put, List.setIfInBounds_toArray, List.set_cons_zero, List.set_cons_succ, i64_w, i32_w]
                rfl
              exact norm_ (by simp only [putAll, Act.put, List.setIfInBounds_toArray, List.set_cons_zero, List.set_cons_succ]) (hCont (Ae, ce, Az, cz, As, cs, Av, cv, Ar, cr, lor, hir, g19, w'.heap.size) _ ⟨hHeld, BK4.out, BK5.out, Mo.out, BK10.out, BK11.out, BK12.out, Mg.out, BK15.out, Mr.out, BK19.out, HB.out, (by (try dsimp only); have := S.out; omega), (by (try dsimp only); have := S.out; omega), (by (try dsimp only); have := S.out; omega), (by (try dsimp only); have := S.out; omega), (by (try dsimp only); have := S.out; omega), (by (try dsimp only); have := S.out; omega), (by (try dsimp only); have := S.out; omega)⟩)
            · refine box_step ?hg (N := 19) ?hd (cs := #[.int .i64 0, .int .i64 0, .string (⟨#[]⟩ : ByteArray), .slice none 0 0]) (t := 29) ?hr ?_; (case hd => rfl); (case hg => rfl); (case hr => first | (go_simp; done) | (go_simp; rfl))
              intro g19 hg w' hbox hb
              have hc := co_ hb
              have F149 : hiv ≤ g19 := (by have := S.out; omega)
              clear hg
              replace BK4 := bz_ hc BK4
              replace BK5 := bz_ hc BK5
              replace Mo := fz_ hc Mo
              replace BK10 := bz_ hc BK10
              replace BK11 := bz_ hc BK11
              replace BK12 := bz_ hc BK12
              replace Mg := uz_ hc Mg
              replace BK15 := bz_ hc BK15
              replace Me := uz_ hc Me
              replace Mz := uz_ hc Mz
              replace Ms := vz_ hc Ms
              replace Mv := uz_ hc Mv
              replace HB := hz_ hc HB
              replace S := t_ hc S
              clear S
              have S : Aside0 (g19 + 1 ≤ w'.heap.size) := A_ (blk_lt hbox)
              have BK19 := A_ hbox
              clear hbox hb hc
              refine hK.out _ _ ⟨BK4.out, BK5.out⟩ (fun hHeld => ?_)
              clear hK K
              refine norm_ (a' := ?_) ?_ ?_
              rotate_left
              · show Act.put _ (some 19) _ = _
                simp only [Act.put, List.setIfInBounds_toArray, List.set_cons_zero, List.set_cons_succ, i64_w, i32_w]
                rfl
              refine one_ (i := 8) (N := some 125) #[true, true, true, true, true, true, true, true, true, true, false] rfl rfl (by kernel_rfl) (by decide) (fun K hK => ?_)
              refine goes_ Try.func34 (by kernel_rfl) rfl #[.agg #[.int .i64 e0, .int .i64 e1, .string e2, .slice Ae le.length ce], .agg #[.int .i64 z0, .int .i64 z1, .string z2, .slice Az lz.length cz], .slice As ln.length cs, .slice Av lv.length cv] (by rfl) rfl rfl dA_ ?_
              refine (ip4 k e0 e1 e2 Ae ce le z0 z1 z2 Az cz lz As cs ln Av cv lv p0 p1 p2 lp w _ HB.out Me.out.rd Mz.out.rd Ms.out.rd Mv.out.rd Hip.out).mono ?_
              rintro e w' ⟨Ar, cr, lor, hir, rfl, h1, h2, h3, hR, hc⟩
              refine ⟨_, rfl, ?_⟩
              have F150 : g19 + 1 ≤ lor := (Nat.le_trans S.out h1)
              have F151 : lor ≤ hir := h2
              clear Me
              clear Mz
              clear Ms
              clear Mv
              replace BK4 := bz_ hc BK4
              replace BK5 := bz_ hc BK5
              replace Mo := fz_ hc Mo
              replace BK10 := bz_ hc BK10
              replace BK11 := bz_ hc BK11
              replace BK12 := bz_ hc BK12
              replace Mg := uz_ hc Mg
              replace BK15 := bz_ hc BK15
              replace BK19 := bz_ hc BK19
              replace HB := hz_ hc HB
              replace S := t_ hc S
              clear S
              have S := A_ h3
              have Mr := A_ hR
              clear h1 h2 h3 hR hc
              refine hK.out _ _ ⟨BK4.out, BK5.out⟩ (fun hHeld => ?_)
              clear hK K
              refine norm_ (a' := ?_) ?_ ?_
              rotate_left
              · show Act.put _ (some 125) _ = _
                simp only [Act.put, List.setIfInBounds_toArray, List.set_cons_zero, List.set_cons_succ, i64_w, i32_w]
                rfl
              exact norm_ (by simp only [putAll, Act.put, List.setIfInBounds_toArray, List.set_cons_zero, List.set_cons_succ]) (hCont (Ae, ce, Az, cz, As, cs, Av, cv, Ar, cr, lor, hir, g19, w'.heap.size) _ ⟨hHeld, BK4.out, BK5.out, Mo.out, BK10.out, BK11.out, BK12.out, Mg.out, BK15.out, Mr.out, BK19.out, HB.out, (by (try dsimp only); have := S.out; omega), (by (try dsimp only); have := S.out; omega), (by (try dsimp only); have := S.out; omega), (by (try dsimp only); have := S.out; omega), (by (try dsimp only); have := S.out; omega), (by (try dsimp only); have := S.out; omega), (by (try dsimp only); have := S.out; omega)⟩)
          · refine box_step ?hg (N := 19) ?hd (cs := #[.int .i64 0, .int .i64 0, .string (⟨#[]⟩ : ByteArray), .slice none 0 0]) (t := 29) ?hr ?_; (case hd => rfl); (case hg => rfl); (case hr => first | (go_simp; done) | (go_simp; rfl))
            intro g19 hg w' hbox hb
            have hc := co_ hb
            have F147 : his ≤ g19 := (by have := S.out; omega)
            clear hg
            replace BK4 := bz_ hc BK4
            replace BK5 := bz_ hc BK5
            replace Mo := fz_ hc Mo
            replace BK10 := bz_ hc BK10
            replace BK11 := bz_ hc BK11
            replace BK12 := bz_ hc BK12
            replace Mg := uz_ hc Mg
            replace BK15 := bz_ hc BK15
            replace Me := uz_ hc Me
            replace Mz := uz_ hc Mz
            replace Ms := vz_ hc Ms
            replace HB := hz_ hc HB
            replace S := t_ hc S
            clear S
            have S : Aside0 (g19 + 1 ≤ w'.heap.size) := A_ (blk_lt hbox)
            have BK19 := A_ hbox
            clear hbox hb hc
            refine hK.out _ _ ⟨BK4.out, BK5.out⟩ (fun hHeld => ?_)
            clear hK K
            refine norm_ (a' := ?_) ?_ ?_
            rotate_left
            · show Act.put _ (some 19) _ = _
              simp only [Act.put, List.setIfInBounds_toArray, List.set_cons_zero, List.set_cons_succ, i64_w, i32_w]
              rfl
            refine one_ (i := 7) (N := some 124) #[true, true, true, true, true, true, true, true, false, true, false] rfl rfl (by kernel_rfl) (by decide) (fun K hK => ?_)
            refine goes_ Try.func33 (by kernel_rfl) rfl #[.slice Aw lw.length cw] (by rfl) rfl rfl dA_ ?_
            refine (ts4 k Aw cw lw lv w _ HB.out Hrw.out Hcw.out Htv.out).mono ?_
            rintro e w' ⟨Av, cv, lov, hiv, rfl, h1, h2, h3, hR, hc⟩
            refine ⟨_, rfl, ?_⟩
            have F148 : g19 + 1 ≤ lov := (Nat.le_trans S.out h1)
            have F149 : lov ≤ hiv := h2
            replace BK4 := bz_ hc BK4
            replace BK5 := bz_ hc BK5
            replace Mo := fz_ hc Mo
            replace BK10 := bz_ hc BK10
            replace BK11 := bz_ hc BK11
            replace BK12 := bz_ hc BK12
            replace Mg := uz_ hc Mg
            replace BK15 := bz_ hc BK15
            replace Me := uz_ hc Me
            replace Mz := uz_ hc Mz
            replace Ms := vz_ hc Ms
            replace BK19 := bz_ hc BK19
            replace HB := hz_ hc HB
            replace S := t_ hc S
            clear S
            have S := A_ h3
            have Mv := A_ hR
            clear h1 h2 h3 hR hc
            refine hK.out _ _ ⟨BK4.out, BK5.out⟩ (fun hHeld => ?_)
            clear hK K
            refine norm_ (a' := ?_) ?_ ?_
            rotate_left
            · show Act.put _ (some 124) _ = _
              simp only [Act.put, List.setIfInBounds_toArray, List.set_cons_zero, List.set_cons_succ, i64_w, i32_w]
              rfl
            refine one_ (i := 8) (N := some 125) #[true, true, true, true, true, true, true, true, true, true, false] rfl rfl (by kernel_rfl) (by decide) (fun K hK => ?_)
            refine goes_ Try.func34 (by kernel_rfl) rfl #[.agg #[.int .i64 e0, .int .i64 e1, .string e2, .slice Ae le.length ce], .agg #[.int .i64 z0, .int .i64 z1, .string z2, .slice Az lz.length cz], .slice As ln.length cs, .slice Av lv.length cv] (by rfl) rfl rfl dA_ ?_
            refine (ip4 k e0 e1 e2 Ae ce le z0 z1 z2 Az cz lz As cs ln Av cv lv p0 p1 p2 lp w _ HB.out Me.out.rd Mz.out.rd Ms.out.rd Mv.out.rd Hip.out).mono ?_
            rintro e w' ⟨Ar, cr, lor, hir, rfl, h1, h2, h3, hR, hc⟩
            refine ⟨_, rfl, ?_⟩
            have F150 : hiv ≤ lor := (Nat.le_trans S.out h1)
            have F151 : lor ≤ hir := h2
            clear Me
            clear Mz
            clear Ms
            clear Mv
            replace BK4 := bz_ hc BK4
            replace BK5 := bz_ hc BK5
            replace Mo := fz_ hc Mo
            replace BK10 := bz_ hc BK10
            replace BK11 := bz_ hc BK11
            replace BK12 := bz_ hc BK12
            replace Mg := uz_ hc Mg
            replace BK15 := bz_ hc BK15
            replace BK19 := bz_ hc BK19
            replace HB := hz_ hc HB
            replace S := t_ hc S
            clear S
            have S := A_ h3
            have Mr := A_ hR
            clear h1 h2 h3 hR hc
            refine hK.out _ _ ⟨BK4.out, BK5.out⟩ (fun hHeld => ?_)
            clear hK K
            refine norm_ (a' := ?_) ?_ ?_
            rotate_left
            · show Act.put _ (some 125) _ = _
              simp only [Act.put, List.setIfInBounds_toArray, List.set_cons_zero, List.set_cons_succ, i64_w, i32_w]
              rfl
            exact norm_ (by simp only [putAll, Act.put, List.setIfInBounds_toArray, List.set_cons_zero, List.set_cons_succ]) (hCont (Ae, ce, Az, cz, As, cs, Av, cv, Ar, cr, lor, hir, g19, w'.heap.size) _ ⟨hHeld, BK4.out, BK5.out, Mo.out, BK10.out, BK11.out, BK12.out, Mg.out, BK15.out, Mr.out, BK19.out, HB.out, (by (try dsimp only); have := S.out; omega), (by (try dsimp only); have := S.out; omega), (by (try dsimp only); have := S.out; omega), (by (try dsimp only); have := S.out; omega), (by (try dsimp only); have := S.out; omega), (by (try dsimp only); have := S.out; omega), (by (try dsimp only); have := S.out; omega)⟩)
        · refine box_step ?hg (N := 19) ?hd (cs := #[.int .i64 0, .int .i64 0, .string (⟨#[]⟩ : ByteArray), .slice none 0 0]) (t := 29) ?hr ?_; (case hd => rfl); (case hg => rfl); (case hr => first | (go_simp; done) | (go_simp; rfl))
          intro g19 hg w' hbox hb
          have hc := co_ hb
          have F145 : hiz ≤ g19 := (by have := S.out; omega)
          clear hg
          replace BK4 := bz_ hc BK4
          replace BK5 := bz_ hc BK5
          replace Mo := fz_ hc Mo
          replace BK10 := bz_ hc BK10
          replace BK11 := bz_ hc BK11
          replace BK12 := bz_ hc BK12
          replace Mg := uz_ hc Mg
          replace BK15 := bz_ hc BK15
          replace Me := uz_ hc Me
          replace Mz := uz_ hc Mz
          replace HB := hz_ hc HB
          replace S := t_ hc S
          clear S
          have S : Aside0 (g19 + 1 ≤ w'.heap.size) := A_ (blk_lt hbox)
          have BK19 := A_ hbox
          clear hbox hb hc
          refine hK.out _ _ ⟨BK4.out, BK5.out⟩ (fun hHeld => ?_)
          clear hK K
          refine norm_ (a' := ?_) ?_ ?_
          rotate_left
          · show Act.put _ (some 19) _ = _
            simp only [Act.put, List.setIfInBounds_toArray, List.set_cons_zero, List.set_cons_succ, i64_w, i32_w]
            rfl
          refine one_ (i := 5) (N := some 122) #[true, true, true, true, true, true, true, false, false, true, false] rfl rfl (by kernel_rfl) (by decide) (fun K hK => ?_)
          refine goes_ Try.func27 (by kernel_rfl) rfl #[.slice An ln.length cn] (by rfl) rfl rfl dA_ ?_
          refine (tt4 k An cn ln ln w _ HB.out Hrn.out Hcn.out Htn.out).mono ?_
          rintro e w' ⟨As, cs, los, his, rfl, h1, h2, h3, hR, hc⟩
          refine ⟨_, rfl, ?_⟩
          have F146 : g19 + 1 ≤ los := (Nat.le_trans S.out h1)
          have F147 : los ≤ his := h2
          replace BK4 := bz_ hc BK4
          replace BK5 := bz_ hc BK5
          replace Mo := fz_ hc Mo
          replace BK10 := bz_ hc BK10
          replace BK11 := bz_ hc BK11
          replace BK12 := bz_ hc BK12
          replace Mg := uz_ hc Mg
          replace BK15 := bz_ hc BK15
          replace Me := uz_ hc Me
          replace Mz := uz_ hc Mz
          replace BK19 := bz_ hc BK19
          replace HB := hz_ hc HB
          replace S := t_ hc S
          clear S
          have S := A_ h3
          have Ms := A_ hR
          clear h1 h2 h3 hR hc
          refine hK.out _ _ ⟨BK4.out, BK5.out⟩ (fun hHeld => ?_)
          clear hK K
          refine norm_ (a' := ?_) ?_ ?_
          rotate_left
          · show Act.put _ (some 122) _ = _
            simp only [Act.put, List.setIfInBounds_toArray, List.set_cons_zero, List.set_cons_succ, i64_w, i32_w]
            rfl
          refine one_ (i := 7) (N := some 124) #[true, true, true, true, true, true, true, true, false, true, false] rfl rfl (by kernel_rfl) (by decide) (fun K hK => ?_)
          refine goes_ Try.func33 (by kernel_rfl) rfl #[.slice Aw lw.length cw] (by rfl) rfl rfl dA_ ?_
          refine (ts4 k Aw cw lw lv w _ HB.out Hrw.out Hcw.out Htv.out).mono ?_
          rintro e w' ⟨Av, cv, lov, hiv, rfl, h1, h2, h3, hR, hc⟩
          refine ⟨_, rfl, ?_⟩
          have F148 : his ≤ lov := (Nat.le_trans S.out h1)
          have F149 : lov ≤ hiv := h2
          replace BK4 := bz_ hc BK4
          replace BK5 := bz_ hc BK5
          replace Mo := fz_ hc Mo
          replace BK10 := bz_ hc BK10
          replace BK11 := bz_ hc BK11
          replace BK12 := bz_ hc BK12
          replace Mg := uz_ hc Mg
          replace BK15 := bz_ hc BK15
          replace Me := uz_ hc Me
          replace Mz := uz_ hc Mz
          replace BK19 := bz_ hc BK19
          replace Ms := vz_ hc Ms
          replace HB := hz_ hc HB
          replace S := t_ hc S
          clear S
          have S := A_ h3
          have Mv := A_ hR
          clear h1 h2 h3 hR hc
          refine hK.out _ _ ⟨BK4.out, BK5.out⟩ (fun hHeld => ?_)
          clear hK K
          refine norm_ (a' := ?_) ?_ ?_
          rotate_left
          · show Act.put _ (some 124) _ = _
            simp only [Act.put, List.setIfInBounds_toArray, List.set_cons_zero, List.set_cons_succ, i64_w, i32_w]
            rfl
          refine one_ (i := 8) (N := some 125) #[true, true, true, true, true, true, true, true, true, true, false] rfl rfl (by kernel_rfl) (by decide) (fun K hK => ?_)
          refine goes_ Try.func34 (by kernel_rfl) rfl #[.agg #[.int .i64 e0, .int .i64 e1, .string e2, .slice Ae le.length ce], .agg #[.int .i64 z0, .int .i64 z1, .string z2, .slice Az lz.length cz], .slice As ln.length cs, .slice Av lv.length cv] (by rfl) rfl rfl dA_ ?_
          refine (ip4 k e0 e1 e2 Ae ce le z0 z1 z2 Az cz lz As cs ln Av cv lv p0 p1 p2 lp w _ HB.out Me.out.rd Mz.out.rd Ms.out.rd Mv.out.rd Hip.out).mono ?_
          rintro e w' ⟨Ar, cr, lor, hir, rfl, h1, h2, h3, hR, hc⟩
          refine ⟨_, rfl, ?_⟩
          have F150 : hiv ≤ lor := (Nat.le_trans S.out h1)
          have F151 : lor ≤ hir := h2
          clear Me
          clear Mz
          clear Ms
          clear Mv
          replace BK4 := bz_ hc BK4
          replace BK5 := bz_ hc BK5
          replace Mo := fz_ hc Mo
          replace BK10 := bz_ hc BK10
          replace BK11 := bz_ hc BK11
          replace BK12 := bz_ hc BK12
          replace Mg := uz_ hc Mg
          replace BK15 := bz_ hc BK15
          replace BK19 := bz_ hc BK19
          replace HB := hz_ hc HB
          replace S := t_ hc S
          clear S
          have S := A_ h3
          have Mr := A_ hR
          clear h1 h2 h3 hR hc
          refine hK.out _ _ ⟨BK4.out, BK5.out⟩ (fun hHeld => ?_)
          clear hK K
          refine norm_ (a' := ?_) ?_ ?_
          rotate_left
          · show Act.put _ (some 125) _ = _
            simp only [Act.put, List.setIfInBounds_toArray, List.set_cons_zero, List.set_cons_succ, i64_w, i32_w]
            rfl
          exact norm_ (by simp only [putAll, Act.put, List.setIfInBounds_toArray, List.set_cons_zero, List.set_cons_succ]) (hCont (Ae, ce, Az, cz, As, cs, Av, cv, Ar, cr, lor, hir, g19, w'.heap.size) _ ⟨hHeld, BK4.out, BK5.out, Mo.out, BK10.out, BK11.out, BK12.out, Mg.out, BK15.out, Mr.out, BK19.out, HB.out, (by (try dsimp only); have := S.out; omega), (by (try dsimp only); have := S.out; omega), (by (try dsimp only); have := S.out; omega), (by (try dsimp only); have := S.out; omega), (by (try dsimp only); have := S.out; omega), (by (try dsimp only); have := S.out; omega), (by (try dsimp only); have := S.out; omega)⟩)
      · refine box_step ?hg (N := 19) ?hd (cs := #[.int .i64 0, .int .i64 0, .string (⟨#[]⟩ : ByteArray), .slice none 0 0]) (t := 29) ?hr ?_; (case hd => rfl); (case hg => rfl); (case hr => first | (go_simp; done) | (go_simp; rfl))
        intro g19 hg w' hbox hb
        have hc := co_ hb
        have F143 : hie ≤ g19 := (by have := S.out; omega)
        clear hg
        replace BK4 := bz_ hc BK4
        replace BK5 := bz_ hc BK5
        replace Mo := fz_ hc Mo
        replace BK10 := bz_ hc BK10
        replace BK11 := bz_ hc BK11
        replace BK12 := bz_ hc BK12
        replace Mg := uz_ hc Mg
        replace BK15 := bz_ hc BK15
        replace Me := uz_ hc Me
        replace HB := hz_ hc HB
        replace S := t_ hc S
        clear S
        have S : Aside0 (g19 + 1 ≤ w'.heap.size) := A_ (blk_lt hbox)
        have BK19 := A_ hbox
        clear hbox hb hc
        refine hK.out _ _ ⟨BK4.out, BK5.out⟩ (fun hHeld => ?_)
        clear hK K
        refine norm_ (a' := ?_) ?_ ?_
        rotate_left
        · show Act.put _ (some 19) _ = _
          simp only [Act.put, List.setIfInBounds_toArray, List.set_cons_zero, List.set_cons_succ, i64_w, i32_w]
          rfl
        refine one_ (i := 3) (N := some 120) #[true, true, true, true, true, false, true, false, false, true, false] rfl rfl (by kernel_rfl) (by decide) (fun K hK => ?_)
        refine goes_ Try.func14 (by kernel_rfl) rfl #[.agg #[.int .i64 b0, .int .i64 b1, .string b2, .slice Ab lb.length cb]] (by rfl) rfl rfl dA_ ?_
        refine (te4 k b0 b1 b2 Ab cb lb z0 z1 z2 lz w _ HB.out Hrb.out Hcb.out Htz.out).mono ?_
        rintro e w' ⟨Az, cz, loz, hiz, rfl, h1, h2, h3, hR, hc⟩
        refine ⟨_, rfl, ?_⟩
        have F144 : g19 + 1 ≤ loz := (Nat.le_trans S.out h1)
        have F145 : loz ≤ hiz := h2
        replace BK4 := bz_ hc BK4
        replace BK5 := bz_ hc BK5
        replace Mo := fz_ hc Mo
        replace BK10 := bz_ hc BK10
        replace BK11 := bz_ hc BK11
        replace BK12 := bz_ hc BK12
        replace Mg := uz_ hc Mg
        replace BK15 := bz_ hc BK15
        replace Me := uz_ hc Me
        replace BK19 := bz_ hc BK19
        replace HB := hz_ hc HB
        replace S := t_ hc S
        clear S
        have S := A_ h3
        have Mz := A_ hR
        clear h1 h2 h3 hR hc
        refine hK.out _ _ ⟨BK4.out, BK5.out⟩ (fun hHeld => ?_)
        clear hK K
        refine norm_ (a' := ?_) ?_ ?_
        rotate_left
        · show Act.put _ (some 120) _ = _
          simp only [Act.put, List.setIfInBounds_toArray, List.set_cons_zero, List.set_cons_succ, i64_w, i32_w]
          rfl
        refine one_ (i := 5) (N := some 122) #[true, true, true, true, true, true, true, false, false, true, false] rfl rfl (by kernel_rfl) (by decide) (fun K hK => ?_)
        refine goes_ Try.func27 (by kernel_rfl) rfl #[.slice An ln.length cn] (by rfl) rfl rfl dA_ ?_
        refine (tt4 k An cn ln ln w _ HB.out Hrn.out Hcn.out Htn.out).mono ?_
        rintro e w' ⟨As, cs, los, his, rfl, h1, h2, h3, hR, hc⟩
        refine ⟨_, rfl, ?_⟩
        have F146 : hiz ≤ los := (Nat.le_trans S.out h1)
        have F147 : los ≤ his := h2
        replace BK4 := bz_ hc BK4
        replace BK5 := bz_ hc BK5
        replace Mo := fz_ hc Mo
        replace BK10 := bz_ hc BK10
        replace BK11 := bz_ hc BK11
        replace BK12 := bz_ hc BK12
        replace Mg := uz_ hc Mg
        replace BK15 := bz_ hc BK15
        replace Me := uz_ hc Me
        replace BK19 := bz_ hc BK19
        replace Mz := uz_ hc Mz
        replace HB := hz_ hc HB
        replace S := t_ hc S
        clear S
        have S := A_ h3
        have Ms := A_ hR
        clear h1 h2 h3 hR hc
        refine hK.out _ _ ⟨BK4.out, BK5.out⟩ (fun hHeld => ?_)
        clear hK K
        refine norm_ (a' := ?_) ?_ ?_
        rotate_left
        · show Act.put _ (some 122) _ = _
          simp only [Act.put, List.setIfInBounds_toArray, List.set_cons_zero, List.set_cons_succ, i64_w, i32_w]
          rfl
        refine one_ (i := 7) (N := some 124) #[true, true, true, true, true, true, true, true, false, true, false] rfl rfl (by kernel_rfl) (by decide) (fun K hK => ?_)
        refine goes_ Try.func33 (by kernel_rfl) rfl #[.slice Aw lw.length cw] (by rfl) rfl rfl dA_ ?_
        refine (ts4 k Aw cw lw lv w _ HB.out Hrw.out Hcw.out Htv.out).mono ?_
        rintro e w' ⟨Av, cv, lov, hiv, rfl, h1, h2, h3, hR, hc⟩
        refine ⟨_, rfl, ?_⟩
        have F148 : his ≤ lov := (Nat.le_trans S.out h1)
        have F149 : lov ≤ hiv := h2
        replace BK4 := bz_ hc BK4
        replace BK5 := bz_ hc BK5
        replace Mo := fz_ hc Mo
        replace BK10 := bz_ hc BK10
        replace BK11 := bz_ hc BK11
        replace BK12 := bz_ hc BK12
        replace Mg := uz_ hc Mg
        replace BK15 := bz_ hc BK15
        replace Me := uz_ hc Me
        replace BK19 := bz_ hc BK19
        replace Mz := uz_ hc Mz
        replace Ms := vz_ hc Ms
        replace HB := hz_ hc HB
        replace S := t_ hc S
        clear S
        have S := A_ h3
        have Mv := A_ hR
        clear h1 h2 h3 hR hc
        refine hK.out _ _ ⟨BK4.out, BK5.out⟩ (fun hHeld => ?_)
        clear hK K
        refine norm_ (a' := ?_) ?_ ?_
        rotate_left
        · show Act.put _ (some 124) _ = _
          simp only [Act.put, List.setIfInBounds_toArray, List.set_cons_zero, List.set_cons_succ, i64_w, i32_w]
          rfl
        refine one_ (i := 8) (N := some 125) #[true, true, true, true, true, true, true, true, true, true, false] rfl rfl (by kernel_rfl) (by decide) (fun K hK => ?_)
        refine goes_ Try.func34 (by kernel_rfl) rfl #[.agg #[.int .i64 e0, .int .i64 e1, .string e2, .slice Ae le.length ce], .agg #[.int .i64 z0, .int .i64 z1, .string z2, .slice Az lz.length cz], .slice As ln.length cs, .slice Av lv.length cv] (by rfl) rfl rfl dA_ ?_
        refine (ip4 k e0 e1 e2 Ae ce le z0 z1 z2 Az cz lz As cs ln Av cv lv p0 p1 p2 lp w _ HB.out Me.out.rd Mz.out.rd Ms.out.rd Mv.out.rd Hip.out).mono ?_
        rintro e w' ⟨Ar, cr, lor, hir, rfl, h1, h2, h3, hR, hc⟩
        refine ⟨_, rfl, ?_⟩
        have F150 : hiv ≤ lor := (Nat.le_trans S.out h1)
        have F151 : lor ≤ hir := h2
        clear Me
        clear Mz
        clear Ms
        clear Mv
        replace BK4 := bz_ hc BK4
        replace BK5 := bz_ hc BK5
        replace Mo := fz_ hc Mo
        replace BK10 := bz_ hc BK10
        replace BK11 := bz_ hc BK11
        replace BK12 := bz_ hc BK12
        replace Mg := uz_ hc Mg
        replace BK15 := bz_ hc BK15
        replace BK19 := bz_ hc BK19
        replace HB := hz_ hc HB
        replace S := t_ hc S
        clear S
        have S := A_ h3
        have Mr := A_ hR
        clear h1 h2 h3 hR hc
        refine hK.out _ _ ⟨BK4.out, BK5.out⟩ (fun hHeld => ?_)
        clear hK K
        refine norm_ (a' := ?_) ?_ ?_
        rotate_left
        · show Act.put _ (some 125) _ = _
          simp only [Act.put, List.setIfInBounds_toArray, List.set_cons_zero, List.set_cons_succ, i64_w, i32_w]
          rfl
        exact norm_ (by simp only [putAll, Act.put, List.setIfInBounds_toArray, List.set_cons_zero, List.set_cons_succ]) (hCont (Ae, ce, Az, cz, As, cs, Av, cv, Ar, cr, lor, hir, g19, w'.heap.size) _ ⟨hHeld, BK4.out, BK5.out, Mo.out, BK10.out, BK11.out, BK12.out, Mg.out, BK15.out, Mr.out, BK19.out, HB.out, (by (try dsimp only); have := S.out; omega), (by (try dsimp only); have := S.out; omega), (by (try dsimp only); have := S.out; omega), (by (try dsimp only); have := S.out; omega), (by (try dsimp only); have := S.out; omega), (by (try dsimp only); have := S.out; omega), (by (try dsimp only); have := S.out; omega)⟩)
    · refine box_step ?hg (N := 19) ?hd (cs := #[.int .i64 0, .int .i64 0, .string (⟨#[]⟩ : ByteArray), .slice none 0 0]) (t := 29) ?hr ?_; (case hd => rfl); (case hg => rfl); (case hr => first | (go_simp; done) | (go_simp; rfl))
      intro g19 hg w' hbox hb
      have hc := co_ hb
      have F141 : hij ≤ g19 := (by have := S.out; omega)
      clear hg
      replace BK4 := bz_ hc BK4
      replace BK5 := bz_ hc BK5
      replace Mo := fz_ hc Mo
      replace BK10 := bz_ hc BK10
      replace BK11 := bz_ hc BK11
      replace BK12 := bz_ hc BK12
      replace Mg := uz_ hc Mg
      replace BK15 := bz_ hc BK15
      replace HB := hz_ hc HB
      replace S := t_ hc S
      clear S
      have S : Aside0 (g19 + 1 ≤ w'.heap.size) := A_ (blk_lt hbox)
      have BK19 := A_ hbox
      clear hbox hb hc
      refine hK.out _ _ ⟨BK4.out, BK5.out⟩ (fun hHeld => ?_)
      clear hK K
      refine norm_ (a' := ?_) ?_ ?_
      rotate_left
      · show Act.put _ (some 19) _ = _
        simp only [Act.put, List.setIfInBounds_toArray, List.set_cons_zero, List.set_cons_succ, i64_w, i32_w]
        rfl
      refine one_ (i := 1) (N := some 118) #[true, true, true, false, true, false, true, false, false, true, false] rfl rfl (by kernel_rfl) (by decide) (fun K hK => ?_)
      refine goes_ Try.func14 (by kernel_rfl) rfl #[.agg #[.int .i64 a0, .int .i64 a1, .string a2, .slice Aa la.length ca]] (by rfl) rfl rfl dA_ ?_
      refine (te4 k a0 a1 a2 Aa ca la e0 e1 e2 le w _ HB.out Hra.out Hca.out Hte.out).mono ?_
      rintro e w' ⟨Ae, ce, loe, hie, rfl, h1, h2, h3, hR, hc⟩
      refine ⟨_, rfl, ?_⟩
      have F142 : g19 + 1 ≤ loe := (Nat.le_trans S.out h1)
      have F143 : loe ≤ hie := h2
      replace BK4 := bz_ hc BK4
      replace BK5 := bz_ hc BK5
      replace Mo := fz_ hc Mo
      replace BK10 := bz_ hc BK10
      replace BK11 := bz_ hc BK11
      replace BK12 := bz_ hc BK12
      replace Mg := uz_ hc Mg
      replace BK15 := bz_ hc BK15
      replace BK19 := bz_ hc BK19
      replace HB := hz_ hc HB
      replace S := t_ hc S
      clear S
      have S := A_ h3
      have Me := A_ hR
      clear h1 h2 h3 hR hc
      refine hK.out _ _ ⟨BK4.out, BK5.out⟩ (fun hHeld => ?_)
      clear hK K
      refine norm_ (a' := ?_) ?_ ?_
      rotate_left
      · show Act.put _ (some 118) _ = _
        simp only [Act.put, List.setIfInBounds_toArray, List.set_cons_zero, List.set_cons_succ, i64_w, i32_w]
        rfl
      refine one_ (i := 3) (N := some 120) #[true, true, true, true, true, false, true, false, false, true, false] rfl rfl (by kernel_rfl) (by decide) (fun K hK => ?_)
      refine goes_ Try.func14 (by kernel_rfl) rfl #[.agg #[.int .i64 b0, .int .i64 b1, .string b2, .slice Ab lb.length cb]] (by rfl) rfl rfl dA_ ?_
      refine (te4 k b0 b1 b2 Ab cb lb z0 z1 z2 lz w _ HB.out Hrb.out Hcb.out Htz.out).mono ?_
      rintro e w' ⟨Az, cz, loz, hiz, rfl, h1, h2, h3, hR, hc⟩
      refine ⟨_, rfl, ?_⟩
      have F144 : hie ≤ loz := (Nat.le_trans S.out h1)
      have F145 : loz ≤ hiz := h2
      replace BK4 := bz_ hc BK4
      replace BK5 := bz_ hc BK5
      replace Mo := fz_ hc Mo
      replace BK10 := bz_ hc BK10
      replace BK11 := bz_ hc BK11
      replace BK12 := bz_ hc BK12
      replace Mg := uz_ hc Mg
      replace BK15 := bz_ hc BK15
      replace BK19 := bz_ hc BK19
      replace Me := uz_ hc Me
      replace HB := hz_ hc HB
      replace S := t_ hc S
      clear S
      have S := A_ h3
      have Mz := A_ hR
      clear h1 h2 h3 hR hc
      refine hK.out _ _ ⟨BK4.out, BK5.out⟩ (fun hHeld => ?_)
      clear hK K
      refine norm_ (a' := ?_) ?_ ?_
      rotate_left
      · show Act.put _ (some 120) _ = _
        simp only [Act.put, List.setIfInBounds_toArray, List.set_cons_zero, List.set_cons_succ, i64_w, i32_w]
        rfl
      refine one_ (i := 5) (N := some 122) #[true, true, true, true, true, true, true, false, false, true, false] rfl rfl (by kernel_rfl) (by decide) (fun K hK => ?_)
      refine goes_ Try.func27 (by kernel_rfl) rfl #[.slice An ln.length cn] (by rfl) rfl rfl dA_ ?_
      refine (tt4 k An cn ln ln w _ HB.out Hrn.out Hcn.out Htn.out).mono ?_
      rintro e w' ⟨As, cs, los, his, rfl, h1, h2, h3, hR, hc⟩
      refine ⟨_, rfl, ?_⟩
      have F146 : hiz ≤ los := (Nat.le_trans S.out h1)
      have F147 : los ≤ his := h2
      replace BK4 := bz_ hc BK4
      replace BK5 := bz_ hc BK5
      replace Mo := fz_ hc Mo
      replace BK10 := bz_ hc BK10
      replace BK11 := bz_ hc BK11
      replace BK12 := bz_ hc BK12
      replace Mg := uz_ hc Mg
      replace BK15 := bz_ hc BK15
      replace BK19 := bz_ hc BK19
      replace Me := uz_ hc Me
      replace Mz := uz_ hc Mz
      replace HB := hz_ hc HB
      replace S := t_ hc S
      clear S
      have S := A_ h3
      have Ms := A_ hR
      clear h1 h2 h3 hR hc
      refine hK.out _ _ ⟨BK4.out, BK5.out⟩ (fun hHeld => ?_)
      clear hK K
      refine norm_ (a' := ?_) ?_ ?_
      rotate_left
      · show Act.put _ (some 122) _ = _
        simp only [Act.put, List.setIfInBounds_toArray, List.set_cons_zero, List.set_cons_succ, i64_w, i32_w]
        rfl
      refine one_ (i := 7) (N := some 124) #[true, true, true, true, true, true, true, true, false, true, false] rfl rfl (by kernel_rfl) (by decide) (fun K hK => ?_)
      refine goes_ Try.func33 (by kernel_rfl) rfl #[.slice Aw lw.length cw] (by rfl) rfl rfl dA_ ?_
      refine (ts4 k Aw cw lw lv w _ HB.out Hrw.out Hcw.out Htv.out).mono ?_
      rintro e w' ⟨Av, cv, lov, hiv, rfl, h1, h2, h3, hR, hc⟩
      refine ⟨_, rfl, ?_⟩
      have F148 : his ≤ lov := (Nat.le_trans S.out h1)
      have F149 : lov ≤ hiv := h2
      replace BK4 := bz_ hc BK4
      replace BK5 := bz_ hc BK5
      replace Mo := fz_ hc Mo
      replace BK10 := bz_ hc BK10
      replace BK11 := bz_ hc BK11
      replace BK12 := bz_ hc BK12
      replace Mg := uz_ hc Mg
      replace BK15 := bz_ hc BK15
      replace BK19 := bz_ hc BK19
      replace Me := uz_ hc Me
      replace Mz := uz_ hc Mz
      replace Ms := vz_ hc Ms
      replace HB := hz_ hc HB
      replace S := t_ hc S
      clear S
      have S := A_ h3
      have Mv := A_ hR
      clear h1 h2 h3 hR hc
      refine hK.out _ _ ⟨BK4.out, BK5.out⟩ (fun hHeld => ?_)
      clear hK K
      refine norm_ (a' := ?_) ?_ ?_
      rotate_left
      · show Act.put _ (some 124) _ = _
        simp only [Act.put, List.setIfInBounds_toArray, List.set_cons_zero, List.set_cons_succ, i64_w, i32_w]
        rfl
      refine one_ (i := 8) (N := some 125) #[true, true, true, true, true, true, true, true, true, true, false] rfl rfl (by kernel_rfl) (by decide) (fun K hK => ?_)
      refine goes_ Try.func34 (by kernel_rfl) rfl #[.agg #[.int .i64 e0, .int .i64 e1, .string e2, .slice Ae le.length ce], .agg #[.int .i64 z0, .int .i64 z1, .string z2, .slice Az lz.length cz], .slice As ln.length cs, .slice Av lv.length cv] (by rfl) rfl rfl dA_ ?_
      refine (ip4 k e0 e1 e2 Ae ce le z0 z1 z2 Az cz lz As cs ln Av cv lv p0 p1 p2 lp w _ HB.out Me.out.rd Mz.out.rd Ms.out.rd Mv.out.rd Hip.out).mono ?_
      rintro e w' ⟨Ar, cr, lor, hir, rfl, h1, h2, h3, hR, hc⟩
      refine ⟨_, rfl, ?_⟩
      have F150 : hiv ≤ lor := (Nat.le_trans S.out h1)
      have F151 : lor ≤ hir := h2
      clear Me
      clear Mz
      clear Ms
      clear Mv
      replace BK4 := bz_ hc BK4
      replace BK5 := bz_ hc BK5
      replace Mo := fz_ hc Mo
      replace BK10 := bz_ hc BK10
      replace BK11 := bz_ hc BK11
      replace BK12 := bz_ hc BK12
      replace Mg := uz_ hc Mg
      replace BK15 := bz_ hc BK15
      replace BK19 := bz_ hc BK19
      replace HB := hz_ hc HB
      replace S := t_ hc S
      clear S
      have S := A_ h3
      have Mr := A_ hR
      clear h1 h2 h3 hR hc
      refine hK.out _ _ ⟨BK4.out, BK5.out⟩ (fun hHeld => ?_)
      clear hK K
      refine norm_ (a' := ?_) ?_ ?_
      rotate_left
      · show Act.put _ (some 125) _ = _
        simp only [Act.put, List.setIfInBounds_toArray, List.set_cons_zero, List.set_cons_succ, i64_w, i32_w]
        rfl
      exact norm_ (by simp only [putAll, Act.put, List.setIfInBounds_toArray, List.set_cons_zero, List.set_cons_succ]) (hCont (Ae, ce, Az, cz, As, cs, Av, cv, Ar, cr, lor, hir, g19, w'.heap.size) _ ⟨hHeld, BK4.out, BK5.out, Mo.out, BK10.out, BK11.out, BK12.out, Mg.out, BK15.out, Mr.out, BK19.out, HB.out, (by (try dsimp only); have := S.out; omega), (by (try dsimp only); have := S.out; omega), (by (try dsimp only); have := S.out; omega), (by (try dsimp only); have := S.out; omega), (by (try dsimp only); have := S.out; omega), (by (try dsimp only); have := S.out; omega), (by (try dsimp only); have := S.out; omega)⟩)
  clear HB S BK4 BK5 Mo BK10 BK11 BK12 Mg BK15
  rintro ⟨Ae, ce, Az, cz, As, cs, Av, cv, Ar, cr, lor, hir, g19, tp⟩ w' ⟨hHeld, h0_, h1_, h2_, h3_, h4_, h5_, h6_, h7_, h8_, h9_, h10_, h11_, h12_, h13_, h14_, h15_, h16_, h17_⟩
  have BK4 : Aside0 (w'.heap[g4]? = some (.cells #[.int .i64 a0, .int .i64 a1, .string a2, .slice Aa la.length ca] 24 (0, 0))) := ⟨h0_⟩
  have BK5 : Aside0 (w'.heap[g5]? = some (.cells #[.int .i64 b0, .int .i64 b1, .string b2, .slice Ab lb.length cb] 24 (0, 0))) := ⟨h1_⟩
  have Mo : Aside0 (FR w' loo hio Ao co lp) := ⟨h2_⟩
  have BK10 : Aside0 (w'.heap[g10]? = some (.cells #[.int .i64 p0, .int .i64 p1, .string p2, .slice Ao lp.length co] 29 (0, 0))) := ⟨h3_⟩
  have BK11 : Aside0 (w'.heap[g11]? = some (.cells #[.int .i64 e0, .int .i64 e1, .string e2, .slice Ax le.length cx] 29 (0, 0))) := ⟨h4_⟩
  have BK12 : Aside0 (w'.heap[g12]? = some (.cells #[.int .i64 z0, .int .i64 z1, .string z2, .slice Ay lz.length cy] 29 (0, 0))) := ⟨h5_⟩
  have Mg : Aside0 (TR w.heap.size w' log hig Ag cg mp) := ⟨h6_⟩
  have BK15 : Aside0 (w'.heap[g15]? = some (.cells #[.int .i64 p0, .int .i64 p1, .string p2, .slice Ag lp.length cg] 29 (0, 0))) := ⟨h7_⟩
  have Mr : Aside0 (TR w.heap.size w' lor hir Ar cr lp) := ⟨h8_⟩
  have BK19 : Aside0 (w'.heap[g19]? = some (.cells #[.int .i64 0, .int .i64 0, .string (⟨#[]⟩ : ByteArray), .slice none 0 0] 29 (0, 0))) := ⟨h9_⟩
  have HB : Aside0 (Below w.heap.size w w') := ⟨h10_⟩
  have F252 : hij ≤ g19 := h11_
  have F253 : hij ≤ lor := h12_
  have F254 : lor ≤ hir := h13_
  have F255 : g19 + 1 ≤ lor ∨ hir ≤ g19 := h14_
  have F256 : hir ≤ tp := h15_
  have F257 : g19 + 1 ≤ tp := h16_
  have S : Aside0 (tp ≤ w'.heap.size) := ⟨h17_⟩
  clear h0_ h1_ h2_ h3_ h4_ h5_ h6_ h7_ h8_ h9_ h10_ h11_ h12_ h13_ h14_ h15_ h16_ h17_
  have hHeld : w'.heap[g4]? = some (.cells #[.int .i64 a0, .int .i64 a1, .string a2, .slice Aa la.length ca] 24 (0, 0)) ∧ w'.heap[g5]? = some (.cells #[.int .i64 b0, .int .i64 b1, .string b2, .slice Ab lb.length cb] 24 (0, 0)) := hHeld
  refine norm_ (a' := ?_) ?_ ?_
  rotate_left
  · simp only [putAll, Act.put, List.setIfInBounds_toArray, List.set_cons_zero, List.set_cons_succ]
    rfl
  refine one_ (i := 10) (N := none) #[true, true, true, true, true, true, true, true, true, true, true] rfl rfl (by kernel_rfl) (by decide) (fun K hK => ?_)
  refine store_struct_step (by rfl) rfl 29 (.tmp 19) (.tmp 125) rfl (cs := #[.int .i64 p0, .int .i64 p1, .string p2, .slice Ar lp.length cr]) (by rfl) (by rfl) BK19.out (by kernel_rfl) rfl (by repeat (first | exact fun _ h => absurd h List.not_mem_nil | refine List.forall_mem_cons.2 ⟨rfl, ?_⟩)) ?_
  intro w' hbox hc
  replace BK4 := bs_ hc BK4 (by have := S.out; omega)
  replace BK5 := bs_ hc BK5 (by have := S.out; omega)
  replace Mo := fs_ hc Mo (by have := S.out; omega)
  replace BK10 := bs_ hc BK10 (by have := S.out; omega)
  replace BK11 := bs_ hc BK11 (by have := S.out; omega)
  replace BK12 := bs_ hc BK12 (by have := S.out; omega)
  replace Mg := us_ hc Mg (by have := S.out; omega)
  replace BK15 := bs_ hc BK15 (by have := S.out; omega)
  replace Mr := us_ hc Mr (by have := S.out; omega)
  replace HB := hs_ hc HB (by have := S.out; omega)
  replace S := t_ hc S
  clear BK19
  have BK19 := A_ hbox
  clear hbox hc
  refine hK.out _ _ ⟨BK4.out, BK5.out⟩ (fun hHeld => ?_)
  clear hK K
  refine done_ (by kernel_rfl) ?_
  go_wp2_with (first | ((with_reducible refine gate_ (.load 29 (.tmp 19)) rfl ?_); (try (refine gate_guard (by rfl) ?_; dsimp only)); refine ld_ 29 19 BK19.out Try.underlying29 ?_) | ((with_reducible refine gate_ (.load 29 (.tmp 10)) rfl ?_); (try (refine gate_guard (by rfl) ?_; dsimp only)); refine ld_ 29 10 BK10.out Try.underlying29 ?_) | ((with_reducible refine gate_ (.load 29 (.tmp 15)) rfl ?_); (try (refine gate_guard (by rfl) ?_; dsimp only)); refine ld_ 29 15 BK15.out Try.underlying29 ?_) | ((with_reducible refine gate_callee (f := 16) rfl ?_); (try (refine gate_guard (by rfl) ?_; dsimp only)); refine gL_ (some 128) Try.func16 #[.agg #[.int .i64 p0, .int .i64 p1, .string p2, .slice Ar lp.length cr], .agg #[.int .i64 p0, .int .i64 p1, .string p2, .slice Ao lp.length co]] ?_; refine (eq4 k p0 p1 p2 Ar cr lp p0 p1 p2 Ao co lp true _ Mr.out.rd Mo.out.rd Hqp.out).mono ?_; rintro e w' ⟨rfl, hc⟩; refine ⟨_, rfl, ?_⟩; replace BK4 := bz_ hc BK4; replace BK5 := bz_ hc BK5; replace Mo := fz_ hc Mo; replace BK10 := bz_ hc BK10; replace BK11 := bz_ hc BK11; replace BK12 := bz_ hc BK12; replace Mg := uz_ hc Mg; replace BK15 := bz_ hc BK15; replace Mr := uz_ hc Mr; replace BK19 := bz_ hc BK19; replace HB := hz_ hc HB; replace S := t_ hc S; clear hc) | ((with_reducible refine gate_callee (f := 39) rfl ?_); (try (refine gate_guard (by rfl) ?_; dsimp only)); refine gL_ (some 132) Try.func39 #[.agg #[.int .i64 p0, .int .i64 p1, .string p2, .slice Ag lp.length cg], .int .i64 1] ?_; refine (held4 k p0 p1 p2 Ag cg lp.length mp Hl5.out 1 m _ Mg.out.rd Hh.out).mono ?_; rintro e w' ⟨rfl, hc⟩; refine ⟨_, rfl, ?_⟩; replace BK4 := bz_ hc BK4; replace BK5 := bz_ hc BK5; replace Mo := fz_ hc Mo; replace BK10 := bz_ hc BK10; replace BK11 := bz_ hc BK11; replace BK12 := bz_ hc BK12; replace Mg := uz_ hc Mg; replace BK15 := bz_ hc BK15; replace Mr := uz_ hc Mr; replace BK19 := bz_ hc BK19; replace HB := hz_ hc HB; replace S := t_ hc S; clear hc))
  go_ret
  exact ⟨rfl, HB.out⟩
theorem law (a0 a1 : Int) (a2 : ByteArray) (Aa : Option Addr) (ca : Nat) (la : List S24) (b0 b1 : Int) (b2 : ByteArray) (Ab : Option Addr) (cb : Nat) (lb : List S24) (An : Option Addr) (cn : Nat) (ln : List ByteArray) (Aw : Option Addr) (cw : Nat) (lw : List S24) (w : World) (hra : Kd.C k24 w Aa la.length la) (hca : la.length ≤ ca) (hrb : Kd.C k24 w Ab lb.length lb) (hcb : lb.length ≤ cb) (hrn : Kd.C Kd.string w An ln.length ln) (hcn : ln.length ≤ cn) (hrw : Kd.C k24 w Aw lw.length lw) (hcw : lw.length ≤ cw) (hf : Pure.Facts a0 a1 a2 la b0 b1 b2 lb ln lw) :
    Calls Try.prog 8 #[.agg #[.int .i64 a0, .int .i64 a1, .string a2, .slice Aa la.length ca], .agg #[.int .i64 b0, .int .i64 b1, .string b2, .slice Ab lb.length cb], .slice An ln.length cn, .slice Aw lw.length cw] w fun e w' => e = .returned (.bool true) ∧ Below w.heap.size w w' := by
  obtain ⟨k, hf⟩ := hf
  rcases hf with ⟨r1, hs1, hd1⟩ | ⟨r1, r2, hs1, hs2, hd1, hd2⟩ | ⟨r1, r2, r3, hs1, hs2, hs3, hd1, hd2, hd3⟩ | ⟨r1, r2, r3, r4, hs1, hs2, hs3, hs4, hd1, hd2, hd3, hd4⟩ | ⟨r1, r2, r3, r4, e0, e1, e2, le, z0, z1, z2, lz, lv, p0, p1, p2, lp, me, mz, mv, mp, mn, k1, k2, k3, k4, m, hs1, hs2, hs3, hs4, hd1, hd2, hd3, hd4, hte, htz, htn, htv, hsp, hip, hqp, hqe, hqz, hqn, hqv, hm1, hl1, hm2, hl2, hm3, hl3, hm4, hl4, hm5, hl5, hh, hd5, hd6⟩
  · exact early1 k a0 a1 a2 Aa ca la b0 b1 b2 Ab cb lb An cn ln Aw cw lw r1 w hra hca hrb hcb hrn hcn hrw hcw hs1 hd1
  · exact early2 k a0 a1 a2 Aa ca la b0 b1 b2 Ab cb lb An cn ln Aw cw lw r1 r2 w hra hca hrb hcb hrn hcn hrw hcw hs1 hs2 hd1 hd2
  · exact early3 k a0 a1 a2 Aa ca la b0 b1 b2 Ab cb lb An cn ln Aw cw lw r1 r2 r3 w hra hca hrb hcb hrn hcn hrw hcw hs1 hs2 hs3 hd1 hd2 hd3
  · exact early4 k a0 a1 a2 Aa ca la b0 b1 b2 Ab cb lb An cn ln Aw cw lw r1 r2 r3 r4 w hra hca hrb hcb hrn hcn hrw hcw hs1 hs2 hs3 hs4 hd1 hd2 hd3 hd4
  · exact whole k a0 a1 a2 Aa ca la b0 b1 b2 Ab cb lb An cn ln Aw cw lw r1 r2 r3 r4 e0 e1 e2 le z0 z1 z2 lz lv p0 p1 p2 lp me mz mv mp mn k1 k2 k3 k4 m w hra hca hrb hcb hrn hcn hrw hcw hs1 hs2 hs3 hs4 hd1 hd2 hd3 hd4 hte htz htn htv hsp hip hqp hqe hqz hqn hqv hm1 hl1 hm2 hl2 hm3 hl3 hm4 hl4 hm5 hl5 hh hd5 hd6
end Go.Proofs.Ytcpnhlhigpgonaa.WFnExactPut
