/- The walk of the law FnExactPlaceOf: where the plain functions tell these values, the law returns true and leaves what was there as it was. -/
import Derived.Test.YtiagbfilffbljaaMCFnExactPlaceOf
import Derived.Test.YtiagbfilffbljaaPureFnExactPlaceOf
namespace Go.Proofs.Ytiagbfilffbljaa.WFnExactPlaceOf
open Go.RowKit Go.Proofs.YtiagbfilffbljaaW.PrintWords Go.Proofs.YtiagbfilffbljaaW.PrintLast Go.Proofs.YtiagbfilffbljaaW.PrintMore Go.Proofs.Ytiagbfilffbljaa.Chg Go.Proofs.Ytiagbfilffbljaa.PFnExactPlaceOf Go.Proofs.Ytiagbfilffbljaa.MCFnExactPlaceOf
set_option linter.unusedVariables false
set_option linter.unusedSimpArgs false
attribute [local go_sem] max2_int min2_int max_two min_two max_three min_three max_four min_four
/-- a machine that was made: where its rows lie. -/
structure Sg where
  (A0 : Option Addr) (c0 : Nat) (A1 : Option Addr) (c1 : Nat) (A6 : Option Addr) (c6 : Nat) (A7 : Option Addr) (c7 : Nat) (lo hi : Nat)
def Sg.is (s : Sg) (w : World) (l0 l1 l6 l7 : List Int) : Prop := R4 w s.lo s.hi (.slice s.A0 l0.length s.c0) (.slice s.A1 l1.length s.c1) (.slice s.A6 l6.length s.c6) (.slice s.A7 l7.length s.c7) l0 l1 l6 l7
structure St where
  (x u : Sg) (g h : Nat)
abbrev ZM_ : Obj := .cells #[.slice none 0 0, .slice none 0 0, .bool false, .bool false, .bool false, .bool false, .slice none 0 0, .slice none 0 0, .int .i64 0] 28 (0, 0)
abbrev ZP_ : Obj := .cells #[.int .i64 0, .int .i64 0] 38 (0, 0)
/-- what a region has made so far: c = 1: a machine x; c = 3: the answer u; a, b: the two boxes. -/
structure J (c : Nat) (a b : Bool) (B1 B2 : Obj) (wS : World) (l0 l1 l6 l7 o0 o1 o6 o7 : List Int) (s : St) (w : World) : Prop where
  hb : Below wS.heap.size wS w
  hx : c = 1 → (wS.heap.size ≤ s.x.lo ∧ s.x.lo ≤ s.x.hi ∧ s.x.hi ≤ w.heap.size) ∧ s.x.is w l0 l1 l6 l7
  hu : c = 3 → (wS.heap.size ≤ s.u.lo ∧ s.u.lo ≤ s.u.hi ∧ s.u.hi ≤ w.heap.size) ∧ s.u.is w o0 o1 o6 o7
  hg : a = true → wS.heap.size ≤ s.g ∧ w.heap[s.g]? = some B1
  hh : b = true → wS.heap.size ≤ s.h ∧ w.heap[s.h]? = some B2
  gh : a = true → b = true → s.g ≠ s.h
  gu : c = 3 → a = true → s.g < s.u.lo ∨ s.u.hi ≤ s.g
  hv : c = 3 → b = true → s.h < s.u.lo ∨ s.u.hi ≤ s.h
section
variable {c : Nat} {a b : Bool} {B1 B2 : Obj} {wS w w1 : World} {l0 l1 l6 l7 o0 o1 o6 o7 : List Int} {s : St} {X U : Sg} {gq : Nat}
theorem Sg.is_below (h : X.is w l0 l1 l6 l7) (hb : Below w.heap.size w w1) : X.is w1 l0 l1 l6 l7 := R4_ch h (Ch.of_below hb) (Or.inr (Or.inr (Nat.zero_le _)))
theorem J.still (h : J c a b B1 B2 wS l0 l1 l6 l7 o0 o1 o6 o7 s w) (k : Below w.heap.size w w1) : J c a b B1 B2 wS l0 l1 l6 l7 o0 o1 o6 o7 s w1 :=
  ⟨below_ch h.hb (Ch.of_below k) (Or.inl (Nat.le_refl _)), fun q => have p := h.hx q; ⟨⟨p.1.1, p.1.2.1, Nat.le_trans p.1.2.2 k.size⟩, Sg.is_below p.2 k⟩, fun q => have p := h.hu q; ⟨⟨p.1.1, p.1.2.1, Nat.le_trans p.1.2.2 k.size⟩, Sg.is_below p.2 k⟩,
   fun q => ⟨(h.hg q).1, blk_below (h.hg q).2 k⟩, fun q => ⟨(h.hh q).1, blk_below (h.hh q).2 k⟩, h.gh, h.gu, h.hv⟩
theorem J.x (h : J 0 a b B1 B2 wS l0 l1 l6 l7 o0 o1 o6 o7 s w) (h1 : w.heap.size ≤ X.lo) (h2 : X.lo ≤ X.hi) (h3 : X.hi ≤ w1.heap.size) (hX : X.is w1 l0 l1 l6 l7) (k : Ch w w1 0 0) : J 1 a b B1 B2 wS l0 l1 l6 l7 o0 o1 o6 o7 ⟨X, s.u, s.g, s.h⟩ w1 :=
  have q := h.still k.below
  ⟨q.hb, fun _ => ⟨⟨Nat.le_trans h.hb.size h1, h2, h3⟩, hX⟩, fun e => absurd e (by decide), q.hg, q.hh, q.gh, fun e => absurd e (by decide), fun e => absurd e (by decide)⟩
theorem J.u (h : J c a b B1 B2 wS l0 l1 l6 l7 o0 o1 o6 o7 s w) (h1 : w.heap.size ≤ U.lo) (h2 : U.lo ≤ U.hi) (h3 : U.hi ≤ w1.heap.size) (hU : U.is w1 o0 o1 o6 o7) (k : Ch w w1 0 0) : J 3 a b B1 B2 wS l0 l1 l6 l7 o0 o1 o6 o7 ⟨s.x, U, s.g, s.h⟩ w1 :=
  have q := h.still k.below
  ⟨q.hb, fun e => absurd e (by decide), fun _ => ⟨⟨Nat.le_trans h.hb.size h1, h2, h3⟩, hU⟩, q.hg, q.hh, q.gh, fun _ e => Or.inl (Nat.lt_of_lt_of_le (blk_lt (h.hg e).2) h1), fun _ e => Or.inl (Nat.lt_of_lt_of_le (blk_lt (h.hh e).2) h1)⟩
theorem J.bg (h : J c false b B1 B2 wS l0 l1 l6 l7 o0 o1 o6 o7 s w) (hg : gq = w.heap.size) (hbox : w1.heap[gq]? = some B1) (k : Below w.heap.size w w1) : J c true b B1 B2 wS l0 l1 l6 l7 o0 o1 o6 o7 ⟨s.x, s.u, gq, s.h⟩ w1 :=
  have q := h.still k
  ⟨q.hb, q.hx, q.hu, fun _ => ⟨hg ▸ h.hb.size, hbox⟩, q.hh, fun _ e => by have := blk_lt (h.hh e).2; show gq ≠ s.h; omega, fun e _ => Or.inr (by have := (h.hu e).1.2.2; show s.u.hi ≤ gq; omega), q.hv⟩
theorem J.bh (h : J c a false B1 B2 wS l0 l1 l6 l7 o0 o1 o6 o7 s w) (hg : gq = w.heap.size) (hbox : w1.heap[gq]? = some B2) (k : Below w.heap.size w w1) : J c a true B1 B2 wS l0 l1 l6 l7 o0 o1 o6 o7 ⟨s.x, s.u, s.g, gq⟩ w1 :=
  have q := h.still k
  ⟨q.hb, q.hx, q.hu, q.hg, fun _ => ⟨hg ▸ h.hb.size, hbox⟩, fun e _ => by have := blk_lt (h.hg e).2; show s.g ≠ gq; omega, q.gu, fun e _ => Or.inr (by have := (h.hu e).1.2.2; show s.u.hi ≤ gq; omega)⟩
end
set_option maxHeartbeats 32000000 in
set_option maxRecDepth 100000 in
theorem early (Aa_0 : Option Addr) (ca_0 : Nat) (la_0 : List Int) (Aa_1 : Option Addr) (ca_1 : Nat) (la_1 : List Int) (ba_2 : Bool) (ba_3 : Bool) (ba_4 : Bool) (ba_5 : Bool) (Aa_6 : Option Addr) (ca_6 : Nat) (la_6 : List Int) (Aa_7 : Option Addr) (ca_7 : Nat) (la_7 : List Int) (ba_8 : Int) (p0 p1 p2 : Int) (s : Int) (w : World) (hra_0 : Kd.C (Kd.int .i64) w Aa_0 la_0.length la_0) (hca_0 : la_0.length ≤ ca_0) (hra_1 : Kd.C (Kd.int .i64) w Aa_1 la_1.length la_1) (hca_1 : la_1.length ≤ ca_1) (hra_6 : Kd.C (Kd.int .i64) w Aa_6 la_6.length la_6) (hca_6 : la_6.length ≤ ca_6) (hra_7 : Kd.C (Kd.int .i64) w Aa_7 la_7.length la_7) (hca_7 : la_7.length ≤ ca_7) (hsz : laws_szMach.f la_0 la_1 ba_2 ba_3 ba_4 ba_5 la_6 la_7 ba_8 1048576 = some s) (hs : decide (s < 0) = true) :
    Calls Try.prog 11 #[.agg #[.slice Aa_0 la_0.length ca_0, .slice Aa_1 la_1.length ca_1, .bool ba_2, .bool ba_3, .bool ba_4, .bool ba_5, .slice Aa_6 la_6.length ca_6, .slice Aa_7 la_7.length ca_7, .int .i64 ba_8], .agg #[.int .i64 p0, .int .i64 p1, .int .i64 p2]] w fun e w' => e = .returned (.bool true) ∧ Below w.heap.size w w' := by
  have HR0 := Aside0.mk hra_0
  have HC0 := Aside0.mk hca_0
  clear hra_0 hca_0
  have HR1 := Aside0.mk hra_1
  have HC1 := Aside0.mk hca_1
  clear hra_1 hca_1
  have HR6 := Aside0.mk hra_6
  have HC6 := Aside0.mk hca_6
  clear hra_6 hca_6
  have HR7 := Aside0.mk hra_7
  have HC7 := Aside0.mk hca_7
  clear hra_7 hca_7
  have HB := Aside0.mk (Below.refl w.heap.size w)
  have S : Aside0 (w.heap.size ≤ w.heap.size) := Aside0.mk (Nat.le_refl _)
  have Hsz := Aside0.mk hsz
  clear hsz
  go_enter Try.func11, Try.ntmps11
  go_wp2_with (first
    | ((with_reducible refine gate_dst (N := 2) rfl ?_); refine box_event ?hg (N := 2) ?hd (cs := #[.slice Aa_0 la_0.length ca_0, .slice Aa_1 la_1.length ca_1, .bool ba_2, .bool ba_3, .bool ba_4, .bool ba_5, .slice Aa_6 la_6.length ca_6, .slice Aa_7 la_7.length ca_7, .int .i64 ba_8]) (t := 24) ?hr ?_; (case hd => rfl); (case hg => rfl); (case hr => first | (go_simp; done) | (go_simp; rfl)); intro g2 hg w' hbox hb; have hc := Ch.of_below hb; have F1 : Aside0 (w.heap.size ≤ g2) := Aside0.mk (by have := S.out; omega); clear hg; replace HB := Aside0.mk (below_ch HB.out hc (Or.inl (Nat.le_refl _))); replace S := Aside0.mk (Nat.le_trans S.out hc.size); clear S; have S : Aside0 (g2 + 1 ≤ w'.heap.size) := Aside0.mk (blk_lt hbox); have BK2 := Aside0.mk hbox; clear hbox hb hc)
    | ((with_reducible refine gate_dst (N := 3) rfl ?_); refine box_event ?hg (N := 3) ?hd (cs := #[.int .i64 p0, .int .i64 p1, .int .i64 p2]) (t := 60) ?hr ?_; (case hd => rfl); (case hg => rfl); (case hr => first | (go_simp; done) | (go_simp; rfl)); intro g3 hg w' hbox hb; have hc := Ch.of_below hb; have F2 : Aside0 (g2 + 1 ≤ g3) := Aside0.mk (by have := S.out; omega); clear hg; replace BK2 := Aside0.mk (blk_ch hc BK2.out (Or.inr (Nat.zero_le _))); replace HB := Aside0.mk (below_ch HB.out hc (Or.inl (Nat.le_refl _))); replace S := Aside0.mk (Nat.le_trans S.out hc.size); clear S; have S : Aside0 (g3 + 1 ≤ w'.heap.size) := Aside0.mk (blk_lt hbox); have BK3 := Aside0.mk hbox; clear hbox hb hc)
    | ((with_reducible refine gate_ (.load 24 (.tmp 2)) rfl ?_); (try (refine gate_guard (by rfl) ?_; dsimp only)); refine wpList_load_row rfl 24 (.tmp 2) rfl g2 rfl 24 _ _ _ BK2.out Try.underlying24 rfl (by kernel_rfl) ?_)
    | ((with_reducible refine gate_callee (f := 15) rfl ?_); (try (refine gate_guard (by rfl) ?_; dsimp only)); refine goesL_ (some 21) rfl rfl Try.func15 (by kernel_rfl) rfl #[.agg #[.slice Aa_0 la_0.length ca_0, .slice Aa_1 la_1.length ca_1, .bool ba_2, .bool ba_3, .bool ba_4, .bool ba_5, .slice Aa_6 la_6.length ca_6, .slice Aa_7 la_7.length ca_7, .int .i64 ba_8], .int .i64 1048576] rfl (by (try simp only [List.map_toArray, List.map_cons, List.map_nil]); first | done | rfl) ?_; refine (laws_szMach.calls Aa_0 ca_0 la_0 Aa_1 ca_1 la_1 ba_2 ba_3 ba_4 ba_5 Aa_6 ca_6 la_6 Aa_7 ca_7 la_7 ba_8 1048576 s _ (Kd.C_below HR0.out HB.out) HC0.out (Kd.C_below HR1.out HB.out) HC1.out (Kd.C_below HR6.out HB.out) HC6.out (Kd.C_below HR7.out HB.out) HC7.out Hsz.out).mono ?_; rintro e w' ⟨rfl, hb⟩; have hc := Ch.of_below hb; refine ⟨_, rfl, ?_⟩; replace BK2 := Aside0.mk (blk_ch hc BK2.out (Or.inr (Nat.zero_le _))); replace BK3 := Aside0.mk (blk_ch hc BK3.out (Or.inr (Nat.zero_le _))); replace HB := Aside0.mk (below_ch HB.out hc (Or.inl (Nat.le_refl _))); replace S := Aside0.mk (Nat.le_trans S.out hc.size); clear hc hb))
  go_ret
  exact ⟨rfl, HB.out⟩
set_option maxHeartbeats 32000000 in
set_option maxRecDepth 100000 in
theorem whole (k : Nat) (Aa_0 : Option Addr) (ca_0 : Nat) (la_0 : List Int) (Aa_1 : Option Addr) (ca_1 : Nat) (la_1 : List Int) (ba_2 : Bool) (ba_3 : Bool) (ba_4 : Bool) (ba_5 : Bool) (Aa_6 : Option Addr) (ca_6 : Nat) (la_6 : List Int) (Aa_7 : Option Addr) (ca_7 : Nat) (la_7 : List Int) (ba_8 : Int) (p0 p1 p2 : Int) (s : Int) (lo_0 : List Int) (lo_1 : List Int) (bo_2 : Bool) (bo_3 : Bool) (bo_4 : Bool) (bo_5 : Bool) (lo_6 : List Int) (lo_7 : List Int) (bo_8 : Int) (y0 y1 : Int) (ok : Bool) (m0 m1 : Int) (lp_0 : List Int) (lp_1 : List Int) (lp_6 : List Int) (lp_7 : List Int) (lq_0 : List Int) (lq_1 : List Int) (lq_6 : List Int) (lq_7 : List Int) (w : World) (hra_0 : Kd.C (Kd.int .i64) w Aa_0 la_0.length la_0) (hca_0 : la_0.length ≤ ca_0) (hra_1 : Kd.C (Kd.int .i64) w Aa_1 la_1.length la_1) (hca_1 : la_1.length ≤ ca_1) (hra_6 : Kd.C (Kd.int .i64) w Aa_6 la_6.length la_6) (hca_6 : la_6.length ≤ ca_6) (hra_7 : Kd.C (Kd.int .i64) w Aa_7 la_7.length la_7) (hca_7 : la_7.length ≤ ca_7)
    (hsz : laws_szMach.f la_0 la_1 ba_2 ba_3 ba_4 ba_5 la_6 la_7 ba_8 1048576 = some s) (hs : decide (s < 0) = false) (hto : laws_toMach.f k la_0 la_1 ba_2 ba_3 ba_4 ba_5 la_6 la_7 ba_8 = some (la_0, la_1, ba_2, ba_3, ba_4, ba_5, la_6, la_7, ba_8)) (htp : laws_toOpd.f p0 p1 p2 = some (p0, p1, p2)) (hsp : spec_PlaceOf.f k la_0 la_1 ba_2 ba_3 ba_4 ba_5 la_6 la_7 ba_8 p0 p1 p2 = some (lo_0, lo_1, bo_2, bo_3, bo_4, bo_5, lo_6, lo_7, bo_8, y0, y1, ok)) (him : impl_PlaceOf.f k la_0 la_1 ba_2 ba_3 ba_4 ba_5 la_6 la_7 ba_8 p0 p1 p2 = some (lo_0, lo_1, bo_2, bo_3, bo_4, bo_5, lo_6, lo_7, bo_8, y0, y1, ok))
    (heo : laws_eqMach.f k lo_0 lo_1 bo_2 bo_3 bo_4 bo_5 lo_6 lo_7 bo_8 lo_0 lo_1 bo_2 bo_3 bo_4 bo_5 lo_6 lo_7 bo_8 = some true) (hel : laws_eqMach.f k la_0 la_1 ba_2 ba_3 ba_4 ba_5 la_6 la_7 ba_8 la_0 la_1 ba_2 ba_3 ba_4 ba_5 la_6 la_7 ba_8 = some true) (hep : laws_eqPlace.f y0 y1 y0 y1 = some true) (hm0 : laws_markMach.f k la_0 la_1 ba_2 ba_3 ba_4 ba_5 la_6 la_7 ba_8 1 = some (m0, lp_0, lp_1, lp_6, lp_7)) (hn0 : decide (m0 < 0) = false)
    (hm1 : laws_markMach.f k lo_0 lo_1 bo_2 bo_3 bo_4 bo_5 lo_6 lo_7 bo_8 1 = some (m1, lq_0, lq_1, lq_6, lq_7)) (hn1 : decide (m1 < 0) = false) (hh : laws_heldMach.f k lq_0 lq_1 bo_2 bo_3 bo_4 bo_5 lq_6 lq_7 bo_8 1 = some m1) :
    Calls Try.prog 11 #[.agg #[.slice Aa_0 la_0.length ca_0, .slice Aa_1 la_1.length ca_1, .bool ba_2, .bool ba_3, .bool ba_4, .bool ba_5, .slice Aa_6 la_6.length ca_6, .slice Aa_7 la_7.length ca_7, .int .i64 ba_8], .agg #[.int .i64 p0, .int .i64 p1, .int .i64 p2]] w fun e w' => e = .returned (.bool true) ∧ Below w.heap.size w w' := by
  have HR0 := Aside0.mk hra_0
  have HC0 := Aside0.mk hca_0
  clear hra_0 hca_0
  have HR1 := Aside0.mk hra_1
  have HC1 := Aside0.mk hca_1
  clear hra_1 hca_1
  have HR6 := Aside0.mk hra_6
  have HC6 := Aside0.mk hca_6
  clear hra_6 hca_6
  have HR7 := Aside0.mk hra_7
  have HC7 := Aside0.mk hca_7
  clear hra_7 hca_7
  have HB := Aside0.mk (Below.refl w.heap.size w)
  have S : Aside0 (w.heap.size ≤ w.heap.size) := Aside0.mk (Nat.le_refl _)
  have Hsz := Aside0.mk hsz
  have Hto := Aside0.mk hto
  have Htp := Aside0.mk htp
  have Hsp := Aside0.mk hsp
  have Him := Aside0.mk him
  have Heo := Aside0.mk heo
  have Hel := Aside0.mk hel
  have Hep := Aside0.mk hep
  have Hm0 := Aside0.mk hm0
  have Hm1 := Aside0.mk hm1
  have Hh := Aside0.mk hh
  clear hsz hto htp hsp him heo hel hep hm0 hm1 hh
  have hok : (ok != ok) = false := bne_self_eq_false ok
  have hmm : (m1 != m1) = false := bne_self_eq_false m1
  go_enter Try.func11, Try.ntmps11
  go_wp2_with (first
    | ((with_reducible refine gate_dst (N := 2) rfl ?_); refine box_event ?hg (N := 2) ?hd (cs := #[.slice Aa_0 la_0.length ca_0, .slice Aa_1 la_1.length ca_1, .bool ba_2, .bool ba_3, .bool ba_4, .bool ba_5, .slice Aa_6 la_6.length ca_6, .slice Aa_7 la_7.length ca_7, .int .i64 ba_8]) (t := 24) ?hr ?_; (case hd => rfl); (case hg => rfl); (case hr => first | (go_simp; done) | (go_simp; rfl)); intro g2 hg w' hbox hb; have hc := Ch.of_below hb; have F1 : Aside0 (w.heap.size ≤ g2) := Aside0.mk (by have := S.out; omega); clear hg; replace HB := Aside0.mk (below_ch HB.out hc (Or.inl (Nat.le_refl _))); replace S := Aside0.mk (Nat.le_trans S.out hc.size); clear S; have S : Aside0 (g2 + 1 ≤ w'.heap.size) := Aside0.mk (blk_lt hbox); have BK2 := Aside0.mk hbox; clear hbox hb hc)
    | ((with_reducible refine gate_dst (N := 3) rfl ?_); refine box_event ?hg (N := 3) ?hd (cs := #[.int .i64 p0, .int .i64 p1, .int .i64 p2]) (t := 60) ?hr ?_; (case hd => rfl); (case hg => rfl); (case hr => first | (go_simp; done) | (go_simp; rfl)); intro g3 hg w' hbox hb; have hc := Ch.of_below hb; have F2 : Aside0 (g2 + 1 ≤ g3) := Aside0.mk (by have := S.out; omega); clear hg; replace BK2 := Aside0.mk (blk_ch hc BK2.out (Or.inr (Nat.zero_le _))); replace HB := Aside0.mk (below_ch HB.out hc (Or.inl (Nat.le_refl _))); replace S := Aside0.mk (Nat.le_trans S.out hc.size); clear S; have S : Aside0 (g3 + 1 ≤ w'.heap.size) := Aside0.mk (blk_lt hbox); have BK3 := Aside0.mk hbox; clear hbox hb hc)
    | ((with_reducible refine gate_ (.load 24 (.tmp 2)) rfl ?_); (try (refine gate_guard (by rfl) ?_; dsimp only)); refine wpList_load_row rfl 24 (.tmp 2) rfl g2 rfl 24 _ _ _ BK2.out Try.underlying24 rfl (by kernel_rfl) ?_)
    | ((with_reducible refine gate_callee (f := 15) rfl ?_); (try (refine gate_guard (by rfl) ?_; dsimp only)); refine goesL_ (some 21) rfl rfl Try.func15 (by kernel_rfl) rfl #[.agg #[.slice Aa_0 la_0.length ca_0, .slice Aa_1 la_1.length ca_1, .bool ba_2, .bool ba_3, .bool ba_4, .bool ba_5, .slice Aa_6 la_6.length ca_6, .slice Aa_7 la_7.length ca_7, .int .i64 ba_8], .int .i64 1048576] rfl (by (try simp only [List.map_toArray, List.map_cons, List.map_nil]); first | done | rfl) ?_; refine (laws_szMach.calls Aa_0 ca_0 la_0 Aa_1 ca_1 la_1 ba_2 ba_3 ba_4 ba_5 Aa_6 ca_6 la_6 Aa_7 ca_7 la_7 ba_8 1048576 s _ (Kd.C_below HR0.out HB.out) HC0.out (Kd.C_below HR1.out HB.out) HC1.out (Kd.C_below HR6.out HB.out) HC6.out (Kd.C_below HR7.out HB.out) HC7.out Hsz.out).mono ?_; rintro e w' ⟨rfl, hb⟩; have hc := Ch.of_below hb; refine ⟨_, rfl, ?_⟩; replace BK2 := Aside0.mk (blk_ch hc BK2.out (Or.inr (Nat.zero_le _))); replace BK3 := Aside0.mk (blk_ch hc BK3.out (Or.inr (Nat.zero_le _))); replace HB := Aside0.mk (below_ch HB.out hc (Or.inl (Nat.le_refl _))); replace S := Aside0.mk (Nat.le_trans S.out hc.size); clear hc hb))
  have hc := Ch.drew w'
  replace BK2 := Aside0.mk (blk_ch hc BK2.out (Or.inr (Nat.zero_le _)))
  replace BK3 := Aside0.mk (blk_ch hc BK3.out (Or.inr (Nat.zero_le _)))
  replace HB := Aside0.mk (below_ch HB.out hc (Or.inl (Nat.le_refl _)))
  replace S := Aside0.mk (Nat.le_trans S.out hc.size)
  clear hc
  refine start_ (n := 14) (S := fun w' => w'.heap[g2]? = some (.cells #[.slice Aa_0 la_0.length ca_0, .slice Aa_1 la_1.length ca_1, .bool ba_2, .bool ba_3, .bool ba_4, .bool ba_5, .slice Aa_6 la_6.length ca_6, .slice Aa_7 la_7.length ca_7, .int .i64 ba_8] 24 (0, 0)) ∧ w'.heap[g3]? = some (.cells #[.int .i64 p0, .int .i64 p1, .int .i64 p2] 60 (0, 0))) (ds := []) #[false, false, false, false, false, false, false, false, false, false, false, false, false, false] (by kernel_rfl) rfl rfl ⟨BK2.out, BK3.out⟩ (fun hHeld => ?_)
  generalize w'.drew = w' at BK2 BK3 HB S hHeld ⊢
  refine take_ (i := 0) (N := some 25) (v := .agg #[.slice Aa_0 la_0.length ca_0, .slice Aa_1 la_1.length ca_1, .bool ba_2, .bool ba_3, .bool ba_4, .bool ba_5, .slice Aa_6 la_6.length ca_6, .slice Aa_7 la_7.length ca_7, .int .i64 ba_8]) (a' := ?_) #[true, false, false, false, false, false, false, false, false, false, false, false, false, false] rfl rfl (by kernel_rfl) (fun _ _ _ h => h) (Or.inl ⟨by rfl, ?_⟩) hHeld ?_ ?_
  · rintro w' ⟨s0, s1⟩
    exact load_yields 24 (.tmp 2) (by rfl) g2 (by rfl) 24 _ _ s0 Try.underlying24 rfl (by kernel_rfl)
  rotate_left
  · simp only [Act.put, List.setIfInBounds_toArray, List.set_cons_zero, List.set_cons_succ, i64_w, i32_w]
    rfl
  refine take_ (i := 2) (N := some 27) (v := .agg #[.int .i64 p0, .int .i64 p1, .int .i64 p2]) (a' := ?_) #[true, false, true, false, false, false, false, false, false, false, false, false, false, false] rfl rfl (by kernel_rfl) (fun _ _ _ h => h) (Or.inl ⟨by rfl, ?_⟩) hHeld ?_ ?_
  · rintro w' ⟨s0, s1⟩
    exact load_yields 60 (.tmp 3) (by rfl) g3 (by rfl) 60 _ _ s1 Try.underlying60 rfl (by kernel_rfl)
  rotate_left
  · simp only [Act.put, List.setIfInBounds_toArray, List.set_cons_zero, List.set_cons_succ, i64_w, i32_w]
    rfl
  refine join_ (σ := St) 3 #[true, true, true, true, true, true, true, true, true, true, true, false, false, false] (fun s_ => [(26, .agg #[.slice s_.x.A0 la_0.length s_.x.c0, .slice s_.x.A1 la_1.length s_.x.c1, .bool ba_2, .bool ba_3, .bool ba_4, .bool ba_5, .slice s_.x.A6 la_6.length s_.x.c6, .slice s_.x.A7 la_7.length s_.x.c7, .int .i64 ba_8]), (28, .agg #[.int .i64 p0, .int .i64 p1, .int .i64 p2]), (29, .tuple #[.agg #[.slice s_.u.A0 lo_0.length s_.u.c0, .slice s_.u.A1 lo_1.length s_.u.c1, .bool bo_2, .bool bo_3, .bool bo_4, .bool bo_5, .slice s_.u.A6 lo_6.length s_.u.c6, .slice s_.u.A7 lo_7.length s_.u.c7, .int .i64 bo_8], .agg #[.int .i64 y0, .int .i64 y1], .bool ok]), (24, .tuple #[.agg #[.slice s_.u.A0 lo_0.length s_.u.c0, .slice s_.u.A1 lo_1.length s_.u.c1, .bool bo_2, .bool bo_3, .bool bo_4, .bool bo_5, .slice s_.u.A6 lo_6.length s_.u.c6, .slice s_.u.A7 lo_7.length s_.u.c7, .int .i64 bo_8], .agg #[.int .i64 y0, .int .i64 y1], .bool ok]), (30, .agg #[.slice s_.u.A0 lo_0.length s_.u.c0, .slice s_.u.A1 lo_1.length s_.u.c1, .bool bo_2, .bool bo_3, .bool bo_4, .bool bo_5, .slice s_.u.A6 lo_6.length s_.u.c6, .slice s_.u.A7 lo_7.length s_.u.c7, .int .i64 bo_8]), (31, .agg #[.int .i64 y0, .int .i64 y1]), (32, .bool ok), (6, .pointer (some ⟨s_.g, 0, none⟩)), (7, .pointer (some ⟨s_.h, 0, none⟩))]) (fun s_ w1 => J 3 true true ZM_ ZP_ w' la_0 la_1 la_6 la_7 lo_0 lo_1 lo_6 lo_7 s_ w1) ?_ ?_
  rotate_left
  · intro hs3tt
    refine join_ (σ := St) 8 #[true, true, true, true, false, false, false, false, false, true, true, false, false, false] (fun s_ => [(26, .agg #[.slice s_.x.A0 la_0.length s_.x.c0, .slice s_.x.A1 la_1.length s_.x.c1, .bool ba_2, .bool ba_3, .bool ba_4, .bool ba_5, .slice s_.x.A6 la_6.length s_.x.c6, .slice s_.x.A7 la_7.length s_.x.c7, .int .i64 ba_8]), (28, .agg #[.int .i64 p0, .int .i64 p1, .int .i64 p2]), (6, .pointer (some ⟨s_.g, 0, none⟩)), (7, .pointer (some ⟨s_.h, 0, none⟩))]) (fun s_ w1 => J 1 true true ZM_ ZP_ w' la_0 la_1 la_6 la_7 lo_0 lo_1 lo_6 lo_7 s_ w1) ?_ ?_
    · rintro ⟨⟨Ax_0, cx_0, Ax_1, cx_1, Ax_6, cx_6, Ax_7, cx_7, lox, hix⟩, ⟨Au_0, cu_0, Au_1, cu_1, Au_6, cu_6, Au_7, cu_7, lou, hiu⟩, gg, gh⟩ w1 hJ
      have hHeld : (fun w' => w'.heap[g2]? = some (.cells #[.slice Aa_0 la_0.length ca_0, .slice Aa_1 la_1.length ca_1, .bool ba_2, .bool ba_3, .bool ba_4, .bool ba_5, .slice Aa_6 la_6.length ca_6, .slice Aa_7 la_7.length ca_7, .int .i64 ba_8] 24 (0, 0)) ∧ w'.heap[g3]? = some (.cells #[.int .i64 p0, .int .i64 p1, .int .i64 p2] 60 (0, 0))) w1 := ⟨blk_below BK2.out hJ.hb, blk_below BK3.out hJ.hb⟩
      refine norm_ (a' := ?_) ?_ ?_
      rotate_left
      · simp only [putAll, Act.put, List.setIfInBounds_toArray, List.set_cons_zero, List.set_cons_succ]
        rfl
      refine one_ (i := 4) (N := some 29) #[true, true, true, true, true, false, false, false, false, true, true, false, false, false] rfl rfl (by kernel_rfl) (by decide) (fun K hK => ?_)
      refine goes_ Try.func44 (by kernel_rfl) rfl #[.agg #[.slice Ax_0 la_0.length cx_0, .slice Ax_1 la_1.length cx_1, .bool ba_2, .bool ba_3, .bool ba_4, .bool ba_5, .slice Ax_6 la_6.length cx_6, .slice Ax_7 la_7.length cx_7, .int .i64 ba_8], .agg #[.int .i64 p0, .int .i64 p1, .int .i64 p2]] (by rfl) rfl rfl (by (try simp only [List.map_toArray, List.map_cons, List.map_nil]); first | done | rfl) ?_
      refine (spec4 k Ax_0 cx_0 _ la_0 Ax_1 cx_1 _ la_1 ba_2 ba_3 ba_4 ba_5 Ax_6 cx_6 _ la_6 Ax_7 cx_7 _ la_7 ba_8 p0 p1 p2 lo_0 lo_1 bo_2 bo_3 bo_4 bo_5 lo_6 lo_7 bo_8 y0 y1 ok _ _ _ (hJ.hx rfl).2 Hsp.out).mono ?_
      rintro e w2 ⟨Au_0, cu_0, Au_1, cu_1, Au_6, cu_6, Au_7, cu_7, lou, hiu, rfl, h1, h2, h3, hR, hc⟩
      refine ⟨_, rfl, ?_⟩
      have hJ2 : J 3 true true ZM_ ZP_ w' la_0 la_1 la_6 la_7 lo_0 lo_1 lo_6 lo_7 ⟨⟨Ax_0, cx_0, Ax_1, cx_1, Ax_6, cx_6, Ax_7, cx_7, lox, hix⟩, ⟨Au_0, cu_0, Au_1, cu_1, Au_6, cu_6, Au_7, cu_7, lou, hiu⟩, gg, gh⟩ w2 := hJ.u h1 h2 h3 hR hc
      refine hK.out _ _ ⟨blk_below BK2.out hJ2.hb, blk_below BK3.out hJ2.hb⟩ (fun hHeld => ?_)
      refine norm_ (a' := ?_) ?_ ?_
      rotate_left
      · show Act.put _ (some 29) _ = _
        simp only [Act.put, List.setIfInBounds_toArray, List.set_cons_zero, List.set_cons_succ, i64_w, i32_w]
        rfl
      refine pure_ (i := 5) (N := some 24) (v := ?_) (a' := ?_) #[true, true, true, true, true, true, false, false, false, true, true, false, false, false] rfl rfl (by kernel_rfl) (fun _ _ _ h => h) (Or.inl ⟨by rfl, ?_⟩) ?_ ?_
      rotate_left
      · intro w'
        go_simp
        with_reducible rfl
      rotate_left
      · simp only [Act.put, List.setIfInBounds_toArray, List.set_cons_zero, List.set_cons_succ, i64_w, i32_w]
        rfl
      refine pure_ (i := 6) (N := some 30) (v := ?_) (a' := ?_) #[true, true, true, true, true, true, true, false, false, true, true, false, false, false] rfl rfl (by kernel_rfl) (fun _ _ _ h => h) (Or.inl ⟨by rfl, ?_⟩) ?_ ?_
      rotate_left
      · intro w'
        go_simp
        with_reducible rfl
      rotate_left
      · simp only [Act.put, List.setIfInBounds_toArray, List.set_cons_zero, List.set_cons_succ, i64_w, i32_w]
        rfl
      refine pure_ (i := 7) (N := some 31) (v := ?_) (a' := ?_) #[true, true, true, true, true, true, true, true, false, true, true, false, false, false] rfl rfl (by kernel_rfl) (fun _ _ _ h => h) (Or.inl ⟨by rfl, ?_⟩) ?_ ?_
      rotate_left
      · intro w'
        go_simp
        with_reducible rfl
      rotate_left
      · simp only [Act.put, List.setIfInBounds_toArray, List.set_cons_zero, List.set_cons_succ, i64_w, i32_w]
        rfl
      refine pure_ (i := 8) (N := some 32) (v := ?_) (a' := ?_) #[true, true, true, true, true, true, true, true, true, true, true, false, false, false] rfl rfl (by kernel_rfl) (fun _ _ _ h => h) (Or.inl ⟨by rfl, ?_⟩) ?_ ?_
      rotate_left
      · intro w'
        go_simp
        with_reducible rfl
      rotate_left
      · simp only [Act.put, List.setIfInBounds_toArray, List.set_cons_zero, List.set_cons_succ, i64_w, i32_w]
        rfl
      exact norm_ (by simp only [putAll, Act.put, List.setIfInBounds_toArray, List.set_cons_zero, List.set_cons_succ]) (hs3tt ⟨⟨Ax_0, cx_0, Ax_1, cx_1, Ax_6, cx_6, Ax_7, cx_7, lox, hix⟩, ⟨Au_0, cu_0, Au_1, cu_1, Au_6, cu_6, Au_7, cu_7, lou, hiu⟩, gg, gh⟩ _ hJ2)
    intro hs2tt
    refine join_ (σ := St) 4 #[true, true, true, true, true, true, true, true, true, true, false, false, false, false] (fun s_ => [(26, .agg #[.slice s_.x.A0 la_0.length s_.x.c0, .slice s_.x.A1 la_1.length s_.x.c1, .bool ba_2, .bool ba_3, .bool ba_4, .bool ba_5, .slice s_.x.A6 la_6.length s_.x.c6, .slice s_.x.A7 la_7.length s_.x.c7, .int .i64 ba_8]), (28, .agg #[.int .i64 p0, .int .i64 p1, .int .i64 p2]), (29, .tuple #[.agg #[.slice s_.u.A0 lo_0.length s_.u.c0, .slice s_.u.A1 lo_1.length s_.u.c1, .bool bo_2, .bool bo_3, .bool bo_4, .bool bo_5, .slice s_.u.A6 lo_6.length s_.u.c6, .slice s_.u.A7 lo_7.length s_.u.c7, .int .i64 bo_8], .agg #[.int .i64 y0, .int .i64 y1], .bool ok]), (24, .tuple #[.agg #[.slice s_.u.A0 lo_0.length s_.u.c0, .slice s_.u.A1 lo_1.length s_.u.c1, .bool bo_2, .bool bo_3, .bool bo_4, .bool bo_5, .slice s_.u.A6 lo_6.length s_.u.c6, .slice s_.u.A7 lo_7.length s_.u.c7, .int .i64 bo_8], .agg #[.int .i64 y0, .int .i64 y1], .bool ok]), (30, .agg #[.slice s_.u.A0 lo_0.length s_.u.c0, .slice s_.u.A1 lo_1.length s_.u.c1, .bool bo_2, .bool bo_3, .bool bo_4, .bool bo_5, .slice s_.u.A6 lo_6.length s_.u.c6, .slice s_.u.A7 lo_7.length s_.u.c7, .int .i64 bo_8]), (31, .agg #[.int .i64 y0, .int .i64 y1]), (32, .bool ok), (6, .pointer (some ⟨s_.g, 0, none⟩))]) (fun s_ w1 => J 3 true false ZM_ ZP_ w' la_0 la_1 la_6 la_7 lo_0 lo_1 lo_6 lo_7 s_ w1) ?_ ?_
    · rintro ⟨⟨Ax_0, cx_0, Ax_1, cx_1, Ax_6, cx_6, Ax_7, cx_7, lox, hix⟩, ⟨Au_0, cu_0, Au_1, cu_1, Au_6, cu_6, Au_7, cu_7, lou, hiu⟩, gg, gh⟩ w1 hJ
      have hHeld : (fun w' => w'.heap[g2]? = some (.cells #[.slice Aa_0 la_0.length ca_0, .slice Aa_1 la_1.length ca_1, .bool ba_2, .bool ba_3, .bool ba_4, .bool ba_5, .slice Aa_6 la_6.length ca_6, .slice Aa_7 la_7.length ca_7, .int .i64 ba_8] 24 (0, 0)) ∧ w'.heap[g3]? = some (.cells #[.int .i64 p0, .int .i64 p1, .int .i64 p2] 60 (0, 0))) w1 := ⟨blk_below BK2.out hJ.hb, blk_below BK3.out hJ.hb⟩
      refine norm_ (a' := ?_) ?_ ?_
      rotate_left
      · simp only [putAll, Act.put, List.setIfInBounds_toArray, List.set_cons_zero, List.set_cons_succ]
        rfl
      refine one_ (i := 10) (N := some 7) #[true, true, true, true, true, true, true, true, true, true, true, false, false, false] rfl rfl (by kernel_rfl) (by decide) (fun K hK => ?_)
      refine box_step ?hg (N := 7) ?hd (cs := #[.int .i64 0, .int .i64 0]) (t := 38) ?hr ?_; (case hd => rfl); (case hg => rfl); (case hr => first | (go_simp; done) | (go_simp; rfl))
      intro g2_ hg2 w2 hbox hb2
      have hJ2 : J 3 true true ZM_ ZP_ w' la_0 la_1 la_6 la_7 lo_0 lo_1 lo_6 lo_7 ⟨⟨Ax_0, cx_0, Ax_1, cx_1, Ax_6, cx_6, Ax_7, cx_7, lox, hix⟩, ⟨Au_0, cu_0, Au_1, cu_1, Au_6, cu_6, Au_7, cu_7, lou, hiu⟩, gg, g2_⟩ w2 := hJ.bh hg2 hbox hb2
      exact hK.out _ _ ⟨blk_below BK2.out hJ2.hb, blk_below BK3.out hJ2.hb⟩ (fun hHeld => norm_ (by show Act.put _ (some 7) _ = _; simp only [putAll, Act.put, List.setIfInBounds_toArray, List.set_cons_zero, List.set_cons_succ]) (hs3tt ⟨⟨Ax_0, cx_0, Ax_1, cx_1, Ax_6, cx_6, Ax_7, cx_7, lox, hix⟩, ⟨Au_0, cu_0, Au_1, cu_1, Au_6, cu_6, Au_7, cu_7, lou, hiu⟩, gg, g2_⟩ _ hJ2))
    intro hs3tf
    refine join_ (σ := St) 4 #[true, true, true, true, true, true, true, true, true, false, true, false, false, false] (fun s_ => [(26, .agg #[.slice s_.x.A0 la_0.length s_.x.c0, .slice s_.x.A1 la_1.length s_.x.c1, .bool ba_2, .bool ba_3, .bool ba_4, .bool ba_5, .slice s_.x.A6 la_6.length s_.x.c6, .slice s_.x.A7 la_7.length s_.x.c7, .int .i64 ba_8]), (28, .agg #[.int .i64 p0, .int .i64 p1, .int .i64 p2]), (29, .tuple #[.agg #[.slice s_.u.A0 lo_0.length s_.u.c0, .slice s_.u.A1 lo_1.length s_.u.c1, .bool bo_2, .bool bo_3, .bool bo_4, .bool bo_5, .slice s_.u.A6 lo_6.length s_.u.c6, .slice s_.u.A7 lo_7.length s_.u.c7, .int .i64 bo_8], .agg #[.int .i64 y0, .int .i64 y1], .bool ok]), (24, .tuple #[.agg #[.slice s_.u.A0 lo_0.length s_.u.c0, .slice s_.u.A1 lo_1.length s_.u.c1, .bool bo_2, .bool bo_3, .bool bo_4, .bool bo_5, .slice s_.u.A6 lo_6.length s_.u.c6, .slice s_.u.A7 lo_7.length s_.u.c7, .int .i64 bo_8], .agg #[.int .i64 y0, .int .i64 y1], .bool ok]), (30, .agg #[.slice s_.u.A0 lo_0.length s_.u.c0, .slice s_.u.A1 lo_1.length s_.u.c1, .bool bo_2, .bool bo_3, .bool bo_4, .bool bo_5, .slice s_.u.A6 lo_6.length s_.u.c6, .slice s_.u.A7 lo_7.length s_.u.c7, .int .i64 bo_8]), (31, .agg #[.int .i64 y0, .int .i64 y1]), (32, .bool ok), (7, .pointer (some ⟨s_.h, 0, none⟩))]) (fun s_ w1 => J 3 false true ZM_ ZP_ w' la_0 la_1 la_6 la_7 lo_0 lo_1 lo_6 lo_7 s_ w1) ?_ ?_
    · rintro ⟨⟨Ax_0, cx_0, Ax_1, cx_1, Ax_6, cx_6, Ax_7, cx_7, lox, hix⟩, ⟨Au_0, cu_0, Au_1, cu_1, Au_6, cu_6, Au_7, cu_7, lou, hiu⟩, gg, gh⟩ w1 hJ
      have hHeld : (fun w' => w'.heap[g2]? = some (.cells #[.slice Aa_0 la_0.length ca_0, .slice Aa_1 la_1.length ca_1, .bool ba_2, .bool ba_3, .bool ba_4, .bool ba_5, .slice Aa_6 la_6.length ca_6, .slice Aa_7 la_7.length ca_7, .int .i64 ba_8] 24 (0, 0)) ∧ w'.heap[g3]? = some (.cells #[.int .i64 p0, .int .i64 p1, .int .i64 p2] 60 (0, 0))) w1 := ⟨blk_below BK2.out hJ.hb, blk_below BK3.out hJ.hb⟩
      refine norm_ (a' := ?_) ?_ ?_
      rotate_left
      · simp only [putAll, Act.put, List.setIfInBounds_toArray, List.set_cons_zero, List.set_cons_succ]
        rfl
      refine one_ (i := 9) (N := some 6) #[true, true, true, true, true, true, true, true, true, true, true, false, false, false] rfl rfl (by kernel_rfl) (by decide) (fun K hK => ?_)
      refine box_step ?hg (N := 6) ?hd (cs := #[.slice none 0 0, .slice none 0 0, .bool false, .bool false, .bool false, .bool false, .slice none 0 0, .slice none 0 0, .int .i64 0]) (t := 28) ?hr ?_; (case hd => rfl); (case hg => rfl); (case hr => first | (go_simp; done) | (go_simp; rfl))
      intro g2_ hg2 w2 hbox hb2
      have hJ2 : J 3 true true ZM_ ZP_ w' la_0 la_1 la_6 la_7 lo_0 lo_1 lo_6 lo_7 ⟨⟨Ax_0, cx_0, Ax_1, cx_1, Ax_6, cx_6, Ax_7, cx_7, lox, hix⟩, ⟨Au_0, cu_0, Au_1, cu_1, Au_6, cu_6, Au_7, cu_7, lou, hiu⟩, g2_, gh⟩ w2 := hJ.bg hg2 hbox hb2
      exact hK.out _ _ ⟨blk_below BK2.out hJ2.hb, blk_below BK3.out hJ2.hb⟩ (fun hHeld => norm_ (by show Act.put _ (some 6) _ = _; simp only [putAll, Act.put, List.setIfInBounds_toArray, List.set_cons_zero, List.set_cons_succ]) (hs3tt ⟨⟨Ax_0, cx_0, Ax_1, cx_1, Ax_6, cx_6, Ax_7, cx_7, lox, hix⟩, ⟨Au_0, cu_0, Au_1, cu_1, Au_6, cu_6, Au_7, cu_7, lou, hiu⟩, g2_, gh⟩ _ hJ2))
    intro hs3ft
    refine join_ (σ := St) 9 #[true, true, true, false, false, false, false, false, false, true, true, false, false, false] (fun s_ => [(26, .agg #[.slice s_.x.A0 la_0.length s_.x.c0, .slice s_.x.A1 la_1.length s_.x.c1, .bool ba_2, .bool ba_3, .bool ba_4, .bool ba_5, .slice s_.x.A6 la_6.length s_.x.c6, .slice s_.x.A7 la_7.length s_.x.c7, .int .i64 ba_8]), (6, .pointer (some ⟨s_.g, 0, none⟩)), (7, .pointer (some ⟨s_.h, 0, none⟩))]) (fun s_ w1 => J 1 true true ZM_ ZP_ w' la_0 la_1 la_6 la_7 lo_0 lo_1 lo_6 lo_7 s_ w1) ?_ ?_
    · rintro ⟨⟨Ax_0, cx_0, Ax_1, cx_1, Ax_6, cx_6, Ax_7, cx_7, lox, hix⟩, ⟨Au_0, cu_0, Au_1, cu_1, Au_6, cu_6, Au_7, cu_7, lou, hiu⟩, gg, gh⟩ w1 hJ
      have hHeld : (fun w' => w'.heap[g2]? = some (.cells #[.slice Aa_0 la_0.length ca_0, .slice Aa_1 la_1.length ca_1, .bool ba_2, .bool ba_3, .bool ba_4, .bool ba_5, .slice Aa_6 la_6.length ca_6, .slice Aa_7 la_7.length ca_7, .int .i64 ba_8] 24 (0, 0)) ∧ w'.heap[g3]? = some (.cells #[.int .i64 p0, .int .i64 p1, .int .i64 p2] 60 (0, 0))) w1 := ⟨blk_below BK2.out hJ.hb, blk_below BK3.out hJ.hb⟩
      refine norm_ (a' := ?_) ?_ ?_
      rotate_left
      · simp only [putAll, Act.put, List.setIfInBounds_toArray, List.set_cons_zero, List.set_cons_succ]
        rfl
      refine one_ (i := 3) (N := some 28) #[true, true, true, true, false, false, false, false, false, true, true, false, false, false] rfl rfl (by kernel_rfl) (by decide) (fun K hK => ?_)
      refine goes_ Try.func45 (by kernel_rfl) rfl #[.agg #[.int .i64 p0, .int .i64 p1, .int .i64 p2]] (by rfl) rfl rfl (by (try simp only [List.map_toArray, List.map_cons, List.map_nil]); first | done | rfl) ?_
      refine (laws_toOpd.calls p0 p1 p2 p0 p1 p2 _ Htp.out).mono ?_
      rintro e w2 ⟨rfl, hb2⟩
      refine ⟨_, rfl, ?_⟩
      have hJ2 : J 1 true true ZM_ ZP_ w' la_0 la_1 la_6 la_7 lo_0 lo_1 lo_6 lo_7 ⟨⟨Ax_0, cx_0, Ax_1, cx_1, Ax_6, cx_6, Ax_7, cx_7, lox, hix⟩, ⟨Au_0, cu_0, Au_1, cu_1, Au_6, cu_6, Au_7, cu_7, lou, hiu⟩, gg, gh⟩ w2 := hJ.still hb2
      exact hK.out _ _ ⟨blk_below BK2.out hJ2.hb, blk_below BK3.out hJ2.hb⟩ (fun hHeld => norm_ (by show Act.put _ (some 28) _ = _; simp only [putAll, Act.put, List.setIfInBounds_toArray, List.set_cons_zero, List.set_cons_succ]) (hs2tt ⟨⟨Ax_0, cx_0, Ax_1, cx_1, Ax_6, cx_6, Ax_7, cx_7, lox, hix⟩, ⟨Au_0, cu_0, Au_1, cu_1, Au_6, cu_6, Au_7, cu_7, lou, hiu⟩, gg, gh⟩ _ hJ2))
    intro hs1tt
    refine join_ (σ := St) 9 #[true, true, true, true, false, false, false, false, false, true, false, false, false, false] (fun s_ => [(26, .agg #[.slice s_.x.A0 la_0.length s_.x.c0, .slice s_.x.A1 la_1.length s_.x.c1, .bool ba_2, .bool ba_3, .bool ba_4, .bool ba_5, .slice s_.x.A6 la_6.length s_.x.c6, .slice s_.x.A7 la_7.length s_.x.c7, .int .i64 ba_8]), (28, .agg #[.int .i64 p0, .int .i64 p1, .int .i64 p2]), (6, .pointer (some ⟨s_.g, 0, none⟩))]) (fun s_ w1 => J 1 true false ZM_ ZP_ w' la_0 la_1 la_6 la_7 lo_0 lo_1 lo_6 lo_7 s_ w1) ?_ ?_
    · rintro ⟨⟨Ax_0, cx_0, Ax_1, cx_1, Ax_6, cx_6, Ax_7, cx_7, lox, hix⟩, ⟨Au_0, cu_0, Au_1, cu_1, Au_6, cu_6, Au_7, cu_7, lou, hiu⟩, gg, gh⟩ w1 hJ
      have hHeld : (fun w' => w'.heap[g2]? = some (.cells #[.slice Aa_0 la_0.length ca_0, .slice Aa_1 la_1.length ca_1, .bool ba_2, .bool ba_3, .bool ba_4, .bool ba_5, .slice Aa_6 la_6.length ca_6, .slice Aa_7 la_7.length ca_7, .int .i64 ba_8] 24 (0, 0)) ∧ w'.heap[g3]? = some (.cells #[.int .i64 p0, .int .i64 p1, .int .i64 p2] 60 (0, 0))) w1 := ⟨blk_below BK2.out hJ.hb, blk_below BK3.out hJ.hb⟩
      refine norm_ (a' := ?_) ?_ ?_
      rotate_left
      · simp only [putAll, Act.put, List.setIfInBounds_toArray, List.set_cons_zero, List.set_cons_succ]
        rfl
      refine two_ (i := 4) (j := 10) (Ni := some 29) (Nj := some 7) #[true, true, true, true, true, false, false, false, false, true, false, false, false, false] #[true, true, true, true, false, false, false, false, false, true, true, false, false, false] rfl rfl rfl rfl (by kernel_rfl) (by decide) (by decide) (fun K hK => ?_) (fun K hK => ?_)
      · refine goes_ Try.func44 (by kernel_rfl) rfl #[.agg #[.slice Ax_0 la_0.length cx_0, .slice Ax_1 la_1.length cx_1, .bool ba_2, .bool ba_3, .bool ba_4, .bool ba_5, .slice Ax_6 la_6.length cx_6, .slice Ax_7 la_7.length cx_7, .int .i64 ba_8], .agg #[.int .i64 p0, .int .i64 p1, .int .i64 p2]] (by rfl) rfl rfl (by (try simp only [List.map_toArray, List.map_cons, List.map_nil]); first | done | rfl) ?_
        refine (spec4 k Ax_0 cx_0 _ la_0 Ax_1 cx_1 _ la_1 ba_2 ba_3 ba_4 ba_5 Ax_6 cx_6 _ la_6 Ax_7 cx_7 _ la_7 ba_8 p0 p1 p2 lo_0 lo_1 bo_2 bo_3 bo_4 bo_5 lo_6 lo_7 bo_8 y0 y1 ok _ _ _ (hJ.hx rfl).2 Hsp.out).mono ?_
        rintro e w2 ⟨Au_0, cu_0, Au_1, cu_1, Au_6, cu_6, Au_7, cu_7, lou, hiu, rfl, h1, h2, h3, hR, hc⟩
        refine ⟨_, rfl, ?_⟩
        have hJ2 : J 3 true false ZM_ ZP_ w' la_0 la_1 la_6 la_7 lo_0 lo_1 lo_6 lo_7 ⟨⟨Ax_0, cx_0, Ax_1, cx_1, Ax_6, cx_6, Ax_7, cx_7, lox, hix⟩, ⟨Au_0, cu_0, Au_1, cu_1, Au_6, cu_6, Au_7, cu_7, lou, hiu⟩, gg, gh⟩ w2 := hJ.u h1 h2 h3 hR hc
        refine hK.out _ _ ⟨blk_below BK2.out hJ2.hb, blk_below BK3.out hJ2.hb⟩ (fun hHeld => ?_)
        refine norm_ (a' := ?_) ?_ ?_
        rotate_left
        · show Act.put _ (some 29) _ = _
          simp only [Act.put, List.setIfInBounds_toArray, List.set_cons_zero, List.set_cons_succ, i64_w, i32_w]
          rfl
        refine pure_ (i := 5) (N := some 24) (v := ?_) (a' := ?_) #[true, true, true, true, true, true, false, false, false, true, false, false, false, false] rfl rfl (by kernel_rfl) (fun _ _ _ h => h) (Or.inl ⟨by rfl, ?_⟩) ?_ ?_
        rotate_left
        · intro w'
          go_simp
          with_reducible rfl
        rotate_left
        · simp only [Act.put, List.setIfInBounds_toArray, List.set_cons_zero, List.set_cons_succ, i64_w, i32_w]
          rfl
        refine pure_ (i := 6) (N := some 30) (v := ?_) (a' := ?_) #[true, true, true, true, true, true, true, false, false, true, false, false, false, false] rfl rfl (by kernel_rfl) (fun _ _ _ h => h) (Or.inl ⟨by rfl, ?_⟩) ?_ ?_
        rotate_left
        · intro w'
          go_simp
          with_reducible rfl
        rotate_left
        · simp only [Act.put, List.setIfInBounds_toArray, List.set_cons_zero, List.set_cons_succ, i64_w, i32_w]
          rfl
        refine pure_ (i := 7) (N := some 31) (v := ?_) (a' := ?_) #[true, true, true, true, true, true, true, true, false, true, false, false, false, false] rfl rfl (by kernel_rfl) (fun _ _ _ h => h) (Or.inl ⟨by rfl, ?_⟩) ?_ ?_
        rotate_left
        · intro w'
          go_simp
          with_reducible rfl
        rotate_left
        · simp only [Act.put, List.setIfInBounds_toArray, List.set_cons_zero, List.set_cons_succ, i64_w, i32_w]
          rfl
        refine pure_ (i := 8) (N := some 32) (v := ?_) (a' := ?_) #[true, true, true, true, true, true, true, true, true, true, false, false, false, false] rfl rfl (by kernel_rfl) (fun _ _ _ h => h) (Or.inl ⟨by rfl, ?_⟩) ?_ ?_
        rotate_left
        · intro w'
          go_simp
          with_reducible rfl
        rotate_left
        · simp only [Act.put, List.setIfInBounds_toArray, List.set_cons_zero, List.set_cons_succ, i64_w, i32_w]
          rfl
        exact norm_ (by simp only [putAll, Act.put, List.setIfInBounds_toArray, List.set_cons_zero, List.set_cons_succ]) (hs3tf ⟨⟨Ax_0, cx_0, Ax_1, cx_1, Ax_6, cx_6, Ax_7, cx_7, lox, hix⟩, ⟨Au_0, cu_0, Au_1, cu_1, Au_6, cu_6, Au_7, cu_7, lou, hiu⟩, gg, gh⟩ _ hJ2)
      · refine box_step ?hg (N := 7) ?hd (cs := #[.int .i64 0, .int .i64 0]) (t := 38) ?hr ?_; (case hd => rfl); (case hg => rfl); (case hr => first | (go_simp; done) | (go_simp; rfl))
        intro g2_ hg2 w2 hbox hb2
        have hJ2 : J 1 true true ZM_ ZP_ w' la_0 la_1 la_6 la_7 lo_0 lo_1 lo_6 lo_7 ⟨⟨Ax_0, cx_0, Ax_1, cx_1, Ax_6, cx_6, Ax_7, cx_7, lox, hix⟩, ⟨Au_0, cu_0, Au_1, cu_1, Au_6, cu_6, Au_7, cu_7, lou, hiu⟩, gg, g2_⟩ w2 := hJ.bh hg2 hbox hb2
        exact hK.out _ _ ⟨blk_below BK2.out hJ2.hb, blk_below BK3.out hJ2.hb⟩ (fun hHeld => norm_ (by show Act.put _ (some 7) _ = _; simp only [putAll, Act.put, List.setIfInBounds_toArray, List.set_cons_zero, List.set_cons_succ]) (hs2tt ⟨⟨Ax_0, cx_0, Ax_1, cx_1, Ax_6, cx_6, Ax_7, cx_7, lox, hix⟩, ⟨Au_0, cu_0, Au_1, cu_1, Au_6, cu_6, Au_7, cu_7, lou, hiu⟩, gg, g2_⟩ _ hJ2))
    intro hs2tf
    refine join_ (σ := St) 9 #[true, true, true, true, false, false, false, false, false, false, true, false, false, false] (fun s_ => [(26, .agg #[.slice s_.x.A0 la_0.length s_.x.c0, .slice s_.x.A1 la_1.length s_.x.c1, .bool ba_2, .bool ba_3, .bool ba_4, .bool ba_5, .slice s_.x.A6 la_6.length s_.x.c6, .slice s_.x.A7 la_7.length s_.x.c7, .int .i64 ba_8]), (28, .agg #[.int .i64 p0, .int .i64 p1, .int .i64 p2]), (7, .pointer (some ⟨s_.h, 0, none⟩))]) (fun s_ w1 => J 1 false true ZM_ ZP_ w' la_0 la_1 la_6 la_7 lo_0 lo_1 lo_6 lo_7 s_ w1) ?_ ?_
    · rintro ⟨⟨Ax_0, cx_0, Ax_1, cx_1, Ax_6, cx_6, Ax_7, cx_7, lox, hix⟩, ⟨Au_0, cu_0, Au_1, cu_1, Au_6, cu_6, Au_7, cu_7, lou, hiu⟩, gg, gh⟩ w1 hJ
      have hHeld : (fun w' => w'.heap[g2]? = some (.cells #[.slice Aa_0 la_0.length ca_0, .slice Aa_1 la_1.length ca_1, .bool ba_2, .bool ba_3, .bool ba_4, .bool ba_5, .slice Aa_6 la_6.length ca_6, .slice Aa_7 la_7.length ca_7, .int .i64 ba_8] 24 (0, 0)) ∧ w'.heap[g3]? = some (.cells #[.int .i64 p0, .int .i64 p1, .int .i64 p2] 60 (0, 0))) w1 := ⟨blk_below BK2.out hJ.hb, blk_below BK3.out hJ.hb⟩
      refine norm_ (a' := ?_) ?_ ?_
      rotate_left
      · simp only [putAll, Act.put, List.setIfInBounds_toArray, List.set_cons_zero, List.set_cons_succ]
        rfl
      refine two_ (i := 4) (j := 9) (Ni := some 29) (Nj := some 6) #[true, true, true, true, true, false, false, false, false, false, true, false, false, false] #[true, true, true, true, false, false, false, false, false, true, true, false, false, false] rfl rfl rfl rfl (by kernel_rfl) (by decide) (by decide) (fun K hK => ?_) (fun K hK => ?_)
      · refine goes_ Try.func44 (by kernel_rfl) rfl #[.agg #[.slice Ax_0 la_0.length cx_0, .slice Ax_1 la_1.length cx_1, .bool ba_2, .bool ba_3, .bool ba_4, .bool ba_5, .slice Ax_6 la_6.length cx_6, .slice Ax_7 la_7.length cx_7, .int .i64 ba_8], .agg #[.int .i64 p0, .int .i64 p1, .int .i64 p2]] (by rfl) rfl rfl (by (try simp only [List.map_toArray, List.map_cons, List.map_nil]); first | done | rfl) ?_
        refine (spec4 k Ax_0 cx_0 _ la_0 Ax_1 cx_1 _ la_1 ba_2 ba_3 ba_4 ba_5 Ax_6 cx_6 _ la_6 Ax_7 cx_7 _ la_7 ba_8 p0 p1 p2 lo_0 lo_1 bo_2 bo_3 bo_4 bo_5 lo_6 lo_7 bo_8 y0 y1 ok _ _ _ (hJ.hx rfl).2 Hsp.out).mono ?_
        rintro e w2 ⟨Au_0, cu_0, Au_1, cu_1, Au_6, cu_6, Au_7, cu_7, lou, hiu, rfl, h1, h2, h3, hR, hc⟩
        refine ⟨_, rfl, ?_⟩
        have hJ2 : J 3 false true ZM_ ZP_ w' la_0 la_1 la_6 la_7 lo_0 lo_1 lo_6 lo_7 ⟨⟨Ax_0, cx_0, Ax_1, cx_1, Ax_6, cx_6, Ax_7, cx_7, lox, hix⟩, ⟨Au_0, cu_0, Au_1, cu_1, Au_6, cu_6, Au_7, cu_7, lou, hiu⟩, gg, gh⟩ w2 := hJ.u h1 h2 h3 hR hc
        refine hK.out _ _ ⟨blk_below BK2.out hJ2.hb, blk_below BK3.out hJ2.hb⟩ (fun hHeld => ?_)
        refine norm_ (a' := ?_) ?_ ?_
        rotate_left
        · show Act.put _ (some 29) _ = _
          simp only [Act.put, List.setIfInBounds_toArray, List.set_cons_zero, List.set_cons_succ, i64_w, i32_w]
          rfl
        refine pure_ (i := 5) (N := some 24) (v := ?_) (a' := ?_) #[true, true, true, true, true, true, false, false, false, false, true, false, false, false] rfl rfl (by kernel_rfl) (fun _ _ _ h => h) (Or.inl ⟨by rfl, ?_⟩) ?_ ?_
        rotate_left
        · intro w'
          go_simp
          with_reducible rfl
        rotate_left
        · simp only [Act.put, List.setIfInBounds_toArray, List.set_cons_zero, List.set_cons_succ, i64_w, i32_w]
          rfl
        refine pure_ (i := 6) (N := some 30) (v := ?_) (a' := ?_) #[true, true, true, true, true, true, true, false, false, false, true, false, false, false] rfl rfl (by kernel_rfl) (fun _ _ _ h => h) (Or.inl ⟨by rfl, ?_⟩) ?_ ?_
        rotate_left
        · intro w'
          go_simp
          with_reducible rfl
        rotate_left
        · simp only [Act.put, List.setIfInBounds_toArray, List.set_cons_zero, List.set_cons_succ, i64_w, i32_w]
          rfl
        refine pure_ (i := 7) (N := some 31) (v := ?_) (a' := ?_) #[true, true, true, true, true, true, true, true, false, false, true, false, false, false] rfl rfl (by kernel_rfl) (fun _ _ _ h => h) (Or.inl ⟨by rfl, ?_⟩) ?_ ?_
        rotate_left
        · intro w'
          go_simp
          with_reducible rfl
        rotate_left
        · simp only [Act.put, List.setIfInBounds_toArray, List.set_cons_zero, List.set_cons_succ, i64_w, i32_w]
          rfl
        refine pure_ (i := 8) (N := some 32) (v := ?_) (a' := ?_) #[true, true, true, true, true, true, true, true, true, false, true, false, false, false] rfl rfl (by kernel_rfl) (fun _ _ _ h => h) (Or.inl ⟨by rfl, ?_⟩) ?_ ?_
        rotate_left
        · intro w'
          go_simp
          with_reducible rfl
        rotate_left
        · simp only [Act.put, List.setIfInBounds_toArray, List.set_cons_zero, List.set_cons_succ, i64_w, i32_w]
          rfl
        exact norm_ (by simp only [putAll, Act.put, List.setIfInBounds_toArray, List.set_cons_zero, List.set_cons_succ]) (hs3ft ⟨⟨Ax_0, cx_0, Ax_1, cx_1, Ax_6, cx_6, Ax_7, cx_7, lox, hix⟩, ⟨Au_0, cu_0, Au_1, cu_1, Au_6, cu_6, Au_7, cu_7, lou, hiu⟩, gg, gh⟩ _ hJ2)
      · refine box_step ?hg (N := 6) ?hd (cs := #[.slice none 0 0, .slice none 0 0, .bool false, .bool false, .bool false, .bool false, .slice none 0 0, .slice none 0 0, .int .i64 0]) (t := 28) ?hr ?_; (case hd => rfl); (case hg => rfl); (case hr => first | (go_simp; done) | (go_simp; rfl))
        intro g2_ hg2 w2 hbox hb2
        have hJ2 : J 1 true true ZM_ ZP_ w' la_0 la_1 la_6 la_7 lo_0 lo_1 lo_6 lo_7 ⟨⟨Ax_0, cx_0, Ax_1, cx_1, Ax_6, cx_6, Ax_7, cx_7, lox, hix⟩, ⟨Au_0, cu_0, Au_1, cu_1, Au_6, cu_6, Au_7, cu_7, lou, hiu⟩, g2_, gh⟩ w2 := hJ.bg hg2 hbox hb2
        exact hK.out _ _ ⟨blk_below BK2.out hJ2.hb, blk_below BK3.out hJ2.hb⟩ (fun hHeld => norm_ (by show Act.put _ (some 6) _ = _; simp only [putAll, Act.put, List.setIfInBounds_toArray, List.set_cons_zero, List.set_cons_succ]) (hs2tt ⟨⟨Ax_0, cx_0, Ax_1, cx_1, Ax_6, cx_6, Ax_7, cx_7, lox, hix⟩, ⟨Au_0, cu_0, Au_1, cu_1, Au_6, cu_6, Au_7, cu_7, lou, hiu⟩, g2_, gh⟩ _ hJ2))
    intro hs2ft
    refine join_ (σ := St) 5 #[true, true, true, true, true, true, true, true, true, false, false, false, false, false] (fun s_ => [(26, .agg #[.slice s_.x.A0 la_0.length s_.x.c0, .slice s_.x.A1 la_1.length s_.x.c1, .bool ba_2, .bool ba_3, .bool ba_4, .bool ba_5, .slice s_.x.A6 la_6.length s_.x.c6, .slice s_.x.A7 la_7.length s_.x.c7, .int .i64 ba_8]), (28, .agg #[.int .i64 p0, .int .i64 p1, .int .i64 p2]), (29, .tuple #[.agg #[.slice s_.u.A0 lo_0.length s_.u.c0, .slice s_.u.A1 lo_1.length s_.u.c1, .bool bo_2, .bool bo_3, .bool bo_4, .bool bo_5, .slice s_.u.A6 lo_6.length s_.u.c6, .slice s_.u.A7 lo_7.length s_.u.c7, .int .i64 bo_8], .agg #[.int .i64 y0, .int .i64 y1], .bool ok]), (24, .tuple #[.agg #[.slice s_.u.A0 lo_0.length s_.u.c0, .slice s_.u.A1 lo_1.length s_.u.c1, .bool bo_2, .bool bo_3, .bool bo_4, .bool bo_5, .slice s_.u.A6 lo_6.length s_.u.c6, .slice s_.u.A7 lo_7.length s_.u.c7, .int .i64 bo_8], .agg #[.int .i64 y0, .int .i64 y1], .bool ok]), (30, .agg #[.slice s_.u.A0 lo_0.length s_.u.c0, .slice s_.u.A1 lo_1.length s_.u.c1, .bool bo_2, .bool bo_3, .bool bo_4, .bool bo_5, .slice s_.u.A6 lo_6.length s_.u.c6, .slice s_.u.A7 lo_7.length s_.u.c7, .int .i64 bo_8]), (31, .agg #[.int .i64 y0, .int .i64 y1]), (32, .bool ok)]) (fun s_ w1 => J 3 false false ZM_ ZP_ w' la_0 la_1 la_6 la_7 lo_0 lo_1 lo_6 lo_7 s_ w1) ?_ ?_
    · rintro ⟨⟨Ax_0, cx_0, Ax_1, cx_1, Ax_6, cx_6, Ax_7, cx_7, lox, hix⟩, ⟨Au_0, cu_0, Au_1, cu_1, Au_6, cu_6, Au_7, cu_7, lou, hiu⟩, gg, gh⟩ w1 hJ
      have hHeld : (fun w' => w'.heap[g2]? = some (.cells #[.slice Aa_0 la_0.length ca_0, .slice Aa_1 la_1.length ca_1, .bool ba_2, .bool ba_3, .bool ba_4, .bool ba_5, .slice Aa_6 la_6.length ca_6, .slice Aa_7 la_7.length ca_7, .int .i64 ba_8] 24 (0, 0)) ∧ w'.heap[g3]? = some (.cells #[.int .i64 p0, .int .i64 p1, .int .i64 p2] 60 (0, 0))) w1 := ⟨blk_below BK2.out hJ.hb, blk_below BK3.out hJ.hb⟩
      refine norm_ (a' := ?_) ?_ ?_
      rotate_left
      · simp only [putAll, Act.put, List.setIfInBounds_toArray, List.set_cons_zero, List.set_cons_succ]
        rfl
      refine two_ (i := 9) (j := 10) (Ni := some 6) (Nj := some 7) #[true, true, true, true, true, true, true, true, true, true, false, false, false, false] #[true, true, true, true, true, true, true, true, true, false, true, false, false, false] rfl rfl rfl rfl (by kernel_rfl) (by decide) (by decide) (fun K hK => ?_) (fun K hK => ?_)
      · refine box_step ?hg (N := 6) ?hd (cs := #[.slice none 0 0, .slice none 0 0, .bool false, .bool false, .bool false, .bool false, .slice none 0 0, .slice none 0 0, .int .i64 0]) (t := 28) ?hr ?_; (case hd => rfl); (case hg => rfl); (case hr => first | (go_simp; done) | (go_simp; rfl))
        intro g2_ hg2 w2 hbox hb2
        have hJ2 : J 3 true false ZM_ ZP_ w' la_0 la_1 la_6 la_7 lo_0 lo_1 lo_6 lo_7 ⟨⟨Ax_0, cx_0, Ax_1, cx_1, Ax_6, cx_6, Ax_7, cx_7, lox, hix⟩, ⟨Au_0, cu_0, Au_1, cu_1, Au_6, cu_6, Au_7, cu_7, lou, hiu⟩, g2_, gh⟩ w2 := hJ.bg hg2 hbox hb2
        exact hK.out _ _ ⟨blk_below BK2.out hJ2.hb, blk_below BK3.out hJ2.hb⟩ (fun hHeld => norm_ (by show Act.put _ (some 6) _ = _; simp only [putAll, Act.put, List.setIfInBounds_toArray, List.set_cons_zero, List.set_cons_succ]) (hs3tf ⟨⟨Ax_0, cx_0, Ax_1, cx_1, Ax_6, cx_6, Ax_7, cx_7, lox, hix⟩, ⟨Au_0, cu_0, Au_1, cu_1, Au_6, cu_6, Au_7, cu_7, lou, hiu⟩, g2_, gh⟩ _ hJ2))
      · refine box_step ?hg (N := 7) ?hd (cs := #[.int .i64 0, .int .i64 0]) (t := 38) ?hr ?_; (case hd => rfl); (case hg => rfl); (case hr => first | (go_simp; done) | (go_simp; rfl))
        intro g2_ hg2 w2 hbox hb2
        have hJ2 : J 3 false true ZM_ ZP_ w' la_0 la_1 la_6 la_7 lo_0 lo_1 lo_6 lo_7 ⟨⟨Ax_0, cx_0, Ax_1, cx_1, Ax_6, cx_6, Ax_7, cx_7, lox, hix⟩, ⟨Au_0, cu_0, Au_1, cu_1, Au_6, cu_6, Au_7, cu_7, lou, hiu⟩, gg, g2_⟩ w2 := hJ.bh hg2 hbox hb2
        exact hK.out _ _ ⟨blk_below BK2.out hJ2.hb, blk_below BK3.out hJ2.hb⟩ (fun hHeld => norm_ (by show Act.put _ (some 7) _ = _; simp only [putAll, Act.put, List.setIfInBounds_toArray, List.set_cons_zero, List.set_cons_succ]) (hs3ft ⟨⟨Ax_0, cx_0, Ax_1, cx_1, Ax_6, cx_6, Ax_7, cx_7, lox, hix⟩, ⟨Au_0, cu_0, Au_1, cu_1, Au_6, cu_6, Au_7, cu_7, lou, hiu⟩, gg, g2_⟩ _ hJ2))
    intro hs3ff
    refine join_ (σ := St) 10 #[true, false, true, false, false, false, false, false, false, true, true, false, false, false] (fun s_ => [(6, .pointer (some ⟨s_.g, 0, none⟩)), (7, .pointer (some ⟨s_.h, 0, none⟩))]) (fun s_ w1 => J 0 true true ZM_ ZP_ w' la_0 la_1 la_6 la_7 lo_0 lo_1 lo_6 lo_7 s_ w1) ?_ ?_
    · rintro ⟨⟨Ax_0, cx_0, Ax_1, cx_1, Ax_6, cx_6, Ax_7, cx_7, lox, hix⟩, ⟨Au_0, cu_0, Au_1, cu_1, Au_6, cu_6, Au_7, cu_7, lou, hiu⟩, gg, gh⟩ w1 hJ
      have hHeld : (fun w' => w'.heap[g2]? = some (.cells #[.slice Aa_0 la_0.length ca_0, .slice Aa_1 la_1.length ca_1, .bool ba_2, .bool ba_3, .bool ba_4, .bool ba_5, .slice Aa_6 la_6.length ca_6, .slice Aa_7 la_7.length ca_7, .int .i64 ba_8] 24 (0, 0)) ∧ w'.heap[g3]? = some (.cells #[.int .i64 p0, .int .i64 p1, .int .i64 p2] 60 (0, 0))) w1 := ⟨blk_below BK2.out hJ.hb, blk_below BK3.out hJ.hb⟩
      refine norm_ (a' := ?_) ?_ ?_
      rotate_left
      · simp only [putAll, Act.put, List.setIfInBounds_toArray, List.set_cons_zero, List.set_cons_succ]
        rfl
      refine one_ (i := 1) (N := some 26) #[true, true, true, false, false, false, false, false, false, true, true, false, false, false] rfl rfl (by kernel_rfl) (by decide) (fun K hK => ?_)
      refine goes_ Try.func17 (by kernel_rfl) rfl #[.agg #[.slice Aa_0 la_0.length ca_0, .slice Aa_1 la_1.length ca_1, .bool ba_2, .bool ba_3, .bool ba_4, .bool ba_5, .slice Aa_6 la_6.length ca_6, .slice Aa_7 la_7.length ca_7, .int .i64 ba_8]] (by rfl) rfl rfl (by (try simp only [List.map_toArray, List.map_cons, List.map_nil]); first | done | rfl) ?_
      refine (to4 k Aa_0 ca_0 la_0 Aa_1 ca_1 la_1 ba_2 ba_3 ba_4 ba_5 Aa_6 ca_6 la_6 Aa_7 ca_7 la_7 ba_8 la_0 la_1 ba_2 ba_3 ba_4 ba_5 la_6 la_7 ba_8 w _ (below_ch HB.out (Ch.of_below hJ.hb) (Or.inl (Nat.le_refl _))) HR0.out HC0.out HR1.out HC1.out HR6.out HC6.out HR7.out HC7.out Hto.out).mono ?_
      rintro e w2 ⟨Ax_0, cx_0, Ax_1, cx_1, Ax_6, cx_6, Ax_7, cx_7, lox, hix, rfl, h1, h2, h3, hR, hc⟩
      refine ⟨_, rfl, ?_⟩
      have hJ2 : J 1 true true ZM_ ZP_ w' la_0 la_1 la_6 la_7 lo_0 lo_1 lo_6 lo_7 ⟨⟨Ax_0, cx_0, Ax_1, cx_1, Ax_6, cx_6, Ax_7, cx_7, lox, hix⟩, ⟨Au_0, cu_0, Au_1, cu_1, Au_6, cu_6, Au_7, cu_7, lou, hiu⟩, gg, gh⟩ w2 := hJ.x h1 h2 h3 hR hc
      exact hK.out _ _ ⟨blk_below BK2.out hJ2.hb, blk_below BK3.out hJ2.hb⟩ (fun hHeld => norm_ (by show Act.put _ (some 26) _ = _; simp only [putAll, Act.put, List.setIfInBounds_toArray, List.set_cons_zero, List.set_cons_succ]) (hs1tt ⟨⟨Ax_0, cx_0, Ax_1, cx_1, Ax_6, cx_6, Ax_7, cx_7, lox, hix⟩, ⟨Au_0, cu_0, Au_1, cu_1, Au_6, cu_6, Au_7, cu_7, lou, hiu⟩, gg, gh⟩ _ hJ2))
    intro hs0tt
    refine join_ (σ := St) 10 #[true, true, true, false, false, false, false, false, false, true, false, false, false, false] (fun s_ => [(26, .agg #[.slice s_.x.A0 la_0.length s_.x.c0, .slice s_.x.A1 la_1.length s_.x.c1, .bool ba_2, .bool ba_3, .bool ba_4, .bool ba_5, .slice s_.x.A6 la_6.length s_.x.c6, .slice s_.x.A7 la_7.length s_.x.c7, .int .i64 ba_8]), (6, .pointer (some ⟨s_.g, 0, none⟩))]) (fun s_ w1 => J 1 true false ZM_ ZP_ w' la_0 la_1 la_6 la_7 lo_0 lo_1 lo_6 lo_7 s_ w1) ?_ ?_
    · rintro ⟨⟨Ax_0, cx_0, Ax_1, cx_1, Ax_6, cx_6, Ax_7, cx_7, lox, hix⟩, ⟨Au_0, cu_0, Au_1, cu_1, Au_6, cu_6, Au_7, cu_7, lou, hiu⟩, gg, gh⟩ w1 hJ
      have hHeld : (fun w' => w'.heap[g2]? = some (.cells #[.slice Aa_0 la_0.length ca_0, .slice Aa_1 la_1.length ca_1, .bool ba_2, .bool ba_3, .bool ba_4, .bool ba_5, .slice Aa_6 la_6.length ca_6, .slice Aa_7 la_7.length ca_7, .int .i64 ba_8] 24 (0, 0)) ∧ w'.heap[g3]? = some (.cells #[.int .i64 p0, .int .i64 p1, .int .i64 p2] 60 (0, 0))) w1 := ⟨blk_below BK2.out hJ.hb, blk_below BK3.out hJ.hb⟩
      refine norm_ (a' := ?_) ?_ ?_
      rotate_left
      · simp only [putAll, Act.put, List.setIfInBounds_toArray, List.set_cons_zero, List.set_cons_succ]
        rfl
      refine two_ (i := 3) (j := 10) (Ni := some 28) (Nj := some 7) #[true, true, true, true, false, false, false, false, false, true, false, false, false, false] #[true, true, true, false, false, false, false, false, false, true, true, false, false, false] rfl rfl rfl rfl (by kernel_rfl) (by decide) (by decide) (fun K hK => ?_) (fun K hK => ?_)
      · refine goes_ Try.func45 (by kernel_rfl) rfl #[.agg #[.int .i64 p0, .int .i64 p1, .int .i64 p2]] (by rfl) rfl rfl (by (try simp only [List.map_toArray, List.map_cons, List.map_nil]); first | done | rfl) ?_
        refine (laws_toOpd.calls p0 p1 p2 p0 p1 p2 _ Htp.out).mono ?_
        rintro e w2 ⟨rfl, hb2⟩
        refine ⟨_, rfl, ?_⟩
        have hJ2 : J 1 true false ZM_ ZP_ w' la_0 la_1 la_6 la_7 lo_0 lo_1 lo_6 lo_7 ⟨⟨Ax_0, cx_0, Ax_1, cx_1, Ax_6, cx_6, Ax_7, cx_7, lox, hix⟩, ⟨Au_0, cu_0, Au_1, cu_1, Au_6, cu_6, Au_7, cu_7, lou, hiu⟩, gg, gh⟩ w2 := hJ.still hb2
        exact hK.out _ _ ⟨blk_below BK2.out hJ2.hb, blk_below BK3.out hJ2.hb⟩ (fun hHeld => norm_ (by show Act.put _ (some 28) _ = _; simp only [putAll, Act.put, List.setIfInBounds_toArray, List.set_cons_zero, List.set_cons_succ]) (hs2tf ⟨⟨Ax_0, cx_0, Ax_1, cx_1, Ax_6, cx_6, Ax_7, cx_7, lox, hix⟩, ⟨Au_0, cu_0, Au_1, cu_1, Au_6, cu_6, Au_7, cu_7, lou, hiu⟩, gg, gh⟩ _ hJ2))
      · refine box_step ?hg (N := 7) ?hd (cs := #[.int .i64 0, .int .i64 0]) (t := 38) ?hr ?_; (case hd => rfl); (case hg => rfl); (case hr => first | (go_simp; done) | (go_simp; rfl))
        intro g2_ hg2 w2 hbox hb2
        have hJ2 : J 1 true true ZM_ ZP_ w' la_0 la_1 la_6 la_7 lo_0 lo_1 lo_6 lo_7 ⟨⟨Ax_0, cx_0, Ax_1, cx_1, Ax_6, cx_6, Ax_7, cx_7, lox, hix⟩, ⟨Au_0, cu_0, Au_1, cu_1, Au_6, cu_6, Au_7, cu_7, lou, hiu⟩, gg, g2_⟩ w2 := hJ.bh hg2 hbox hb2
        exact hK.out _ _ ⟨blk_below BK2.out hJ2.hb, blk_below BK3.out hJ2.hb⟩ (fun hHeld => norm_ (by show Act.put _ (some 7) _ = _; simp only [putAll, Act.put, List.setIfInBounds_toArray, List.set_cons_zero, List.set_cons_succ]) (hs1tt ⟨⟨Ax_0, cx_0, Ax_1, cx_1, Ax_6, cx_6, Ax_7, cx_7, lox, hix⟩, ⟨Au_0, cu_0, Au_1, cu_1, Au_6, cu_6, Au_7, cu_7, lou, hiu⟩, gg, g2_⟩ _ hJ2))
    intro hs1tf
    refine join_ (σ := St) 10 #[true, true, true, false, false, false, false, false, false, false, true, false, false, false] (fun s_ => [(26, .agg #[.slice s_.x.A0 la_0.length s_.x.c0, .slice s_.x.A1 la_1.length s_.x.c1, .bool ba_2, .bool ba_3, .bool ba_4, .bool ba_5, .slice s_.x.A6 la_6.length s_.x.c6, .slice s_.x.A7 la_7.length s_.x.c7, .int .i64 ba_8]), (7, .pointer (some ⟨s_.h, 0, none⟩))]) (fun s_ w1 => J 1 false true ZM_ ZP_ w' la_0 la_1 la_6 la_7 lo_0 lo_1 lo_6 lo_7 s_ w1) ?_ ?_
    · rintro ⟨⟨Ax_0, cx_0, Ax_1, cx_1, Ax_6, cx_6, Ax_7, cx_7, lox, hix⟩, ⟨Au_0, cu_0, Au_1, cu_1, Au_6, cu_6, Au_7, cu_7, lou, hiu⟩, gg, gh⟩ w1 hJ
      have hHeld : (fun w' => w'.heap[g2]? = some (.cells #[.slice Aa_0 la_0.length ca_0, .slice Aa_1 la_1.length ca_1, .bool ba_2, .bool ba_3, .bool ba_4, .bool ba_5, .slice Aa_6 la_6.length ca_6, .slice Aa_7 la_7.length ca_7, .int .i64 ba_8] 24 (0, 0)) ∧ w'.heap[g3]? = some (.cells #[.int .i64 p0, .int .i64 p1, .int .i64 p2] 60 (0, 0))) w1 := ⟨blk_below BK2.out hJ.hb, blk_below BK3.out hJ.hb⟩
      refine norm_ (a' := ?_) ?_ ?_
      rotate_left
      · simp only [putAll, Act.put, List.setIfInBounds_toArray, List.set_cons_zero, List.set_cons_succ]
        rfl
      refine two_ (i := 3) (j := 9) (Ni := some 28) (Nj := some 6) #[true, true, true, true, false, false, false, false, false, false, true, false, false, false] #[true, true, true, false, false, false, false, false, false, true, true, false, false, false] rfl rfl rfl rfl (by kernel_rfl) (by decide) (by decide) (fun K hK => ?_) (fun K hK => ?_)
      · refine goes_ Try.func45 (by kernel_rfl) rfl #[.agg #[.int .i64 p0, .int .i64 p1, .int .i64 p2]] (by rfl) rfl rfl (by (try simp only [List.map_toArray, List.map_cons, List.map_nil]); first | done | rfl) ?_
        refine (laws_toOpd.calls p0 p1 p2 p0 p1 p2 _ Htp.out).mono ?_
        rintro e w2 ⟨rfl, hb2⟩
        refine ⟨_, rfl, ?_⟩
        have hJ2 : J 1 false true ZM_ ZP_ w' la_0 la_1 la_6 la_7 lo_0 lo_1 lo_6 lo_7 ⟨⟨Ax_0, cx_0, Ax_1, cx_1, Ax_6, cx_6, Ax_7, cx_7, lox, hix⟩, ⟨Au_0, cu_0, Au_1, cu_1, Au_6, cu_6, Au_7, cu_7, lou, hiu⟩, gg, gh⟩ w2 := hJ.still hb2
        exact hK.out _ _ ⟨blk_below BK2.out hJ2.hb, blk_below BK3.out hJ2.hb⟩ (fun hHeld => norm_ (by show Act.put _ (some 28) _ = _; simp only [putAll, Act.put, List.setIfInBounds_toArray, List.set_cons_zero, List.set_cons_succ]) (hs2ft ⟨⟨Ax_0, cx_0, Ax_1, cx_1, Ax_6, cx_6, Ax_7, cx_7, lox, hix⟩, ⟨Au_0, cu_0, Au_1, cu_1, Au_6, cu_6, Au_7, cu_7, lou, hiu⟩, gg, gh⟩ _ hJ2))
      · refine box_step ?hg (N := 6) ?hd (cs := #[.slice none 0 0, .slice none 0 0, .bool false, .bool false, .bool false, .bool false, .slice none 0 0, .slice none 0 0, .int .i64 0]) (t := 28) ?hr ?_; (case hd => rfl); (case hg => rfl); (case hr => first | (go_simp; done) | (go_simp; rfl))
        intro g2_ hg2 w2 hbox hb2
        have hJ2 : J 1 true true ZM_ ZP_ w' la_0 la_1 la_6 la_7 lo_0 lo_1 lo_6 lo_7 ⟨⟨Ax_0, cx_0, Ax_1, cx_1, Ax_6, cx_6, Ax_7, cx_7, lox, hix⟩, ⟨Au_0, cu_0, Au_1, cu_1, Au_6, cu_6, Au_7, cu_7, lou, hiu⟩, g2_, gh⟩ w2 := hJ.bg hg2 hbox hb2
        exact hK.out _ _ ⟨blk_below BK2.out hJ2.hb, blk_below BK3.out hJ2.hb⟩ (fun hHeld => norm_ (by show Act.put _ (some 6) _ = _; simp only [putAll, Act.put, List.setIfInBounds_toArray, List.set_cons_zero, List.set_cons_succ]) (hs1tt ⟨⟨Ax_0, cx_0, Ax_1, cx_1, Ax_6, cx_6, Ax_7, cx_7, lox, hix⟩, ⟨Au_0, cu_0, Au_1, cu_1, Au_6, cu_6, Au_7, cu_7, lou, hiu⟩, g2_, gh⟩ _ hJ2))
    intro hs1ft
    refine join_ (σ := St) 10 #[true, true, true, true, false, false, false, false, false, false, false, false, false, false] (fun s_ => [(26, .agg #[.slice s_.x.A0 la_0.length s_.x.c0, .slice s_.x.A1 la_1.length s_.x.c1, .bool ba_2, .bool ba_3, .bool ba_4, .bool ba_5, .slice s_.x.A6 la_6.length s_.x.c6, .slice s_.x.A7 la_7.length s_.x.c7, .int .i64 ba_8]), (28, .agg #[.int .i64 p0, .int .i64 p1, .int .i64 p2])]) (fun s_ w1 => J 1 false false ZM_ ZP_ w' la_0 la_1 la_6 la_7 lo_0 lo_1 lo_6 lo_7 s_ w1) ?_ ?_
    · rintro ⟨⟨Ax_0, cx_0, Ax_1, cx_1, Ax_6, cx_6, Ax_7, cx_7, lox, hix⟩, ⟨Au_0, cu_0, Au_1, cu_1, Au_6, cu_6, Au_7, cu_7, lou, hiu⟩, gg, gh⟩ w1 hJ
      have hHeld : (fun w' => w'.heap[g2]? = some (.cells #[.slice Aa_0 la_0.length ca_0, .slice Aa_1 la_1.length ca_1, .bool ba_2, .bool ba_3, .bool ba_4, .bool ba_5, .slice Aa_6 la_6.length ca_6, .slice Aa_7 la_7.length ca_7, .int .i64 ba_8] 24 (0, 0)) ∧ w'.heap[g3]? = some (.cells #[.int .i64 p0, .int .i64 p1, .int .i64 p2] 60 (0, 0))) w1 := ⟨blk_below BK2.out hJ.hb, blk_below BK3.out hJ.hb⟩
      refine norm_ (a' := ?_) ?_ ?_
      rotate_left
      · simp only [putAll, Act.put, List.setIfInBounds_toArray, List.set_cons_zero, List.set_cons_succ]
        rfl
      refine three_ (i := 4) (j := 9) (k := 10) (Ni := some 29) (Nj := some 6) (Nk := some 7) #[true, true, true, true, true, false, false, false, false, false, false, false, false, false] #[true, true, true, true, false, false, false, false, false, true, false, false, false, false] #[true, true, true, true, false, false, false, false, false, false, true, false, false, false] rfl rfl rfl rfl rfl rfl (by kernel_rfl) (by decide) (by decide) (by decide) (fun K hK => ?_) (fun K hK => ?_) (fun K hK => ?_)
      · refine goes_ Try.func44 (by kernel_rfl) rfl #[.agg #[.slice Ax_0 la_0.length cx_0, .slice Ax_1 la_1.length cx_1, .bool ba_2, .bool ba_3, .bool ba_4, .bool ba_5, .slice Ax_6 la_6.length cx_6, .slice Ax_7 la_7.length cx_7, .int .i64 ba_8], .agg #[.int .i64 p0, .int .i64 p1, .int .i64 p2]] (by rfl) rfl rfl (by (try simp only [List.map_toArray, List.map_cons, List.map_nil]); first | done | rfl) ?_
        refine (spec4 k Ax_0 cx_0 _ la_0 Ax_1 cx_1 _ la_1 ba_2 ba_3 ba_4 ba_5 Ax_6 cx_6 _ la_6 Ax_7 cx_7 _ la_7 ba_8 p0 p1 p2 lo_0 lo_1 bo_2 bo_3 bo_4 bo_5 lo_6 lo_7 bo_8 y0 y1 ok _ _ _ (hJ.hx rfl).2 Hsp.out).mono ?_
        rintro e w2 ⟨Au_0, cu_0, Au_1, cu_1, Au_6, cu_6, Au_7, cu_7, lou, hiu, rfl, h1, h2, h3, hR, hc⟩
        refine ⟨_, rfl, ?_⟩
        have hJ2 : J 3 false false ZM_ ZP_ w' la_0 la_1 la_6 la_7 lo_0 lo_1 lo_6 lo_7 ⟨⟨Ax_0, cx_0, Ax_1, cx_1, Ax_6, cx_6, Ax_7, cx_7, lox, hix⟩, ⟨Au_0, cu_0, Au_1, cu_1, Au_6, cu_6, Au_7, cu_7, lou, hiu⟩, gg, gh⟩ w2 := hJ.u h1 h2 h3 hR hc
        refine hK.out _ _ ⟨blk_below BK2.out hJ2.hb, blk_below BK3.out hJ2.hb⟩ (fun hHeld => ?_)
        refine norm_ (a' := ?_) ?_ ?_
        rotate_left
        · show Act.put _ (some 29) _ = _
          simp only [Act.put, List.setIfInBounds_toArray, List.set_cons_zero, List.set_cons_succ, i64_w, i32_w]
          rfl
        refine pure_ (i := 5) (N := some 24) (v := ?_) (a' := ?_) #[true, true, true, true, true, true, false, false, false, false, false, false, false, false] rfl rfl (by kernel_rfl) (fun _ _ _ h => h) (Or.inl ⟨by rfl, ?_⟩) ?_ ?_
        rotate_left
        · intro w'
          go_simp
          with_reducible rfl
        rotate_left
        · simp only [Act.put, List.setIfInBounds_toArray, List.set_cons_zero, List.set_cons_succ, i64_w, i32_w]
          rfl
        refine pure_ (i := 6) (N := some 30) (v := ?_) (a' := ?_) #[true, true, true, true, true, true, true, false, false, false, false, false, false, false] rfl rfl (by kernel_rfl) (fun _ _ _ h => h) (Or.inl ⟨by rfl, ?_⟩) ?_ ?_
        rotate_left
        · intro w'
          go_simp
          with_reducible rfl
        rotate_left
        · simp only [Act.put, List.setIfInBounds_toArray, List.set_cons_zero, List.set_cons_succ, i64_w, i32_w]
          rfl
        refine pure_ (i := 7) (N := some 31) (v := ?_) (a' := ?_) #[true, true, true, true, true, true, true, true, false, false, false, false, false, false] rfl rfl (by kernel_rfl) (fun _ _ _ h => h) (Or.inl ⟨by rfl, ?_⟩) ?_ ?_
        rotate_left
        · intro w'
          go_simp
          with_reducible rfl
        rotate_left
        · simp only [Act.put, List.setIfInBounds_toArray, List.set_cons_zero, List.set_cons_succ, i64_w, i32_w]
          rfl
        refine pure_ (i := 8) (N := some 32) (v := ?_) (a' := ?_) #[true, true, true, true, true, true, true, true, true, false, false, false, false, false] rfl rfl (by kernel_rfl) (fun _ _ _ h => h) (Or.inl ⟨by rfl, ?_⟩) ?_ ?_
        rotate_left
        · intro w'
          go_simp
          with_reducible rfl
        rotate_left
        · simp only [Act.put, List.setIfInBounds_toArray, List.set_cons_zero, List.set_cons_succ, i64_w, i32_w]
          rfl
        exact norm_ (by simp only [putAll, Act.put, List.setIfInBounds_toArray, List.set_cons_zero, List.set_cons_succ]) (hs3ff ⟨⟨Ax_0, cx_0, Ax_1, cx_1, Ax_6, cx_6, Ax_7, cx_7, lox, hix⟩, ⟨Au_0, cu_0, Au_1, cu_1, Au_6, cu_6, Au_7, cu_7, lou, hiu⟩, gg, gh⟩ _ hJ2)
      · refine box_step ?hg (N := 6) ?hd (cs := #[.slice none 0 0, .slice none 0 0, .bool false, .bool false, .bool false, .bool false, .slice none 0 0, .slice none 0 0, .int .i64 0]) (t := 28) ?hr ?_; (case hd => rfl); (case hg => rfl); (case hr => first | (go_simp; done) | (go_simp; rfl))
        intro g2_ hg2 w2 hbox hb2
        have hJ2 : J 1 true false ZM_ ZP_ w' la_0 la_1 la_6 la_7 lo_0 lo_1 lo_6 lo_7 ⟨⟨Ax_0, cx_0, Ax_1, cx_1, Ax_6, cx_6, Ax_7, cx_7, lox, hix⟩, ⟨Au_0, cu_0, Au_1, cu_1, Au_6, cu_6, Au_7, cu_7, lou, hiu⟩, g2_, gh⟩ w2 := hJ.bg hg2 hbox hb2
        exact hK.out _ _ ⟨blk_below BK2.out hJ2.hb, blk_below BK3.out hJ2.hb⟩ (fun hHeld => norm_ (by show Act.put _ (some 6) _ = _; simp only [putAll, Act.put, List.setIfInBounds_toArray, List.set_cons_zero, List.set_cons_succ]) (hs2tf ⟨⟨Ax_0, cx_0, Ax_1, cx_1, Ax_6, cx_6, Ax_7, cx_7, lox, hix⟩, ⟨Au_0, cu_0, Au_1, cu_1, Au_6, cu_6, Au_7, cu_7, lou, hiu⟩, g2_, gh⟩ _ hJ2))
      · refine box_step ?hg (N := 7) ?hd (cs := #[.int .i64 0, .int .i64 0]) (t := 38) ?hr ?_; (case hd => rfl); (case hg => rfl); (case hr => first | (go_simp; done) | (go_simp; rfl))
        intro g2_ hg2 w2 hbox hb2
        have hJ2 : J 1 false true ZM_ ZP_ w' la_0 la_1 la_6 la_7 lo_0 lo_1 lo_6 lo_7 ⟨⟨Ax_0, cx_0, Ax_1, cx_1, Ax_6, cx_6, Ax_7, cx_7, lox, hix⟩, ⟨Au_0, cu_0, Au_1, cu_1, Au_6, cu_6, Au_7, cu_7, lou, hiu⟩, gg, g2_⟩ w2 := hJ.bh hg2 hbox hb2
        exact hK.out _ _ ⟨blk_below BK2.out hJ2.hb, blk_below BK3.out hJ2.hb⟩ (fun hHeld => norm_ (by show Act.put _ (some 7) _ = _; simp only [putAll, Act.put, List.setIfInBounds_toArray, List.set_cons_zero, List.set_cons_succ]) (hs2ft ⟨⟨Ax_0, cx_0, Ax_1, cx_1, Ax_6, cx_6, Ax_7, cx_7, lox, hix⟩, ⟨Au_0, cu_0, Au_1, cu_1, Au_6, cu_6, Au_7, cu_7, lou, hiu⟩, gg, g2_⟩ _ hJ2))
    intro hs2ff
    refine join_ (σ := St) 11 #[true, false, true, false, false, false, false, false, false, true, false, false, false, false] (fun s_ => [(6, .pointer (some ⟨s_.g, 0, none⟩))]) (fun s_ w1 => J 0 true false ZM_ ZP_ w' la_0 la_1 la_6 la_7 lo_0 lo_1 lo_6 lo_7 s_ w1) ?_ ?_
    · rintro ⟨⟨Ax_0, cx_0, Ax_1, cx_1, Ax_6, cx_6, Ax_7, cx_7, lox, hix⟩, ⟨Au_0, cu_0, Au_1, cu_1, Au_6, cu_6, Au_7, cu_7, lou, hiu⟩, gg, gh⟩ w1 hJ
      have hHeld : (fun w' => w'.heap[g2]? = some (.cells #[.slice Aa_0 la_0.length ca_0, .slice Aa_1 la_1.length ca_1, .bool ba_2, .bool ba_3, .bool ba_4, .bool ba_5, .slice Aa_6 la_6.length ca_6, .slice Aa_7 la_7.length ca_7, .int .i64 ba_8] 24 (0, 0)) ∧ w'.heap[g3]? = some (.cells #[.int .i64 p0, .int .i64 p1, .int .i64 p2] 60 (0, 0))) w1 := ⟨blk_below BK2.out hJ.hb, blk_below BK3.out hJ.hb⟩
      refine norm_ (a' := ?_) ?_ ?_
      rotate_left
      · simp only [putAll, Act.put, List.setIfInBounds_toArray, List.set_cons_zero, List.set_cons_succ]
        rfl
      refine two_ (i := 1) (j := 10) (Ni := some 26) (Nj := some 7) #[true, true, true, false, false, false, false, false, false, true, false, false, false, false] #[true, false, true, false, false, false, false, false, false, true, true, false, false, false] rfl rfl rfl rfl (by kernel_rfl) (by decide) (by decide) (fun K hK => ?_) (fun K hK => ?_)
      · refine goes_ Try.func17 (by kernel_rfl) rfl #[.agg #[.slice Aa_0 la_0.length ca_0, .slice Aa_1 la_1.length ca_1, .bool ba_2, .bool ba_3, .bool ba_4, .bool ba_5, .slice Aa_6 la_6.length ca_6, .slice Aa_7 la_7.length ca_7, .int .i64 ba_8]] (by rfl) rfl rfl (by (try simp only [List.map_toArray, List.map_cons, List.map_nil]); first | done | rfl) ?_
        refine (to4 k Aa_0 ca_0 la_0 Aa_1 ca_1 la_1 ba_2 ba_3 ba_4 ba_5 Aa_6 ca_6 la_6 Aa_7 ca_7 la_7 ba_8 la_0 la_1 ba_2 ba_3 ba_4 ba_5 la_6 la_7 ba_8 w _ (below_ch HB.out (Ch.of_below hJ.hb) (Or.inl (Nat.le_refl _))) HR0.out HC0.out HR1.out HC1.out HR6.out HC6.out HR7.out HC7.out Hto.out).mono ?_
        rintro e w2 ⟨Ax_0, cx_0, Ax_1, cx_1, Ax_6, cx_6, Ax_7, cx_7, lox, hix, rfl, h1, h2, h3, hR, hc⟩
        refine ⟨_, rfl, ?_⟩
        have hJ2 : J 1 true false ZM_ ZP_ w' la_0 la_1 la_6 la_7 lo_0 lo_1 lo_6 lo_7 ⟨⟨Ax_0, cx_0, Ax_1, cx_1, Ax_6, cx_6, Ax_7, cx_7, lox, hix⟩, ⟨Au_0, cu_0, Au_1, cu_1, Au_6, cu_6, Au_7, cu_7, lou, hiu⟩, gg, gh⟩ w2 := hJ.x h1 h2 h3 hR hc
        exact hK.out _ _ ⟨blk_below BK2.out hJ2.hb, blk_below BK3.out hJ2.hb⟩ (fun hHeld => norm_ (by show Act.put _ (some 26) _ = _; simp only [putAll, Act.put, List.setIfInBounds_toArray, List.set_cons_zero, List.set_cons_succ]) (hs1tf ⟨⟨Ax_0, cx_0, Ax_1, cx_1, Ax_6, cx_6, Ax_7, cx_7, lox, hix⟩, ⟨Au_0, cu_0, Au_1, cu_1, Au_6, cu_6, Au_7, cu_7, lou, hiu⟩, gg, gh⟩ _ hJ2))
      · refine box_step ?hg (N := 7) ?hd (cs := #[.int .i64 0, .int .i64 0]) (t := 38) ?hr ?_; (case hd => rfl); (case hg => rfl); (case hr => first | (go_simp; done) | (go_simp; rfl))
        intro g2_ hg2 w2 hbox hb2
        have hJ2 : J 0 true true ZM_ ZP_ w' la_0 la_1 la_6 la_7 lo_0 lo_1 lo_6 lo_7 ⟨⟨Ax_0, cx_0, Ax_1, cx_1, Ax_6, cx_6, Ax_7, cx_7, lox, hix⟩, ⟨Au_0, cu_0, Au_1, cu_1, Au_6, cu_6, Au_7, cu_7, lou, hiu⟩, gg, g2_⟩ w2 := hJ.bh hg2 hbox hb2
        exact hK.out _ _ ⟨blk_below BK2.out hJ2.hb, blk_below BK3.out hJ2.hb⟩ (fun hHeld => norm_ (by show Act.put _ (some 7) _ = _; simp only [putAll, Act.put, List.setIfInBounds_toArray, List.set_cons_zero, List.set_cons_succ]) (hs0tt ⟨⟨Ax_0, cx_0, Ax_1, cx_1, Ax_6, cx_6, Ax_7, cx_7, lox, hix⟩, ⟨Au_0, cu_0, Au_1, cu_1, Au_6, cu_6, Au_7, cu_7, lou, hiu⟩, gg, g2_⟩ _ hJ2))
    intro hs0tf
    refine join_ (σ := St) 11 #[true, false, true, false, false, false, false, false, false, false, true, false, false, false] (fun s_ => [(7, .pointer (some ⟨s_.h, 0, none⟩))]) (fun s_ w1 => J 0 false true ZM_ ZP_ w' la_0 la_1 la_6 la_7 lo_0 lo_1 lo_6 lo_7 s_ w1) ?_ ?_
    · rintro ⟨⟨Ax_0, cx_0, Ax_1, cx_1, Ax_6, cx_6, Ax_7, cx_7, lox, hix⟩, ⟨Au_0, cu_0, Au_1, cu_1, Au_6, cu_6, Au_7, cu_7, lou, hiu⟩, gg, gh⟩ w1 hJ
      have hHeld : (fun w' => w'.heap[g2]? = some (.cells #[.slice Aa_0 la_0.length ca_0, .slice Aa_1 la_1.length ca_1, .bool ba_2, .bool ba_3, .bool ba_4, .bool ba_5, .slice Aa_6 la_6.length ca_6, .slice Aa_7 la_7.length ca_7, .int .i64 ba_8] 24 (0, 0)) ∧ w'.heap[g3]? = some (.cells #[.int .i64 p0, .int .i64 p1, .int .i64 p2] 60 (0, 0))) w1 := ⟨blk_below BK2.out hJ.hb, blk_below BK3.out hJ.hb⟩
      refine norm_ (a' := ?_) ?_ ?_
      rotate_left
      · simp only [putAll, Act.put, List.setIfInBounds_toArray, List.set_cons_zero, List.set_cons_succ]
        rfl
      refine two_ (i := 1) (j := 9) (Ni := some 26) (Nj := some 6) #[true, true, true, false, false, false, false, false, false, false, true, false, false, false] #[true, false, true, false, false, false, false, false, false, true, true, false, false, false] rfl rfl rfl rfl (by kernel_rfl) (by decide) (by decide) (fun K hK => ?_) (fun K hK => ?_)
      · refine goes_ Try.func17 (by kernel_rfl) rfl #[.agg #[.slice Aa_0 la_0.length ca_0, .slice Aa_1 la_1.length ca_1, .bool ba_2, .bool ba_3, .bool ba_4, .bool ba_5, .slice Aa_6 la_6.length ca_6, .slice Aa_7 la_7.length ca_7, .int .i64 ba_8]] (by rfl) rfl rfl (by (try simp only [List.map_toArray, List.map_cons, List.map_nil]); first | done | rfl) ?_
        refine (to4 k Aa_0 ca_0 la_0 Aa_1 ca_1 la_1 ba_2 ba_3 ba_4 ba_5 Aa_6 ca_6 la_6 Aa_7 ca_7 la_7 ba_8 la_0 la_1 ba_2 ba_3 ba_4 ba_5 la_6 la_7 ba_8 w _ (below_ch HB.out (Ch.of_below hJ.hb) (Or.inl (Nat.le_refl _))) HR0.out HC0.out HR1.out HC1.out HR6.out HC6.out HR7.out HC7.out Hto.out).mono ?_
        rintro e w2 ⟨Ax_0, cx_0, Ax_1, cx_1, Ax_6, cx_6, Ax_7, cx_7, lox, hix, rfl, h1, h2, h3, hR, hc⟩
        refine ⟨_, rfl, ?_⟩
        have hJ2 : J 1 false true ZM_ ZP_ w' la_0 la_1 la_6 la_7 lo_0 lo_1 lo_6 lo_7 ⟨⟨Ax_0, cx_0, Ax_1, cx_1, Ax_6, cx_6, Ax_7, cx_7, lox, hix⟩, ⟨Au_0, cu_0, Au_1, cu_1, Au_6, cu_6, Au_7, cu_7, lou, hiu⟩, gg, gh⟩ w2 := hJ.x h1 h2 h3 hR hc
        exact hK.out _ _ ⟨blk_below BK2.out hJ2.hb, blk_below BK3.out hJ2.hb⟩ (fun hHeld => norm_ (by show Act.put _ (some 26) _ = _; simp only [putAll, Act.put, List.setIfInBounds_toArray, List.set_cons_zero, List.set_cons_succ]) (hs1ft ⟨⟨Ax_0, cx_0, Ax_1, cx_1, Ax_6, cx_6, Ax_7, cx_7, lox, hix⟩, ⟨Au_0, cu_0, Au_1, cu_1, Au_6, cu_6, Au_7, cu_7, lou, hiu⟩, gg, gh⟩ _ hJ2))
      · refine box_step ?hg (N := 6) ?hd (cs := #[.slice none 0 0, .slice none 0 0, .bool false, .bool false, .bool false, .bool false, .slice none 0 0, .slice none 0 0, .int .i64 0]) (t := 28) ?hr ?_; (case hd => rfl); (case hg => rfl); (case hr => first | (go_simp; done) | (go_simp; rfl))
        intro g2_ hg2 w2 hbox hb2
        have hJ2 : J 0 true true ZM_ ZP_ w' la_0 la_1 la_6 la_7 lo_0 lo_1 lo_6 lo_7 ⟨⟨Ax_0, cx_0, Ax_1, cx_1, Ax_6, cx_6, Ax_7, cx_7, lox, hix⟩, ⟨Au_0, cu_0, Au_1, cu_1, Au_6, cu_6, Au_7, cu_7, lou, hiu⟩, g2_, gh⟩ w2 := hJ.bg hg2 hbox hb2
        exact hK.out _ _ ⟨blk_below BK2.out hJ2.hb, blk_below BK3.out hJ2.hb⟩ (fun hHeld => norm_ (by show Act.put _ (some 6) _ = _; simp only [putAll, Act.put, List.setIfInBounds_toArray, List.set_cons_zero, List.set_cons_succ]) (hs0tt ⟨⟨Ax_0, cx_0, Ax_1, cx_1, Ax_6, cx_6, Ax_7, cx_7, lox, hix⟩, ⟨Au_0, cu_0, Au_1, cu_1, Au_6, cu_6, Au_7, cu_7, lou, hiu⟩, g2_, gh⟩ _ hJ2))
    intro hs0ft
    refine join_ (σ := St) 11 #[true, true, true, false, false, false, false, false, false, false, false, false, false, false] (fun s_ => [(26, .agg #[.slice s_.x.A0 la_0.length s_.x.c0, .slice s_.x.A1 la_1.length s_.x.c1, .bool ba_2, .bool ba_3, .bool ba_4, .bool ba_5, .slice s_.x.A6 la_6.length s_.x.c6, .slice s_.x.A7 la_7.length s_.x.c7, .int .i64 ba_8])]) (fun s_ w1 => J 1 false false ZM_ ZP_ w' la_0 la_1 la_6 la_7 lo_0 lo_1 lo_6 lo_7 s_ w1) ?_ ?_
    · rintro ⟨⟨Ax_0, cx_0, Ax_1, cx_1, Ax_6, cx_6, Ax_7, cx_7, lox, hix⟩, ⟨Au_0, cu_0, Au_1, cu_1, Au_6, cu_6, Au_7, cu_7, lou, hiu⟩, gg, gh⟩ w1 hJ
      have hHeld : (fun w' => w'.heap[g2]? = some (.cells #[.slice Aa_0 la_0.length ca_0, .slice Aa_1 la_1.length ca_1, .bool ba_2, .bool ba_3, .bool ba_4, .bool ba_5, .slice Aa_6 la_6.length ca_6, .slice Aa_7 la_7.length ca_7, .int .i64 ba_8] 24 (0, 0)) ∧ w'.heap[g3]? = some (.cells #[.int .i64 p0, .int .i64 p1, .int .i64 p2] 60 (0, 0))) w1 := ⟨blk_below BK2.out hJ.hb, blk_below BK3.out hJ.hb⟩
      refine norm_ (a' := ?_) ?_ ?_
      rotate_left
      · simp only [putAll, Act.put, List.setIfInBounds_toArray, List.set_cons_zero, List.set_cons_succ]
        rfl
      refine three_ (i := 3) (j := 9) (k := 10) (Ni := some 28) (Nj := some 6) (Nk := some 7) #[true, true, true, true, false, false, false, false, false, false, false, false, false, false] #[true, true, true, false, false, false, false, false, false, true, false, false, false, false] #[true, true, true, false, false, false, false, false, false, false, true, false, false, false] rfl rfl rfl rfl rfl rfl (by kernel_rfl) (by decide) (by decide) (by decide) (fun K hK => ?_) (fun K hK => ?_) (fun K hK => ?_)
      · refine goes_ Try.func45 (by kernel_rfl) rfl #[.agg #[.int .i64 p0, .int .i64 p1, .int .i64 p2]] (by rfl) rfl rfl (by (try simp only [List.map_toArray, List.map_cons, List.map_nil]); first | done | rfl) ?_
        refine (laws_toOpd.calls p0 p1 p2 p0 p1 p2 _ Htp.out).mono ?_
        rintro e w2 ⟨rfl, hb2⟩
        refine ⟨_, rfl, ?_⟩
        have hJ2 : J 1 false false ZM_ ZP_ w' la_0 la_1 la_6 la_7 lo_0 lo_1 lo_6 lo_7 ⟨⟨Ax_0, cx_0, Ax_1, cx_1, Ax_6, cx_6, Ax_7, cx_7, lox, hix⟩, ⟨Au_0, cu_0, Au_1, cu_1, Au_6, cu_6, Au_7, cu_7, lou, hiu⟩, gg, gh⟩ w2 := hJ.still hb2
        exact hK.out _ _ ⟨blk_below BK2.out hJ2.hb, blk_below BK3.out hJ2.hb⟩ (fun hHeld => norm_ (by show Act.put _ (some 28) _ = _; simp only [putAll, Act.put, List.setIfInBounds_toArray, List.set_cons_zero, List.set_cons_succ]) (hs2ff ⟨⟨Ax_0, cx_0, Ax_1, cx_1, Ax_6, cx_6, Ax_7, cx_7, lox, hix⟩, ⟨Au_0, cu_0, Au_1, cu_1, Au_6, cu_6, Au_7, cu_7, lou, hiu⟩, gg, gh⟩ _ hJ2))
      · refine box_step ?hg (N := 6) ?hd (cs := #[.slice none 0 0, .slice none 0 0, .bool false, .bool false, .bool false, .bool false, .slice none 0 0, .slice none 0 0, .int .i64 0]) (t := 28) ?hr ?_; (case hd => rfl); (case hg => rfl); (case hr => first | (go_simp; done) | (go_simp; rfl))
        intro g2_ hg2 w2 hbox hb2
        have hJ2 : J 1 true false ZM_ ZP_ w' la_0 la_1 la_6 la_7 lo_0 lo_1 lo_6 lo_7 ⟨⟨Ax_0, cx_0, Ax_1, cx_1, Ax_6, cx_6, Ax_7, cx_7, lox, hix⟩, ⟨Au_0, cu_0, Au_1, cu_1, Au_6, cu_6, Au_7, cu_7, lou, hiu⟩, g2_, gh⟩ w2 := hJ.bg hg2 hbox hb2
        exact hK.out _ _ ⟨blk_below BK2.out hJ2.hb, blk_below BK3.out hJ2.hb⟩ (fun hHeld => norm_ (by show Act.put _ (some 6) _ = _; simp only [putAll, Act.put, List.setIfInBounds_toArray, List.set_cons_zero, List.set_cons_succ]) (hs1tf ⟨⟨Ax_0, cx_0, Ax_1, cx_1, Ax_6, cx_6, Ax_7, cx_7, lox, hix⟩, ⟨Au_0, cu_0, Au_1, cu_1, Au_6, cu_6, Au_7, cu_7, lou, hiu⟩, g2_, gh⟩ _ hJ2))
      · refine box_step ?hg (N := 7) ?hd (cs := #[.int .i64 0, .int .i64 0]) (t := 38) ?hr ?_; (case hd => rfl); (case hg => rfl); (case hr => first | (go_simp; done) | (go_simp; rfl))
        intro g2_ hg2 w2 hbox hb2
        have hJ2 : J 1 false true ZM_ ZP_ w' la_0 la_1 la_6 la_7 lo_0 lo_1 lo_6 lo_7 ⟨⟨Ax_0, cx_0, Ax_1, cx_1, Ax_6, cx_6, Ax_7, cx_7, lox, hix⟩, ⟨Au_0, cu_0, Au_1, cu_1, Au_6, cu_6, Au_7, cu_7, lou, hiu⟩, gg, g2_⟩ w2 := hJ.bh hg2 hbox hb2
        exact hK.out _ _ ⟨blk_below BK2.out hJ2.hb, blk_below BK3.out hJ2.hb⟩ (fun hHeld => norm_ (by show Act.put _ (some 7) _ = _; simp only [putAll, Act.put, List.setIfInBounds_toArray, List.set_cons_zero, List.set_cons_succ]) (hs1ft ⟨⟨Ax_0, cx_0, Ax_1, cx_1, Ax_6, cx_6, Ax_7, cx_7, lox, hix⟩, ⟨Au_0, cu_0, Au_1, cu_1, Au_6, cu_6, Au_7, cu_7, lou, hiu⟩, gg, g2_⟩ _ hJ2))
    intro hs1ff
    have hJ : J 0 false false ZM_ ZP_ w' la_0 la_1 la_6 la_7 lo_0 lo_1 lo_6 lo_7 ⟨⟨none, 0, none, 0, none, 0, none, 0, 0, 0⟩, ⟨none, 0, none, 0, none, 0, none, 0, 0, 0⟩, 0, 0⟩ w' := ⟨Below.refl _ _, fun e => absurd e (by decide), fun e => absurd e (by decide), fun e => absurd e (by decide), fun e => absurd e (by decide), fun e => absurd e (by decide), fun e => absurd e (by decide), fun e => absurd e (by decide)⟩
    refine three_ (i := 1) (j := 9) (k := 10) (Ni := some 26) (Nj := some 6) (Nk := some 7) #[true, true, true, false, false, false, false, false, false, false, false, false, false, false] #[true, false, true, false, false, false, false, false, false, true, false, false, false, false] #[true, false, true, false, false, false, false, false, false, false, true, false, false, false] rfl rfl rfl rfl rfl rfl (by kernel_rfl) (by decide) (by decide) (by decide) (fun K hK => ?_) (fun K hK => ?_) (fun K hK => ?_)
    · refine goes_ Try.func17 (by kernel_rfl) rfl #[.agg #[.slice Aa_0 la_0.length ca_0, .slice Aa_1 la_1.length ca_1, .bool ba_2, .bool ba_3, .bool ba_4, .bool ba_5, .slice Aa_6 la_6.length ca_6, .slice Aa_7 la_7.length ca_7, .int .i64 ba_8]] (by rfl) rfl rfl (by (try simp only [List.map_toArray, List.map_cons, List.map_nil]); first | done | rfl) ?_
      refine (to4 k Aa_0 ca_0 la_0 Aa_1 ca_1 la_1 ba_2 ba_3 ba_4 ba_5 Aa_6 ca_6 la_6 Aa_7 ca_7 la_7 ba_8 la_0 la_1 ba_2 ba_3 ba_4 ba_5 la_6 la_7 ba_8 w _ (below_ch HB.out (Ch.of_below hJ.hb) (Or.inl (Nat.le_refl _))) HR0.out HC0.out HR1.out HC1.out HR6.out HC6.out HR7.out HC7.out Hto.out).mono ?_
      rintro e w2 ⟨Ax_0, cx_0, Ax_1, cx_1, Ax_6, cx_6, Ax_7, cx_7, lox, hix, rfl, h1, h2, h3, hR, hc⟩
      refine ⟨_, rfl, ?_⟩
      have hJ2 : J 1 false false ZM_ ZP_ w' la_0 la_1 la_6 la_7 lo_0 lo_1 lo_6 lo_7 ⟨⟨Ax_0, cx_0, Ax_1, cx_1, Ax_6, cx_6, Ax_7, cx_7, lox, hix⟩, ⟨none, 0, none, 0, none, 0, none, 0, 0, 0⟩, 0, 0⟩ w2 := hJ.x h1 h2 h3 hR hc
      exact hK.out _ _ ⟨blk_below BK2.out hJ2.hb, blk_below BK3.out hJ2.hb⟩ (fun hHeld => norm_ (by show Act.put _ (some 26) _ = _; simp only [putAll, Act.put, List.setIfInBounds_toArray, List.set_cons_zero, List.set_cons_succ]) (hs1ff ⟨⟨Ax_0, cx_0, Ax_1, cx_1, Ax_6, cx_6, Ax_7, cx_7, lox, hix⟩, ⟨none, 0, none, 0, none, 0, none, 0, 0, 0⟩, 0, 0⟩ _ hJ2))
    · refine box_step ?hg (N := 6) ?hd (cs := #[.slice none 0 0, .slice none 0 0, .bool false, .bool false, .bool false, .bool false, .slice none 0 0, .slice none 0 0, .int .i64 0]) (t := 28) ?hr ?_; (case hd => rfl); (case hg => rfl); (case hr => first | (go_simp; done) | (go_simp; rfl))
      intro g2_ hg2 w2 hbox hb2
      have hJ2 : J 0 true false ZM_ ZP_ w' la_0 la_1 la_6 la_7 lo_0 lo_1 lo_6 lo_7 ⟨⟨none, 0, none, 0, none, 0, none, 0, 0, 0⟩, ⟨none, 0, none, 0, none, 0, none, 0, 0, 0⟩, g2_, 0⟩ w2 := hJ.bg hg2 hbox hb2
      exact hK.out _ _ ⟨blk_below BK2.out hJ2.hb, blk_below BK3.out hJ2.hb⟩ (fun hHeld => norm_ (by show Act.put _ (some 6) _ = _; simp only [putAll, Act.put, List.setIfInBounds_toArray, List.set_cons_zero, List.set_cons_succ]) (hs0tf ⟨⟨none, 0, none, 0, none, 0, none, 0, 0, 0⟩, ⟨none, 0, none, 0, none, 0, none, 0, 0, 0⟩, g2_, 0⟩ _ hJ2))
    · refine box_step ?hg (N := 7) ?hd (cs := #[.int .i64 0, .int .i64 0]) (t := 38) ?hr ?_; (case hd => rfl); (case hg => rfl); (case hr => first | (go_simp; done) | (go_simp; rfl))
      intro g2_ hg2 w2 hbox hb2
      have hJ2 : J 0 false true ZM_ ZP_ w' la_0 la_1 la_6 la_7 lo_0 lo_1 lo_6 lo_7 ⟨⟨none, 0, none, 0, none, 0, none, 0, 0, 0⟩, ⟨none, 0, none, 0, none, 0, none, 0, 0, 0⟩, 0, g2_⟩ w2 := hJ.bh hg2 hbox hb2
      exact hK.out _ _ ⟨blk_below BK2.out hJ2.hb, blk_below BK3.out hJ2.hb⟩ (fun hHeld => norm_ (by show Act.put _ (some 7) _ = _; simp only [putAll, Act.put, List.setIfInBounds_toArray, List.set_cons_zero, List.set_cons_succ]) (hs0ft ⟨⟨none, 0, none, 0, none, 0, none, 0, 0, 0⟩, ⟨none, 0, none, 0, none, 0, none, 0, 0, 0⟩, 0, g2_⟩ _ hJ2))
  rintro ⟨xx_, ⟨Au_0, cu_0, Au_1, cu_1, Au_6, cu_6, Au_7, cu_7, lou, hiu⟩, g6, g7⟩ w' hJ
  have hc := Ch.of_below hJ.hb
  have hU := hJ.hu rfl
  have F3 : Aside0 (g3 + 1 ≤ lou) := Aside0.mk (Nat.le_trans S.out hU.1.1)
  have F4 : Aside0 (lou ≤ hiu) := Aside0.mk hU.1.2.1
  have F5 : Aside0 (g3 + 1 ≤ g6) := Aside0.mk (Nat.le_trans S.out (hJ.hg rfl).1)
  have F6 : Aside0 (g3 + 1 ≤ g7) := Aside0.mk (Nat.le_trans S.out (hJ.hh rfl).1)
  have F7 : Aside0 (g6 + 1 ≤ g7 ∨ g7 + 1 ≤ g6) := Aside0.mk (by have q_ : g6 ≠ g7 := hJ.gh rfl rfl; omega)
  have F8 : Aside0 (g6 + 1 ≤ lou ∨ hiu ≤ g6) := Aside0.mk (hJ.gu rfl rfl)
  have F9 : Aside0 (g7 + 1 ≤ lou ∨ hiu ≤ g7) := Aside0.mk (hJ.hv rfl rfl)
  replace BK2 := Aside0.mk (blk_ch hc BK2.out (Or.inr (Nat.zero_le _)))
  replace BK3 := Aside0.mk (blk_ch hc BK3.out (Or.inr (Nat.zero_le _)))
  replace HB := Aside0.mk (below_ch HB.out hc (Or.inl (Nat.le_refl _)))
  replace S := Aside0.mk (Nat.le_trans S.out hc.size)
  obtain ⟨tp, htp⟩ : ∃ tp, tp = w'.heap.size := ⟨_, rfl⟩
  have F10 : Aside0 (hiu ≤ tp) := Aside0.mk (by have q_ : hiu ≤ w'.heap.size := hU.1.2.2; omega)
  have F11 : Aside0 (g6 + 1 ≤ tp) := Aside0.mk (by have q_ : g6 < w'.heap.size := blk_lt (hJ.hg rfl).2; omega)
  have F12 : Aside0 (g7 + 1 ≤ tp) := Aside0.mk (by have q_ : g7 < w'.heap.size := blk_lt (hJ.hh rfl).2; omega)
  clear S
  have S : Aside0 (tp ≤ w'.heap.size) := Aside0.mk (by omega)
  clear htp
  have Mu : Aside0 (R4 w' lou hiu (.slice Au_0 lo_0.length cu_0) (.slice Au_1 lo_1.length cu_1) (.slice Au_6 lo_6.length cu_6) (.slice Au_7 lo_7.length cu_7) lo_0 lo_1 lo_6 lo_7) := Aside0.mk hU.2
  have BK6 : Aside0 (w'.heap[g6]? = some (.cells #[.slice none 0 0, .slice none 0 0, .bool false, .bool false, .bool false, .bool false, .slice none 0 0, .slice none 0 0, .int .i64 0] 28 (0, 0))) := Aside0.mk (hJ.hg rfl).2
  have BK7 : Aside0 (w'.heap[g7]? = some (.cells #[.int .i64 0, .int .i64 0] 38 (0, 0))) := Aside0.mk (hJ.hh rfl).2
  clear hc hU hJ
  have hHeld : w'.heap[g2]? = some (.cells #[.slice Aa_0 la_0.length ca_0, .slice Aa_1 la_1.length ca_1, .bool ba_2, .bool ba_3, .bool ba_4, .bool ba_5, .slice Aa_6 la_6.length ca_6, .slice Aa_7 la_7.length ca_7, .int .i64 ba_8] 24 (0, 0)) ∧ w'.heap[g3]? = some (.cells #[.int .i64 p0, .int .i64 p1, .int .i64 p2] 60 (0, 0)) := ⟨BK2.out, BK3.out⟩
  refine norm_ (a' := ?_) ?_ ?_
  rotate_left
  · simp only [putAll, Act.put, List.setIfInBounds_toArray, List.set_cons_zero, List.set_cons_succ]
    rfl
  refine one_ (i := 11) (N := none) #[true, true, true, true, true, true, true, true, true, true, true, true, false, false] rfl rfl (by kernel_rfl) (by decide) (fun K hK => ?_)
  refine store_struct_step (by rfl) rfl 28 (.tmp 6) (.tmp 30) rfl (cs := #[.slice Au_0 lo_0.length cu_0, .slice Au_1 lo_1.length cu_1, .bool bo_2, .bool bo_3, .bool bo_4, .bool bo_5, .slice Au_6 lo_6.length cu_6, .slice Au_7 lo_7.length cu_7, .int .i64 bo_8]) (by rfl) (by rfl) BK6.out (by kernel_rfl) rfl (by repeat (first | exact fun _ h => absurd h List.not_mem_nil | refine List.forall_mem_cons.2 ⟨rfl, ?_⟩)) ?_
  intro w' hbox hc
  replace BK2 := Aside0.mk (blk_ch hc BK2.out (by have := F1.out; have := F2.out; have := F3.out; have := F4.out; have := F5.out; have := F6.out; have := F7.out; have := F8.out; have := F9.out; have := F10.out; have := F11.out; have := F12.out; have := S.out; omega))
  replace BK3 := Aside0.mk (blk_ch hc BK3.out (by have := F1.out; have := F2.out; have := F3.out; have := F4.out; have := F5.out; have := F6.out; have := F7.out; have := F8.out; have := F9.out; have := F10.out; have := F11.out; have := F12.out; have := S.out; omega))
  replace Mu := Aside0.mk (R4_ch Mu.out hc (by have := F1.out; have := F2.out; have := F3.out; have := F4.out; have := F5.out; have := F6.out; have := F7.out; have := F8.out; have := F9.out; have := F10.out; have := F11.out; have := F12.out; have := S.out; omega))
  replace BK7 := Aside0.mk (blk_ch hc BK7.out (by have := F1.out; have := F2.out; have := F3.out; have := F4.out; have := F5.out; have := F6.out; have := F7.out; have := F8.out; have := F9.out; have := F10.out; have := F11.out; have := F12.out; have := S.out; omega))
  replace HB := Aside0.mk (below_ch HB.out hc (Or.inr (by have := F1.out; have := F2.out; have := F3.out; have := F4.out; have := F5.out; have := F6.out; have := F7.out; have := F8.out; have := F9.out; have := F10.out; have := F11.out; have := F12.out; have := S.out; omega)))
  replace S := Aside0.mk (Nat.le_trans S.out hc.size)
  clear BK6
  have BK6 := Aside0.mk hbox
  clear hbox hc
  refine hK.out _ _ ⟨BK2.out, BK3.out⟩ (fun hHeld => ?_)
  clear hK K
  refine one_ (i := 12) (N := none) #[true, true, true, true, true, true, true, true, true, true, true, true, true, false] rfl rfl (by kernel_rfl) (by decide) (fun K hK => ?_)
  refine store_struct_step (by rfl) rfl 38 (.tmp 7) (.tmp 31) rfl (cs := #[.int .i64 y0, .int .i64 y1]) (by rfl) (by rfl) BK7.out (by kernel_rfl) rfl (by repeat (first | exact fun _ h => absurd h List.not_mem_nil | refine List.forall_mem_cons.2 ⟨rfl, ?_⟩)) ?_
  intro w' hbox hc
  replace BK2 := Aside0.mk (blk_ch hc BK2.out (by have := F1.out; have := F2.out; have := F3.out; have := F4.out; have := F5.out; have := F6.out; have := F7.out; have := F8.out; have := F9.out; have := F10.out; have := F11.out; have := F12.out; have := S.out; omega))
  replace BK3 := Aside0.mk (blk_ch hc BK3.out (by have := F1.out; have := F2.out; have := F3.out; have := F4.out; have := F5.out; have := F6.out; have := F7.out; have := F8.out; have := F9.out; have := F10.out; have := F11.out; have := F12.out; have := S.out; omega))
  replace Mu := Aside0.mk (R4_ch Mu.out hc (by have := F1.out; have := F2.out; have := F3.out; have := F4.out; have := F5.out; have := F6.out; have := F7.out; have := F8.out; have := F9.out; have := F10.out; have := F11.out; have := F12.out; have := S.out; omega))
  replace BK6 := Aside0.mk (blk_ch hc BK6.out (by have := F1.out; have := F2.out; have := F3.out; have := F4.out; have := F5.out; have := F6.out; have := F7.out; have := F8.out; have := F9.out; have := F10.out; have := F11.out; have := F12.out; have := S.out; omega))
  replace HB := Aside0.mk (below_ch HB.out hc (Or.inr (by have := F1.out; have := F2.out; have := F3.out; have := F4.out; have := F5.out; have := F6.out; have := F7.out; have := F8.out; have := F9.out; have := F10.out; have := F11.out; have := F12.out; have := S.out; omega)))
  replace S := Aside0.mk (Nat.le_trans S.out hc.size)
  clear BK7
  have BK7 := Aside0.mk hbox
  clear hbox hc
  refine hK.out _ _ ⟨BK2.out, BK3.out⟩ (fun hHeld => ?_)
  clear hK K
  refine pure_ (i := 13) (N := some 8) (v := ?_) (a' := ?_) #[true, true, true, true, true, true, true, true, true, true, true, true, true, true] rfl rfl (by kernel_rfl) (fun _ _ _ h => h) (Or.inl ⟨by rfl, ?_⟩) ?_ ?_
  rotate_left
  · intro w'
    go_simp
    with_reducible rfl
  rotate_left
  · simp only [Act.put, List.setIfInBounds_toArray, List.set_cons_zero, List.set_cons_succ, i64_w, i32_w]
    rfl
  refine done_ (by kernel_rfl) ?_
  go_wp2_with (first
    | ((with_reducible refine gate_ (.load 24 (.tmp 2)) rfl ?_); (try (refine gate_guard (by rfl) ?_; dsimp only)); refine wpList_load_row rfl 24 (.tmp 2) rfl g2 rfl 24 _ _ _ BK2.out Try.underlying24 rfl (by kernel_rfl) ?_)
    | ((with_reducible refine gate_callee (f := 17) rfl ?_); (try (refine gate_guard (by rfl) ?_; dsimp only)); refine goesL_ (some 34) rfl rfl Try.func17 (by kernel_rfl) rfl #[.agg #[.slice Aa_0 la_0.length ca_0, .slice Aa_1 la_1.length ca_1, .bool ba_2, .bool ba_3, .bool ba_4, .bool ba_5, .slice Aa_6 la_6.length ca_6, .slice Aa_7 la_7.length ca_7, .int .i64 ba_8]] rfl (by (try simp only [List.map_toArray, List.map_cons, List.map_nil]); first | done | rfl) ?_; refine (to4 k Aa_0 ca_0 la_0 Aa_1 ca_1 la_1 ba_2 ba_3 ba_4 ba_5 Aa_6 ca_6 la_6 Aa_7 ca_7 la_7 ba_8 la_0 la_1 ba_2 ba_3 ba_4 ba_5 la_6 la_7 ba_8 w _ HB.out HR0.out HC0.out HR1.out HC1.out HR6.out HC6.out HR7.out HC7.out Hto.out).mono ?_; rintro e w' ⟨Ay_0, cy_0, Ay_1, cy_1, Ay_6, cy_6, Ay_7, cy_7, loy, hiy, rfl, h1, h2, h3, hR, hc⟩; refine ⟨_, rfl, ?_⟩; have F13 : Aside0 (tp ≤ loy) := Aside0.mk (Nat.le_trans S.out h1); have F14 : Aside0 (loy ≤ hiy) := Aside0.mk h2; replace BK2 := Aside0.mk (blk_ch hc BK2.out (Or.inr (Nat.zero_le _))); replace BK3 := Aside0.mk (blk_ch hc BK3.out (Or.inr (Nat.zero_le _))); replace Mu := Aside0.mk (R4_ch Mu.out hc (Or.inr (Or.inr (Nat.zero_le _)))); replace BK6 := Aside0.mk (blk_ch hc BK6.out (Or.inr (Nat.zero_le _))); replace BK7 := Aside0.mk (blk_ch hc BK7.out (Or.inr (Nat.zero_le _))); replace HB := Aside0.mk (below_ch HB.out hc (Or.inl (Nat.le_refl _))); replace S := Aside0.mk (Nat.le_trans S.out hc.size); clear S; have S := Aside0.mk h3; have My := Aside0.mk hR; clear h1 h2 h3 hR hc)
    | ((with_reducible refine gate_dst (N := 9) rfl ?_); refine box_event ?hg (N := 9) ?hd (cs := #[.slice none 0 0, .slice none 0 0, .bool false, .bool false, .bool false, .bool false, .slice none 0 0, .slice none 0 0, .int .i64 0]) (t := 28) ?hr ?_; (case hd => rfl); (case hg => rfl); (case hr => first | (go_simp; done) | (go_simp; rfl)); intro g9 hg w' hbox hb; have hc := Ch.of_below hb; have F15 : Aside0 (hiy ≤ g9) := Aside0.mk (by have := S.out; omega); clear hg; replace BK2 := Aside0.mk (blk_ch hc BK2.out (Or.inr (Nat.zero_le _))); replace BK3 := Aside0.mk (blk_ch hc BK3.out (Or.inr (Nat.zero_le _))); replace Mu := Aside0.mk (R4_ch Mu.out hc (Or.inr (Or.inr (Nat.zero_le _)))); replace BK6 := Aside0.mk (blk_ch hc BK6.out (Or.inr (Nat.zero_le _))); replace BK7 := Aside0.mk (blk_ch hc BK7.out (Or.inr (Nat.zero_le _))); replace My := Aside0.mk (R4_ch My.out hc (Or.inr (Or.inr (Nat.zero_le _)))); replace HB := Aside0.mk (below_ch HB.out hc (Or.inl (Nat.le_refl _))); replace S := Aside0.mk (Nat.le_trans S.out hc.size); clear S; have S : Aside0 (g9 + 1 ≤ w'.heap.size) := Aside0.mk (blk_lt hbox); have BK9 := Aside0.mk hbox; clear hbox hb hc)
    | ((with_reducible refine gate_ (.store 28 (.tmp 9) (.tmp 34)) rfl ?_); refine store_struct rfl rfl 28 (.tmp 9) (.tmp 34) rfl (cs := #[.slice Ay_0 la_0.length cy_0, .slice Ay_1 la_1.length cy_1, .bool ba_2, .bool ba_3, .bool ba_4, .bool ba_5, .slice Ay_6 la_6.length cy_6, .slice Ay_7 la_7.length cy_7, .int .i64 ba_8]) rfl rfl BK9.out (by kernel_rfl) rfl (by repeat (first | exact fun _ h => absurd h List.not_mem_nil | refine List.forall_mem_cons.2 ⟨rfl, ?_⟩)) ?_; intro w' hbox hc; replace BK2 := Aside0.mk (blk_ch hc BK2.out (by have := F1.out; have := F2.out; have := F3.out; have := F4.out; have := F5.out; have := F6.out; have := F7.out; have := F8.out; have := F9.out; have := F10.out; have := F11.out; have := F12.out; have := F13.out; have := F14.out; have := F15.out; have := S.out; omega)); replace BK3 := Aside0.mk (blk_ch hc BK3.out (by have := F1.out; have := F2.out; have := F3.out; have := F4.out; have := F5.out; have := F6.out; have := F7.out; have := F8.out; have := F9.out; have := F10.out; have := F11.out; have := F12.out; have := F13.out; have := F14.out; have := F15.out; have := S.out; omega)); replace Mu := Aside0.mk (R4_ch Mu.out hc (by have := F1.out; have := F2.out; have := F3.out; have := F4.out; have := F5.out; have := F6.out; have := F7.out; have := F8.out; have := F9.out; have := F10.out; have := F11.out; have := F12.out; have := F13.out; have := F14.out; have := F15.out; have := S.out; omega)); replace BK6 := Aside0.mk (blk_ch hc BK6.out (by have := F1.out; have := F2.out; have := F3.out; have := F4.out; have := F5.out; have := F6.out; have := F7.out; have := F8.out; have := F9.out; have := F10.out; have := F11.out; have := F12.out; have := F13.out; have := F14.out; have := F15.out; have := S.out; omega)); replace BK7 := Aside0.mk (blk_ch hc BK7.out (by have := F1.out; have := F2.out; have := F3.out; have := F4.out; have := F5.out; have := F6.out; have := F7.out; have := F8.out; have := F9.out; have := F10.out; have := F11.out; have := F12.out; have := F13.out; have := F14.out; have := F15.out; have := S.out; omega)); replace My := Aside0.mk (R4_ch My.out hc (by have := F1.out; have := F2.out; have := F3.out; have := F4.out; have := F5.out; have := F6.out; have := F7.out; have := F8.out; have := F9.out; have := F10.out; have := F11.out; have := F12.out; have := F13.out; have := F14.out; have := F15.out; have := S.out; omega)); replace HB := Aside0.mk (below_ch HB.out hc (Or.inr (by have := F1.out; have := F2.out; have := F3.out; have := F4.out; have := F5.out; have := F6.out; have := F7.out; have := F8.out; have := F9.out; have := F10.out; have := F11.out; have := F12.out; have := F13.out; have := F14.out; have := F15.out; have := S.out; omega))); replace S := Aside0.mk (Nat.le_trans S.out hc.size); clear BK9; have BK9 := Aside0.mk hbox; clear hbox hc))
  have hc := Ch.drew w'
  replace BK2 := Aside0.mk (blk_ch hc BK2.out (Or.inr (Nat.zero_le _)))
  replace BK3 := Aside0.mk (blk_ch hc BK3.out (Or.inr (Nat.zero_le _)))
  replace Mu := Aside0.mk (R4_ch Mu.out hc (Or.inr (Or.inr (Nat.zero_le _))))
  replace BK6 := Aside0.mk (blk_ch hc BK6.out (Or.inr (Nat.zero_le _)))
  replace BK7 := Aside0.mk (blk_ch hc BK7.out (Or.inr (Nat.zero_le _)))
  replace My := Aside0.mk (R4_ch My.out hc (Or.inr (Or.inr (Nat.zero_le _))))
  replace BK9 := Aside0.mk (blk_ch hc BK9.out (Or.inr (Nat.zero_le _)))
  replace HB := Aside0.mk (below_ch HB.out hc (Or.inl (Nat.le_refl _)))
  replace S := Aside0.mk (Nat.le_trans S.out hc.size)
  clear hc
  refine start_ (n := 13) (S := fun w' => w'.heap[g3]? = some (.cells #[.int .i64 p0, .int .i64 p1, .int .i64 p2] 60 (0, 0)) ∧ w'.heap[g9]? = some (.cells #[.slice Ay_0 la_0.length cy_0, .slice Ay_1 la_1.length cy_1, .bool ba_2, .bool ba_3, .bool ba_4, .bool ba_5, .slice Ay_6 la_6.length cy_6, .slice Ay_7 la_7.length cy_7, .int .i64 ba_8] 28 (0, 0))) (ds := []) #[false, false, false, false, false, false, false, false, false, false, false, false, false] (by kernel_rfl) rfl rfl ⟨BK3.out, BK9.out⟩ (fun hHeld => ?_)
  generalize w'.drew = w' at BK2 BK3 Mu BK6 BK7 My BK9 HB S hHeld ⊢
  refine take_ (i := 0) (N := some 36) (v := .agg #[.slice Ay_0 la_0.length cy_0, .slice Ay_1 la_1.length cy_1, .bool ba_2, .bool ba_3, .bool ba_4, .bool ba_5, .slice Ay_6 la_6.length cy_6, .slice Ay_7 la_7.length cy_7, .int .i64 ba_8]) (a' := ?_) #[true, false, false, false, false, false, false, false, false, false, false, false, false] rfl rfl (by kernel_rfl) (fun _ _ _ h => h) (Or.inl ⟨by rfl, ?_⟩) hHeld ?_ ?_
  · rintro w' ⟨s0, s1⟩
    exact load_yields 28 (.tmp 9) (by rfl) g9 (by rfl) 28 _ _ s1 Try.underlying28 rfl (by kernel_rfl)
  rotate_left
  · simp only [Act.put, List.setIfInBounds_toArray, List.set_cons_zero, List.set_cons_succ, i64_w, i32_w]
    rfl
  refine take_ (i := 1) (N := some 37) (v := .agg #[.int .i64 p0, .int .i64 p1, .int .i64 p2]) (a' := ?_) #[true, true, false, false, false, false, false, false, false, false, false, false, false] rfl rfl (by kernel_rfl) (fun _ _ _ h => h) (Or.inl ⟨by rfl, ?_⟩) hHeld ?_ ?_
  · rintro w' ⟨s0, s1⟩
    exact load_yields 60 (.tmp 3) (by rfl) g3 (by rfl) 60 _ _ s0 Try.underlying60 rfl (by kernel_rfl)
  rotate_left
  · simp only [Act.put, List.setIfInBounds_toArray, List.set_cons_zero, List.set_cons_succ, i64_w, i32_w]
    rfl
  refine join_ (σ := St) 3 #[true, true, true, true, true, true, true, true, true, true, false, false, false] (fun s_ => [(38, .agg #[.int .i64 p0, .int .i64 p1, .int .i64 p2]), (39, .tuple #[.agg #[.slice s_.u.A0 lo_0.length s_.u.c0, .slice s_.u.A1 lo_1.length s_.u.c1, .bool bo_2, .bool bo_3, .bool bo_4, .bool bo_5, .slice s_.u.A6 lo_6.length s_.u.c6, .slice s_.u.A7 lo_7.length s_.u.c7, .int .i64 bo_8], .agg #[.int .i64 y0, .int .i64 y1], .bool ok]), (35, .tuple #[.agg #[.slice s_.u.A0 lo_0.length s_.u.c0, .slice s_.u.A1 lo_1.length s_.u.c1, .bool bo_2, .bool bo_3, .bool bo_4, .bool bo_5, .slice s_.u.A6 lo_6.length s_.u.c6, .slice s_.u.A7 lo_7.length s_.u.c7, .int .i64 bo_8], .agg #[.int .i64 y0, .int .i64 y1], .bool ok]), (40, .agg #[.slice s_.u.A0 lo_0.length s_.u.c0, .slice s_.u.A1 lo_1.length s_.u.c1, .bool bo_2, .bool bo_3, .bool bo_4, .bool bo_5, .slice s_.u.A6 lo_6.length s_.u.c6, .slice s_.u.A7 lo_7.length s_.u.c7, .int .i64 bo_8]), (41, .agg #[.int .i64 y0, .int .i64 y1]), (42, .bool ok), (10, .pointer (some ⟨s_.g, 0, none⟩)), (11, .pointer (some ⟨s_.h, 0, none⟩))]) (fun s_ w1 => J 3 true true ZM_ ZP_ w' la_0 la_1 la_6 la_7 lo_0 lo_1 lo_6 lo_7 s_ w1) ?_ ?_
  rotate_left
  · intro hs2tt
    refine join_ (σ := St) 8 #[true, true, true, false, false, false, false, false, true, true, false, false, false] (fun s_ => [(38, .agg #[.int .i64 p0, .int .i64 p1, .int .i64 p2]), (10, .pointer (some ⟨s_.g, 0, none⟩)), (11, .pointer (some ⟨s_.h, 0, none⟩))]) (fun s_ w1 => J 0 true true ZM_ ZP_ w' la_0 la_1 la_6 la_7 lo_0 lo_1 lo_6 lo_7 s_ w1) ?_ ?_
    · rintro ⟨⟨Ax_0, cx_0, Ax_1, cx_1, Ax_6, cx_6, Ax_7, cx_7, lox, hix⟩, ⟨Au_0, cu_0, Au_1, cu_1, Au_6, cu_6, Au_7, cu_7, lou, hiu⟩, gg, gh⟩ w1 hJ
      have hHeld : (fun w' => w'.heap[g3]? = some (.cells #[.int .i64 p0, .int .i64 p1, .int .i64 p2] 60 (0, 0)) ∧ w'.heap[g9]? = some (.cells #[.slice Ay_0 la_0.length cy_0, .slice Ay_1 la_1.length cy_1, .bool ba_2, .bool ba_3, .bool ba_4, .bool ba_5, .slice Ay_6 la_6.length cy_6, .slice Ay_7 la_7.length cy_7, .int .i64 ba_8] 28 (0, 0))) w1 := ⟨blk_below BK3.out hJ.hb, blk_below BK9.out hJ.hb⟩
      refine norm_ (a' := ?_) ?_ ?_
      rotate_left
      · simp only [putAll, Act.put, List.setIfInBounds_toArray, List.set_cons_zero, List.set_cons_succ]
        rfl
      refine one_ (i := 3) (N := some 39) #[true, true, true, true, false, false, false, false, true, true, false, false, false] rfl rfl (by kernel_rfl) (by decide) (fun K hK => ?_)
      refine goes_ Try.func46 (by kernel_rfl) rfl #[.agg #[.slice Ay_0 la_0.length cy_0, .slice Ay_1 la_1.length cy_1, .bool ba_2, .bool ba_3, .bool ba_4, .bool ba_5, .slice Ay_6 la_6.length cy_6, .slice Ay_7 la_7.length cy_7, .int .i64 ba_8], .agg #[.int .i64 p0, .int .i64 p1, .int .i64 p2]] (by rfl) rfl rfl (by (try simp only [List.map_toArray, List.map_cons, List.map_nil]); first | done | rfl) ?_
      refine (impl4 k Ay_0 cy_0 _ la_0 Ay_1 cy_1 _ la_1 ba_2 ba_3 ba_4 ba_5 Ay_6 cy_6 _ la_6 Ay_7 cy_7 _ la_7 ba_8 p0 p1 p2 lo_0 lo_1 bo_2 bo_3 bo_4 bo_5 lo_6 lo_7 bo_8 y0 y1 ok _ _ _ (R4_ch My.out (Ch.of_below hJ.hb) (Or.inr (Or.inr (Nat.zero_le _)))) Him.out).mono ?_
      rintro e w2 ⟨Au_0, cu_0, Au_1, cu_1, Au_6, cu_6, Au_7, cu_7, lou, hiu, rfl, h1, h2, h3, hR, hc⟩
      refine ⟨_, rfl, ?_⟩
      have hJ2 : J 3 true true ZM_ ZP_ w' la_0 la_1 la_6 la_7 lo_0 lo_1 lo_6 lo_7 ⟨⟨Ax_0, cx_0, Ax_1, cx_1, Ax_6, cx_6, Ax_7, cx_7, lox, hix⟩, ⟨Au_0, cu_0, Au_1, cu_1, Au_6, cu_6, Au_7, cu_7, lou, hiu⟩, gg, gh⟩ w2 := hJ.u h1 h2 h3 hR hc
      refine hK.out _ _ ⟨blk_below BK3.out hJ2.hb, blk_below BK9.out hJ2.hb⟩ (fun hHeld => ?_)
      refine norm_ (a' := ?_) ?_ ?_
      rotate_left
      · show Act.put _ (some 39) _ = _
        simp only [Act.put, List.setIfInBounds_toArray, List.set_cons_zero, List.set_cons_succ, i64_w, i32_w]
        rfl
      refine pure_ (i := 4) (N := some 35) (v := ?_) (a' := ?_) #[true, true, true, true, true, false, false, false, true, true, false, false, false] rfl rfl (by kernel_rfl) (fun _ _ _ h => h) (Or.inl ⟨by rfl, ?_⟩) ?_ ?_
      rotate_left
      · intro w'
        go_simp
        with_reducible rfl
      rotate_left
      · simp only [Act.put, List.setIfInBounds_toArray, List.set_cons_zero, List.set_cons_succ, i64_w, i32_w]
        rfl
      refine pure_ (i := 5) (N := some 40) (v := ?_) (a' := ?_) #[true, true, true, true, true, true, false, false, true, true, false, false, false] rfl rfl (by kernel_rfl) (fun _ _ _ h => h) (Or.inl ⟨by rfl, ?_⟩) ?_ ?_
      rotate_left
      · intro w'
        go_simp
        with_reducible rfl
      rotate_left
      · simp only [Act.put, List.setIfInBounds_toArray, List.set_cons_zero, List.set_cons_succ, i64_w, i32_w]
        rfl
      refine pure_ (i := 6) (N := some 41) (v := ?_) (a' := ?_) #[true, true, true, true, true, true, true, false, true, true, false, false, false] rfl rfl (by kernel_rfl) (fun _ _ _ h => h) (Or.inl ⟨by rfl, ?_⟩) ?_ ?_
      rotate_left
      · intro w'
        go_simp
        with_reducible rfl
      rotate_left
      · simp only [Act.put, List.setIfInBounds_toArray, List.set_cons_zero, List.set_cons_succ, i64_w, i32_w]
        rfl
      refine pure_ (i := 7) (N := some 42) (v := ?_) (a' := ?_) #[true, true, true, true, true, true, true, true, true, true, false, false, false] rfl rfl (by kernel_rfl) (fun _ _ _ h => h) (Or.inl ⟨by rfl, ?_⟩) ?_ ?_
      rotate_left
      · intro w'
        go_simp
        with_reducible rfl
      rotate_left
      · simp only [Act.put, List.setIfInBounds_toArray, List.set_cons_zero, List.set_cons_succ, i64_w, i32_w]
        rfl
      exact norm_ (by simp only [putAll, Act.put, List.setIfInBounds_toArray, List.set_cons_zero, List.set_cons_succ]) (hs2tt ⟨⟨Ax_0, cx_0, Ax_1, cx_1, Ax_6, cx_6, Ax_7, cx_7, lox, hix⟩, ⟨Au_0, cu_0, Au_1, cu_1, Au_6, cu_6, Au_7, cu_7, lou, hiu⟩, gg, gh⟩ _ hJ2)
    intro hs1tt
    refine join_ (σ := St) 4 #[true, true, true, true, true, true, true, true, true, false, false, false, false] (fun s_ => [(38, .agg #[.int .i64 p0, .int .i64 p1, .int .i64 p2]), (39, .tuple #[.agg #[.slice s_.u.A0 lo_0.length s_.u.c0, .slice s_.u.A1 lo_1.length s_.u.c1, .bool bo_2, .bool bo_3, .bool bo_4, .bool bo_5, .slice s_.u.A6 lo_6.length s_.u.c6, .slice s_.u.A7 lo_7.length s_.u.c7, .int .i64 bo_8], .agg #[.int .i64 y0, .int .i64 y1], .bool ok]), (35, .tuple #[.agg #[.slice s_.u.A0 lo_0.length s_.u.c0, .slice s_.u.A1 lo_1.length s_.u.c1, .bool bo_2, .bool bo_3, .bool bo_4, .bool bo_5, .slice s_.u.A6 lo_6.length s_.u.c6, .slice s_.u.A7 lo_7.length s_.u.c7, .int .i64 bo_8], .agg #[.int .i64 y0, .int .i64 y1], .bool ok]), (40, .agg #[.slice s_.u.A0 lo_0.length s_.u.c0, .slice s_.u.A1 lo_1.length s_.u.c1, .bool bo_2, .bool bo_3, .bool bo_4, .bool bo_5, .slice s_.u.A6 lo_6.length s_.u.c6, .slice s_.u.A7 lo_7.length s_.u.c7, .int .i64 bo_8]), (41, .agg #[.int .i64 y0, .int .i64 y1]), (42, .bool ok), (10, .pointer (some ⟨s_.g, 0, none⟩))]) (fun s_ w1 => J 3 true false ZM_ ZP_ w' la_0 la_1 la_6 la_7 lo_0 lo_1 lo_6 lo_7 s_ w1) ?_ ?_
    · rintro ⟨⟨Ax_0, cx_0, Ax_1, cx_1, Ax_6, cx_6, Ax_7, cx_7, lox, hix⟩, ⟨Au_0, cu_0, Au_1, cu_1, Au_6, cu_6, Au_7, cu_7, lou, hiu⟩, gg, gh⟩ w1 hJ
      have hHeld : (fun w' => w'.heap[g3]? = some (.cells #[.int .i64 p0, .int .i64 p1, .int .i64 p2] 60 (0, 0)) ∧ w'.heap[g9]? = some (.cells #[.slice Ay_0 la_0.length cy_0, .slice Ay_1 la_1.length cy_1, .bool ba_2, .bool ba_3, .bool ba_4, .bool ba_5, .slice Ay_6 la_6.length cy_6, .slice Ay_7 la_7.length cy_7, .int .i64 ba_8] 28 (0, 0))) w1 := ⟨blk_below BK3.out hJ.hb, blk_below BK9.out hJ.hb⟩
      refine norm_ (a' := ?_) ?_ ?_
      rotate_left
      · simp only [putAll, Act.put, List.setIfInBounds_toArray, List.set_cons_zero, List.set_cons_succ]
        rfl
      refine one_ (i := 9) (N := some 11) #[true, true, true, true, true, true, true, true, true, true, false, false, false] rfl rfl (by kernel_rfl) (by decide) (fun K hK => ?_)
      refine box_step ?hg (N := 11) ?hd (cs := #[.int .i64 0, .int .i64 0]) (t := 38) ?hr ?_; (case hd => rfl); (case hg => rfl); (case hr => first | (go_simp; done) | (go_simp; rfl))
      intro g2_ hg2 w2 hbox hb2
      have hJ2 : J 3 true true ZM_ ZP_ w' la_0 la_1 la_6 la_7 lo_0 lo_1 lo_6 lo_7 ⟨⟨Ax_0, cx_0, Ax_1, cx_1, Ax_6, cx_6, Ax_7, cx_7, lox, hix⟩, ⟨Au_0, cu_0, Au_1, cu_1, Au_6, cu_6, Au_7, cu_7, lou, hiu⟩, gg, g2_⟩ w2 := hJ.bh hg2 hbox hb2
      exact hK.out _ _ ⟨blk_below BK3.out hJ2.hb, blk_below BK9.out hJ2.hb⟩ (fun hHeld => norm_ (by show Act.put _ (some 11) _ = _; simp only [putAll, Act.put, List.setIfInBounds_toArray, List.set_cons_zero, List.set_cons_succ]) (hs2tt ⟨⟨Ax_0, cx_0, Ax_1, cx_1, Ax_6, cx_6, Ax_7, cx_7, lox, hix⟩, ⟨Au_0, cu_0, Au_1, cu_1, Au_6, cu_6, Au_7, cu_7, lou, hiu⟩, gg, g2_⟩ _ hJ2))
    intro hs2tf
    refine join_ (σ := St) 4 #[true, true, true, true, true, true, true, true, false, true, false, false, false] (fun s_ => [(38, .agg #[.int .i64 p0, .int .i64 p1, .int .i64 p2]), (39, .tuple #[.agg #[.slice s_.u.A0 lo_0.length s_.u.c0, .slice s_.u.A1 lo_1.length s_.u.c1, .bool bo_2, .bool bo_3, .bool bo_4, .bool bo_5, .slice s_.u.A6 lo_6.length s_.u.c6, .slice s_.u.A7 lo_7.length s_.u.c7, .int .i64 bo_8], .agg #[.int .i64 y0, .int .i64 y1], .bool ok]), (35, .tuple #[.agg #[.slice s_.u.A0 lo_0.length s_.u.c0, .slice s_.u.A1 lo_1.length s_.u.c1, .bool bo_2, .bool bo_3, .bool bo_4, .bool bo_5, .slice s_.u.A6 lo_6.length s_.u.c6, .slice s_.u.A7 lo_7.length s_.u.c7, .int .i64 bo_8], .agg #[.int .i64 y0, .int .i64 y1], .bool ok]), (40, .agg #[.slice s_.u.A0 lo_0.length s_.u.c0, .slice s_.u.A1 lo_1.length s_.u.c1, .bool bo_2, .bool bo_3, .bool bo_4, .bool bo_5, .slice s_.u.A6 lo_6.length s_.u.c6, .slice s_.u.A7 lo_7.length s_.u.c7, .int .i64 bo_8]), (41, .agg #[.int .i64 y0, .int .i64 y1]), (42, .bool ok), (11, .pointer (some ⟨s_.h, 0, none⟩))]) (fun s_ w1 => J 3 false true ZM_ ZP_ w' la_0 la_1 la_6 la_7 lo_0 lo_1 lo_6 lo_7 s_ w1) ?_ ?_
    · rintro ⟨⟨Ax_0, cx_0, Ax_1, cx_1, Ax_6, cx_6, Ax_7, cx_7, lox, hix⟩, ⟨Au_0, cu_0, Au_1, cu_1, Au_6, cu_6, Au_7, cu_7, lou, hiu⟩, gg, gh⟩ w1 hJ
      have hHeld : (fun w' => w'.heap[g3]? = some (.cells #[.int .i64 p0, .int .i64 p1, .int .i64 p2] 60 (0, 0)) ∧ w'.heap[g9]? = some (.cells #[.slice Ay_0 la_0.length cy_0, .slice Ay_1 la_1.length cy_1, .bool ba_2, .bool ba_3, .bool ba_4, .bool ba_5, .slice Ay_6 la_6.length cy_6, .slice Ay_7 la_7.length cy_7, .int .i64 ba_8] 28 (0, 0))) w1 := ⟨blk_below BK3.out hJ.hb, blk_below BK9.out hJ.hb⟩
      refine norm_ (a' := ?_) ?_ ?_
      rotate_left
      · simp only [putAll, Act.put, List.setIfInBounds_toArray, List.set_cons_zero, List.set_cons_succ]
        rfl
      refine one_ (i := 8) (N := some 10) #[true, true, true, true, true, true, true, true, true, true, false, false, false] rfl rfl (by kernel_rfl) (by decide) (fun K hK => ?_)
      refine box_step ?hg (N := 10) ?hd (cs := #[.slice none 0 0, .slice none 0 0, .bool false, .bool false, .bool false, .bool false, .slice none 0 0, .slice none 0 0, .int .i64 0]) (t := 28) ?hr ?_; (case hd => rfl); (case hg => rfl); (case hr => first | (go_simp; done) | (go_simp; rfl))
      intro g2_ hg2 w2 hbox hb2
      have hJ2 : J 3 true true ZM_ ZP_ w' la_0 la_1 la_6 la_7 lo_0 lo_1 lo_6 lo_7 ⟨⟨Ax_0, cx_0, Ax_1, cx_1, Ax_6, cx_6, Ax_7, cx_7, lox, hix⟩, ⟨Au_0, cu_0, Au_1, cu_1, Au_6, cu_6, Au_7, cu_7, lou, hiu⟩, g2_, gh⟩ w2 := hJ.bg hg2 hbox hb2
      exact hK.out _ _ ⟨blk_below BK3.out hJ2.hb, blk_below BK9.out hJ2.hb⟩ (fun hHeld => norm_ (by show Act.put _ (some 10) _ = _; simp only [putAll, Act.put, List.setIfInBounds_toArray, List.set_cons_zero, List.set_cons_succ]) (hs2tt ⟨⟨Ax_0, cx_0, Ax_1, cx_1, Ax_6, cx_6, Ax_7, cx_7, lox, hix⟩, ⟨Au_0, cu_0, Au_1, cu_1, Au_6, cu_6, Au_7, cu_7, lou, hiu⟩, g2_, gh⟩ _ hJ2))
    intro hs2ft
    refine join_ (σ := St) 9 #[true, true, false, false, false, false, false, false, true, true, false, false, false] (fun s_ => [(10, .pointer (some ⟨s_.g, 0, none⟩)), (11, .pointer (some ⟨s_.h, 0, none⟩))]) (fun s_ w1 => J 0 true true ZM_ ZP_ w' la_0 la_1 la_6 la_7 lo_0 lo_1 lo_6 lo_7 s_ w1) ?_ ?_
    · rintro ⟨⟨Ax_0, cx_0, Ax_1, cx_1, Ax_6, cx_6, Ax_7, cx_7, lox, hix⟩, ⟨Au_0, cu_0, Au_1, cu_1, Au_6, cu_6, Au_7, cu_7, lou, hiu⟩, gg, gh⟩ w1 hJ
      have hHeld : (fun w' => w'.heap[g3]? = some (.cells #[.int .i64 p0, .int .i64 p1, .int .i64 p2] 60 (0, 0)) ∧ w'.heap[g9]? = some (.cells #[.slice Ay_0 la_0.length cy_0, .slice Ay_1 la_1.length cy_1, .bool ba_2, .bool ba_3, .bool ba_4, .bool ba_5, .slice Ay_6 la_6.length cy_6, .slice Ay_7 la_7.length cy_7, .int .i64 ba_8] 28 (0, 0))) w1 := ⟨blk_below BK3.out hJ.hb, blk_below BK9.out hJ.hb⟩
      refine norm_ (a' := ?_) ?_ ?_
      rotate_left
      · simp only [putAll, Act.put, List.setIfInBounds_toArray, List.set_cons_zero, List.set_cons_succ]
        rfl
      refine one_ (i := 2) (N := some 38) #[true, true, true, false, false, false, false, false, true, true, false, false, false] rfl rfl (by kernel_rfl) (by decide) (fun K hK => ?_)
      refine goes_ Try.func45 (by kernel_rfl) rfl #[.agg #[.int .i64 p0, .int .i64 p1, .int .i64 p2]] (by rfl) rfl rfl (by (try simp only [List.map_toArray, List.map_cons, List.map_nil]); first | done | rfl) ?_
      refine (laws_toOpd.calls p0 p1 p2 p0 p1 p2 _ Htp.out).mono ?_
      rintro e w2 ⟨rfl, hb2⟩
      refine ⟨_, rfl, ?_⟩
      have hJ2 : J 0 true true ZM_ ZP_ w' la_0 la_1 la_6 la_7 lo_0 lo_1 lo_6 lo_7 ⟨⟨Ax_0, cx_0, Ax_1, cx_1, Ax_6, cx_6, Ax_7, cx_7, lox, hix⟩, ⟨Au_0, cu_0, Au_1, cu_1, Au_6, cu_6, Au_7, cu_7, lou, hiu⟩, gg, gh⟩ w2 := hJ.still hb2
      exact hK.out _ _ ⟨blk_below BK3.out hJ2.hb, blk_below BK9.out hJ2.hb⟩ (fun hHeld => norm_ (by show Act.put _ (some 38) _ = _; simp only [putAll, Act.put, List.setIfInBounds_toArray, List.set_cons_zero, List.set_cons_succ]) (hs1tt ⟨⟨Ax_0, cx_0, Ax_1, cx_1, Ax_6, cx_6, Ax_7, cx_7, lox, hix⟩, ⟨Au_0, cu_0, Au_1, cu_1, Au_6, cu_6, Au_7, cu_7, lou, hiu⟩, gg, gh⟩ _ hJ2))
    intro hs0tt
    refine join_ (σ := St) 9 #[true, true, true, false, false, false, false, false, true, false, false, false, false] (fun s_ => [(38, .agg #[.int .i64 p0, .int .i64 p1, .int .i64 p2]), (10, .pointer (some ⟨s_.g, 0, none⟩))]) (fun s_ w1 => J 0 true false ZM_ ZP_ w' la_0 la_1 la_6 la_7 lo_0 lo_1 lo_6 lo_7 s_ w1) ?_ ?_
    · rintro ⟨⟨Ax_0, cx_0, Ax_1, cx_1, Ax_6, cx_6, Ax_7, cx_7, lox, hix⟩, ⟨Au_0, cu_0, Au_1, cu_1, Au_6, cu_6, Au_7, cu_7, lou, hiu⟩, gg, gh⟩ w1 hJ
      have hHeld : (fun w' => w'.heap[g3]? = some (.cells #[.int .i64 p0, .int .i64 p1, .int .i64 p2] 60 (0, 0)) ∧ w'.heap[g9]? = some (.cells #[.slice Ay_0 la_0.length cy_0, .slice Ay_1 la_1.length cy_1, .bool ba_2, .bool ba_3, .bool ba_4, .bool ba_5, .slice Ay_6 la_6.length cy_6, .slice Ay_7 la_7.length cy_7, .int .i64 ba_8] 28 (0, 0))) w1 := ⟨blk_below BK3.out hJ.hb, blk_below BK9.out hJ.hb⟩
      refine norm_ (a' := ?_) ?_ ?_
      rotate_left
      · simp only [putAll, Act.put, List.setIfInBounds_toArray, List.set_cons_zero, List.set_cons_succ]
        rfl
      refine two_ (i := 3) (j := 9) (Ni := some 39) (Nj := some 11) #[true, true, true, true, false, false, false, false, true, false, false, false, false] #[true, true, true, false, false, false, false, false, true, true, false, false, false] rfl rfl rfl rfl (by kernel_rfl) (by decide) (by decide) (fun K hK => ?_) (fun K hK => ?_)
      · refine goes_ Try.func46 (by kernel_rfl) rfl #[.agg #[.slice Ay_0 la_0.length cy_0, .slice Ay_1 la_1.length cy_1, .bool ba_2, .bool ba_3, .bool ba_4, .bool ba_5, .slice Ay_6 la_6.length cy_6, .slice Ay_7 la_7.length cy_7, .int .i64 ba_8], .agg #[.int .i64 p0, .int .i64 p1, .int .i64 p2]] (by rfl) rfl rfl (by (try simp only [List.map_toArray, List.map_cons, List.map_nil]); first | done | rfl) ?_
        refine (impl4 k Ay_0 cy_0 _ la_0 Ay_1 cy_1 _ la_1 ba_2 ba_3 ba_4 ba_5 Ay_6 cy_6 _ la_6 Ay_7 cy_7 _ la_7 ba_8 p0 p1 p2 lo_0 lo_1 bo_2 bo_3 bo_4 bo_5 lo_6 lo_7 bo_8 y0 y1 ok _ _ _ (R4_ch My.out (Ch.of_below hJ.hb) (Or.inr (Or.inr (Nat.zero_le _)))) Him.out).mono ?_
        rintro e w2 ⟨Au_0, cu_0, Au_1, cu_1, Au_6, cu_6, Au_7, cu_7, lou, hiu, rfl, h1, h2, h3, hR, hc⟩
        refine ⟨_, rfl, ?_⟩
        have hJ2 : J 3 true false ZM_ ZP_ w' la_0 la_1 la_6 la_7 lo_0 lo_1 lo_6 lo_7 ⟨⟨Ax_0, cx_0, Ax_1, cx_1, Ax_6, cx_6, Ax_7, cx_7, lox, hix⟩, ⟨Au_0, cu_0, Au_1, cu_1, Au_6, cu_6, Au_7, cu_7, lou, hiu⟩, gg, gh⟩ w2 := hJ.u h1 h2 h3 hR hc
        refine hK.out _ _ ⟨blk_below BK3.out hJ2.hb, blk_below BK9.out hJ2.hb⟩ (fun hHeld => ?_)
        refine norm_ (a' := ?_) ?_ ?_
        rotate_left
        · show Act.put _ (some 39) _ = _
          simp only [Act.put, List.setIfInBounds_toArray, List.set_cons_zero, List.set_cons_succ, i64_w, i32_w]
          rfl
        refine pure_ (i := 4) (N := some 35) (v := ?_) (a' := ?_) #[true, true, true, true, true, false, false, false, true, false, false, false, false] rfl rfl (by kernel_rfl) (fun _ _ _ h => h) (Or.inl ⟨by rfl, ?_⟩) ?_ ?_
        rotate_left
        · intro w'
          go_simp
          with_reducible rfl
        rotate_left
        · simp only [Act.put, List.setIfInBounds_toArray, List.set_cons_zero, List.set_cons_succ, i64_w, i32_w]
          rfl
        refine pure_ (i := 5) (N := some 40) (v := ?_) (a' := ?_) #[true, true, true, true, true, true, false, false, true, false, false, false, false] rfl rfl (by kernel_rfl) (fun _ _ _ h => h) (Or.inl ⟨by rfl, ?_⟩) ?_ ?_
        rotate_left
        · intro w'
          go_simp
          with_reducible rfl
        rotate_left
        · simp only [Act.put, List.setIfInBounds_toArray, List.set_cons_zero, List.set_cons_succ, i64_w, i32_w]
          rfl
        refine pure_ (i := 6) (N := some 41) (v := ?_) (a' := ?_) #[true, true, true, true, true, true, true, false, true, false, false, false, false] rfl rfl (by kernel_rfl) (fun _ _ _ h => h) (Or.inl ⟨by rfl, ?_⟩) ?_ ?_
        rotate_left
        · intro w'
          go_simp
          with_reducible rfl
        rotate_left
        · simp only [Act.put, List.setIfInBounds_toArray, List.set_cons_zero, List.set_cons_succ, i64_w, i32_w]
          rfl
        refine pure_ (i := 7) (N := some 42) (v := ?_) (a' := ?_) #[true, true, true, true, true, true, true, true, true, false, false, false, false] rfl rfl (by kernel_rfl) (fun _ _ _ h => h) (Or.inl ⟨by rfl, ?_⟩) ?_ ?_
        rotate_left
        · intro w'
          go_simp
          with_reducible rfl
        rotate_left
        · simp only [Act.put, List.setIfInBounds_toArray, List.set_cons_zero, List.set_cons_succ, i64_w, i32_w]
          rfl
        exact norm_ (by simp only [putAll, Act.put, List.setIfInBounds_toArray, List.set_cons_zero, List.set_cons_succ]) (hs2tf ⟨⟨Ax_0, cx_0, Ax_1, cx_1, Ax_6, cx_6, Ax_7, cx_7, lox, hix⟩, ⟨Au_0, cu_0, Au_1, cu_1, Au_6, cu_6, Au_7, cu_7, lou, hiu⟩, gg, gh⟩ _ hJ2)
      · refine box_step ?hg (N := 11) ?hd (cs := #[.int .i64 0, .int .i64 0]) (t := 38) ?hr ?_; (case hd => rfl); (case hg => rfl); (case hr => first | (go_simp; done) | (go_simp; rfl))
        intro g2_ hg2 w2 hbox hb2
        have hJ2 : J 0 true true ZM_ ZP_ w' la_0 la_1 la_6 la_7 lo_0 lo_1 lo_6 lo_7 ⟨⟨Ax_0, cx_0, Ax_1, cx_1, Ax_6, cx_6, Ax_7, cx_7, lox, hix⟩, ⟨Au_0, cu_0, Au_1, cu_1, Au_6, cu_6, Au_7, cu_7, lou, hiu⟩, gg, g2_⟩ w2 := hJ.bh hg2 hbox hb2
        exact hK.out _ _ ⟨blk_below BK3.out hJ2.hb, blk_below BK9.out hJ2.hb⟩ (fun hHeld => norm_ (by show Act.put _ (some 11) _ = _; simp only [putAll, Act.put, List.setIfInBounds_toArray, List.set_cons_zero, List.set_cons_succ]) (hs1tt ⟨⟨Ax_0, cx_0, Ax_1, cx_1, Ax_6, cx_6, Ax_7, cx_7, lox, hix⟩, ⟨Au_0, cu_0, Au_1, cu_1, Au_6, cu_6, Au_7, cu_7, lou, hiu⟩, gg, g2_⟩ _ hJ2))
    intro hs1tf
    refine join_ (σ := St) 9 #[true, true, true, false, false, false, false, false, false, true, false, false, false] (fun s_ => [(38, .agg #[.int .i64 p0, .int .i64 p1, .int .i64 p2]), (11, .pointer (some ⟨s_.h, 0, none⟩))]) (fun s_ w1 => J 0 false true ZM_ ZP_ w' la_0 la_1 la_6 la_7 lo_0 lo_1 lo_6 lo_7 s_ w1) ?_ ?_
    · rintro ⟨⟨Ax_0, cx_0, Ax_1, cx_1, Ax_6, cx_6, Ax_7, cx_7, lox, hix⟩, ⟨Au_0, cu_0, Au_1, cu_1, Au_6, cu_6, Au_7, cu_7, lou, hiu⟩, gg, gh⟩ w1 hJ
      have hHeld : (fun w' => w'.heap[g3]? = some (.cells #[.int .i64 p0, .int .i64 p1, .int .i64 p2] 60 (0, 0)) ∧ w'.heap[g9]? = some (.cells #[.slice Ay_0 la_0.length cy_0, .slice Ay_1 la_1.length cy_1, .bool ba_2, .bool ba_3, .bool ba_4, .bool ba_5, .slice Ay_6 la_6.length cy_6, .slice Ay_7 la_7.length cy_7, .int .i64 ba_8] 28 (0, 0))) w1 := ⟨blk_below BK3.out hJ.hb, blk_below BK9.out hJ.hb⟩
      refine norm_ (a' := ?_) ?_ ?_
      rotate_left
      · simp only [putAll, Act.put, List.setIfInBounds_toArray, List.set_cons_zero, List.set_cons_succ]
        rfl
      refine two_ (i := 3) (j := 8) (Ni := some 39) (Nj := some 10) #[true, true, true, true, false, false, false, false, false, true, false, false, false] #[true, true, true, false, false, false, false, false, true, true, false, false, false] rfl rfl rfl rfl (by kernel_rfl) (by decide) (by decide) (fun K hK => ?_) (fun K hK => ?_)
      · refine goes_ Try.func46 (by kernel_rfl) rfl #[.agg #[.slice Ay_0 la_0.length cy_0, .slice Ay_1 la_1.length cy_1, .bool ba_2, .bool ba_3, .bool ba_4, .bool ba_5, .slice Ay_6 la_6.length cy_6, .slice Ay_7 la_7.length cy_7, .int .i64 ba_8], .agg #[.int .i64 p0, .int .i64 p1, .int .i64 p2]] (by rfl) rfl rfl (by (try simp only [List.map_toArray, List.map_cons, List.map_nil]); first | done | rfl) ?_
        refine (impl4 k Ay_0 cy_0 _ la_0 Ay_1 cy_1 _ la_1 ba_2 ba_3 ba_4 ba_5 Ay_6 cy_6 _ la_6 Ay_7 cy_7 _ la_7 ba_8 p0 p1 p2 lo_0 lo_1 bo_2 bo_3 bo_4 bo_5 lo_6 lo_7 bo_8 y0 y1 ok _ _ _ (R4_ch My.out (Ch.of_below hJ.hb) (Or.inr (Or.inr (Nat.zero_le _)))) Him.out).mono ?_
        rintro e w2 ⟨Au_0, cu_0, Au_1, cu_1, Au_6, cu_6, Au_7, cu_7, lou, hiu, rfl, h1, h2, h3, hR, hc⟩
        refine ⟨_, rfl, ?_⟩
        have hJ2 : J 3 false true ZM_ ZP_ w' la_0 la_1 la_6 la_7 lo_0 lo_1 lo_6 lo_7 ⟨⟨Ax_0, cx_0, Ax_1, cx_1, Ax_6, cx_6, Ax_7, cx_7, lox, hix⟩, ⟨Au_0, cu_0, Au_1, cu_1, Au_6, cu_6, Au_7, cu_7, lou, hiu⟩, gg, gh⟩ w2 := hJ.u h1 h2 h3 hR hc
        refine hK.out _ _ ⟨blk_below BK3.out hJ2.hb, blk_below BK9.out hJ2.hb⟩ (fun hHeld => ?_)
        refine norm_ (a' := ?_) ?_ ?_
        rotate_left
        · show Act.put _ (some 39) _ = _
          simp only [Act.put, List.setIfInBounds_toArray, List.set_cons_zero, List.set_cons_succ, i64_w, i32_w]
          rfl
        refine pure_ (i := 4) (N := some 35) (v := ?_) (a' := ?_) #[true, true, true, true, true, false, false, false, false, true, false, false, false] rfl rfl (by kernel_rfl) (fun _ _ _ h => h) (Or.inl ⟨by rfl, ?_⟩) ?_ ?_
        rotate_left
        · intro w'
          go_simp
          with_reducible rfl
        rotate_left
        · simp only [Act.put, List.setIfInBounds_toArray, List.set_cons_zero, List.set_cons_succ, i64_w, i32_w]
          rfl
        refine pure_ (i := 5) (N := some 40) (v := ?_) (a' := ?_) #[true, true, true, true, true, true, false, false, false, true, false, false, false] rfl rfl (by kernel_rfl) (fun _ _ _ h => h) (Or.inl ⟨by rfl, ?_⟩) ?_ ?_
        rotate_left
        · intro w'
          go_simp
          with_reducible rfl
        rotate_left
        · simp only [Act.put, List.setIfInBounds_toArray, List.set_cons_zero, List.set_cons_succ, i64_w, i32_w]
          rfl
        refine pure_ (i := 6) (N := some 41) (v := ?_) (a' := ?_) #[true, true, true, true, true, true, true, false, false, true, false, false, false] rfl rfl (by kernel_rfl) (fun _ _ _ h => h) (Or.inl ⟨by rfl, ?_⟩) ?_ ?_
        rotate_left
        · intro w'
          go_simp
          with_reducible rfl
        rotate_left
        · simp only [Act.put, List.setIfInBounds_toArray, List.set_cons_zero, List.set_cons_succ, i64_w, i32_w]
          rfl
        refine pure_ (i := 7) (N := some 42) (v := ?_) (a' := ?_) #[true, true, true, true, true, true, true, true, false, true, false, false, false] rfl rfl (by kernel_rfl) (fun _ _ _ h => h) (Or.inl ⟨by rfl, ?_⟩) ?_ ?_
        rotate_left
        · intro w'
          go_simp
          with_reducible rfl
        rotate_left
        · simp only [Act.put, List.setIfInBounds_toArray, List.set_cons_zero, List.set_cons_succ, i64_w, i32_w]
          rfl
        exact norm_ (by simp only [putAll, Act.put, List.setIfInBounds_toArray, List.set_cons_zero, List.set_cons_succ]) (hs2ft ⟨⟨Ax_0, cx_0, Ax_1, cx_1, Ax_6, cx_6, Ax_7, cx_7, lox, hix⟩, ⟨Au_0, cu_0, Au_1, cu_1, Au_6, cu_6, Au_7, cu_7, lou, hiu⟩, gg, gh⟩ _ hJ2)
      · refine box_step ?hg (N := 10) ?hd (cs := #[.slice none 0 0, .slice none 0 0, .bool false, .bool false, .bool false, .bool false, .slice none 0 0, .slice none 0 0, .int .i64 0]) (t := 28) ?hr ?_; (case hd => rfl); (case hg => rfl); (case hr => first | (go_simp; done) | (go_simp; rfl))
        intro g2_ hg2 w2 hbox hb2
        have hJ2 : J 0 true true ZM_ ZP_ w' la_0 la_1 la_6 la_7 lo_0 lo_1 lo_6 lo_7 ⟨⟨Ax_0, cx_0, Ax_1, cx_1, Ax_6, cx_6, Ax_7, cx_7, lox, hix⟩, ⟨Au_0, cu_0, Au_1, cu_1, Au_6, cu_6, Au_7, cu_7, lou, hiu⟩, g2_, gh⟩ w2 := hJ.bg hg2 hbox hb2
        exact hK.out _ _ ⟨blk_below BK3.out hJ2.hb, blk_below BK9.out hJ2.hb⟩ (fun hHeld => norm_ (by show Act.put _ (some 10) _ = _; simp only [putAll, Act.put, List.setIfInBounds_toArray, List.set_cons_zero, List.set_cons_succ]) (hs1tt ⟨⟨Ax_0, cx_0, Ax_1, cx_1, Ax_6, cx_6, Ax_7, cx_7, lox, hix⟩, ⟨Au_0, cu_0, Au_1, cu_1, Au_6, cu_6, Au_7, cu_7, lou, hiu⟩, g2_, gh⟩ _ hJ2))
    intro hs1ft
    refine join_ (σ := St) 5 #[true, true, true, true, true, true, true, true, false, false, false, false, false] (fun s_ => [(38, .agg #[.int .i64 p0, .int .i64 p1, .int .i64 p2]), (39, .tuple #[.agg #[.slice s_.u.A0 lo_0.length s_.u.c0, .slice s_.u.A1 lo_1.length s_.u.c1, .bool bo_2, .bool bo_3, .bool bo_4, .bool bo_5, .slice s_.u.A6 lo_6.length s_.u.c6, .slice s_.u.A7 lo_7.length s_.u.c7, .int .i64 bo_8], .agg #[.int .i64 y0, .int .i64 y1], .bool ok]), (35, .tuple #[.agg #[.slice s_.u.A0 lo_0.length s_.u.c0, .slice s_.u.A1 lo_1.length s_.u.c1, .bool bo_2, .bool bo_3, .bool bo_4, .bool bo_5, .slice s_.u.A6 lo_6.length s_.u.c6, .slice s_.u.A7 lo_7.length s_.u.c7, .int .i64 bo_8], .agg #[.int .i64 y0, .int .i64 y1], .bool ok]), (40, .agg #[.slice s_.u.A0 lo_0.length s_.u.c0, .slice s_.u.A1 lo_1.length s_.u.c1, .bool bo_2, .bool bo_3, .bool bo_4, .bool bo_5, .slice s_.u.A6 lo_6.length s_.u.c6, .slice s_.u.A7 lo_7.length s_.u.c7, .int .i64 bo_8]), (41, .agg #[.int .i64 y0, .int .i64 y1]), (42, .bool ok)]) (fun s_ w1 => J 3 false false ZM_ ZP_ w' la_0 la_1 la_6 la_7 lo_0 lo_1 lo_6 lo_7 s_ w1) ?_ ?_
    · rintro ⟨⟨Ax_0, cx_0, Ax_1, cx_1, Ax_6, cx_6, Ax_7, cx_7, lox, hix⟩, ⟨Au_0, cu_0, Au_1, cu_1, Au_6, cu_6, Au_7, cu_7, lou, hiu⟩, gg, gh⟩ w1 hJ
      have hHeld : (fun w' => w'.heap[g3]? = some (.cells #[.int .i64 p0, .int .i64 p1, .int .i64 p2] 60 (0, 0)) ∧ w'.heap[g9]? = some (.cells #[.slice Ay_0 la_0.length cy_0, .slice Ay_1 la_1.length cy_1, .bool ba_2, .bool ba_3, .bool ba_4, .bool ba_5, .slice Ay_6 la_6.length cy_6, .slice Ay_7 la_7.length cy_7, .int .i64 ba_8] 28 (0, 0))) w1 := ⟨blk_below BK3.out hJ.hb, blk_below BK9.out hJ.hb⟩
      refine norm_ (a' := ?_) ?_ ?_
      rotate_left
      · simp only [putAll, Act.put, List.setIfInBounds_toArray, List.set_cons_zero, List.set_cons_succ]
        rfl
      refine two_ (i := 8) (j := 9) (Ni := some 10) (Nj := some 11) #[true, true, true, true, true, true, true, true, true, false, false, false, false] #[true, true, true, true, true, true, true, true, false, true, false, false, false] rfl rfl rfl rfl (by kernel_rfl) (by decide) (by decide) (fun K hK => ?_) (fun K hK => ?_)
      · refine box_step ?hg (N := 10) ?hd (cs := #[.slice none 0 0, .slice none 0 0, .bool false, .bool false, .bool false, .bool false, .slice none 0 0, .slice none 0 0, .int .i64 0]) (t := 28) ?hr ?_; (case hd => rfl); (case hg => rfl); (case hr => first | (go_simp; done) | (go_simp; rfl))
        intro g2_ hg2 w2 hbox hb2
        have hJ2 : J 3 true false ZM_ ZP_ w' la_0 la_1 la_6 la_7 lo_0 lo_1 lo_6 lo_7 ⟨⟨Ax_0, cx_0, Ax_1, cx_1, Ax_6, cx_6, Ax_7, cx_7, lox, hix⟩, ⟨Au_0, cu_0, Au_1, cu_1, Au_6, cu_6, Au_7, cu_7, lou, hiu⟩, g2_, gh⟩ w2 := hJ.bg hg2 hbox hb2
        exact hK.out _ _ ⟨blk_below BK3.out hJ2.hb, blk_below BK9.out hJ2.hb⟩ (fun hHeld => norm_ (by show Act.put _ (some 10) _ = _; simp only [putAll, Act.put, List.setIfInBounds_toArray, List.set_cons_zero, List.set_cons_succ]) (hs2tf ⟨⟨Ax_0, cx_0, Ax_1, cx_1, Ax_6, cx_6, Ax_7, cx_7, lox, hix⟩, ⟨Au_0, cu_0, Au_1, cu_1, Au_6, cu_6, Au_7, cu_7, lou, hiu⟩, g2_, gh⟩ _ hJ2))
      · refine box_step ?hg (N := 11) ?hd (cs := #[.int .i64 0, .int .i64 0]) (t := 38) ?hr ?_; (case hd => rfl); (case hg => rfl); (case hr => first | (go_simp; done) | (go_simp; rfl))
        intro g2_ hg2 w2 hbox hb2
        have hJ2 : J 3 false true ZM_ ZP_ w' la_0 la_1 la_6 la_7 lo_0 lo_1 lo_6 lo_7 ⟨⟨Ax_0, cx_0, Ax_1, cx_1, Ax_6, cx_6, Ax_7, cx_7, lox, hix⟩, ⟨Au_0, cu_0, Au_1, cu_1, Au_6, cu_6, Au_7, cu_7, lou, hiu⟩, gg, g2_⟩ w2 := hJ.bh hg2 hbox hb2
        exact hK.out _ _ ⟨blk_below BK3.out hJ2.hb, blk_below BK9.out hJ2.hb⟩ (fun hHeld => norm_ (by show Act.put _ (some 11) _ = _; simp only [putAll, Act.put, List.setIfInBounds_toArray, List.set_cons_zero, List.set_cons_succ]) (hs2ft ⟨⟨Ax_0, cx_0, Ax_1, cx_1, Ax_6, cx_6, Ax_7, cx_7, lox, hix⟩, ⟨Au_0, cu_0, Au_1, cu_1, Au_6, cu_6, Au_7, cu_7, lou, hiu⟩, gg, g2_⟩ _ hJ2))
    intro hs2ff
    refine join_ (σ := St) 10 #[true, true, false, false, false, false, false, false, true, false, false, false, false] (fun s_ => [(10, .pointer (some ⟨s_.g, 0, none⟩))]) (fun s_ w1 => J 0 true false ZM_ ZP_ w' la_0 la_1 la_6 la_7 lo_0 lo_1 lo_6 lo_7 s_ w1) ?_ ?_
    · rintro ⟨⟨Ax_0, cx_0, Ax_1, cx_1, Ax_6, cx_6, Ax_7, cx_7, lox, hix⟩, ⟨Au_0, cu_0, Au_1, cu_1, Au_6, cu_6, Au_7, cu_7, lou, hiu⟩, gg, gh⟩ w1 hJ
      have hHeld : (fun w' => w'.heap[g3]? = some (.cells #[.int .i64 p0, .int .i64 p1, .int .i64 p2] 60 (0, 0)) ∧ w'.heap[g9]? = some (.cells #[.slice Ay_0 la_0.length cy_0, .slice Ay_1 la_1.length cy_1, .bool ba_2, .bool ba_3, .bool ba_4, .bool ba_5, .slice Ay_6 la_6.length cy_6, .slice Ay_7 la_7.length cy_7, .int .i64 ba_8] 28 (0, 0))) w1 := ⟨blk_below BK3.out hJ.hb, blk_below BK9.out hJ.hb⟩
      refine norm_ (a' := ?_) ?_ ?_
      rotate_left
      · simp only [putAll, Act.put, List.setIfInBounds_toArray, List.set_cons_zero, List.set_cons_succ]
        rfl
      refine two_ (i := 2) (j := 9) (Ni := some 38) (Nj := some 11) #[true, true, true, false, false, false, false, false, true, false, false, false, false] #[true, true, false, false, false, false, false, false, true, true, false, false, false] rfl rfl rfl rfl (by kernel_rfl) (by decide) (by decide) (fun K hK => ?_) (fun K hK => ?_)
      · refine goes_ Try.func45 (by kernel_rfl) rfl #[.agg #[.int .i64 p0, .int .i64 p1, .int .i64 p2]] (by rfl) rfl rfl (by (try simp only [List.map_toArray, List.map_cons, List.map_nil]); first | done | rfl) ?_
        refine (laws_toOpd.calls p0 p1 p2 p0 p1 p2 _ Htp.out).mono ?_
        rintro e w2 ⟨rfl, hb2⟩
        refine ⟨_, rfl, ?_⟩
        have hJ2 : J 0 true false ZM_ ZP_ w' la_0 la_1 la_6 la_7 lo_0 lo_1 lo_6 lo_7 ⟨⟨Ax_0, cx_0, Ax_1, cx_1, Ax_6, cx_6, Ax_7, cx_7, lox, hix⟩, ⟨Au_0, cu_0, Au_1, cu_1, Au_6, cu_6, Au_7, cu_7, lou, hiu⟩, gg, gh⟩ w2 := hJ.still hb2
        exact hK.out _ _ ⟨blk_below BK3.out hJ2.hb, blk_below BK9.out hJ2.hb⟩ (fun hHeld => norm_ (by show Act.put _ (some 38) _ = _; simp only [putAll, Act.put, List.setIfInBounds_toArray, List.set_cons_zero, List.set_cons_succ]) (hs1tf ⟨⟨Ax_0, cx_0, Ax_1, cx_1, Ax_6, cx_6, Ax_7, cx_7, lox, hix⟩, ⟨Au_0, cu_0, Au_1, cu_1, Au_6, cu_6, Au_7, cu_7, lou, hiu⟩, gg, gh⟩ _ hJ2))
      · refine box_step ?hg (N := 11) ?hd (cs := #[.int .i64 0, .int .i64 0]) (t := 38) ?hr ?_; (case hd => rfl); (case hg => rfl); (case hr => first | (go_simp; done) | (go_simp; rfl))
        intro g2_ hg2 w2 hbox hb2
        have hJ2 : J 0 true true ZM_ ZP_ w' la_0 la_1 la_6 la_7 lo_0 lo_1 lo_6 lo_7 ⟨⟨Ax_0, cx_0, Ax_1, cx_1, Ax_6, cx_6, Ax_7, cx_7, lox, hix⟩, ⟨Au_0, cu_0, Au_1, cu_1, Au_6, cu_6, Au_7, cu_7, lou, hiu⟩, gg, g2_⟩ w2 := hJ.bh hg2 hbox hb2
        exact hK.out _ _ ⟨blk_below BK3.out hJ2.hb, blk_below BK9.out hJ2.hb⟩ (fun hHeld => norm_ (by show Act.put _ (some 11) _ = _; simp only [putAll, Act.put, List.setIfInBounds_toArray, List.set_cons_zero, List.set_cons_succ]) (hs0tt ⟨⟨Ax_0, cx_0, Ax_1, cx_1, Ax_6, cx_6, Ax_7, cx_7, lox, hix⟩, ⟨Au_0, cu_0, Au_1, cu_1, Au_6, cu_6, Au_7, cu_7, lou, hiu⟩, gg, g2_⟩ _ hJ2))
    intro hs0tf
    refine join_ (σ := St) 10 #[true, true, false, false, false, false, false, false, false, true, false, false, false] (fun s_ => [(11, .pointer (some ⟨s_.h, 0, none⟩))]) (fun s_ w1 => J 0 false true ZM_ ZP_ w' la_0 la_1 la_6 la_7 lo_0 lo_1 lo_6 lo_7 s_ w1) ?_ ?_
    · rintro ⟨⟨Ax_0, cx_0, Ax_1, cx_1, Ax_6, cx_6, Ax_7, cx_7, lox, hix⟩, ⟨Au_0, cu_0, Au_1, cu_1, Au_6, cu_6, Au_7, cu_7, lou, hiu⟩, gg, gh⟩ w1 hJ
      have hHeld : (fun w' => w'.heap[g3]? = some (.cells #[.int .i64 p0, .int .i64 p1, .int .i64 p2] 60 (0, 0)) ∧ w'.heap[g9]? = some (.cells #[.slice Ay_0 la_0.length cy_0, .slice Ay_1 la_1.length cy_1, .bool ba_2, .bool ba_3, .bool ba_4, .bool ba_5, .slice Ay_6 la_6.length cy_6, .slice Ay_7 la_7.length cy_7, .int .i64 ba_8] 28 (0, 0))) w1 := ⟨blk_below BK3.out hJ.hb, blk_below BK9.out hJ.hb⟩
      refine norm_ (a' := ?_) ?_ ?_
      rotate_left
      · simp only [putAll, Act.put, List.setIfInBounds_toArray, List.set_cons_zero, List.set_cons_succ]
        rfl
      refine two_ (i := 2) (j := 8) (Ni := some 38) (Nj := some 10) #[true, true, true, false, false, false, false, false, false, true, false, false, false] #[true, true, false, false, false, false, false, false, true, true, false, false, false] rfl rfl rfl rfl (by kernel_rfl) (by decide) (by decide) (fun K hK => ?_) (fun K hK => ?_)
      · refine goes_ Try.func45 (by kernel_rfl) rfl #[.agg #[.int .i64 p0, .int .i64 p1, .int .i64 p2]] (by rfl) rfl rfl (by (try simp only [List.map_toArray, List.map_cons, List.map_nil]); first | done | rfl) ?_
        refine (laws_toOpd.calls p0 p1 p2 p0 p1 p2 _ Htp.out).mono ?_
        rintro e w2 ⟨rfl, hb2⟩
        refine ⟨_, rfl, ?_⟩
        have hJ2 : J 0 false true ZM_ ZP_ w' la_0 la_1 la_6 la_7 lo_0 lo_1 lo_6 lo_7 ⟨⟨Ax_0, cx_0, Ax_1, cx_1, Ax_6, cx_6, Ax_7, cx_7, lox, hix⟩, ⟨Au_0, cu_0, Au_1, cu_1, Au_6, cu_6, Au_7, cu_7, lou, hiu⟩, gg, gh⟩ w2 := hJ.still hb2
        exact hK.out _ _ ⟨blk_below BK3.out hJ2.hb, blk_below BK9.out hJ2.hb⟩ (fun hHeld => norm_ (by show Act.put _ (some 38) _ = _; simp only [putAll, Act.put, List.setIfInBounds_toArray, List.set_cons_zero, List.set_cons_succ]) (hs1ft ⟨⟨Ax_0, cx_0, Ax_1, cx_1, Ax_6, cx_6, Ax_7, cx_7, lox, hix⟩, ⟨Au_0, cu_0, Au_1, cu_1, Au_6, cu_6, Au_7, cu_7, lou, hiu⟩, gg, gh⟩ _ hJ2))
      · refine box_step ?hg (N := 10) ?hd (cs := #[.slice none 0 0, .slice none 0 0, .bool false, .bool false, .bool false, .bool false, .slice none 0 0, .slice none 0 0, .int .i64 0]) (t := 28) ?hr ?_; (case hd => rfl); (case hg => rfl); (case hr => first | (go_simp; done) | (go_simp; rfl))
        intro g2_ hg2 w2 hbox hb2
        have hJ2 : J 0 true true ZM_ ZP_ w' la_0 la_1 la_6 la_7 lo_0 lo_1 lo_6 lo_7 ⟨⟨Ax_0, cx_0, Ax_1, cx_1, Ax_6, cx_6, Ax_7, cx_7, lox, hix⟩, ⟨Au_0, cu_0, Au_1, cu_1, Au_6, cu_6, Au_7, cu_7, lou, hiu⟩, g2_, gh⟩ w2 := hJ.bg hg2 hbox hb2
        exact hK.out _ _ ⟨blk_below BK3.out hJ2.hb, blk_below BK9.out hJ2.hb⟩ (fun hHeld => norm_ (by show Act.put _ (some 10) _ = _; simp only [putAll, Act.put, List.setIfInBounds_toArray, List.set_cons_zero, List.set_cons_succ]) (hs0tt ⟨⟨Ax_0, cx_0, Ax_1, cx_1, Ax_6, cx_6, Ax_7, cx_7, lox, hix⟩, ⟨Au_0, cu_0, Au_1, cu_1, Au_6, cu_6, Au_7, cu_7, lou, hiu⟩, g2_, gh⟩ _ hJ2))
    intro hs0ft
    refine join_ (σ := St) 10 #[true, true, true, false, false, false, false, false, false, false, false, false, false] (fun s_ => [(38, .agg #[.int .i64 p0, .int .i64 p1, .int .i64 p2])]) (fun s_ w1 => J 0 false false ZM_ ZP_ w' la_0 la_1 la_6 la_7 lo_0 lo_1 lo_6 lo_7 s_ w1) ?_ ?_
    · rintro ⟨⟨Ax_0, cx_0, Ax_1, cx_1, Ax_6, cx_6, Ax_7, cx_7, lox, hix⟩, ⟨Au_0, cu_0, Au_1, cu_1, Au_6, cu_6, Au_7, cu_7, lou, hiu⟩, gg, gh⟩ w1 hJ
      have hHeld : (fun w' => w'.heap[g3]? = some (.cells #[.int .i64 p0, .int .i64 p1, .int .i64 p2] 60 (0, 0)) ∧ w'.heap[g9]? = some (.cells #[.slice Ay_0 la_0.length cy_0, .slice Ay_1 la_1.length cy_1, .bool ba_2, .bool ba_3, .bool ba_4, .bool ba_5, .slice Ay_6 la_6.length cy_6, .slice Ay_7 la_7.length cy_7, .int .i64 ba_8] 28 (0, 0))) w1 := ⟨blk_below BK3.out hJ.hb, blk_below BK9.out hJ.hb⟩
      refine norm_ (a' := ?_) ?_ ?_
      rotate_left
      · simp only [putAll, Act.put, List.setIfInBounds_toArray, List.set_cons_zero, List.set_cons_succ]
        rfl
      refine three_ (i := 3) (j := 8) (k := 9) (Ni := some 39) (Nj := some 10) (Nk := some 11) #[true, true, true, true, false, false, false, false, false, false, false, false, false] #[true, true, true, false, false, false, false, false, true, false, false, false, false] #[true, true, true, false, false, false, false, false, false, true, false, false, false] rfl rfl rfl rfl rfl rfl (by kernel_rfl) (by decide) (by decide) (by decide) (fun K hK => ?_) (fun K hK => ?_) (fun K hK => ?_)
      · refine goes_ Try.func46 (by kernel_rfl) rfl #[.agg #[.slice Ay_0 la_0.length cy_0, .slice Ay_1 la_1.length cy_1, .bool ba_2, .bool ba_3, .bool ba_4, .bool ba_5, .slice Ay_6 la_6.length cy_6, .slice Ay_7 la_7.length cy_7, .int .i64 ba_8], .agg #[.int .i64 p0, .int .i64 p1, .int .i64 p2]] (by rfl) rfl rfl (by (try simp only [List.map_toArray, List.map_cons, List.map_nil]); first | done | rfl) ?_
        refine (impl4 k Ay_0 cy_0 _ la_0 Ay_1 cy_1 _ la_1 ba_2 ba_3 ba_4 ba_5 Ay_6 cy_6 _ la_6 Ay_7 cy_7 _ la_7 ba_8 p0 p1 p2 lo_0 lo_1 bo_2 bo_3 bo_4 bo_5 lo_6 lo_7 bo_8 y0 y1 ok _ _ _ (R4_ch My.out (Ch.of_below hJ.hb) (Or.inr (Or.inr (Nat.zero_le _)))) Him.out).mono ?_
        rintro e w2 ⟨Au_0, cu_0, Au_1, cu_1, Au_6, cu_6, Au_7, cu_7, lou, hiu, rfl, h1, h2, h3, hR, hc⟩
        refine ⟨_, rfl, ?_⟩
        have hJ2 : J 3 false false ZM_ ZP_ w' la_0 la_1 la_6 la_7 lo_0 lo_1 lo_6 lo_7 ⟨⟨Ax_0, cx_0, Ax_1, cx_1, Ax_6, cx_6, Ax_7, cx_7, lox, hix⟩, ⟨Au_0, cu_0, Au_1, cu_1, Au_6, cu_6, Au_7, cu_7, lou, hiu⟩, gg, gh⟩ w2 := hJ.u h1 h2 h3 hR hc
        refine hK.out _ _ ⟨blk_below BK3.out hJ2.hb, blk_below BK9.out hJ2.hb⟩ (fun hHeld => ?_)
        refine norm_ (a' := ?_) ?_ ?_
        rotate_left
        · show Act.put _ (some 39) _ = _
          simp only [Act.put, List.setIfInBounds_toArray, List.set_cons_zero, List.set_cons_succ, i64_w, i32_w]
          rfl
        refine pure_ (i := 4) (N := some 35) (v := ?_) (a' := ?_) #[true, true, true, true, true, false, false, false, false, false, false, false, false] rfl rfl (by kernel_rfl) (fun _ _ _ h => h) (Or.inl ⟨by rfl, ?_⟩) ?_ ?_
        rotate_left
        · intro w'
          go_simp
          with_reducible rfl
        rotate_left
        · simp only [Act.put, List.setIfInBounds_toArray, List.set_cons_zero, List.set_cons_succ, i64_w, i32_w]
          rfl
        refine pure_ (i := 5) (N := some 40) (v := ?_) (a' := ?_) #[true, true, true, true, true, true, false, false, false, false, false, false, false] rfl rfl (by kernel_rfl) (fun _ _ _ h => h) (Or.inl ⟨by rfl, ?_⟩) ?_ ?_
        rotate_left
        · intro w'
          go_simp
          with_reducible rfl
        rotate_left
        · simp only [Act.put, List.setIfInBounds_toArray, List.set_cons_zero, List.set_cons_succ, i64_w, i32_w]
          rfl
        refine pure_ (i := 6) (N := some 41) (v := ?_) (a' := ?_) #[true, true, true, true, true, true, true, false, false, false, false, false, false] rfl rfl (by kernel_rfl) (fun _ _ _ h => h) (Or.inl ⟨by rfl, ?_⟩) ?_ ?_
        rotate_left
        · intro w'
          go_simp
          with_reducible rfl
        rotate_left
        · simp only [Act.put, List.setIfInBounds_toArray, List.set_cons_zero, List.set_cons_succ, i64_w, i32_w]
          rfl
        refine pure_ (i := 7) (N := some 42) (v := ?_) (a' := ?_) #[true, true, true, true, true, true, true, true, false, false, false, false, false] rfl rfl (by kernel_rfl) (fun _ _ _ h => h) (Or.inl ⟨by rfl, ?_⟩) ?_ ?_
        rotate_left
        · intro w'
          go_simp
          with_reducible rfl
        rotate_left
        · simp only [Act.put, List.setIfInBounds_toArray, List.set_cons_zero, List.set_cons_succ, i64_w, i32_w]
          rfl
        exact norm_ (by simp only [putAll, Act.put, List.setIfInBounds_toArray, List.set_cons_zero, List.set_cons_succ]) (hs2ff ⟨⟨Ax_0, cx_0, Ax_1, cx_1, Ax_6, cx_6, Ax_7, cx_7, lox, hix⟩, ⟨Au_0, cu_0, Au_1, cu_1, Au_6, cu_6, Au_7, cu_7, lou, hiu⟩, gg, gh⟩ _ hJ2)
      · refine box_step ?hg (N := 10) ?hd (cs := #[.slice none 0 0, .slice none 0 0, .bool false, .bool false, .bool false, .bool false, .slice none 0 0, .slice none 0 0, .int .i64 0]) (t := 28) ?hr ?_; (case hd => rfl); (case hg => rfl); (case hr => first | (go_simp; done) | (go_simp; rfl))
        intro g2_ hg2 w2 hbox hb2
        have hJ2 : J 0 true false ZM_ ZP_ w' la_0 la_1 la_6 la_7 lo_0 lo_1 lo_6 lo_7 ⟨⟨Ax_0, cx_0, Ax_1, cx_1, Ax_6, cx_6, Ax_7, cx_7, lox, hix⟩, ⟨Au_0, cu_0, Au_1, cu_1, Au_6, cu_6, Au_7, cu_7, lou, hiu⟩, g2_, gh⟩ w2 := hJ.bg hg2 hbox hb2
        exact hK.out _ _ ⟨blk_below BK3.out hJ2.hb, blk_below BK9.out hJ2.hb⟩ (fun hHeld => norm_ (by show Act.put _ (some 10) _ = _; simp only [putAll, Act.put, List.setIfInBounds_toArray, List.set_cons_zero, List.set_cons_succ]) (hs1tf ⟨⟨Ax_0, cx_0, Ax_1, cx_1, Ax_6, cx_6, Ax_7, cx_7, lox, hix⟩, ⟨Au_0, cu_0, Au_1, cu_1, Au_6, cu_6, Au_7, cu_7, lou, hiu⟩, g2_, gh⟩ _ hJ2))
      · refine box_step ?hg (N := 11) ?hd (cs := #[.int .i64 0, .int .i64 0]) (t := 38) ?hr ?_; (case hd => rfl); (case hg => rfl); (case hr => first | (go_simp; done) | (go_simp; rfl))
        intro g2_ hg2 w2 hbox hb2
        have hJ2 : J 0 false true ZM_ ZP_ w' la_0 la_1 la_6 la_7 lo_0 lo_1 lo_6 lo_7 ⟨⟨Ax_0, cx_0, Ax_1, cx_1, Ax_6, cx_6, Ax_7, cx_7, lox, hix⟩, ⟨Au_0, cu_0, Au_1, cu_1, Au_6, cu_6, Au_7, cu_7, lou, hiu⟩, gg, g2_⟩ w2 := hJ.bh hg2 hbox hb2
        exact hK.out _ _ ⟨blk_below BK3.out hJ2.hb, blk_below BK9.out hJ2.hb⟩ (fun hHeld => norm_ (by show Act.put _ (some 11) _ = _; simp only [putAll, Act.put, List.setIfInBounds_toArray, List.set_cons_zero, List.set_cons_succ]) (hs1ft ⟨⟨Ax_0, cx_0, Ax_1, cx_1, Ax_6, cx_6, Ax_7, cx_7, lox, hix⟩, ⟨Au_0, cu_0, Au_1, cu_1, Au_6, cu_6, Au_7, cu_7, lou, hiu⟩, gg, g2_⟩ _ hJ2))
    intro hs1ff
    have hJ : J 0 false false ZM_ ZP_ w' la_0 la_1 la_6 la_7 lo_0 lo_1 lo_6 lo_7 ⟨⟨none, 0, none, 0, none, 0, none, 0, 0, 0⟩, ⟨none, 0, none, 0, none, 0, none, 0, 0, 0⟩, 0, 0⟩ w' := ⟨Below.refl _ _, fun e => absurd e (by decide), fun e => absurd e (by decide), fun e => absurd e (by decide), fun e => absurd e (by decide), fun e => absurd e (by decide), fun e => absurd e (by decide), fun e => absurd e (by decide)⟩
    refine three_ (i := 2) (j := 8) (k := 9) (Ni := some 38) (Nj := some 10) (Nk := some 11) #[true, true, true, false, false, false, false, false, false, false, false, false, false] #[true, true, false, false, false, false, false, false, true, false, false, false, false] #[true, true, false, false, false, false, false, false, false, true, false, false, false] rfl rfl rfl rfl rfl rfl (by kernel_rfl) (by decide) (by decide) (by decide) (fun K hK => ?_) (fun K hK => ?_) (fun K hK => ?_)
    · refine goes_ Try.func45 (by kernel_rfl) rfl #[.agg #[.int .i64 p0, .int .i64 p1, .int .i64 p2]] (by rfl) rfl rfl (by (try simp only [List.map_toArray, List.map_cons, List.map_nil]); first | done | rfl) ?_
      refine (laws_toOpd.calls p0 p1 p2 p0 p1 p2 _ Htp.out).mono ?_
      rintro e w2 ⟨rfl, hb2⟩
      refine ⟨_, rfl, ?_⟩
      have hJ2 : J 0 false false ZM_ ZP_ w' la_0 la_1 la_6 la_7 lo_0 lo_1 lo_6 lo_7 ⟨⟨none, 0, none, 0, none, 0, none, 0, 0, 0⟩, ⟨none, 0, none, 0, none, 0, none, 0, 0, 0⟩, 0, 0⟩ w2 := hJ.still hb2
      exact hK.out _ _ ⟨blk_below BK3.out hJ2.hb, blk_below BK9.out hJ2.hb⟩ (fun hHeld => norm_ (by show Act.put _ (some 38) _ = _; simp only [putAll, Act.put, List.setIfInBounds_toArray, List.set_cons_zero, List.set_cons_succ]) (hs1ff ⟨⟨none, 0, none, 0, none, 0, none, 0, 0, 0⟩, ⟨none, 0, none, 0, none, 0, none, 0, 0, 0⟩, 0, 0⟩ _ hJ2))
    · refine box_step ?hg (N := 10) ?hd (cs := #[.slice none 0 0, .slice none 0 0, .bool false, .bool false, .bool false, .bool false, .slice none 0 0, .slice none 0 0, .int .i64 0]) (t := 28) ?hr ?_; (case hd => rfl); (case hg => rfl); (case hr => first | (go_simp; done) | (go_simp; rfl))
      intro g2_ hg2 w2 hbox hb2
      have hJ2 : J 0 true false ZM_ ZP_ w' la_0 la_1 la_6 la_7 lo_0 lo_1 lo_6 lo_7 ⟨⟨none, 0, none, 0, none, 0, none, 0, 0, 0⟩, ⟨none, 0, none, 0, none, 0, none, 0, 0, 0⟩, g2_, 0⟩ w2 := hJ.bg hg2 hbox hb2
      exact hK.out _ _ ⟨blk_below BK3.out hJ2.hb, blk_below BK9.out hJ2.hb⟩ (fun hHeld => norm_ (by show Act.put _ (some 10) _ = _; simp only [putAll, Act.put, List.setIfInBounds_toArray, List.set_cons_zero, List.set_cons_succ]) (hs0tf ⟨⟨none, 0, none, 0, none, 0, none, 0, 0, 0⟩, ⟨none, 0, none, 0, none, 0, none, 0, 0, 0⟩, g2_, 0⟩ _ hJ2))
    · refine box_step ?hg (N := 11) ?hd (cs := #[.int .i64 0, .int .i64 0]) (t := 38) ?hr ?_; (case hd => rfl); (case hg => rfl); (case hr => first | (go_simp; done) | (go_simp; rfl))
      intro g2_ hg2 w2 hbox hb2
      have hJ2 : J 0 false true ZM_ ZP_ w' la_0 la_1 la_6 la_7 lo_0 lo_1 lo_6 lo_7 ⟨⟨none, 0, none, 0, none, 0, none, 0, 0, 0⟩, ⟨none, 0, none, 0, none, 0, none, 0, 0, 0⟩, 0, g2_⟩ w2 := hJ.bh hg2 hbox hb2
      exact hK.out _ _ ⟨blk_below BK3.out hJ2.hb, blk_below BK9.out hJ2.hb⟩ (fun hHeld => norm_ (by show Act.put _ (some 11) _ = _; simp only [putAll, Act.put, List.setIfInBounds_toArray, List.set_cons_zero, List.set_cons_succ]) (hs0ft ⟨⟨none, 0, none, 0, none, 0, none, 0, 0, 0⟩, ⟨none, 0, none, 0, none, 0, none, 0, 0, 0⟩, 0, g2_⟩ _ hJ2))
  rintro ⟨xx_, ⟨Av_0, cv_0, Av_1, cv_1, Av_6, cv_6, Av_7, cv_7, lov, hiv⟩, g10, g11⟩ w' hJ
  have hc := Ch.of_below hJ.hb
  have hU := hJ.hu rfl
  have F16 : Aside0 (g9 + 1 ≤ lov) := Aside0.mk (Nat.le_trans S.out hU.1.1)
  have F17 : Aside0 (lov ≤ hiv) := Aside0.mk hU.1.2.1
  have F18 : Aside0 (g9 + 1 ≤ g10) := Aside0.mk (Nat.le_trans S.out (hJ.hg rfl).1)
  have F19 : Aside0 (g9 + 1 ≤ g11) := Aside0.mk (Nat.le_trans S.out (hJ.hh rfl).1)
  have F20 : Aside0 (g10 + 1 ≤ g11 ∨ g11 + 1 ≤ g10) := Aside0.mk (by have q_ : g10 ≠ g11 := hJ.gh rfl rfl; omega)
  have F21 : Aside0 (g10 + 1 ≤ lov ∨ hiv ≤ g10) := Aside0.mk (hJ.gu rfl rfl)
  have F22 : Aside0 (g11 + 1 ≤ lov ∨ hiv ≤ g11) := Aside0.mk (hJ.hv rfl rfl)
  replace BK2 := Aside0.mk (blk_ch hc BK2.out (Or.inr (Nat.zero_le _)))
  replace BK3 := Aside0.mk (blk_ch hc BK3.out (Or.inr (Nat.zero_le _)))
  replace Mu := Aside0.mk (R4_ch Mu.out hc (Or.inr (Or.inr (Nat.zero_le _))))
  replace BK6 := Aside0.mk (blk_ch hc BK6.out (Or.inr (Nat.zero_le _)))
  replace BK7 := Aside0.mk (blk_ch hc BK7.out (Or.inr (Nat.zero_le _)))
  replace My := Aside0.mk (R4_ch My.out hc (Or.inr (Or.inr (Nat.zero_le _))))
  replace BK9 := Aside0.mk (blk_ch hc BK9.out (Or.inr (Nat.zero_le _)))
  replace HB := Aside0.mk (below_ch HB.out hc (Or.inl (Nat.le_refl _)))
  replace S := Aside0.mk (Nat.le_trans S.out hc.size)
  obtain ⟨tp, htp⟩ : ∃ tp, tp = w'.heap.size := ⟨_, rfl⟩
  have F23 : Aside0 (hiv ≤ tp) := Aside0.mk (by have q_ : hiv ≤ w'.heap.size := hU.1.2.2; omega)
  have F24 : Aside0 (g10 + 1 ≤ tp) := Aside0.mk (by have q_ : g10 < w'.heap.size := blk_lt (hJ.hg rfl).2; omega)
  have F25 : Aside0 (g11 + 1 ≤ tp) := Aside0.mk (by have q_ : g11 < w'.heap.size := blk_lt (hJ.hh rfl).2; omega)
  clear S
  have S : Aside0 (tp ≤ w'.heap.size) := Aside0.mk (by omega)
  clear htp
  have Mv : Aside0 (R4 w' lov hiv (.slice Av_0 lo_0.length cv_0) (.slice Av_1 lo_1.length cv_1) (.slice Av_6 lo_6.length cv_6) (.slice Av_7 lo_7.length cv_7) lo_0 lo_1 lo_6 lo_7) := Aside0.mk hU.2
  have BK10 : Aside0 (w'.heap[g10]? = some (.cells #[.slice none 0 0, .slice none 0 0, .bool false, .bool false, .bool false, .bool false, .slice none 0 0, .slice none 0 0, .int .i64 0] 28 (0, 0))) := Aside0.mk (hJ.hg rfl).2
  have BK11 : Aside0 (w'.heap[g11]? = some (.cells #[.int .i64 0, .int .i64 0] 38 (0, 0))) := Aside0.mk (hJ.hh rfl).2
  clear hc hU hJ
  have hHeld : w'.heap[g3]? = some (.cells #[.int .i64 p0, .int .i64 p1, .int .i64 p2] 60 (0, 0)) ∧ w'.heap[g9]? = some (.cells #[.slice Ay_0 la_0.length cy_0, .slice Ay_1 la_1.length cy_1, .bool ba_2, .bool ba_3, .bool ba_4, .bool ba_5, .slice Ay_6 la_6.length cy_6, .slice Ay_7 la_7.length cy_7, .int .i64 ba_8] 28 (0, 0)) := ⟨BK3.out, BK9.out⟩
  refine norm_ (a' := ?_) ?_ ?_
  rotate_left
  · simp only [putAll, Act.put, List.setIfInBounds_toArray, List.set_cons_zero, List.set_cons_succ]
    rfl
  refine one_ (i := 10) (N := none) #[true, true, true, true, true, true, true, true, true, true, true, false, false] rfl rfl (by kernel_rfl) (by decide) (fun K hK => ?_)
  refine store_struct_step (by rfl) rfl 28 (.tmp 10) (.tmp 40) rfl (cs := #[.slice Av_0 lo_0.length cv_0, .slice Av_1 lo_1.length cv_1, .bool bo_2, .bool bo_3, .bool bo_4, .bool bo_5, .slice Av_6 lo_6.length cv_6, .slice Av_7 lo_7.length cv_7, .int .i64 bo_8]) (by rfl) (by rfl) BK10.out (by kernel_rfl) rfl (by repeat (first | exact fun _ h => absurd h List.not_mem_nil | refine List.forall_mem_cons.2 ⟨rfl, ?_⟩)) ?_
  intro w' hbox hc
  replace BK2 := Aside0.mk (blk_ch hc BK2.out (by have := F1.out; have := F2.out; have := F3.out; have := F4.out; have := F5.out; have := F6.out; have := F7.out; have := F8.out; have := F9.out; have := F10.out; have := F11.out; have := F12.out; have := F13.out; have := F14.out; have := F15.out; have := F16.out; have := F17.out; have := F18.out; have := F19.out; have := F20.out; have := F21.out; have := F22.out; have := F23.out; have := F24.out; have := F25.out; have := S.out; omega))
  replace BK3 := Aside0.mk (blk_ch hc BK3.out (by have := F1.out; have := F2.out; have := F3.out; have := F4.out; have := F5.out; have := F6.out; have := F7.out; have := F8.out; have := F9.out; have := F10.out; have := F11.out; have := F12.out; have := F13.out; have := F14.out; have := F15.out; have := F16.out; have := F17.out; have := F18.out; have := F19.out; have := F20.out; have := F21.out; have := F22.out; have := F23.out; have := F24.out; have := F25.out; have := S.out; omega))
  replace Mu := Aside0.mk (R4_ch Mu.out hc (by have := F1.out; have := F2.out; have := F3.out; have := F4.out; have := F5.out; have := F6.out; have := F7.out; have := F8.out; have := F9.out; have := F10.out; have := F11.out; have := F12.out; have := F13.out; have := F14.out; have := F15.out; have := F16.out; have := F17.out; have := F18.out; have := F19.out; have := F20.out; have := F21.out; have := F22.out; have := F23.out; have := F24.out; have := F25.out; have := S.out; omega))
  replace BK6 := Aside0.mk (blk_ch hc BK6.out (by have := F1.out; have := F2.out; have := F3.out; have := F4.out; have := F5.out; have := F6.out; have := F7.out; have := F8.out; have := F9.out; have := F10.out; have := F11.out; have := F12.out; have := F13.out; have := F14.out; have := F15.out; have := F16.out; have := F17.out; have := F18.out; have := F19.out; have := F20.out; have := F21.out; have := F22.out; have := F23.out; have := F24.out; have := F25.out; have := S.out; omega))
  replace BK7 := Aside0.mk (blk_ch hc BK7.out (by have := F1.out; have := F2.out; have := F3.out; have := F4.out; have := F5.out; have := F6.out; have := F7.out; have := F8.out; have := F9.out; have := F10.out; have := F11.out; have := F12.out; have := F13.out; have := F14.out; have := F15.out; have := F16.out; have := F17.out; have := F18.out; have := F19.out; have := F20.out; have := F21.out; have := F22.out; have := F23.out; have := F24.out; have := F25.out; have := S.out; omega))
  replace My := Aside0.mk (R4_ch My.out hc (by have := F1.out; have := F2.out; have := F3.out; have := F4.out; have := F5.out; have := F6.out; have := F7.out; have := F8.out; have := F9.out; have := F10.out; have := F11.out; have := F12.out; have := F13.out; have := F14.out; have := F15.out; have := F16.out; have := F17.out; have := F18.out; have := F19.out; have := F20.out; have := F21.out; have := F22.out; have := F23.out; have := F24.out; have := F25.out; have := S.out; omega))
  replace BK9 := Aside0.mk (blk_ch hc BK9.out (by have := F1.out; have := F2.out; have := F3.out; have := F4.out; have := F5.out; have := F6.out; have := F7.out; have := F8.out; have := F9.out; have := F10.out; have := F11.out; have := F12.out; have := F13.out; have := F14.out; have := F15.out; have := F16.out; have := F17.out; have := F18.out; have := F19.out; have := F20.out; have := F21.out; have := F22.out; have := F23.out; have := F24.out; have := F25.out; have := S.out; omega))
  replace Mv := Aside0.mk (R4_ch Mv.out hc (by have := F1.out; have := F2.out; have := F3.out; have := F4.out; have := F5.out; have := F6.out; have := F7.out; have := F8.out; have := F9.out; have := F10.out; have := F11.out; have := F12.out; have := F13.out; have := F14.out; have := F15.out; have := F16.out; have := F17.out; have := F18.out; have := F19.out; have := F20.out; have := F21.out; have := F22.out; have := F23.out; have := F24.out; have := F25.out; have := S.out; omega))
  replace BK11 := Aside0.mk (blk_ch hc BK11.out (by have := F1.out; have := F2.out; have := F3.out; have := F4.out; have := F5.out; have := F6.out; have := F7.out; have := F8.out; have := F9.out; have := F10.out; have := F11.out; have := F12.out; have := F13.out; have := F14.out; have := F15.out; have := F16.out; have := F17.out; have := F18.out; have := F19.out; have := F20.out; have := F21.out; have := F22.out; have := F23.out; have := F24.out; have := F25.out; have := S.out; omega))
  replace HB := Aside0.mk (below_ch HB.out hc (Or.inr (by have := F1.out; have := F2.out; have := F3.out; have := F4.out; have := F5.out; have := F6.out; have := F7.out; have := F8.out; have := F9.out; have := F10.out; have := F11.out; have := F12.out; have := F13.out; have := F14.out; have := F15.out; have := F16.out; have := F17.out; have := F18.out; have := F19.out; have := F20.out; have := F21.out; have := F22.out; have := F23.out; have := F24.out; have := F25.out; have := S.out; omega)))
  replace S := Aside0.mk (Nat.le_trans S.out hc.size)
  clear BK10
  have BK10 := Aside0.mk hbox
  clear hbox hc
  refine hK.out _ _ ⟨BK3.out, BK9.out⟩ (fun hHeld => ?_)
  clear hK K
  refine one_ (i := 11) (N := none) #[true, true, true, true, true, true, true, true, true, true, true, true, false] rfl rfl (by kernel_rfl) (by decide) (fun K hK => ?_)
  refine store_struct_step (by rfl) rfl 38 (.tmp 11) (.tmp 41) rfl (cs := #[.int .i64 y0, .int .i64 y1]) (by rfl) (by rfl) BK11.out (by kernel_rfl) rfl (by repeat (first | exact fun _ h => absurd h List.not_mem_nil | refine List.forall_mem_cons.2 ⟨rfl, ?_⟩)) ?_
  intro w' hbox hc
  replace BK2 := Aside0.mk (blk_ch hc BK2.out (by have := F1.out; have := F2.out; have := F3.out; have := F4.out; have := F5.out; have := F6.out; have := F7.out; have := F8.out; have := F9.out; have := F10.out; have := F11.out; have := F12.out; have := F13.out; have := F14.out; have := F15.out; have := F16.out; have := F17.out; have := F18.out; have := F19.out; have := F20.out; have := F21.out; have := F22.out; have := F23.out; have := F24.out; have := F25.out; have := S.out; omega))
  replace BK3 := Aside0.mk (blk_ch hc BK3.out (by have := F1.out; have := F2.out; have := F3.out; have := F4.out; have := F5.out; have := F6.out; have := F7.out; have := F8.out; have := F9.out; have := F10.out; have := F11.out; have := F12.out; have := F13.out; have := F14.out; have := F15.out; have := F16.out; have := F17.out; have := F18.out; have := F19.out; have := F20.out; have := F21.out; have := F22.out; have := F23.out; have := F24.out; have := F25.out; have := S.out; omega))
  replace Mu := Aside0.mk (R4_ch Mu.out hc (by have := F1.out; have := F2.out; have := F3.out; have := F4.out; have := F5.out; have := F6.out; have := F7.out; have := F8.out; have := F9.out; have := F10.out; have := F11.out; have := F12.out; have := F13.out; have := F14.out; have := F15.out; have := F16.out; have := F17.out; have := F18.out; have := F19.out; have := F20.out; have := F21.out; have := F22.out; have := F23.out; have := F24.out; have := F25.out; have := S.out; omega))
  replace BK6 := Aside0.mk (blk_ch hc BK6.out (by have := F1.out; have := F2.out; have := F3.out; have := F4.out; have := F5.out; have := F6.out; have := F7.out; have := F8.out; have := F9.out; have := F10.out; have := F11.out; have := F12.out; have := F13.out; have := F14.out; have := F15.out; have := F16.out; have := F17.out; have := F18.out; have := F19.out; have := F20.out; have := F21.out; have := F22.out; have := F23.out; have := F24.out; have := F25.out; have := S.out; omega))
  replace BK7 := Aside0.mk (blk_ch hc BK7.out (by have := F1.out; have := F2.out; have := F3.out; have := F4.out; have := F5.out; have := F6.out; have := F7.out; have := F8.out; have := F9.out; have := F10.out; have := F11.out; have := F12.out; have := F13.out; have := F14.out; have := F15.out; have := F16.out; have := F17.out; have := F18.out; have := F19.out; have := F20.out; have := F21.out; have := F22.out; have := F23.out; have := F24.out; have := F25.out; have := S.out; omega))
  replace My := Aside0.mk (R4_ch My.out hc (by have := F1.out; have := F2.out; have := F3.out; have := F4.out; have := F5.out; have := F6.out; have := F7.out; have := F8.out; have := F9.out; have := F10.out; have := F11.out; have := F12.out; have := F13.out; have := F14.out; have := F15.out; have := F16.out; have := F17.out; have := F18.out; have := F19.out; have := F20.out; have := F21.out; have := F22.out; have := F23.out; have := F24.out; have := F25.out; have := S.out; omega))
  replace BK9 := Aside0.mk (blk_ch hc BK9.out (by have := F1.out; have := F2.out; have := F3.out; have := F4.out; have := F5.out; have := F6.out; have := F7.out; have := F8.out; have := F9.out; have := F10.out; have := F11.out; have := F12.out; have := F13.out; have := F14.out; have := F15.out; have := F16.out; have := F17.out; have := F18.out; have := F19.out; have := F20.out; have := F21.out; have := F22.out; have := F23.out; have := F24.out; have := F25.out; have := S.out; omega))
  replace Mv := Aside0.mk (R4_ch Mv.out hc (by have := F1.out; have := F2.out; have := F3.out; have := F4.out; have := F5.out; have := F6.out; have := F7.out; have := F8.out; have := F9.out; have := F10.out; have := F11.out; have := F12.out; have := F13.out; have := F14.out; have := F15.out; have := F16.out; have := F17.out; have := F18.out; have := F19.out; have := F20.out; have := F21.out; have := F22.out; have := F23.out; have := F24.out; have := F25.out; have := S.out; omega))
  replace BK10 := Aside0.mk (blk_ch hc BK10.out (by have := F1.out; have := F2.out; have := F3.out; have := F4.out; have := F5.out; have := F6.out; have := F7.out; have := F8.out; have := F9.out; have := F10.out; have := F11.out; have := F12.out; have := F13.out; have := F14.out; have := F15.out; have := F16.out; have := F17.out; have := F18.out; have := F19.out; have := F20.out; have := F21.out; have := F22.out; have := F23.out; have := F24.out; have := F25.out; have := S.out; omega))
  replace HB := Aside0.mk (below_ch HB.out hc (Or.inr (by have := F1.out; have := F2.out; have := F3.out; have := F4.out; have := F5.out; have := F6.out; have := F7.out; have := F8.out; have := F9.out; have := F10.out; have := F11.out; have := F12.out; have := F13.out; have := F14.out; have := F15.out; have := F16.out; have := F17.out; have := F18.out; have := F19.out; have := F20.out; have := F21.out; have := F22.out; have := F23.out; have := F24.out; have := F25.out; have := S.out; omega)))
  replace S := Aside0.mk (Nat.le_trans S.out hc.size)
  clear BK11
  have BK11 := Aside0.mk hbox
  clear hbox hc
  refine hK.out _ _ ⟨BK3.out, BK9.out⟩ (fun hHeld => ?_)
  clear hK K
  refine pure_ (i := 12) (N := some 12) (v := ?_) (a' := ?_) #[true, true, true, true, true, true, true, true, true, true, true, true, true] rfl rfl (by kernel_rfl) (fun _ _ _ h => h) (Or.inl ⟨by rfl, ?_⟩) ?_ ?_
  rotate_left
  · intro w'
    go_simp
    with_reducible rfl
  rotate_left
  · simp only [Act.put, List.setIfInBounds_toArray, List.set_cons_zero, List.set_cons_succ, i64_w, i32_w]
    rfl
  refine done_ (by kernel_rfl) ?_
  go_wp2_with (first
    | ((with_reducible refine gate_ (.load 28 (.tmp 10)) rfl ?_); (try (refine gate_guard (by rfl) ?_; dsimp only)); refine wpList_load_row rfl 28 (.tmp 10) rfl g10 rfl 28 _ _ _ BK10.out Try.underlying28 rfl (by kernel_rfl) ?_)
    | ((with_reducible refine gate_ (.load 28 (.tmp 6)) rfl ?_); (try (refine gate_guard (by rfl) ?_; dsimp only)); refine wpList_load_row rfl 28 (.tmp 6) rfl g6 rfl 28 _ _ _ BK6.out Try.underlying28 rfl (by kernel_rfl) ?_)
    | ((with_reducible refine gate_callee (f := 19) rfl ?_); (try (refine gate_guard (by rfl) ?_; dsimp only)); refine goesL_ (some 45) rfl rfl Try.func19 (by kernel_rfl) rfl #[.agg #[.slice Av_0 lo_0.length cv_0, .slice Av_1 lo_1.length cv_1, .bool bo_2, .bool bo_3, .bool bo_4, .bool bo_5, .slice Av_6 lo_6.length cv_6, .slice Av_7 lo_7.length cv_7, .int .i64 bo_8], .agg #[.slice Au_0 lo_0.length cu_0, .slice Au_1 lo_1.length cu_1, .bool bo_2, .bool bo_3, .bool bo_4, .bool bo_5, .slice Au_6 lo_6.length cu_6, .slice Au_7 lo_7.length cu_7, .int .i64 bo_8]] rfl (by (try simp only [List.map_toArray, List.map_cons, List.map_nil]); first | done | rfl) ?_; refine (eq4 k Av_0 cv_0 _ lo_0 Av_1 cv_1 _ lo_1 bo_2 bo_3 bo_4 bo_5 Av_6 cv_6 _ lo_6 Av_7 cv_7 _ lo_7 bo_8 Au_0 cu_0 _ lo_0 Au_1 cu_1 _ lo_1 bo_2 bo_3 bo_4 bo_5 Au_6 cu_6 _ lo_6 Au_7 cu_7 _ lo_7 bo_8 true _ _ _ _ _ Mv.out Mu.out Heo.out).mono ?_; rintro e w' ⟨rfl, hc⟩; refine ⟨_, rfl, ?_⟩; replace BK2 := Aside0.mk (blk_ch hc BK2.out (Or.inr (Nat.zero_le _))); replace BK3 := Aside0.mk (blk_ch hc BK3.out (Or.inr (Nat.zero_le _))); replace Mu := Aside0.mk (R4_ch Mu.out hc (Or.inr (Or.inr (Nat.zero_le _)))); replace BK6 := Aside0.mk (blk_ch hc BK6.out (Or.inr (Nat.zero_le _))); replace BK7 := Aside0.mk (blk_ch hc BK7.out (Or.inr (Nat.zero_le _))); replace My := Aside0.mk (R4_ch My.out hc (Or.inr (Or.inr (Nat.zero_le _)))); replace BK9 := Aside0.mk (blk_ch hc BK9.out (Or.inr (Nat.zero_le _))); replace Mv := Aside0.mk (R4_ch Mv.out hc (Or.inr (Or.inr (Nat.zero_le _)))); replace BK10 := Aside0.mk (blk_ch hc BK10.out (Or.inr (Nat.zero_le _))); replace BK11 := Aside0.mk (blk_ch hc BK11.out (Or.inr (Nat.zero_le _))); replace HB := Aside0.mk (below_ch HB.out hc (Or.inl (Nat.le_refl _))); replace S := Aside0.mk (Nat.le_trans S.out hc.size); clear hc)
    | ((with_reducible refine gate_ (.load 38 (.tmp 11)) rfl ?_); (try (refine gate_guard (by rfl) ?_; dsimp only)); refine wpList_load_row rfl 38 (.tmp 11) rfl g11 rfl 38 _ _ _ BK11.out Try.underlying38 rfl (by kernel_rfl) ?_)
    | ((with_reducible refine gate_ (.load 38 (.tmp 7)) rfl ?_); (try (refine gate_guard (by rfl) ?_; dsimp only)); refine wpList_load_row rfl 38 (.tmp 7) rfl g7 rfl 38 _ _ _ BK7.out Try.underlying38 rfl (by kernel_rfl) ?_)
    | ((with_reducible refine gate_callee (f := 47) rfl ?_); (try (refine gate_guard (by rfl) ?_; dsimp only)); refine goesL_ (some 50) rfl rfl Try.func47 (by kernel_rfl) rfl #[.agg #[.int .i64 y0, .int .i64 y1], .agg #[.int .i64 y0, .int .i64 y1]] rfl (by (try simp only [List.map_toArray, List.map_cons, List.map_nil]); first | done | rfl) ?_; refine (laws_eqPlace.calls y0 y1 y0 y1 true _ Hep.out).mono ?_; rintro e w' ⟨rfl, hb⟩; have hc := Ch.of_below hb; refine ⟨_, rfl, ?_⟩; replace BK2 := Aside0.mk (blk_ch hc BK2.out (Or.inr (Nat.zero_le _))); replace BK3 := Aside0.mk (blk_ch hc BK3.out (Or.inr (Nat.zero_le _))); replace Mu := Aside0.mk (R4_ch Mu.out hc (Or.inr (Or.inr (Nat.zero_le _)))); replace BK6 := Aside0.mk (blk_ch hc BK6.out (Or.inr (Nat.zero_le _))); replace BK7 := Aside0.mk (blk_ch hc BK7.out (Or.inr (Nat.zero_le _))); replace My := Aside0.mk (R4_ch My.out hc (Or.inr (Or.inr (Nat.zero_le _)))); replace BK9 := Aside0.mk (blk_ch hc BK9.out (Or.inr (Nat.zero_le _))); replace Mv := Aside0.mk (R4_ch Mv.out hc (Or.inr (Or.inr (Nat.zero_le _)))); replace BK10 := Aside0.mk (blk_ch hc BK10.out (Or.inr (Nat.zero_le _))); replace BK11 := Aside0.mk (blk_ch hc BK11.out (Or.inr (Nat.zero_le _))); replace HB := Aside0.mk (below_ch HB.out hc (Or.inl (Nat.le_refl _))); replace S := Aside0.mk (Nat.le_trans S.out hc.size); clear hc hb))
  have hc := Ch.drew w'
  replace BK2 := Aside0.mk (blk_ch hc BK2.out (Or.inr (Nat.zero_le _)))
  replace BK3 := Aside0.mk (blk_ch hc BK3.out (Or.inr (Nat.zero_le _)))
  replace Mu := Aside0.mk (R4_ch Mu.out hc (Or.inr (Or.inr (Nat.zero_le _))))
  replace BK6 := Aside0.mk (blk_ch hc BK6.out (Or.inr (Nat.zero_le _)))
  replace BK7 := Aside0.mk (blk_ch hc BK7.out (Or.inr (Nat.zero_le _)))
  replace My := Aside0.mk (R4_ch My.out hc (Or.inr (Or.inr (Nat.zero_le _))))
  replace BK9 := Aside0.mk (blk_ch hc BK9.out (Or.inr (Nat.zero_le _)))
  replace Mv := Aside0.mk (R4_ch Mv.out hc (Or.inr (Or.inr (Nat.zero_le _))))
  replace BK10 := Aside0.mk (blk_ch hc BK10.out (Or.inr (Nat.zero_le _)))
  replace BK11 := Aside0.mk (blk_ch hc BK11.out (Or.inr (Nat.zero_le _)))
  replace HB := Aside0.mk (below_ch HB.out hc (Or.inl (Nat.le_refl _)))
  replace S := Aside0.mk (Nat.le_trans S.out hc.size)
  clear hc
  refine start_ (n := 5) (S := fun w' => w'.heap[g9]? = some (.cells #[.slice Ay_0 la_0.length cy_0, .slice Ay_1 la_1.length cy_1, .bool ba_2, .bool ba_3, .bool ba_4, .bool ba_5, .slice Ay_6 la_6.length cy_6, .slice Ay_7 la_7.length cy_7, .int .i64 ba_8] 28 (0, 0)) ∧ w'.heap[g2]? = some (.cells #[.slice Aa_0 la_0.length ca_0, .slice Aa_1 la_1.length ca_1, .bool ba_2, .bool ba_3, .bool ba_4, .bool ba_5, .slice Aa_6 la_6.length ca_6, .slice Aa_7 la_7.length ca_7, .int .i64 ba_8] 24 (0, 0))) (ds := []) #[false, false, false, false, false] (by kernel_rfl) rfl rfl ⟨BK9.out, BK2.out⟩ (fun hHeld => ?_)
  generalize w'.drew = w' at BK2 BK3 Mu BK6 BK7 My BK9 Mv BK10 BK11 HB S hHeld ⊢
  refine take_ (i := 0) (N := some 58) (v := .agg #[.slice Ay_0 la_0.length cy_0, .slice Ay_1 la_1.length cy_1, .bool ba_2, .bool ba_3, .bool ba_4, .bool ba_5, .slice Ay_6 la_6.length cy_6, .slice Ay_7 la_7.length cy_7, .int .i64 ba_8]) (a' := ?_) #[true, false, false, false, false] rfl rfl (by kernel_rfl) (fun _ _ _ h => h) (Or.inl ⟨by rfl, ?_⟩) hHeld ?_ ?_
  · rintro w' ⟨s0, s1⟩
    exact load_yields 28 (.tmp 9) (by rfl) g9 (by rfl) 28 _ _ s0 Try.underlying28 rfl (by kernel_rfl)
  rotate_left
  · simp only [Act.put, List.setIfInBounds_toArray, List.set_cons_zero, List.set_cons_succ, i64_w, i32_w]
    rfl
  refine take_ (i := 1) (N := some 59) (v := .agg #[.slice Aa_0 la_0.length ca_0, .slice Aa_1 la_1.length ca_1, .bool ba_2, .bool ba_3, .bool ba_4, .bool ba_5, .slice Aa_6 la_6.length ca_6, .slice Aa_7 la_7.length ca_7, .int .i64 ba_8]) (a' := ?_) #[true, true, false, false, false] rfl rfl (by kernel_rfl) (fun _ _ _ h => h) (Or.inl ⟨by rfl, ?_⟩) hHeld ?_ ?_
  · rintro w' ⟨s0, s1⟩
    exact load_yields 24 (.tmp 2) (by rfl) g2 (by rfl) 24 _ _ s1 Try.underlying24 rfl (by kernel_rfl)
  rotate_left
  · simp only [Act.put, List.setIfInBounds_toArray, List.set_cons_zero, List.set_cons_succ, i64_w, i32_w]
    rfl
  refine one_ (i := 2) (N := some 60) #[true, true, true, false, false] rfl rfl (by kernel_rfl) (by decide) (fun K hK => ?_)
  refine goes_ Try.func17 (by kernel_rfl) rfl #[.agg #[.slice Aa_0 la_0.length ca_0, .slice Aa_1 la_1.length ca_1, .bool ba_2, .bool ba_3, .bool ba_4, .bool ba_5, .slice Aa_6 la_6.length ca_6, .slice Aa_7 la_7.length ca_7, .int .i64 ba_8]] (by rfl) rfl rfl (by (try simp only [List.map_toArray, List.map_cons, List.map_nil]); first | done | rfl) ?_
  refine (to4 k Aa_0 ca_0 la_0 Aa_1 ca_1 la_1 ba_2 ba_3 ba_4 ba_5 Aa_6 ca_6 la_6 Aa_7 ca_7 la_7 ba_8 la_0 la_1 ba_2 ba_3 ba_4 ba_5 la_6 la_7 ba_8 w _ HB.out HR0.out HC0.out HR1.out HC1.out HR6.out HC6.out HR7.out HC7.out Hto.out).mono ?_
  rintro e w' ⟨Az_0, cz_0, Az_1, cz_1, Az_6, cz_6, Az_7, cz_7, loz, hiz, rfl, h1, h2, h3, hR, hc⟩
  refine ⟨_, rfl, ?_⟩
  have F26 : Aside0 (tp ≤ loz) := Aside0.mk (Nat.le_trans S.out h1)
  have F27 : Aside0 (loz ≤ hiz) := Aside0.mk h2
  replace BK2 := Aside0.mk (blk_ch hc BK2.out (Or.inr (Nat.zero_le _)))
  replace BK3 := Aside0.mk (blk_ch hc BK3.out (Or.inr (Nat.zero_le _)))
  replace Mu := Aside0.mk (R4_ch Mu.out hc (Or.inr (Or.inr (Nat.zero_le _))))
  replace BK6 := Aside0.mk (blk_ch hc BK6.out (Or.inr (Nat.zero_le _)))
  replace BK7 := Aside0.mk (blk_ch hc BK7.out (Or.inr (Nat.zero_le _)))
  replace My := Aside0.mk (R4_ch My.out hc (Or.inr (Or.inr (Nat.zero_le _))))
  replace BK9 := Aside0.mk (blk_ch hc BK9.out (Or.inr (Nat.zero_le _)))
  replace Mv := Aside0.mk (R4_ch Mv.out hc (Or.inr (Or.inr (Nat.zero_le _))))
  replace BK10 := Aside0.mk (blk_ch hc BK10.out (Or.inr (Nat.zero_le _)))
  replace BK11 := Aside0.mk (blk_ch hc BK11.out (Or.inr (Nat.zero_le _)))
  replace HB := Aside0.mk (below_ch HB.out hc (Or.inl (Nat.le_refl _)))
  replace S := Aside0.mk (Nat.le_trans S.out hc.size)
  clear S
  have S := Aside0.mk h3
  have Mz := Aside0.mk hR
  clear h1 h2 h3 hR hc
  refine hK.out _ _ ⟨BK9.out, BK2.out⟩ (fun hHeld => ?_)
  clear hK K
  refine norm_ (a' := ?_) ?_ ?_
  rotate_left
  · show Act.put _ (some 60) _ = _
    simp only [Act.put, List.setIfInBounds_toArray, List.set_cons_zero, List.set_cons_succ, i64_w, i32_w]
    rfl
  refine one_ (i := 3) (N := some 61) #[true, true, true, true, false] rfl rfl (by kernel_rfl) (by decide) (fun K hK => ?_)
  refine goes_ Try.func19 (by kernel_rfl) rfl #[.agg #[.slice Ay_0 la_0.length cy_0, .slice Ay_1 la_1.length cy_1, .bool ba_2, .bool ba_3, .bool ba_4, .bool ba_5, .slice Ay_6 la_6.length cy_6, .slice Ay_7 la_7.length cy_7, .int .i64 ba_8], .agg #[.slice Az_0 la_0.length cz_0, .slice Az_1 la_1.length cz_1, .bool ba_2, .bool ba_3, .bool ba_4, .bool ba_5, .slice Az_6 la_6.length cz_6, .slice Az_7 la_7.length cz_7, .int .i64 ba_8]] (by rfl) rfl rfl (by (try simp only [List.map_toArray, List.map_cons, List.map_nil]); first | done | rfl) ?_
  refine (eq4 k Ay_0 cy_0 _ la_0 Ay_1 cy_1 _ la_1 ba_2 ba_3 ba_4 ba_5 Ay_6 cy_6 _ la_6 Ay_7 cy_7 _ la_7 ba_8 Az_0 cz_0 _ la_0 Az_1 cz_1 _ la_1 ba_2 ba_3 ba_4 ba_5 Az_6 cz_6 _ la_6 Az_7 cz_7 _ la_7 ba_8 true _ _ _ _ _ My.out Mz.out Hel.out).mono ?_
  rintro e w' ⟨rfl, hc⟩
  refine ⟨_, rfl, ?_⟩
  replace BK2 := Aside0.mk (blk_ch hc BK2.out (Or.inr (Nat.zero_le _)))
  replace BK3 := Aside0.mk (blk_ch hc BK3.out (Or.inr (Nat.zero_le _)))
  replace Mu := Aside0.mk (R4_ch Mu.out hc (Or.inr (Or.inr (Nat.zero_le _))))
  replace BK6 := Aside0.mk (blk_ch hc BK6.out (Or.inr (Nat.zero_le _)))
  replace BK7 := Aside0.mk (blk_ch hc BK7.out (Or.inr (Nat.zero_le _)))
  replace My := Aside0.mk (R4_ch My.out hc (Or.inr (Or.inr (Nat.zero_le _))))
  replace BK9 := Aside0.mk (blk_ch hc BK9.out (Or.inr (Nat.zero_le _)))
  replace Mv := Aside0.mk (R4_ch Mv.out hc (Or.inr (Or.inr (Nat.zero_le _))))
  replace BK10 := Aside0.mk (blk_ch hc BK10.out (Or.inr (Nat.zero_le _)))
  replace BK11 := Aside0.mk (blk_ch hc BK11.out (Or.inr (Nat.zero_le _)))
  replace Mz := Aside0.mk (R4_ch Mz.out hc (Or.inr (Or.inr (Nat.zero_le _))))
  replace HB := Aside0.mk (below_ch HB.out hc (Or.inl (Nat.le_refl _)))
  replace S := Aside0.mk (Nat.le_trans S.out hc.size)
  clear hc
  refine hK.out _ _ ⟨BK9.out, BK2.out⟩ (fun hHeld => ?_)
  clear hK K
  refine norm_ (a' := ?_) ?_ ?_
  rotate_left
  · show Act.put _ (some 61) _ = _
    simp only [Act.put, List.setIfInBounds_toArray, List.set_cons_zero, List.set_cons_succ, i64_w, i32_w]
    rfl
  refine pure_ (i := 4) (N := some 62) (v := ?_) (a' := ?_) #[true, true, true, true, true] rfl rfl (by kernel_rfl) (fun _ _ _ h => h) (Or.inl ⟨by rfl, ?_⟩) ?_ ?_
  rotate_left
  · intro w'
    go_simp
    with_reducible rfl
  rotate_left
  · simp only [Act.put, List.setIfInBounds_toArray, List.set_cons_zero, List.set_cons_succ, i64_w, i32_w]
    rfl
  refine done_ (by kernel_rfl) ?_
  clear Mz
  go_wp2_with (first
    | ((with_reducible refine gate_ (.load 28 (.tmp 9)) rfl ?_); (try (refine gate_guard (by rfl) ?_; dsimp only)); refine wpList_load_row rfl 28 (.tmp 9) rfl g9 rfl 28 _ _ _ BK9.out Try.underlying28 rfl (by kernel_rfl) ?_)
    | ((with_reducible refine gate_ (.load 28 (.tmp 10)) rfl ?_); (try (refine gate_guard (by rfl) ?_; dsimp only)); refine wpList_load_row rfl 28 (.tmp 10) rfl g10 rfl 28 _ _ _ BK10.out Try.underlying28 rfl (by kernel_rfl) ?_)
    | ((with_reducible refine gate_ (.load 28 (.tmp 6)) rfl ?_); (try (refine gate_guard (by rfl) ?_; dsimp only)); refine wpList_load_row rfl 28 (.tmp 6) rfl g6 rfl 28 _ _ _ BK6.out Try.underlying28 rfl (by kernel_rfl) ?_)
    | ((with_reducible refine gate_ (.load 24 (.tmp 2)) rfl ?_); (try (refine gate_guard (by rfl) ?_; dsimp only)); refine wpList_load_row rfl 24 (.tmp 2) rfl g2 rfl 24 _ _ _ BK2.out Try.underlying24 rfl (by kernel_rfl) ?_)
    | ((with_reducible refine gate_ (.load 38 (.tmp 11)) rfl ?_); (try (refine gate_guard (by rfl) ?_; dsimp only)); refine wpList_load_row rfl 38 (.tmp 11) rfl g11 rfl 38 _ _ _ BK11.out Try.underlying38 rfl (by kernel_rfl) ?_)
    | ((with_reducible refine gate_ (.load 38 (.tmp 7)) rfl ?_); (try (refine gate_guard (by rfl) ?_; dsimp only)); refine wpList_load_row rfl 38 (.tmp 7) rfl g7 rfl 38 _ _ _ BK7.out Try.underlying38 rfl (by kernel_rfl) ?_)
    | ((with_reducible refine gate_callee (f := 32) rfl ?_); (try (refine gate_guard (by rfl) ?_; dsimp only)); refine goesL_ (some 65) rfl rfl Try.func32 (by kernel_rfl) rfl #[.agg #[.slice Ay_0 la_0.length cy_0, .slice Ay_1 la_1.length cy_1, .bool ba_2, .bool ba_3, .bool ba_4, .bool ba_5, .slice Ay_6 la_6.length cy_6, .slice Ay_7 la_7.length cy_7, .int .i64 ba_8], .int .i64 1] rfl (by (try simp only [List.map_toArray, List.map_cons, List.map_nil]); first | done | rfl) ?_; refine (mark4 k (.slice Ay_0 la_0.length cy_0) (.slice Ay_1 la_1.length cy_1) (.slice Ay_6 la_6.length cy_6) (.slice Ay_7 la_7.length cy_7) la_0 la_1 ba_2 ba_3 ba_4 ba_5 la_6 la_7 ba_8 1 m0 lp_0 lp_1 lp_6 lp_7 _ _ w _ HB.out (by have := F1.out; have := F2.out; have := F3.out; have := F4.out; have := F5.out; have := F6.out; have := F7.out; have := F8.out; have := F9.out; have := F10.out; have := F11.out; have := F12.out; have := F13.out; have := F14.out; have := F15.out; have := F16.out; have := F17.out; have := F18.out; have := F19.out; have := F20.out; have := F21.out; have := F22.out; have := F23.out; have := F24.out; have := F25.out; have := F26.out; have := F27.out; have := S.out; omega) My.out Hm0.out).mono ?_; rintro e w' ⟨rfl, hR, hc⟩; refine ⟨_, rfl, ?_⟩; replace BK2 := Aside0.mk (blk_ch hc BK2.out (by have := F1.out; have := F2.out; have := F3.out; have := F4.out; have := F5.out; have := F6.out; have := F7.out; have := F8.out; have := F9.out; have := F10.out; have := F11.out; have := F12.out; have := F13.out; have := F14.out; have := F15.out; have := F16.out; have := F17.out; have := F18.out; have := F19.out; have := F20.out; have := F21.out; have := F22.out; have := F23.out; have := F24.out; have := F25.out; have := F26.out; have := F27.out; have := S.out; omega)); replace BK3 := Aside0.mk (blk_ch hc BK3.out (by have := F1.out; have := F2.out; have := F3.out; have := F4.out; have := F5.out; have := F6.out; have := F7.out; have := F8.out; have := F9.out; have := F10.out; have := F11.out; have := F12.out; have := F13.out; have := F14.out; have := F15.out; have := F16.out; have := F17.out; have := F18.out; have := F19.out; have := F20.out; have := F21.out; have := F22.out; have := F23.out; have := F24.out; have := F25.out; have := F26.out; have := F27.out; have := S.out; omega)); replace Mu := Aside0.mk (R4_ch Mu.out hc (by have := F1.out; have := F2.out; have := F3.out; have := F4.out; have := F5.out; have := F6.out; have := F7.out; have := F8.out; have := F9.out; have := F10.out; have := F11.out; have := F12.out; have := F13.out; have := F14.out; have := F15.out; have := F16.out; have := F17.out; have := F18.out; have := F19.out; have := F20.out; have := F21.out; have := F22.out; have := F23.out; have := F24.out; have := F25.out; have := F26.out; have := F27.out; have := S.out; omega)); replace BK6 := Aside0.mk (blk_ch hc BK6.out (by have := F1.out; have := F2.out; have := F3.out; have := F4.out; have := F5.out; have := F6.out; have := F7.out; have := F8.out; have := F9.out; have := F10.out; have := F11.out; have := F12.out; have := F13.out; have := F14.out; have := F15.out; have := F16.out; have := F17.out; have := F18.out; have := F19.out; have := F20.out; have := F21.out; have := F22.out; have := F23.out; have := F24.out; have := F25.out; have := F26.out; have := F27.out; have := S.out; omega)); replace BK7 := Aside0.mk (blk_ch hc BK7.out (by have := F1.out; have := F2.out; have := F3.out; have := F4.out; have := F5.out; have := F6.out; have := F7.out; have := F8.out; have := F9.out; have := F10.out; have := F11.out; have := F12.out; have := F13.out; have := F14.out; have := F15.out; have := F16.out; have := F17.out; have := F18.out; have := F19.out; have := F20.out; have := F21.out; have := F22.out; have := F23.out; have := F24.out; have := F25.out; have := F26.out; have := F27.out; have := S.out; omega)); replace BK9 := Aside0.mk (blk_ch hc BK9.out (by have := F1.out; have := F2.out; have := F3.out; have := F4.out; have := F5.out; have := F6.out; have := F7.out; have := F8.out; have := F9.out; have := F10.out; have := F11.out; have := F12.out; have := F13.out; have := F14.out; have := F15.out; have := F16.out; have := F17.out; have := F18.out; have := F19.out; have := F20.out; have := F21.out; have := F22.out; have := F23.out; have := F24.out; have := F25.out; have := F26.out; have := F27.out; have := S.out; omega)); replace Mv := Aside0.mk (R4_ch Mv.out hc (by have := F1.out; have := F2.out; have := F3.out; have := F4.out; have := F5.out; have := F6.out; have := F7.out; have := F8.out; have := F9.out; have := F10.out; have := F11.out; have := F12.out; have := F13.out; have := F14.out; have := F15.out; have := F16.out; have := F17.out; have := F18.out; have := F19.out; have := F20.out; have := F21.out; have := F22.out; have := F23.out; have := F24.out; have := F25.out; have := F26.out; have := F27.out; have := S.out; omega)); replace BK10 := Aside0.mk (blk_ch hc BK10.out (by have := F1.out; have := F2.out; have := F3.out; have := F4.out; have := F5.out; have := F6.out; have := F7.out; have := F8.out; have := F9.out; have := F10.out; have := F11.out; have := F12.out; have := F13.out; have := F14.out; have := F15.out; have := F16.out; have := F17.out; have := F18.out; have := F19.out; have := F20.out; have := F21.out; have := F22.out; have := F23.out; have := F24.out; have := F25.out; have := F26.out; have := F27.out; have := S.out; omega)); replace BK11 := Aside0.mk (blk_ch hc BK11.out (by have := F1.out; have := F2.out; have := F3.out; have := F4.out; have := F5.out; have := F6.out; have := F7.out; have := F8.out; have := F9.out; have := F10.out; have := F11.out; have := F12.out; have := F13.out; have := F14.out; have := F15.out; have := F16.out; have := F17.out; have := F18.out; have := F19.out; have := F20.out; have := F21.out; have := F22.out; have := F23.out; have := F24.out; have := F25.out; have := F26.out; have := F27.out; have := S.out; omega)); replace HB := Aside0.mk (below_ch HB.out hc (Or.inr (by have := F1.out; have := F2.out; have := F3.out; have := F4.out; have := F5.out; have := F6.out; have := F7.out; have := F8.out; have := F9.out; have := F10.out; have := F11.out; have := F12.out; have := F13.out; have := F14.out; have := F15.out; have := F16.out; have := F17.out; have := F18.out; have := F19.out; have := F20.out; have := F21.out; have := F22.out; have := F23.out; have := F24.out; have := F25.out; have := F26.out; have := F27.out; have := S.out; omega))); replace S := Aside0.mk (Nat.le_trans S.out hc.size); clear My; have My := Aside0.mk hR; clear hR hc)
    | ((with_reducible refine gate_callee (f := 19) rfl ?_); (try (refine gate_guard (by rfl) ?_; dsimp only)); refine goesL_ (some 71) rfl rfl Try.func19 (by kernel_rfl) rfl #[.agg #[.slice Av_0 lo_0.length cv_0, .slice Av_1 lo_1.length cv_1, .bool bo_2, .bool bo_3, .bool bo_4, .bool bo_5, .slice Av_6 lo_6.length cv_6, .slice Av_7 lo_7.length cv_7, .int .i64 bo_8], .agg #[.slice Au_0 lo_0.length cu_0, .slice Au_1 lo_1.length cu_1, .bool bo_2, .bool bo_3, .bool bo_4, .bool bo_5, .slice Au_6 lo_6.length cu_6, .slice Au_7 lo_7.length cu_7, .int .i64 bo_8]] rfl (by (try simp only [List.map_toArray, List.map_cons, List.map_nil]); first | done | rfl) ?_; refine (eq4 k Av_0 cv_0 _ lo_0 Av_1 cv_1 _ lo_1 bo_2 bo_3 bo_4 bo_5 Av_6 cv_6 _ lo_6 Av_7 cv_7 _ lo_7 bo_8 Au_0 cu_0 _ lo_0 Au_1 cu_1 _ lo_1 bo_2 bo_3 bo_4 bo_5 Au_6 cu_6 _ lo_6 Au_7 cu_7 _ lo_7 bo_8 true _ _ _ _ _ Mv.out Mu.out Heo.out).mono ?_; rintro e w' ⟨rfl, hc⟩; refine ⟨_, rfl, ?_⟩; replace BK2 := Aside0.mk (blk_ch hc BK2.out (Or.inr (Nat.zero_le _))); replace BK3 := Aside0.mk (blk_ch hc BK3.out (Or.inr (Nat.zero_le _))); replace Mu := Aside0.mk (R4_ch Mu.out hc (Or.inr (Or.inr (Nat.zero_le _)))); replace BK6 := Aside0.mk (blk_ch hc BK6.out (Or.inr (Nat.zero_le _))); replace BK7 := Aside0.mk (blk_ch hc BK7.out (Or.inr (Nat.zero_le _))); replace My := Aside0.mk (R4_ch My.out hc (Or.inr (Or.inr (Nat.zero_le _)))); replace BK9 := Aside0.mk (blk_ch hc BK9.out (Or.inr (Nat.zero_le _))); replace Mv := Aside0.mk (R4_ch Mv.out hc (Or.inr (Or.inr (Nat.zero_le _)))); replace BK10 := Aside0.mk (blk_ch hc BK10.out (Or.inr (Nat.zero_le _))); replace BK11 := Aside0.mk (blk_ch hc BK11.out (Or.inr (Nat.zero_le _))); replace HB := Aside0.mk (below_ch HB.out hc (Or.inl (Nat.le_refl _))); replace S := Aside0.mk (Nat.le_trans S.out hc.size); clear hc)
    | ((with_reducible refine gate_callee (f := 47) rfl ?_); (try (refine gate_guard (by rfl) ?_; dsimp only)); refine goesL_ (some 77) rfl rfl Try.func47 (by kernel_rfl) rfl #[.agg #[.int .i64 y0, .int .i64 y1], .agg #[.int .i64 y0, .int .i64 y1]] rfl (by (try simp only [List.map_toArray, List.map_cons, List.map_nil]); first | done | rfl) ?_; refine (laws_eqPlace.calls y0 y1 y0 y1 true _ Hep.out).mono ?_; rintro e w' ⟨rfl, hb⟩; have hc := Ch.of_below hb; refine ⟨_, rfl, ?_⟩; replace BK2 := Aside0.mk (blk_ch hc BK2.out (Or.inr (Nat.zero_le _))); replace BK3 := Aside0.mk (blk_ch hc BK3.out (Or.inr (Nat.zero_le _))); replace Mu := Aside0.mk (R4_ch Mu.out hc (Or.inr (Or.inr (Nat.zero_le _)))); replace BK6 := Aside0.mk (blk_ch hc BK6.out (Or.inr (Nat.zero_le _))); replace BK7 := Aside0.mk (blk_ch hc BK7.out (Or.inr (Nat.zero_le _))); replace My := Aside0.mk (R4_ch My.out hc (Or.inr (Or.inr (Nat.zero_le _)))); replace BK9 := Aside0.mk (blk_ch hc BK9.out (Or.inr (Nat.zero_le _))); replace Mv := Aside0.mk (R4_ch Mv.out hc (Or.inr (Or.inr (Nat.zero_le _)))); replace BK10 := Aside0.mk (blk_ch hc BK10.out (Or.inr (Nat.zero_le _))); replace BK11 := Aside0.mk (blk_ch hc BK11.out (Or.inr (Nat.zero_le _))); replace HB := Aside0.mk (below_ch HB.out hc (Or.inl (Nat.le_refl _))); replace S := Aside0.mk (Nat.le_trans S.out hc.size); clear hc hb)
    | ((with_reducible refine gate_callee (f := 32) rfl ?_); (try (refine gate_guard (by rfl) ?_; dsimp only)); refine goesL_ (some 87) rfl rfl Try.func32 (by kernel_rfl) rfl #[.agg #[.slice Av_0 lo_0.length cv_0, .slice Av_1 lo_1.length cv_1, .bool bo_2, .bool bo_3, .bool bo_4, .bool bo_5, .slice Av_6 lo_6.length cv_6, .slice Av_7 lo_7.length cv_7, .int .i64 bo_8], .int .i64 1] rfl (by (try simp only [List.map_toArray, List.map_cons, List.map_nil]); first | done | rfl) ?_; refine (mark4 k (.slice Av_0 lo_0.length cv_0) (.slice Av_1 lo_1.length cv_1) (.slice Av_6 lo_6.length cv_6) (.slice Av_7 lo_7.length cv_7) lo_0 lo_1 bo_2 bo_3 bo_4 bo_5 lo_6 lo_7 bo_8 1 m1 lq_0 lq_1 lq_6 lq_7 _ _ w _ HB.out (by have := F1.out; have := F2.out; have := F3.out; have := F4.out; have := F5.out; have := F6.out; have := F7.out; have := F8.out; have := F9.out; have := F10.out; have := F11.out; have := F12.out; have := F13.out; have := F14.out; have := F15.out; have := F16.out; have := F17.out; have := F18.out; have := F19.out; have := F20.out; have := F21.out; have := F22.out; have := F23.out; have := F24.out; have := F25.out; have := F26.out; have := F27.out; have := S.out; omega) Mv.out Hm1.out).mono ?_; rintro e w' ⟨rfl, hR, hc⟩; refine ⟨_, rfl, ?_⟩; replace BK2 := Aside0.mk (blk_ch hc BK2.out (by have := F1.out; have := F2.out; have := F3.out; have := F4.out; have := F5.out; have := F6.out; have := F7.out; have := F8.out; have := F9.out; have := F10.out; have := F11.out; have := F12.out; have := F13.out; have := F14.out; have := F15.out; have := F16.out; have := F17.out; have := F18.out; have := F19.out; have := F20.out; have := F21.out; have := F22.out; have := F23.out; have := F24.out; have := F25.out; have := F26.out; have := F27.out; have := S.out; omega)); replace BK3 := Aside0.mk (blk_ch hc BK3.out (by have := F1.out; have := F2.out; have := F3.out; have := F4.out; have := F5.out; have := F6.out; have := F7.out; have := F8.out; have := F9.out; have := F10.out; have := F11.out; have := F12.out; have := F13.out; have := F14.out; have := F15.out; have := F16.out; have := F17.out; have := F18.out; have := F19.out; have := F20.out; have := F21.out; have := F22.out; have := F23.out; have := F24.out; have := F25.out; have := F26.out; have := F27.out; have := S.out; omega)); replace Mu := Aside0.mk (R4_ch Mu.out hc (by have := F1.out; have := F2.out; have := F3.out; have := F4.out; have := F5.out; have := F6.out; have := F7.out; have := F8.out; have := F9.out; have := F10.out; have := F11.out; have := F12.out; have := F13.out; have := F14.out; have := F15.out; have := F16.out; have := F17.out; have := F18.out; have := F19.out; have := F20.out; have := F21.out; have := F22.out; have := F23.out; have := F24.out; have := F25.out; have := F26.out; have := F27.out; have := S.out; omega)); replace BK6 := Aside0.mk (blk_ch hc BK6.out (by have := F1.out; have := F2.out; have := F3.out; have := F4.out; have := F5.out; have := F6.out; have := F7.out; have := F8.out; have := F9.out; have := F10.out; have := F11.out; have := F12.out; have := F13.out; have := F14.out; have := F15.out; have := F16.out; have := F17.out; have := F18.out; have := F19.out; have := F20.out; have := F21.out; have := F22.out; have := F23.out; have := F24.out; have := F25.out; have := F26.out; have := F27.out; have := S.out; omega)); replace BK7 := Aside0.mk (blk_ch hc BK7.out (by have := F1.out; have := F2.out; have := F3.out; have := F4.out; have := F5.out; have := F6.out; have := F7.out; have := F8.out; have := F9.out; have := F10.out; have := F11.out; have := F12.out; have := F13.out; have := F14.out; have := F15.out; have := F16.out; have := F17.out; have := F18.out; have := F19.out; have := F20.out; have := F21.out; have := F22.out; have := F23.out; have := F24.out; have := F25.out; have := F26.out; have := F27.out; have := S.out; omega)); replace My := Aside0.mk (R4_ch My.out hc (by have := F1.out; have := F2.out; have := F3.out; have := F4.out; have := F5.out; have := F6.out; have := F7.out; have := F8.out; have := F9.out; have := F10.out; have := F11.out; have := F12.out; have := F13.out; have := F14.out; have := F15.out; have := F16.out; have := F17.out; have := F18.out; have := F19.out; have := F20.out; have := F21.out; have := F22.out; have := F23.out; have := F24.out; have := F25.out; have := F26.out; have := F27.out; have := S.out; omega)); replace BK9 := Aside0.mk (blk_ch hc BK9.out (by have := F1.out; have := F2.out; have := F3.out; have := F4.out; have := F5.out; have := F6.out; have := F7.out; have := F8.out; have := F9.out; have := F10.out; have := F11.out; have := F12.out; have := F13.out; have := F14.out; have := F15.out; have := F16.out; have := F17.out; have := F18.out; have := F19.out; have := F20.out; have := F21.out; have := F22.out; have := F23.out; have := F24.out; have := F25.out; have := F26.out; have := F27.out; have := S.out; omega)); replace BK10 := Aside0.mk (blk_ch hc BK10.out (by have := F1.out; have := F2.out; have := F3.out; have := F4.out; have := F5.out; have := F6.out; have := F7.out; have := F8.out; have := F9.out; have := F10.out; have := F11.out; have := F12.out; have := F13.out; have := F14.out; have := F15.out; have := F16.out; have := F17.out; have := F18.out; have := F19.out; have := F20.out; have := F21.out; have := F22.out; have := F23.out; have := F24.out; have := F25.out; have := F26.out; have := F27.out; have := S.out; omega)); replace BK11 := Aside0.mk (blk_ch hc BK11.out (by have := F1.out; have := F2.out; have := F3.out; have := F4.out; have := F5.out; have := F6.out; have := F7.out; have := F8.out; have := F9.out; have := F10.out; have := F11.out; have := F12.out; have := F13.out; have := F14.out; have := F15.out; have := F16.out; have := F17.out; have := F18.out; have := F19.out; have := F20.out; have := F21.out; have := F22.out; have := F23.out; have := F24.out; have := F25.out; have := F26.out; have := F27.out; have := S.out; omega)); replace HB := Aside0.mk (below_ch HB.out hc (Or.inr (by have := F1.out; have := F2.out; have := F3.out; have := F4.out; have := F5.out; have := F6.out; have := F7.out; have := F8.out; have := F9.out; have := F10.out; have := F11.out; have := F12.out; have := F13.out; have := F14.out; have := F15.out; have := F16.out; have := F17.out; have := F18.out; have := F19.out; have := F20.out; have := F21.out; have := F22.out; have := F23.out; have := F24.out; have := F25.out; have := F26.out; have := F27.out; have := S.out; omega))); replace S := Aside0.mk (Nat.le_trans S.out hc.size); clear Mv; have Mv := Aside0.mk hR; clear hR hc)
    | ((with_reducible refine gate_callee (f := 33) rfl ?_); (try (refine gate_guard (by rfl) ?_; dsimp only)); refine goesL_ (some 90) rfl rfl Try.func33 (by kernel_rfl) rfl #[.agg #[.slice Av_0 lo_0.length cv_0, .slice Av_1 lo_1.length cv_1, .bool bo_2, .bool bo_3, .bool bo_4, .bool bo_5, .slice Av_6 lo_6.length cv_6, .slice Av_7 lo_7.length cv_7, .int .i64 bo_8], .int .i64 1] rfl (by (try simp only [List.map_toArray, List.map_cons, List.map_nil]); first | done | rfl) ?_; refine (held4 k Av_0 cv_0 _ lq_0 Av_1 cv_1 _ lq_1 bo_2 bo_3 bo_4 bo_5 Av_6 cv_6 _ lq_6 Av_7 cv_7 _ lq_7 bo_8 1 m1 _ _ _ Mv.out Hh.out).mono ?_; rintro e w' ⟨rfl, hc⟩; refine ⟨_, rfl, ?_⟩; replace BK2 := Aside0.mk (blk_ch hc BK2.out (Or.inr (Nat.zero_le _))); replace BK3 := Aside0.mk (blk_ch hc BK3.out (Or.inr (Nat.zero_le _))); replace Mu := Aside0.mk (R4_ch Mu.out hc (Or.inr (Or.inr (Nat.zero_le _)))); replace BK6 := Aside0.mk (blk_ch hc BK6.out (Or.inr (Nat.zero_le _))); replace BK7 := Aside0.mk (blk_ch hc BK7.out (Or.inr (Nat.zero_le _))); replace My := Aside0.mk (R4_ch My.out hc (Or.inr (Or.inr (Nat.zero_le _)))); replace BK9 := Aside0.mk (blk_ch hc BK9.out (Or.inr (Nat.zero_le _))); replace Mv := Aside0.mk (R4_ch Mv.out hc (Or.inr (Or.inr (Nat.zero_le _)))); replace BK10 := Aside0.mk (blk_ch hc BK10.out (Or.inr (Nat.zero_le _))); replace BK11 := Aside0.mk (blk_ch hc BK11.out (Or.inr (Nat.zero_le _))); replace HB := Aside0.mk (below_ch HB.out hc (Or.inl (Nat.le_refl _))); replace S := Aside0.mk (Nat.le_trans S.out hc.size); clear hc))
  have hc := Ch.drew w'
  replace BK2 := Aside0.mk (blk_ch hc BK2.out (Or.inr (Nat.zero_le _)))
  replace BK3 := Aside0.mk (blk_ch hc BK3.out (Or.inr (Nat.zero_le _)))
  replace Mu := Aside0.mk (R4_ch Mu.out hc (Or.inr (Or.inr (Nat.zero_le _))))
  replace BK6 := Aside0.mk (blk_ch hc BK6.out (Or.inr (Nat.zero_le _)))
  replace BK7 := Aside0.mk (blk_ch hc BK7.out (Or.inr (Nat.zero_le _)))
  replace My := Aside0.mk (R4_ch My.out hc (Or.inr (Or.inr (Nat.zero_le _))))
  replace BK9 := Aside0.mk (blk_ch hc BK9.out (Or.inr (Nat.zero_le _)))
  replace Mv := Aside0.mk (R4_ch Mv.out hc (Or.inr (Or.inr (Nat.zero_le _))))
  replace BK10 := Aside0.mk (blk_ch hc BK10.out (Or.inr (Nat.zero_le _)))
  replace BK11 := Aside0.mk (blk_ch hc BK11.out (Or.inr (Nat.zero_le _)))
  replace HB := Aside0.mk (below_ch HB.out hc (Or.inl (Nat.le_refl _)))
  replace S := Aside0.mk (Nat.le_trans S.out hc.size)
  clear hc
  refine start_ (n := 14) (S := fun w' => w'.heap[g2]? = some (.cells #[.slice Aa_0 la_0.length ca_0, .slice Aa_1 la_1.length ca_1, .bool ba_2, .bool ba_3, .bool ba_4, .bool ba_5, .slice Aa_6 la_6.length ca_6, .slice Aa_7 la_7.length ca_7, .int .i64 ba_8] 24 (0, 0)) ∧ w'.heap[g3]? = some (.cells #[.int .i64 p0, .int .i64 p1, .int .i64 p2] 60 (0, 0))) (ds := []) #[false, false, false, false, false, false, false, false, false, false, false, false, false, false] (by kernel_rfl) rfl rfl ⟨BK2.out, BK3.out⟩ (fun hHeld => ?_)
  generalize w'.drew = w' at BK2 BK3 Mu BK6 BK7 My BK9 Mv BK10 BK11 HB S hHeld ⊢
  refine take_ (i := 0) (N := some 97) (v := .agg #[.slice Aa_0 la_0.length ca_0, .slice Aa_1 la_1.length ca_1, .bool ba_2, .bool ba_3, .bool ba_4, .bool ba_5, .slice Aa_6 la_6.length ca_6, .slice Aa_7 la_7.length ca_7, .int .i64 ba_8]) (a' := ?_) #[true, false, false, false, false, false, false, false, false, false, false, false, false, false] rfl rfl (by kernel_rfl) (fun _ _ _ h => h) (Or.inl ⟨by rfl, ?_⟩) hHeld ?_ ?_
  · rintro w' ⟨s0, s1⟩
    exact load_yields 24 (.tmp 2) (by rfl) g2 (by rfl) 24 _ _ s0 Try.underlying24 rfl (by kernel_rfl)
  rotate_left
  · simp only [Act.put, List.setIfInBounds_toArray, List.set_cons_zero, List.set_cons_succ, i64_w, i32_w]
    rfl
  refine take_ (i := 2) (N := some 99) (v := .agg #[.int .i64 p0, .int .i64 p1, .int .i64 p2]) (a' := ?_) #[true, false, true, false, false, false, false, false, false, false, false, false, false, false] rfl rfl (by kernel_rfl) (fun _ _ _ h => h) (Or.inl ⟨by rfl, ?_⟩) hHeld ?_ ?_
  · rintro w' ⟨s0, s1⟩
    exact load_yields 60 (.tmp 3) (by rfl) g3 (by rfl) 60 _ _ s1 Try.underlying60 rfl (by kernel_rfl)
  rotate_left
  · simp only [Act.put, List.setIfInBounds_toArray, List.set_cons_zero, List.set_cons_succ, i64_w, i32_w]
    rfl
  refine join_ (σ := St) 3 #[true, true, true, true, true, true, true, true, true, true, true, false, false, false] (fun s_ => [(98, .agg #[.slice s_.x.A0 la_0.length s_.x.c0, .slice s_.x.A1 la_1.length s_.x.c1, .bool ba_2, .bool ba_3, .bool ba_4, .bool ba_5, .slice s_.x.A6 la_6.length s_.x.c6, .slice s_.x.A7 la_7.length s_.x.c7, .int .i64 ba_8]), (100, .agg #[.int .i64 p0, .int .i64 p1, .int .i64 p2]), (101, .tuple #[.agg #[.slice s_.u.A0 lo_0.length s_.u.c0, .slice s_.u.A1 lo_1.length s_.u.c1, .bool bo_2, .bool bo_3, .bool bo_4, .bool bo_5, .slice s_.u.A6 lo_6.length s_.u.c6, .slice s_.u.A7 lo_7.length s_.u.c7, .int .i64 bo_8], .agg #[.int .i64 y0, .int .i64 y1], .bool ok]), (96, .tuple #[.agg #[.slice s_.u.A0 lo_0.length s_.u.c0, .slice s_.u.A1 lo_1.length s_.u.c1, .bool bo_2, .bool bo_3, .bool bo_4, .bool bo_5, .slice s_.u.A6 lo_6.length s_.u.c6, .slice s_.u.A7 lo_7.length s_.u.c7, .int .i64 bo_8], .agg #[.int .i64 y0, .int .i64 y1], .bool ok]), (102, .agg #[.slice s_.u.A0 lo_0.length s_.u.c0, .slice s_.u.A1 lo_1.length s_.u.c1, .bool bo_2, .bool bo_3, .bool bo_4, .bool bo_5, .slice s_.u.A6 lo_6.length s_.u.c6, .slice s_.u.A7 lo_7.length s_.u.c7, .int .i64 bo_8]), (103, .agg #[.int .i64 y0, .int .i64 y1]), (104, .bool ok), (16, .pointer (some ⟨s_.g, 0, none⟩)), (17, .pointer (some ⟨s_.h, 0, none⟩))]) (fun s_ w1 => J 3 true true ZM_ ZP_ w' la_0 la_1 la_6 la_7 lo_0 lo_1 lo_6 lo_7 s_ w1) ?_ ?_
  rotate_left
  · intro hs3tt
    refine join_ (σ := St) 8 #[true, true, true, true, false, false, false, false, false, true, true, false, false, false] (fun s_ => [(98, .agg #[.slice s_.x.A0 la_0.length s_.x.c0, .slice s_.x.A1 la_1.length s_.x.c1, .bool ba_2, .bool ba_3, .bool ba_4, .bool ba_5, .slice s_.x.A6 la_6.length s_.x.c6, .slice s_.x.A7 la_7.length s_.x.c7, .int .i64 ba_8]), (100, .agg #[.int .i64 p0, .int .i64 p1, .int .i64 p2]), (16, .pointer (some ⟨s_.g, 0, none⟩)), (17, .pointer (some ⟨s_.h, 0, none⟩))]) (fun s_ w1 => J 1 true true ZM_ ZP_ w' la_0 la_1 la_6 la_7 lo_0 lo_1 lo_6 lo_7 s_ w1) ?_ ?_
    · rintro ⟨⟨Ax_0, cx_0, Ax_1, cx_1, Ax_6, cx_6, Ax_7, cx_7, lox, hix⟩, ⟨Au_0, cu_0, Au_1, cu_1, Au_6, cu_6, Au_7, cu_7, lou, hiu⟩, gg, gh⟩ w1 hJ
      have hHeld : (fun w' => w'.heap[g2]? = some (.cells #[.slice Aa_0 la_0.length ca_0, .slice Aa_1 la_1.length ca_1, .bool ba_2, .bool ba_3, .bool ba_4, .bool ba_5, .slice Aa_6 la_6.length ca_6, .slice Aa_7 la_7.length ca_7, .int .i64 ba_8] 24 (0, 0)) ∧ w'.heap[g3]? = some (.cells #[.int .i64 p0, .int .i64 p1, .int .i64 p2] 60 (0, 0))) w1 := ⟨blk_below BK2.out hJ.hb, blk_below BK3.out hJ.hb⟩
      refine norm_ (a' := ?_) ?_ ?_
      rotate_left
      · simp only [putAll, Act.put, List.setIfInBounds_toArray, List.set_cons_zero, List.set_cons_succ]
        rfl
      refine one_ (i := 4) (N := some 101) #[true, true, true, true, true, false, false, false, false, true, true, false, false, false] rfl rfl (by kernel_rfl) (by decide) (fun K hK => ?_)
      refine goes_ Try.func46 (by kernel_rfl) rfl #[.agg #[.slice Ax_0 la_0.length cx_0, .slice Ax_1 la_1.length cx_1, .bool ba_2, .bool ba_3, .bool ba_4, .bool ba_5, .slice Ax_6 la_6.length cx_6, .slice Ax_7 la_7.length cx_7, .int .i64 ba_8], .agg #[.int .i64 p0, .int .i64 p1, .int .i64 p2]] (by rfl) rfl rfl (by (try simp only [List.map_toArray, List.map_cons, List.map_nil]); first | done | rfl) ?_
      refine (impl4 k Ax_0 cx_0 _ la_0 Ax_1 cx_1 _ la_1 ba_2 ba_3 ba_4 ba_5 Ax_6 cx_6 _ la_6 Ax_7 cx_7 _ la_7 ba_8 p0 p1 p2 lo_0 lo_1 bo_2 bo_3 bo_4 bo_5 lo_6 lo_7 bo_8 y0 y1 ok _ _ _ (hJ.hx rfl).2 Him.out).mono ?_
      rintro e w2 ⟨Au_0, cu_0, Au_1, cu_1, Au_6, cu_6, Au_7, cu_7, lou, hiu, rfl, h1, h2, h3, hR, hc⟩
      refine ⟨_, rfl, ?_⟩
      have hJ2 : J 3 true true ZM_ ZP_ w' la_0 la_1 la_6 la_7 lo_0 lo_1 lo_6 lo_7 ⟨⟨Ax_0, cx_0, Ax_1, cx_1, Ax_6, cx_6, Ax_7, cx_7, lox, hix⟩, ⟨Au_0, cu_0, Au_1, cu_1, Au_6, cu_6, Au_7, cu_7, lou, hiu⟩, gg, gh⟩ w2 := hJ.u h1 h2 h3 hR hc
      refine hK.out _ _ ⟨blk_below BK2.out hJ2.hb, blk_below BK3.out hJ2.hb⟩ (fun hHeld => ?_)
      refine norm_ (a' := ?_) ?_ ?_
      rotate_left
      · show Act.put _ (some 101) _ = _
        simp only [Act.put, List.setIfInBounds_toArray, List.set_cons_zero, List.set_cons_succ, i64_w, i32_w]
        rfl
      refine pure_ (i := 5) (N := some 96) (v := ?_) (a' := ?_) #[true, true, true, true, true, true, false, false, false, true, true, false, false, false] rfl rfl (by kernel_rfl) (fun _ _ _ h => h) (Or.inl ⟨by rfl, ?_⟩) ?_ ?_
      rotate_left
      · intro w'
        go_simp
        with_reducible rfl
      rotate_left
      · simp only [Act.put, List.setIfInBounds_toArray, List.set_cons_zero, List.set_cons_succ, i64_w, i32_w]
        rfl
      refine pure_ (i := 6) (N := some 102) (v := ?_) (a' := ?_) #[true, true, true, true, true, true, true, false, false, true, true, false, false, false] rfl rfl (by kernel_rfl) (fun _ _ _ h => h) (Or.inl ⟨by rfl, ?_⟩) ?_ ?_
      rotate_left
      · intro w'
        go_simp
        with_reducible rfl
      rotate_left
      · simp only [Act.put, List.setIfInBounds_toArray, List.set_cons_zero, List.set_cons_succ, i64_w, i32_w]
        rfl
      refine pure_ (i := 7) (N := some 103) (v := ?_) (a' := ?_) #[true, true, true, true, true, true, true, true, false, true, true, false, false, false] rfl rfl (by kernel_rfl) (fun _ _ _ h => h) (Or.inl ⟨by rfl, ?_⟩) ?_ ?_
      rotate_left
      · intro w'
        go_simp
        with_reducible rfl
      rotate_left
      · simp only [Act.put, List.setIfInBounds_toArray, List.set_cons_zero, List.set_cons_succ, i64_w, i32_w]
        rfl
      refine pure_ (i := 8) (N := some 104) (v := ?_) (a' := ?_) #[true, true, true, true, true, true, true, true, true, true, true, false, false, false] rfl rfl (by kernel_rfl) (fun _ _ _ h => h) (Or.inl ⟨by rfl, ?_⟩) ?_ ?_
      rotate_left
      · intro w'
        go_simp
        with_reducible rfl
      rotate_left
      · simp only [Act.put, List.setIfInBounds_toArray, List.set_cons_zero, List.set_cons_succ, i64_w, i32_w]
        rfl
      exact norm_ (by simp only [putAll, Act.put, List.setIfInBounds_toArray, List.set_cons_zero, List.set_cons_succ]) (hs3tt ⟨⟨Ax_0, cx_0, Ax_1, cx_1, Ax_6, cx_6, Ax_7, cx_7, lox, hix⟩, ⟨Au_0, cu_0, Au_1, cu_1, Au_6, cu_6, Au_7, cu_7, lou, hiu⟩, gg, gh⟩ _ hJ2)
    intro hs2tt
    refine join_ (σ := St) 4 #[true, true, true, true, true, true, true, true, true, true, false, false, false, false] (fun s_ => [(98, .agg #[.slice s_.x.A0 la_0.length s_.x.c0, .slice s_.x.A1 la_1.length s_.x.c1, .bool ba_2, .bool ba_3, .bool ba_4, .bool ba_5, .slice s_.x.A6 la_6.length s_.x.c6, .slice s_.x.A7 la_7.length s_.x.c7, .int .i64 ba_8]), (100, .agg #[.int .i64 p0, .int .i64 p1, .int .i64 p2]), (101, .tuple #[.agg #[.slice s_.u.A0 lo_0.length s_.u.c0, .slice s_.u.A1 lo_1.length s_.u.c1, .bool bo_2, .bool bo_3, .bool bo_4, .bool bo_5, .slice s_.u.A6 lo_6.length s_.u.c6, .slice s_.u.A7 lo_7.length s_.u.c7, .int .i64 bo_8], .agg #[.int .i64 y0, .int .i64 y1], .bool ok]), (96, .tuple #[.agg #[.slice s_.u.A0 lo_0.length s_.u.c0, .slice s_.u.A1 lo_1.length s_.u.c1, .bool bo_2, .bool bo_3, .bool bo_4, .bool bo_5, .slice s_.u.A6 lo_6.length s_.u.c6, .slice s_.u.A7 lo_7.length s_.u.c7, .int .i64 bo_8], .agg #[.int .i64 y0, .int .i64 y1], .bool ok]), (102, .agg #[.slice s_.u.A0 lo_0.length s_.u.c0, .slice s_.u.A1 lo_1.length s_.u.c1, .bool bo_2, .bool bo_3, .bool bo_4, .bool bo_5, .slice s_.u.A6 lo_6.length s_.u.c6, .slice s_.u.A7 lo_7.length s_.u.c7, .int .i64 bo_8]), (103, .agg #[.int .i64 y0, .int .i64 y1]), (104, .bool ok), (16, .pointer (some ⟨s_.g, 0, none⟩))]) (fun s_ w1 => J 3 true false ZM_ ZP_ w' la_0 la_1 la_6 la_7 lo_0 lo_1 lo_6 lo_7 s_ w1) ?_ ?_
    · rintro ⟨⟨Ax_0, cx_0, Ax_1, cx_1, Ax_6, cx_6, Ax_7, cx_7, lox, hix⟩, ⟨Au_0, cu_0, Au_1, cu_1, Au_6, cu_6, Au_7, cu_7, lou, hiu⟩, gg, gh⟩ w1 hJ
      have hHeld : (fun w' => w'.heap[g2]? = some (.cells #[.slice Aa_0 la_0.length ca_0, .slice Aa_1 la_1.length ca_1, .bool ba_2, .bool ba_3, .bool ba_4, .bool ba_5, .slice Aa_6 la_6.length ca_6, .slice Aa_7 la_7.length ca_7, .int .i64 ba_8] 24 (0, 0)) ∧ w'.heap[g3]? = some (.cells #[.int .i64 p0, .int .i64 p1, .int .i64 p2] 60 (0, 0))) w1 := ⟨blk_below BK2.out hJ.hb, blk_below BK3.out hJ.hb⟩
      refine norm_ (a' := ?_) ?_ ?_
      rotate_left
      · simp only [putAll, Act.put, List.setIfInBounds_toArray, List.set_cons_zero, List.set_cons_succ]
        rfl
      refine one_ (i := 10) (N := some 17) #[true, true, true, true, true, true, true, true, true, true, true, false, false, false] rfl rfl (by kernel_rfl) (by decide) (fun K hK => ?_)
      refine box_step ?hg (N := 17) ?hd (cs := #[.int .i64 0, .int .i64 0]) (t := 38) ?hr ?_; (case hd => rfl); (case hg => rfl); (case hr => first | (go_simp; done) | (go_simp; rfl))
      intro g2_ hg2 w2 hbox hb2
      have hJ2 : J 3 true true ZM_ ZP_ w' la_0 la_1 la_6 la_7 lo_0 lo_1 lo_6 lo_7 ⟨⟨Ax_0, cx_0, Ax_1, cx_1, Ax_6, cx_6, Ax_7, cx_7, lox, hix⟩, ⟨Au_0, cu_0, Au_1, cu_1, Au_6, cu_6, Au_7, cu_7, lou, hiu⟩, gg, g2_⟩ w2 := hJ.bh hg2 hbox hb2
      exact hK.out _ _ ⟨blk_below BK2.out hJ2.hb, blk_below BK3.out hJ2.hb⟩ (fun hHeld => norm_ (by show Act.put _ (some 17) _ = _; simp only [putAll, Act.put, List.setIfInBounds_toArray, List.set_cons_zero, List.set_cons_succ]) (hs3tt ⟨⟨Ax_0, cx_0, Ax_1, cx_1, Ax_6, cx_6, Ax_7, cx_7, lox, hix⟩, ⟨Au_0, cu_0, Au_1, cu_1, Au_6, cu_6, Au_7, cu_7, lou, hiu⟩, gg, g2_⟩ _ hJ2))
    intro hs3tf
    refine join_ (σ := St) 4 #[true, true, true, true, true, true, true, true, true, false, true, false, false, false] (fun s_ => [(98, .agg #[.slice s_.x.A0 la_0.length s_.x.c0, .slice s_.x.A1 la_1.length s_.x.c1, .bool ba_2, .bool ba_3, .bool ba_4, .bool ba_5, .slice s_.x.A6 la_6.length s_.x.c6, .slice s_.x.A7 la_7.length s_.x.c7, .int .i64 ba_8]), (100, .agg #[.int .i64 p0, .int .i64 p1, .int .i64 p2]), (101, .tuple #[.agg #[.slice s_.u.A0 lo_0.length s_.u.c0, .slice s_.u.A1 lo_1.length s_.u.c1, .bool bo_2, .bool bo_3, .bool bo_4, .bool bo_5, .slice s_.u.A6 lo_6.length s_.u.c6, .slice s_.u.A7 lo_7.length s_.u.c7, .int .i64 bo_8], .agg #[.int .i64 y0, .int .i64 y1], .bool ok]), (96, .tuple #[.agg #[.slice s_.u.A0 lo_0.length s_.u.c0, .slice s_.u.A1 lo_1.length s_.u.c1, .bool bo_2, .bool bo_3, .bool bo_4, .bool bo_5, .slice s_.u.A6 lo_6.length s_.u.c6, .slice s_.u.A7 lo_7.length s_.u.c7, .int .i64 bo_8], .agg #[.int .i64 y0, .int .i64 y1], .bool ok]), (102, .agg #[.slice s_.u.A0 lo_0.length s_.u.c0, .slice s_.u.A1 lo_1.length s_.u.c1, .bool bo_2, .bool bo_3, .bool bo_4, .bool bo_5, .slice s_.u.A6 lo_6.length s_.u.c6, .slice s_.u.A7 lo_7.length s_.u.c7, .int .i64 bo_8]), (103, .agg #[.int .i64 y0, .int .i64 y1]), (104, .bool ok), (17, .pointer (some ⟨s_.h, 0, none⟩))]) (fun s_ w1 => J 3 false true ZM_ ZP_ w' la_0 la_1 la_6 la_7 lo_0 lo_1 lo_6 lo_7 s_ w1) ?_ ?_
    · rintro ⟨⟨Ax_0, cx_0, Ax_1, cx_1, Ax_6, cx_6, Ax_7, cx_7, lox, hix⟩, ⟨Au_0, cu_0, Au_1, cu_1, Au_6, cu_6, Au_7, cu_7, lou, hiu⟩, gg, gh⟩ w1 hJ
      have hHeld : (fun w' => w'.heap[g2]? = some (.cells #[.slice Aa_0 la_0.length ca_0, .slice Aa_1 la_1.length ca_1, .bool ba_2, .bool ba_3, .bool ba_4, .bool ba_5, .slice Aa_6 la_6.length ca_6, .slice Aa_7 la_7.length ca_7, .int .i64 ba_8] 24 (0, 0)) ∧ w'.heap[g3]? = some (.cells #[.int .i64 p0, .int .i64 p1, .int .i64 p2] 60 (0, 0))) w1 := ⟨blk_below BK2.out hJ.hb, blk_below BK3.out hJ.hb⟩
      refine norm_ (a' := ?_) ?_ ?_
      rotate_left
      · simp only [putAll, Act.put, List.setIfInBounds_toArray, List.set_cons_zero, List.set_cons_succ]
        rfl
      refine one_ (i := 9) (N := some 16) #[true, true, true, true, true, true, true, true, true, true, true, false, false, false] rfl rfl (by kernel_rfl) (by decide) (fun K hK => ?_)
      refine box_step ?hg (N := 16) ?hd (cs := #[.slice none 0 0, .slice none 0 0, .bool false, .bool false, .bool false, .bool false, .slice none 0 0, .slice none 0 0, .int .i64 0]) (t := 28) ?hr ?_; (case hd => rfl); (case hg => rfl); (case hr => first | (go_simp; done) | (go_simp; rfl))
      intro g2_ hg2 w2 hbox hb2
      have hJ2 : J 3 true true ZM_ ZP_ w' la_0 la_1 la_6 la_7 lo_0 lo_1 lo_6 lo_7 ⟨⟨Ax_0, cx_0, Ax_1, cx_1, Ax_6, cx_6, Ax_7, cx_7, lox, hix⟩, ⟨Au_0, cu_0, Au_1, cu_1, Au_6, cu_6, Au_7, cu_7, lou, hiu⟩, g2_, gh⟩ w2 := hJ.bg hg2 hbox hb2
      exact hK.out _ _ ⟨blk_below BK2.out hJ2.hb, blk_below BK3.out hJ2.hb⟩ (fun hHeld => norm_ (by show Act.put _ (some 16) _ = _; simp only [putAll, Act.put, List.setIfInBounds_toArray, List.set_cons_zero, List.set_cons_succ]) (hs3tt ⟨⟨Ax_0, cx_0, Ax_1, cx_1, Ax_6, cx_6, Ax_7, cx_7, lox, hix⟩, ⟨Au_0, cu_0, Au_1, cu_1, Au_6, cu_6, Au_7, cu_7, lou, hiu⟩, g2_, gh⟩ _ hJ2))
    intro hs3ft
    refine join_ (σ := St) 9 #[true, true, true, false, false, false, false, false, false, true, true, false, false, false] (fun s_ => [(98, .agg #[.slice s_.x.A0 la_0.length s_.x.c0, .slice s_.x.A1 la_1.length s_.x.c1, .bool ba_2, .bool ba_3, .bool ba_4, .bool ba_5, .slice s_.x.A6 la_6.length s_.x.c6, .slice s_.x.A7 la_7.length s_.x.c7, .int .i64 ba_8]), (16, .pointer (some ⟨s_.g, 0, none⟩)), (17, .pointer (some ⟨s_.h, 0, none⟩))]) (fun s_ w1 => J 1 true true ZM_ ZP_ w' la_0 la_1 la_6 la_7 lo_0 lo_1 lo_6 lo_7 s_ w1) ?_ ?_
    · rintro ⟨⟨Ax_0, cx_0, Ax_1, cx_1, Ax_6, cx_6, Ax_7, cx_7, lox, hix⟩, ⟨Au_0, cu_0, Au_1, cu_1, Au_6, cu_6, Au_7, cu_7, lou, hiu⟩, gg, gh⟩ w1 hJ
      have hHeld : (fun w' => w'.heap[g2]? = some (.cells #[.slice Aa_0 la_0.length ca_0, .slice Aa_1 la_1.length ca_1, .bool ba_2, .bool ba_3, .bool ba_4, .bool ba_5, .slice Aa_6 la_6.length ca_6, .slice Aa_7 la_7.length ca_7, .int .i64 ba_8] 24 (0, 0)) ∧ w'.heap[g3]? = some (.cells #[.int .i64 p0, .int .i64 p1, .int .i64 p2] 60 (0, 0))) w1 := ⟨blk_below BK2.out hJ.hb, blk_below BK3.out hJ.hb⟩
      refine norm_ (a' := ?_) ?_ ?_
      rotate_left
      · simp only [putAll, Act.put, List.setIfInBounds_toArray, List.set_cons_zero, List.set_cons_succ]
        rfl
      refine one_ (i := 3) (N := some 100) #[true, true, true, true, false, false, false, false, false, true, true, false, false, false] rfl rfl (by kernel_rfl) (by decide) (fun K hK => ?_)
      refine goes_ Try.func45 (by kernel_rfl) rfl #[.agg #[.int .i64 p0, .int .i64 p1, .int .i64 p2]] (by rfl) rfl rfl (by (try simp only [List.map_toArray, List.map_cons, List.map_nil]); first | done | rfl) ?_
      refine (laws_toOpd.calls p0 p1 p2 p0 p1 p2 _ Htp.out).mono ?_
      rintro e w2 ⟨rfl, hb2⟩
      refine ⟨_, rfl, ?_⟩
      have hJ2 : J 1 true true ZM_ ZP_ w' la_0 la_1 la_6 la_7 lo_0 lo_1 lo_6 lo_7 ⟨⟨Ax_0, cx_0, Ax_1, cx_1, Ax_6, cx_6, Ax_7, cx_7, lox, hix⟩, ⟨Au_0, cu_0, Au_1, cu_1, Au_6, cu_6, Au_7, cu_7, lou, hiu⟩, gg, gh⟩ w2 := hJ.still hb2
      exact hK.out _ _ ⟨blk_below BK2.out hJ2.hb, blk_below BK3.out hJ2.hb⟩ (fun hHeld => norm_ (by show Act.put _ (some 100) _ = _; simp only [putAll, Act.put, List.setIfInBounds_toArray, List.set_cons_zero, List.set_cons_succ]) (hs2tt ⟨⟨Ax_0, cx_0, Ax_1, cx_1, Ax_6, cx_6, Ax_7, cx_7, lox, hix⟩, ⟨Au_0, cu_0, Au_1, cu_1, Au_6, cu_6, Au_7, cu_7, lou, hiu⟩, gg, gh⟩ _ hJ2))
    intro hs1tt
    refine join_ (σ := St) 9 #[true, true, true, true, false, false, false, false, false, true, false, false, false, false] (fun s_ => [(98, .agg #[.slice s_.x.A0 la_0.length s_.x.c0, .slice s_.x.A1 la_1.length s_.x.c1, .bool ba_2, .bool ba_3, .bool ba_4, .bool ba_5, .slice s_.x.A6 la_6.length s_.x.c6, .slice s_.x.A7 la_7.length s_.x.c7, .int .i64 ba_8]), (100, .agg #[.int .i64 p0, .int .i64 p1, .int .i64 p2]), (16, .pointer (some ⟨s_.g, 0, none⟩))]) (fun s_ w1 => J 1 true false ZM_ ZP_ w' la_0 la_1 la_6 la_7 lo_0 lo_1 lo_6 lo_7 s_ w1) ?_ ?_
    · rintro ⟨⟨Ax_0, cx_0, Ax_1, cx_1, Ax_6, cx_6, Ax_7, cx_7, lox, hix⟩, ⟨Au_0, cu_0, Au_1, cu_1, Au_6, cu_6, Au_7, cu_7, lou, hiu⟩, gg, gh⟩ w1 hJ
      have hHeld : (fun w' => w'.heap[g2]? = some (.cells #[.slice Aa_0 la_0.length ca_0, .slice Aa_1 la_1.length ca_1, .bool ba_2, .bool ba_3, .bool ba_4, .bool ba_5, .slice Aa_6 la_6.length ca_6, .slice Aa_7 la_7.length ca_7, .int .i64 ba_8] 24 (0, 0)) ∧ w'.heap[g3]? = some (.cells #[.int .i64 p0, .int .i64 p1, .int .i64 p2] 60 (0, 0))) w1 := ⟨blk_below BK2.out hJ.hb, blk_below BK3.out hJ.hb⟩
      refine norm_ (a' := ?_) ?_ ?_
      rotate_left
      · simp only [putAll, Act.put, List.setIfInBounds_toArray, List.set_cons_zero, List.set_cons_succ]
        rfl
      refine two_ (i := 4) (j := 10) (Ni := some 101) (Nj := some 17) #[true, true, true, true, true, false, false, false, false, true, false, false, false, false] #[true, true, true, true, false, false, false, false, false, true, true, false, false, false] rfl rfl rfl rfl (by kernel_rfl) (by decide) (by decide) (fun K hK => ?_) (fun K hK => ?_)
      · refine goes_ Try.func46 (by kernel_rfl) rfl #[.agg #[.slice Ax_0 la_0.length cx_0, .slice Ax_1 la_1.length cx_1, .bool ba_2, .bool ba_3, .bool ba_4, .bool ba_5, .slice Ax_6 la_6.length cx_6, .slice Ax_7 la_7.length cx_7, .int .i64 ba_8], .agg #[.int .i64 p0, .int .i64 p1, .int .i64 p2]] (by rfl) rfl rfl (by (try simp only [List.map_toArray, List.map_cons, List.map_nil]); first | done | rfl) ?_
        refine (impl4 k Ax_0 cx_0 _ la_0 Ax_1 cx_1 _ la_1 ba_2 ba_3 ba_4 ba_5 Ax_6 cx_6 _ la_6 Ax_7 cx_7 _ la_7 ba_8 p0 p1 p2 lo_0 lo_1 bo_2 bo_3 bo_4 bo_5 lo_6 lo_7 bo_8 y0 y1 ok _ _ _ (hJ.hx rfl).2 Him.out).mono ?_
        rintro e w2 ⟨Au_0, cu_0, Au_1, cu_1, Au_6, cu_6, Au_7, cu_7, lou, hiu, rfl, h1, h2, h3, hR, hc⟩
        refine ⟨_, rfl, ?_⟩
        have hJ2 : J 3 true false ZM_ ZP_ w' la_0 la_1 la_6 la_7 lo_0 lo_1 lo_6 lo_7 ⟨⟨Ax_0, cx_0, Ax_1, cx_1, Ax_6, cx_6, Ax_7, cx_7, lox, hix⟩, ⟨Au_0, cu_0, Au_1, cu_1, Au_6, cu_6, Au_7, cu_7, lou, hiu⟩, gg, gh⟩ w2 := hJ.u h1 h2 h3 hR hc
        refine hK.out _ _ ⟨blk_below BK2.out hJ2.hb, blk_below BK3.out hJ2.hb⟩ (fun hHeld => ?_)
        refine norm_ (a' := ?_) ?_ ?_
        rotate_left
        · show Act.put _ (some 101) _ = _
          simp only [Act.put, List.setIfInBounds_toArray, List.set_cons_zero, List.set_cons_succ, i64_w, i32_w]
          rfl
        refine pure_ (i := 5) (N := some 96) (v := ?_) (a' := ?_) #[true, true, true, true, true, true, false, false, false, true, false, false, false, false] rfl rfl (by kernel_rfl) (fun _ _ _ h => h) (Or.inl ⟨by rfl, ?_⟩) ?_ ?_
        rotate_left
        · intro w'
          go_simp
          with_reducible rfl
        rotate_left
        · simp only [Act.put, List.setIfInBounds_toArray, List.set_cons_zero, List.set_cons_succ, i64_w, i32_w]
          rfl
        refine pure_ (i := 6) (N := some 102) (v := ?_) (a' := ?_) #[true, true, true, true, true, true, true, false, false, true, false, false, false, false] rfl rfl (by kernel_rfl) (fun _ _ _ h => h) (Or.inl ⟨by rfl, ?_⟩) ?_ ?_
        rotate_left
        · intro w'
          go_simp
          with_reducible rfl
        rotate_left
        · simp only [Act.put, List.setIfInBounds_toArray, List.set_cons_zero, List.set_cons_succ, i64_w, i32_w]
          rfl
        refine pure_ (i := 7) (N := some 103) (v := ?_) (a' := ?_) #[true, true, true, true, true, true, true, true, false, true, false, false, false, false] rfl rfl (by kernel_rfl) (fun _ _ _ h => h) (Or.inl ⟨by rfl, ?_⟩) ?_ ?_
        rotate_left
        · intro w'
          go_simp
          with_reducible rfl
        rotate_left
        · simp only [Act.put, List.setIfInBounds_toArray, List.set_cons_zero, List.set_cons_succ, i64_w, i32_w]
          rfl
        refine pure_ (i := 8) (N := some 104) (v := ?_) (a' := ?_) #[true, true, true, true, true, true, true, true, true, true, false, false, false, false] rfl rfl (by kernel_rfl) (fun _ _ _ h => h) (Or.inl ⟨by rfl, ?_⟩) ?_ ?_
        rotate_left
        · intro w'
          go_simp
          with_reducible rfl
        rotate_left
        · simp only [Act.put, List.setIfInBounds_toArray, List.set_cons_zero, List.set_cons_succ, i64_w, i32_w]
          rfl
        exact norm_ (by simp only [putAll, Act.put, List.setIfInBounds_toArray, List.set_cons_zero, List.set_cons_succ]) (hs3tf ⟨⟨Ax_0, cx_0, Ax_1, cx_1, Ax_6, cx_6, Ax_7, cx_7, lox, hix⟩, ⟨Au_0, cu_0, Au_1, cu_1, Au_6, cu_6, Au_7, cu_7, lou, hiu⟩, gg, gh⟩ _ hJ2)
      · refine box_step ?hg (N := 17) ?hd (cs := #[.int .i64 0, .int .i64 0]) (t := 38) ?hr ?_; (case hd => rfl); (case hg => rfl); (case hr => first | (go_simp; done) | (go_simp; rfl))
        intro g2_ hg2 w2 hbox hb2
        have hJ2 : J 1 true true ZM_ ZP_ w' la_0 la_1 la_6 la_7 lo_0 lo_1 lo_6 lo_7 ⟨⟨Ax_0, cx_0, Ax_1, cx_1, Ax_6, cx_6, Ax_7, cx_7, lox, hix⟩, ⟨Au_0, cu_0, Au_1, cu_1, Au_6, cu_6, Au_7, cu_7, lou, hiu⟩, gg, g2_⟩ w2 := hJ.bh hg2 hbox hb2
        exact hK.out _ _ ⟨blk_below BK2.out hJ2.hb, blk_below BK3.out hJ2.hb⟩ (fun hHeld => norm_ (by show Act.put _ (some 17) _ = _; simp only [putAll, Act.put, List.setIfInBounds_toArray, List.set_cons_zero, List.set_cons_succ]) (hs2tt ⟨⟨Ax_0, cx_0, Ax_1, cx_1, Ax_6, cx_6, Ax_7, cx_7, lox, hix⟩, ⟨Au_0, cu_0, Au_1, cu_1, Au_6, cu_6, Au_7, cu_7, lou, hiu⟩, gg, g2_⟩ _ hJ2))
    intro hs2tf
    refine join_ (σ := St) 9 #[true, true, true, true, false, false, false, false, false, false, true, false, false, false] (fun s_ => [(98, .agg #[.slice s_.x.A0 la_0.length s_.x.c0, .slice s_.x.A1 la_1.length s_.x.c1, .bool ba_2, .bool ba_3, .bool ba_4, .bool ba_5, .slice s_.x.A6 la_6.length s_.x.c6, .slice s_.x.A7 la_7.length s_.x.c7, .int .i64 ba_8]), (100, .agg #[.int .i64 p0, .int .i64 p1, .int .i64 p2]), (17, .pointer (some ⟨s_.h, 0, none⟩))]) (fun s_ w1 => J 1 false true ZM_ ZP_ w' la_0 la_1 la_6 la_7 lo_0 lo_1 lo_6 lo_7 s_ w1) ?_ ?_
    · rintro ⟨⟨Ax_0, cx_0, Ax_1, cx_1, Ax_6, cx_6, Ax_7, cx_7, lox, hix⟩, ⟨Au_0, cu_0, Au_1, cu_1, Au_6, cu_6, Au_7, cu_7, lou, hiu⟩, gg, gh⟩ w1 hJ
      have hHeld : (fun w' => w'.heap[g2]? = some (.cells #[.slice Aa_0 la_0.length ca_0, .slice Aa_1 la_1.length ca_1, .bool ba_2, .bool ba_3, .bool ba_4, .bool ba_5, .slice Aa_6 la_6.length ca_6, .slice Aa_7 la_7.length ca_7, .int .i64 ba_8] 24 (0, 0)) ∧ w'.heap[g3]? = some (.cells #[.int .i64 p0, .int .i64 p1, .int .i64 p2] 60 (0, 0))) w1 := ⟨blk_below BK2.out hJ.hb, blk_below BK3.out hJ.hb⟩
      refine norm_ (a' := ?_) ?_ ?_
      rotate_left
      · simp only [putAll, Act.put, List.setIfInBounds_toArray, List.set_cons_zero, List.set_cons_succ]
        rfl
      refine two_ (i := 4) (j := 9) (Ni := some 101) (Nj := some 16) #[true, true, true, true, true, false, false, false, false, false, true, false, false, false] #[true, true, true, true, false, false, false, false, false, true, true, false, false, false] rfl rfl rfl rfl (by kernel_rfl) (by decide) (by decide) (fun K hK => ?_) (fun K hK => ?_)
      · refine goes_ Try.func46 (by kernel_rfl) rfl #[.agg #[.slice Ax_0 la_0.length cx_0, .slice Ax_1 la_1.length cx_1, .bool ba_2, .bool ba_3, .bool ba_4, .bool ba_5, .slice Ax_6 la_6.length cx_6, .slice Ax_7 la_7.length cx_7, .int .i64 ba_8], .agg #[.int .i64 p0, .int .i64 p1, .int .i64 p2]] (by rfl) rfl rfl (by (try simp only [List.map_toArray, List.map_cons, List.map_nil]); first | done | rfl) ?_
        refine (impl4 k Ax_0 cx_0 _ la_0 Ax_1 cx_1 _ la_1 ba_2 ba_3 ba_4 ba_5 Ax_6 cx_6 _ la_6 Ax_7 cx_7 _ la_7 ba_8 p0 p1 p2 lo_0 lo_1 bo_2 bo_3 bo_4 bo_5 lo_6 lo_7 bo_8 y0 y1 ok _ _ _ (hJ.hx rfl).2 Him.out).mono ?_
        rintro e w2 ⟨Au_0, cu_0, Au_1, cu_1, Au_6, cu_6, Au_7, cu_7, lou, hiu, rfl, h1, h2, h3, hR, hc⟩
        refine ⟨_, rfl, ?_⟩
        have hJ2 : J 3 false true ZM_ ZP_ w' la_0 la_1 la_6 la_7 lo_0 lo_1 lo_6 lo_7 ⟨⟨Ax_0, cx_0, Ax_1, cx_1, Ax_6, cx_6, Ax_7, cx_7, lox, hix⟩, ⟨Au_0, cu_0, Au_1, cu_1, Au_6, cu_6, Au_7, cu_7, lou, hiu⟩, gg, gh⟩ w2 := hJ.u h1 h2 h3 hR hc
        refine hK.out _ _ ⟨blk_below BK2.out hJ2.hb, blk_below BK3.out hJ2.hb⟩ (fun hHeld => ?_)
        refine norm_ (a' := ?_) ?_ ?_
        rotate_left
        · show Act.put _ (some 101) _ = _
          simp only [Act.put, List.setIfInBounds_toArray, List.set_cons_zero, List.set_cons_succ, i64_w, i32_w]
          rfl
        refine pure_ (i := 5) (N := some 96) (v := ?_) (a' := ?_) #[true, true, true, true, true, true, false, false, false, false, true, false, false, false] rfl rfl (by kernel_rfl) (fun _ _ _ h => h) (Or.inl ⟨by rfl, ?_⟩) ?_ ?_
        rotate_left
        · intro w'
          go_simp
          with_reducible rfl
        rotate_left
        · simp only [Act.put, List.setIfInBounds_toArray, List.set_cons_zero, List.set_cons_succ, i64_w, i32_w]
          rfl
        refine pure_ (i := 6) (N := some 102) (v := ?_) (a' := ?_) #[true, true, true, true, true, true, true, false, false, false, true, false, false, false] rfl rfl (by kernel_rfl) (fun _ _ _ h => h) (Or.inl ⟨by rfl, ?_⟩) ?_ ?_
        rotate_left
        · intro w'
          go_simp
          with_reducible rfl
        rotate_left
        · simp only [Act.put, List.setIfInBounds_toArray, List.set_cons_zero, List.set_cons_succ, i64_w, i32_w]
          rfl
        refine pure_ (i := 7) (N := some 103) (v := ?_) (a' := ?_) #[true, true, true, true, true, true, true, true, false, false, true, false, false, false] rfl rfl (by kernel_rfl) (fun _ _ _ h => h) (Or.inl ⟨by rfl, ?_⟩) ?_ ?_
        rotate_left
        · intro w'
          go_simp
          with_reducible rfl
        rotate_left
        · simp only [Act.put, List.setIfInBounds_toArray, List.set_cons_zero, List.set_cons_succ, i64_w, i32_w]
          rfl
        refine pure_ (i := 8) (N := some 104) (v := ?_) (a' := ?_) #[true, true, true, true, true, true, true, true, true, false, true, false, false, false] rfl rfl (by kernel_rfl) (fun _ _ _ h => h) (Or.inl ⟨by rfl, ?_⟩) ?_ ?_
        rotate_left
        · intro w'
          go_simp
          with_reducible rfl
        rotate_left
        · simp only [Act.put, List.setIfInBounds_toArray, List.set_cons_zero, List.set_cons_succ, i64_w, i32_w]
          rfl
        exact norm_ (by simp only [putAll, Act.put, List.setIfInBounds_toArray, List.set_cons_zero, List.set_cons_succ]) (hs3ft ⟨⟨Ax_0, cx_0, Ax_1, cx_1, Ax_6, cx_6, Ax_7, cx_7, lox, hix⟩, ⟨Au_0, cu_0, Au_1, cu_1, Au_6, cu_6, Au_7, cu_7, lou, hiu⟩, gg, gh⟩ _ hJ2)
      · refine box_step ?hg (N := 16) ?hd (cs := #[.slice none 0 0, .slice none 0 0, .bool false, .bool false, .bool false, .bool false, .slice none 0 0, .slice none 0 0, .int .i64 0]) (t := 28) ?hr ?_; (case hd => rfl); (case hg => rfl); (case hr => first | (go_simp; done) | (go_simp; rfl))
        intro g2_ hg2 w2 hbox hb2
        have hJ2 : J 1 true true ZM_ ZP_ w' la_0 la_1 la_6 la_7 lo_0 lo_1 lo_6 lo_7 ⟨⟨Ax_0, cx_0, Ax_1, cx_1, Ax_6, cx_6, Ax_7, cx_7, lox, hix⟩, ⟨Au_0, cu_0, Au_1, cu_1, Au_6, cu_6, Au_7, cu_7, lou, hiu⟩, g2_, gh⟩ w2 := hJ.bg hg2 hbox hb2
        exact hK.out _ _ ⟨blk_below BK2.out hJ2.hb, blk_below BK3.out hJ2.hb⟩ (fun hHeld => norm_ (by show Act.put _ (some 16) _ = _; simp only [putAll, Act.put, List.setIfInBounds_toArray, List.set_cons_zero, List.set_cons_succ]) (hs2tt ⟨⟨Ax_0, cx_0, Ax_1, cx_1, Ax_6, cx_6, Ax_7, cx_7, lox, hix⟩, ⟨Au_0, cu_0, Au_1, cu_1, Au_6, cu_6, Au_7, cu_7, lou, hiu⟩, g2_, gh⟩ _ hJ2))
    intro hs2ft
    refine join_ (σ := St) 5 #[true, true, true, true, true, true, true, true, true, false, false, false, false, false] (fun s_ => [(98, .agg #[.slice s_.x.A0 la_0.length s_.x.c0, .slice s_.x.A1 la_1.length s_.x.c1, .bool ba_2, .bool ba_3, .bool ba_4, .bool ba_5, .slice s_.x.A6 la_6.length s_.x.c6, .slice s_.x.A7 la_7.length s_.x.c7, .int .i64 ba_8]), (100, .agg #[.int .i64 p0, .int .i64 p1, .int .i64 p2]), (101, .tuple #[.agg #[.slice s_.u.A0 lo_0.length s_.u.c0, .slice s_.u.A1 lo_1.length s_.u.c1, .bool bo_2, .bool bo_3, .bool bo_4, .bool bo_5, .slice s_.u.A6 lo_6.length s_.u.c6, .slice s_.u.A7 lo_7.length s_.u.c7, .int .i64 bo_8], .agg #[.int .i64 y0, .int .i64 y1], .bool ok]), (96, .tuple #[.agg #[.slice s_.u.A0 lo_0.length s_.u.c0, .slice s_.u.A1 lo_1.length s_.u.c1, .bool bo_2, .bool bo_3, .bool bo_4, .bool bo_5, .slice s_.u.A6 lo_6.length s_.u.c6, .slice s_.u.A7 lo_7.length s_.u.c7, .int .i64 bo_8], .agg #[.int .i64 y0, .int .i64 y1], .bool ok]), (102, .agg #[.slice s_.u.A0 lo_0.length s_.u.c0, .slice s_.u.A1 lo_1.length s_.u.c1, .bool bo_2, .bool bo_3, .bool bo_4, .bool bo_5, .slice s_.u.A6 lo_6.length s_.u.c6, .slice s_.u.A7 lo_7.length s_.u.c7, .int .i64 bo_8]), (103, .agg #[.int .i64 y0, .int .i64 y1]), (104, .bool ok)]) (fun s_ w1 => J 3 false false ZM_ ZP_ w' la_0 la_1 la_6 la_7 lo_0 lo_1 lo_6 lo_7 s_ w1) ?_ ?_
    · rintro ⟨⟨Ax_0, cx_0, Ax_1, cx_1, Ax_6, cx_6, Ax_7, cx_7, lox, hix⟩, ⟨Au_0, cu_0, Au_1, cu_1, Au_6, cu_6, Au_7, cu_7, lou, hiu⟩, gg, gh⟩ w1 hJ
      have hHeld : (fun w' => w'.heap[g2]? = some (.cells #[.slice Aa_0 la_0.length ca_0, .slice Aa_1 la_1.length ca_1, .bool ba_2, .bool ba_3, .bool ba_4, .bool ba_5, .slice Aa_6 la_6.length ca_6, .slice Aa_7 la_7.length ca_7, .int .i64 ba_8] 24 (0, 0)) ∧ w'.heap[g3]? = some (.cells #[.int .i64 p0, .int .i64 p1, .int .i64 p2] 60 (0, 0))) w1 := ⟨blk_below BK2.out hJ.hb, blk_below BK3.out hJ.hb⟩
      refine norm_ (a' := ?_) ?_ ?_
      rotate_left
      · simp only [putAll, Act.put, List.setIfInBounds_toArray, List.set_cons_zero, List.set_cons_succ]
        rfl
      refine two_ (i := 9) (j := 10) (Ni := some 16) (Nj := some 17) #[true, true, true, true, true, true, true, true, true, true, false, false, false, false] #[true, true, true, true, true, true, true, true, true, false, true, false, false, false] rfl rfl rfl rfl (by kernel_rfl) (by decide) (by decide) (fun K hK => ?_) (fun K hK => ?_)
      · refine box_step ?hg (N := 16) ?hd (cs := #[.slice none 0 0, .slice none 0 0, .bool false, .bool false, .bool false, .bool false, .slice none 0 0, .slice none 0 0, .int .i64 0]) (t := 28) ?hr ?_; (case hd => rfl); (case hg => rfl); (case hr => first | (go_simp; done) | (go_simp; rfl))
        intro g2_ hg2 w2 hbox hb2
        have hJ2 : J 3 true false ZM_ ZP_ w' la_0 la_1 la_6 la_7 lo_0 lo_1 lo_6 lo_7 ⟨⟨Ax_0, cx_0, Ax_1, cx_1, Ax_6, cx_6, Ax_7, cx_7, lox, hix⟩, ⟨Au_0, cu_0, Au_1, cu_1, Au_6, cu_6, Au_7, cu_7, lou, hiu⟩, g2_, gh⟩ w2 := hJ.bg hg2 hbox hb2
        exact hK.out _ _ ⟨blk_below BK2.out hJ2.hb, blk_below BK3.out hJ2.hb⟩ (fun hHeld => norm_ (by show Act.put _ (some 16) _ = _; simp only [putAll, Act.put, List.setIfInBounds_toArray, List.set_cons_zero, List.set_cons_succ]) (hs3tf ⟨⟨Ax_0, cx_0, Ax_1, cx_1, Ax_6, cx_6, Ax_7, cx_7, lox, hix⟩, ⟨Au_0, cu_0, Au_1, cu_1, Au_6, cu_6, Au_7, cu_7, lou, hiu⟩, g2_, gh⟩ _ hJ2))
      · refine box_step ?hg (N := 17) ?hd (cs := #[.int .i64 0, .int .i64 0]) (t := 38) ?hr ?_; (case hd => rfl); (case hg => rfl); (case hr => first | (go_simp; done) | (go_simp; rfl))
        intro g2_ hg2 w2 hbox hb2
        have hJ2 : J 3 false true ZM_ ZP_ w' la_0 la_1 la_6 la_7 lo_0 lo_1 lo_6 lo_7 ⟨⟨Ax_0, cx_0, Ax_1, cx_1, Ax_6, cx_6, Ax_7, cx_7, lox, hix⟩, ⟨Au_0, cu_0, Au_1, cu_1, Au_6, cu_6, Au_7, cu_7, lou, hiu⟩, gg, g2_⟩ w2 := hJ.bh hg2 hbox hb2
        exact hK.out _ _ ⟨blk_below BK2.out hJ2.hb, blk_below BK3.out hJ2.hb⟩ (fun hHeld => norm_ (by show Act.put _ (some 17) _ = _; simp only [putAll, Act.put, List.setIfInBounds_toArray, List.set_cons_zero, List.set_cons_succ]) (hs3ft ⟨⟨Ax_0, cx_0, Ax_1, cx_1, Ax_6, cx_6, Ax_7, cx_7, lox, hix⟩, ⟨Au_0, cu_0, Au_1, cu_1, Au_6, cu_6, Au_7, cu_7, lou, hiu⟩, gg, g2_⟩ _ hJ2))
    intro hs3ff
    refine join_ (σ := St) 10 #[true, false, true, false, false, false, false, false, false, true, true, false, false, false] (fun s_ => [(16, .pointer (some ⟨s_.g, 0, none⟩)), (17, .pointer (some ⟨s_.h, 0, none⟩))]) (fun s_ w1 => J 0 true true ZM_ ZP_ w' la_0 la_1 la_6 la_7 lo_0 lo_1 lo_6 lo_7 s_ w1) ?_ ?_
    · rintro ⟨⟨Ax_0, cx_0, Ax_1, cx_1, Ax_6, cx_6, Ax_7, cx_7, lox, hix⟩, ⟨Au_0, cu_0, Au_1, cu_1, Au_6, cu_6, Au_7, cu_7, lou, hiu⟩, gg, gh⟩ w1 hJ
      have hHeld : (fun w' => w'.heap[g2]? = some (.cells #[.slice Aa_0 la_0.length ca_0, .slice Aa_1 la_1.length ca_1, .bool ba_2, .bool ba_3, .bool ba_4, .bool ba_5, .slice Aa_6 la_6.length ca_6, .slice Aa_7 la_7.length ca_7, .int .i64 ba_8] 24 (0, 0)) ∧ w'.heap[g3]? = some (.cells #[.int .i64 p0, .int .i64 p1, .int .i64 p2] 60 (0, 0))) w1 := ⟨blk_below BK2.out hJ.hb, blk_below BK3.out hJ.hb⟩
      refine norm_ (a' := ?_) ?_ ?_
      rotate_left
      · simp only [putAll, Act.put, List.setIfInBounds_toArray, List.set_cons_zero, List.set_cons_succ]
        rfl
      refine one_ (i := 1) (N := some 98) #[true, true, true, false, false, false, false, false, false, true, true, false, false, false] rfl rfl (by kernel_rfl) (by decide) (fun K hK => ?_)
      refine goes_ Try.func17 (by kernel_rfl) rfl #[.agg #[.slice Aa_0 la_0.length ca_0, .slice Aa_1 la_1.length ca_1, .bool ba_2, .bool ba_3, .bool ba_4, .bool ba_5, .slice Aa_6 la_6.length ca_6, .slice Aa_7 la_7.length ca_7, .int .i64 ba_8]] (by rfl) rfl rfl (by (try simp only [List.map_toArray, List.map_cons, List.map_nil]); first | done | rfl) ?_
      refine (to4 k Aa_0 ca_0 la_0 Aa_1 ca_1 la_1 ba_2 ba_3 ba_4 ba_5 Aa_6 ca_6 la_6 Aa_7 ca_7 la_7 ba_8 la_0 la_1 ba_2 ba_3 ba_4 ba_5 la_6 la_7 ba_8 w _ (below_ch HB.out (Ch.of_below hJ.hb) (Or.inl (Nat.le_refl _))) HR0.out HC0.out HR1.out HC1.out HR6.out HC6.out HR7.out HC7.out Hto.out).mono ?_
      rintro e w2 ⟨Ax_0, cx_0, Ax_1, cx_1, Ax_6, cx_6, Ax_7, cx_7, lox, hix, rfl, h1, h2, h3, hR, hc⟩
      refine ⟨_, rfl, ?_⟩
      have hJ2 : J 1 true true ZM_ ZP_ w' la_0 la_1 la_6 la_7 lo_0 lo_1 lo_6 lo_7 ⟨⟨Ax_0, cx_0, Ax_1, cx_1, Ax_6, cx_6, Ax_7, cx_7, lox, hix⟩, ⟨Au_0, cu_0, Au_1, cu_1, Au_6, cu_6, Au_7, cu_7, lou, hiu⟩, gg, gh⟩ w2 := hJ.x h1 h2 h3 hR hc
      exact hK.out _ _ ⟨blk_below BK2.out hJ2.hb, blk_below BK3.out hJ2.hb⟩ (fun hHeld => norm_ (by show Act.put _ (some 98) _ = _; simp only [putAll, Act.put, List.setIfInBounds_toArray, List.set_cons_zero, List.set_cons_succ]) (hs1tt ⟨⟨Ax_0, cx_0, Ax_1, cx_1, Ax_6, cx_6, Ax_7, cx_7, lox, hix⟩, ⟨Au_0, cu_0, Au_1, cu_1, Au_6, cu_6, Au_7, cu_7, lou, hiu⟩, gg, gh⟩ _ hJ2))
    intro hs0tt
    refine join_ (σ := St) 10 #[true, true, true, false, false, false, false, false, false, true, false, false, false, false] (fun s_ => [(98, .agg #[.slice s_.x.A0 la_0.length s_.x.c0, .slice s_.x.A1 la_1.length s_.x.c1, .bool ba_2, .bool ba_3, .bool ba_4, .bool ba_5, .slice s_.x.A6 la_6.length s_.x.c6, .slice s_.x.A7 la_7.length s_.x.c7, .int .i64 ba_8]), (16, .pointer (some ⟨s_.g, 0, none⟩))]) (fun s_ w1 => J 1 true false ZM_ ZP_ w' la_0 la_1 la_6 la_7 lo_0 lo_1 lo_6 lo_7 s_ w1) ?_ ?_
    · rintro ⟨⟨Ax_0, cx_0, Ax_1, cx_1, Ax_6, cx_6, Ax_7, cx_7, lox, hix⟩, ⟨Au_0, cu_0, Au_1, cu_1, Au_6, cu_6, Au_7, cu_7, lou, hiu⟩, gg, gh⟩ w1 hJ
      have hHeld : (fun w' => w'.heap[g2]? = some (.cells #[.slice Aa_0 la_0.length ca_0, .slice Aa_1 la_1.length ca_1, .bool ba_2, .bool ba_3, .bool ba_4, .bool ba_5, .slice Aa_6 la_6.length ca_6, .slice Aa_7 la_7.length ca_7, .int .i64 ba_8] 24 (0, 0)) ∧ w'.heap[g3]? = some (.cells #[.int .i64 p0, .int .i64 p1, .int .i64 p2] 60 (0, 0))) w1 := ⟨blk_below BK2.out hJ.hb, blk_below BK3.out hJ.hb⟩
      refine norm_ (a' := ?_) ?_ ?_
      rotate_left
      · simp only [putAll, Act.put, List.setIfInBounds_toArray, List.set_cons_zero, List.set_cons_succ]
        rfl
      refine two_ (i := 3) (j := 10) (Ni := some 100) (Nj := some 17) #[true, true, true, true, false, false, false, false, false, true, false, false, false, false] #[true, true, true, false, false, false, false, false, false, true, true, false, false, false] rfl rfl rfl rfl (by kernel_rfl) (by decide) (by decide) (fun K hK => ?_) (fun K hK => ?_)
      · refine goes_ Try.func45 (by kernel_rfl) rfl #[.agg #[.int .i64 p0, .int .i64 p1, .int .i64 p2]] (by rfl) rfl rfl (by (try simp only [List.map_toArray, List.map_cons, List.map_nil]); first | done | rfl) ?_
        refine (laws_toOpd.calls p0 p1 p2 p0 p1 p2 _ Htp.out).mono ?_
        rintro e w2 ⟨rfl, hb2⟩
        refine ⟨_, rfl, ?_⟩
        have hJ2 : J 1 true false ZM_ ZP_ w' la_0 la_1 la_6 la_7 lo_0 lo_1 lo_6 lo_7 ⟨⟨Ax_0, cx_0, Ax_1, cx_1, Ax_6, cx_6, Ax_7, cx_7, lox, hix⟩, ⟨Au_0, cu_0, Au_1, cu_1, Au_6, cu_6, Au_7, cu_7, lou, hiu⟩, gg, gh⟩ w2 := hJ.still hb2
        exact hK.out _ _ ⟨blk_below BK2.out hJ2.hb, blk_below BK3.out hJ2.hb⟩ (fun hHeld => norm_ (by show Act.put _ (some 100) _ = _; simp only [putAll, Act.put, List.setIfInBounds_toArray, List.set_cons_zero, List.set_cons_succ]) (hs2tf ⟨⟨Ax_0, cx_0, Ax_1, cx_1, Ax_6, cx_6, Ax_7, cx_7, lox, hix⟩, ⟨Au_0, cu_0, Au_1, cu_1, Au_6, cu_6, Au_7, cu_7, lou, hiu⟩, gg, gh⟩ _ hJ2))
      · refine box_step ?hg (N := 17) ?hd (cs := #[.int .i64 0, .int .i64 0]) (t := 38) ?hr ?_; (case hd => rfl); (case hg => rfl); (case hr => first | (go_simp; done) | (go_simp; rfl))
        intro g2_ hg2 w2 hbox hb2
        have hJ2 : J 1 true true ZM_ ZP_ w' la_0 la_1 la_6 la_7 lo_0 lo_1 lo_6 lo_7 ⟨⟨Ax_0, cx_0, Ax_1, cx_1, Ax_6, cx_6, Ax_7, cx_7, lox, hix⟩, ⟨Au_0, cu_0, Au_1, cu_1, Au_6, cu_6, Au_7, cu_7, lou, hiu⟩, gg, g2_⟩ w2 := hJ.bh hg2 hbox hb2
        exact hK.out _ _ ⟨blk_below BK2.out hJ2.hb, blk_below BK3.out hJ2.hb⟩ (fun hHeld => norm_ (by show Act.put _ (some 17) _ = _; simp only [putAll, Act.put, List.setIfInBounds_toArray, List.set_cons_zero, List.set_cons_succ]) (hs1tt ⟨⟨Ax_0, cx_0, Ax_1, cx_1, Ax_6, cx_6, Ax_7, cx_7, lox, hix⟩, ⟨Au_0, cu_0, Au_1, cu_1, Au_6, cu_6, Au_7, cu_7, lou, hiu⟩, gg, g2_⟩ _ hJ2))
    intro hs1tf
    refine join_ (σ := St) 10 #[true, true, true, false, false, false, false, false, false, false, true, false, false, false] (fun s_ => [(98, .agg #[.slice s_.x.A0 la_0.length s_.x.c0, .slice s_.x.A1 la_1.length s_.x.c1, .bool ba_2, .bool ba_3, .bool ba_4, .bool ba_5, .slice s_.x.A6 la_6.length s_.x.c6, .slice s_.x.A7 la_7.length s_.x.c7, .int .i64 ba_8]), (17, .pointer (some ⟨s_.h, 0, none⟩))]) (fun s_ w1 => J 1 false true ZM_ ZP_ w' la_0 la_1 la_6 la_7 lo_0 lo_1 lo_6 lo_7 s_ w1) ?_ ?_
    · rintro ⟨⟨Ax_0, cx_0, Ax_1, cx_1, Ax_6, cx_6, Ax_7, cx_7, lox, hix⟩, ⟨Au_0, cu_0, Au_1, cu_1, Au_6, cu_6, Au_7, cu_7, lou, hiu⟩, gg, gh⟩ w1 hJ
      have hHeld : (fun w' => w'.heap[g2]? = some (.cells #[.slice Aa_0 la_0.length ca_0, .slice Aa_1 la_1.length ca_1, .bool ba_2, .bool ba_3, .bool ba_4, .bool ba_5, .slice Aa_6 la_6.length ca_6, .slice Aa_7 la_7.length ca_7, .int .i64 ba_8] 24 (0, 0)) ∧ w'.heap[g3]? = some (.cells #[.int .i64 p0, .int .i64 p1, .int .i64 p2] 60 (0, 0))) w1 := ⟨blk_below BK2.out hJ.hb, blk_below BK3.out hJ.hb⟩
      refine norm_ (a' := ?_) ?_ ?_
      rotate_left
      · simp only [putAll, Act.put, List.setIfInBounds_toArray, List.set_cons_zero, List.set_cons_succ]
        rfl
      refine two_ (i := 3) (j := 9) (Ni := some 100) (Nj := some 16) #[true, true, true, true, false, false, false, false, false, false, true, false, false, false] #[true, true, true, false, false, false, false, false, false, true, true, false, false, false] rfl rfl rfl rfl (by kernel_rfl) (by decide) (by decide) (fun K hK => ?_) (fun K hK => ?_)
      · refine goes_ Try.func45 (by kernel_rfl) rfl #[.agg #[.int .i64 p0, .int .i64 p1, .int .i64 p2]] (by rfl) rfl rfl (by (try simp only [List.map_toArray, List.map_cons, List.map_nil]); first | done | rfl) ?_
        refine (laws_toOpd.calls p0 p1 p2 p0 p1 p2 _ Htp.out).mono ?_
        rintro e w2 ⟨rfl, hb2⟩
        refine ⟨_, rfl, ?_⟩
        have hJ2 : J 1 false true ZM_ ZP_ w' la_0 la_1 la_6 la_7 lo_0 lo_1 lo_6 lo_7 ⟨⟨Ax_0, cx_0, Ax_1, cx_1, Ax_6, cx_6, Ax_7, cx_7, lox, hix⟩, ⟨Au_0, cu_0, Au_1, cu_1, Au_6, cu_6, Au_7, cu_7, lou, hiu⟩, gg, gh⟩ w2 := hJ.still hb2
        exact hK.out _ _ ⟨blk_below BK2.out hJ2.hb, blk_below BK3.out hJ2.hb⟩ (fun hHeld => norm_ (by show Act.put _ (some 100) _ = _; simp only [putAll, Act.put, List.setIfInBounds_toArray, List.set_cons_zero, List.set_cons_succ]) (hs2ft ⟨⟨Ax_0, cx_0, Ax_1, cx_1, Ax_6, cx_6, Ax_7, cx_7, lox, hix⟩, ⟨Au_0, cu_0, Au_1, cu_1, Au_6, cu_6, Au_7, cu_7, lou, hiu⟩, gg, gh⟩ _ hJ2))
      · refine box_step ?hg (N := 16) ?hd (cs := #[.slice none 0 0, .slice none 0 0, .bool false, .bool false, .bool false, .bool false, .slice none 0 0, .slice none 0 0, .int .i64 0]) (t := 28) ?hr ?_; (case hd => rfl); (case hg => rfl); (case hr => first | (go_simp; done) | (go_simp; rfl))
        intro g2_ hg2 w2 hbox hb2
        have hJ2 : J 1 true true ZM_ ZP_ w' la_0 la_1 la_6 la_7 lo_0 lo_1 lo_6 lo_7 ⟨⟨Ax_0, cx_0, Ax_1, cx_1, Ax_6, cx_6, Ax_7, cx_7, lox, hix⟩, ⟨Au_0, cu_0, Au_1, cu_1, Au_6, cu_6, Au_7, cu_7, lou, hiu⟩, g2_, gh⟩ w2 := hJ.bg hg2 hbox hb2
        exact hK.out _ _ ⟨blk_below BK2.out hJ2.hb, blk_below BK3.out hJ2.hb⟩ (fun hHeld => norm_ (by show Act.put _ (some 16) _ = _; simp only [putAll, Act.put, List.setIfInBounds_toArray, List.set_cons_zero, List.set_cons_succ]) (hs1tt ⟨⟨Ax_0, cx_0, Ax_1, cx_1, Ax_6, cx_6, Ax_7, cx_7, lox, hix⟩, ⟨Au_0, cu_0, Au_1, cu_1, Au_6, cu_6, Au_7, cu_7, lou, hiu⟩, g2_, gh⟩ _ hJ2))
    intro hs1ft
    refine join_ (σ := St) 10 #[true, true, true, true, false, false, false, false, false, false, false, false, false, false] (fun s_ => [(98, .agg #[.slice s_.x.A0 la_0.length s_.x.c0, .slice s_.x.A1 la_1.length s_.x.c1, .bool ba_2, .bool ba_3, .bool ba_4, .bool ba_5, .slice s_.x.A6 la_6.length s_.x.c6, .slice s_.x.A7 la_7.length s_.x.c7, .int .i64 ba_8]), (100, .agg #[.int .i64 p0, .int .i64 p1, .int .i64 p2])]) (fun s_ w1 => J 1 false false ZM_ ZP_ w' la_0 la_1 la_6 la_7 lo_0 lo_1 lo_6 lo_7 s_ w1) ?_ ?_
    · rintro ⟨⟨Ax_0, cx_0, Ax_1, cx_1, Ax_6, cx_6, Ax_7, cx_7, lox, hix⟩, ⟨Au_0, cu_0, Au_1, cu_1, Au_6, cu_6, Au_7, cu_7, lou, hiu⟩, gg, gh⟩ w1 hJ
      have hHeld : (fun w' => w'.heap[g2]? = some (.cells #[.slice Aa_0 la_0.length ca_0, .slice Aa_1 la_1.length ca_1, .bool ba_2, .bool ba_3, .bool ba_4, .bool ba_5, .slice Aa_6 la_6.length ca_6, .slice Aa_7 la_7.length ca_7, .int .i64 ba_8] 24 (0, 0)) ∧ w'.heap[g3]? = some (.cells #[.int .i64 p0, .int .i64 p1, .int .i64 p2] 60 (0, 0))) w1 := ⟨blk_below BK2.out hJ.hb, blk_below BK3.out hJ.hb⟩
      refine norm_ (a' := ?_) ?_ ?_
      rotate_left
      · simp only [putAll, Act.put, List.setIfInBounds_toArray, List.set_cons_zero, List.set_cons_succ]
        rfl
      refine three_ (i := 4) (j := 9) (k := 10) (Ni := some 101) (Nj := some 16) (Nk := some 17) #[true, true, true, true, true, false, false, false, false, false, false, false, false, false] #[true, true, true, true, false, false, false, false, false, true, false, false, false, false] #[true, true, true, true, false, false, false, false, false, false, true, false, false, false] rfl rfl rfl rfl rfl rfl (by kernel_rfl) (by decide) (by decide) (by decide) (fun K hK => ?_) (fun K hK => ?_) (fun K hK => ?_)
      · refine goes_ Try.func46 (by kernel_rfl) rfl #[.agg #[.slice Ax_0 la_0.length cx_0, .slice Ax_1 la_1.length cx_1, .bool ba_2, .bool ba_3, .bool ba_4, .bool ba_5, .slice Ax_6 la_6.length cx_6, .slice Ax_7 la_7.length cx_7, .int .i64 ba_8], .agg #[.int .i64 p0, .int .i64 p1, .int .i64 p2]] (by rfl) rfl rfl (by (try simp only [List.map_toArray, List.map_cons, List.map_nil]); first | done | rfl) ?_
        refine (impl4 k Ax_0 cx_0 _ la_0 Ax_1 cx_1 _ la_1 ba_2 ba_3 ba_4 ba_5 Ax_6 cx_6 _ la_6 Ax_7 cx_7 _ la_7 ba_8 p0 p1 p2 lo_0 lo_1 bo_2 bo_3 bo_4 bo_5 lo_6 lo_7 bo_8 y0 y1 ok _ _ _ (hJ.hx rfl).2 Him.out).mono ?_
        rintro e w2 ⟨Au_0, cu_0, Au_1, cu_1, Au_6, cu_6, Au_7, cu_7, lou, hiu, rfl, h1, h2, h3, hR, hc⟩
        refine ⟨_, rfl, ?_⟩
        have hJ2 : J 3 false false ZM_ ZP_ w' la_0 la_1 la_6 la_7 lo_0 lo_1 lo_6 lo_7 ⟨⟨Ax_0, cx_0, Ax_1, cx_1, Ax_6, cx_6, Ax_7, cx_7, lox, hix⟩, ⟨Au_0, cu_0, Au_1, cu_1, Au_6, cu_6, Au_7, cu_7, lou, hiu⟩, gg, gh⟩ w2 := hJ.u h1 h2 h3 hR hc
        refine hK.out _ _ ⟨blk_below BK2.out hJ2.hb, blk_below BK3.out hJ2.hb⟩ (fun hHeld => ?_)
        refine norm_ (a' := ?_) ?_ ?_
        rotate_left
        · show Act.put _ (some 101) _ = _
          simp only [Act.put, List.setIfInBounds_toArray, List.set_cons_zero, List.set_cons_succ, i64_w, i32_w]
          rfl
        refine pure_ (i := 5) (N := some 96) (v := ?_) (a' := ?_) #[true, true, true, true, true, true, false, false, false, false, false, false, false, false] rfl rfl (by kernel_rfl) (fun _ _ _ h => h) (Or.inl ⟨by rfl, ?_⟩) ?_ ?_
        rotate_left
        · intro w'
          go_simp
          with_reducible rfl
        rotate_left
        · simp only [Act.put, List.setIfInBounds_toArray, List.set_cons_zero, List.set_cons_succ, i64_w, i32_w]
          rfl
        refine pure_ (i := 6) (N := some 102) (v := ?_) (a' := ?_) #[true, true, true, true, true, true, true, false, false, false, false, false, false, false] rfl rfl (by kernel_rfl) (fun _ _ _ h => h) (Or.inl ⟨by rfl, ?_⟩) ?_ ?_
        rotate_left
        · intro w'
          go_simp
          with_reducible rfl
        rotate_left
        · simp only [Act.put, List.setIfInBounds_toArray, List.set_cons_zero, List.set_cons_succ, i64_w, i32_w]
          rfl
        refine pure_ (i := 7) (N := some 103) (v := ?_) (a' := ?_) #[true, true, true, true, true, true, true, true, false, false, false, false, false, false] rfl rfl (by kernel_rfl) (fun _ _ _ h => h) (Or.inl ⟨by rfl, ?_⟩) ?_ ?_
        rotate_left
        · intro w'
          go_simp
          with_reducible rfl
        rotate_left
        · simp only [Act.put, List.setIfInBounds_toArray, List.set_cons_zero, List.set_cons_succ, i64_w, i32_w]
          rfl
        refine pure_ (i := 8) (N := some 104) (v := ?_) (a' := ?_) #[true, true, true, true, true, true, true, true, true, false, false, false, false, false] rfl rfl (by kernel_rfl) (fun _ _ _ h => h) (Or.inl ⟨by rfl, ?_⟩) ?_ ?_
        rotate_left
        · intro w'
          go_simp
          with_reducible rfl
        rotate_left
        · simp only [Act.put, List.setIfInBounds_toArray, List.set_cons_zero, List.set_cons_succ, i64_w, i32_w]
          rfl
        exact norm_ (by simp only [putAll, Act.put, List.setIfInBounds_toArray, List.set_cons_zero, List.set_cons_succ]) (hs3ff ⟨⟨Ax_0, cx_0, Ax_1, cx_1, Ax_6, cx_6, Ax_7, cx_7, lox, hix⟩, ⟨Au_0, cu_0, Au_1, cu_1, Au_6, cu_6, Au_7, cu_7, lou, hiu⟩, gg, gh⟩ _ hJ2)
      · refine box_step ?hg (N := 16) ?hd (cs := #[.slice none 0 0, .slice none 0 0, .bool false, .bool false, .bool false, .bool false, .slice none 0 0, .slice none 0 0, .int .i64 0]) (t := 28) ?hr ?_; (case hd => rfl); (case hg => rfl); (case hr => first | (go_simp; done) | (go_simp; rfl))
        intro g2_ hg2 w2 hbox hb2
        have hJ2 : J 1 true false ZM_ ZP_ w' la_0 la_1 la_6 la_7 lo_0 lo_1 lo_6 lo_7 ⟨⟨Ax_0, cx_0, Ax_1, cx_1, Ax_6, cx_6, Ax_7, cx_7, lox, hix⟩, ⟨Au_0, cu_0, Au_1, cu_1, Au_6, cu_6, Au_7, cu_7, lou, hiu⟩, g2_, gh⟩ w2 := hJ.bg hg2 hbox hb2
        exact hK.out _ _ ⟨blk_below BK2.out hJ2.hb, blk_below BK3.out hJ2.hb⟩ (fun hHeld => norm_ (by show Act.put _ (some 16) _ = _; simp only [putAll, Act.put, List.setIfInBounds_toArray, List.set_cons_zero, List.set_cons_succ]) (hs2tf ⟨⟨Ax_0, cx_0, Ax_1, cx_1, Ax_6, cx_6, Ax_7, cx_7, lox, hix⟩, ⟨Au_0, cu_0, Au_1, cu_1, Au_6, cu_6, Au_7, cu_7, lou, hiu⟩, g2_, gh⟩ _ hJ2))
      · refine box_step ?hg (N := 17) ?hd (cs := #[.int .i64 0, .int .i64 0]) (t := 38) ?hr ?_; (case hd => rfl); (case hg => rfl); (case hr => first | (go_simp; done) | (go_simp; rfl))
        intro g2_ hg2 w2 hbox hb2
        have hJ2 : J 1 false true ZM_ ZP_ w' la_0 la_1 la_6 la_7 lo_0 lo_1 lo_6 lo_7 ⟨⟨Ax_0, cx_0, Ax_1, cx_1, Ax_6, cx_6, Ax_7, cx_7, lox, hix⟩, ⟨Au_0, cu_0, Au_1, cu_1, Au_6, cu_6, Au_7, cu_7, lou, hiu⟩, gg, g2_⟩ w2 := hJ.bh hg2 hbox hb2
        exact hK.out _ _ ⟨blk_below BK2.out hJ2.hb, blk_below BK3.out hJ2.hb⟩ (fun hHeld => norm_ (by show Act.put _ (some 17) _ = _; simp only [putAll, Act.put, List.setIfInBounds_toArray, List.set_cons_zero, List.set_cons_succ]) (hs2ft ⟨⟨Ax_0, cx_0, Ax_1, cx_1, Ax_6, cx_6, Ax_7, cx_7, lox, hix⟩, ⟨Au_0, cu_0, Au_1, cu_1, Au_6, cu_6, Au_7, cu_7, lou, hiu⟩, gg, g2_⟩ _ hJ2))
    intro hs2ff
    refine join_ (σ := St) 11 #[true, false, true, false, false, false, false, false, false, true, false, false, false, false] (fun s_ => [(16, .pointer (some ⟨s_.g, 0, none⟩))]) (fun s_ w1 => J 0 true false ZM_ ZP_ w' la_0 la_1 la_6 la_7 lo_0 lo_1 lo_6 lo_7 s_ w1) ?_ ?_
    · rintro ⟨⟨Ax_0, cx_0, Ax_1, cx_1, Ax_6, cx_6, Ax_7, cx_7, lox, hix⟩, ⟨Au_0, cu_0, Au_1, cu_1, Au_6, cu_6, Au_7, cu_7, lou, hiu⟩, gg, gh⟩ w1 hJ
      have hHeld : (fun w' => w'.heap[g2]? = some (.cells #[.slice Aa_0 la_0.length ca_0, .slice Aa_1 la_1.length ca_1, .bool ba_2, .bool ba_3, .bool ba_4, .bool ba_5, .slice Aa_6 la_6.length ca_6, .slice Aa_7 la_7.length ca_7, .int .i64 ba_8] 24 (0, 0)) ∧ w'.heap[g3]? = some (.cells #[.int .i64 p0, .int .i64 p1, .int .i64 p2] 60 (0, 0))) w1 := ⟨blk_below BK2.out hJ.hb, blk_below BK3.out hJ.hb⟩
      refine norm_ (a' := ?_) ?_ ?_
      rotate_left
      · simp only [putAll, Act.put, List.setIfInBounds_toArray, List.set_cons_zero, List.set_cons_succ]
        rfl
      refine two_ (i := 1) (j := 10) (Ni := some 98) (Nj := some 17) #[true, true, true, false, false, false, false, false, false, true, false, false, false, false] #[true, false, true, false, false, false, false, false, false, true, true, false, false, false] rfl rfl rfl rfl (by kernel_rfl) (by decide) (by decide) (fun K hK => ?_) (fun K hK => ?_)
      · refine goes_ Try.func17 (by kernel_rfl) rfl #[.agg #[.slice Aa_0 la_0.length ca_0, .slice Aa_1 la_1.length ca_1, .bool ba_2, .bool ba_3, .bool ba_4, .bool ba_5, .slice Aa_6 la_6.length ca_6, .slice Aa_7 la_7.length ca_7, .int .i64 ba_8]] (by rfl) rfl rfl (by (try simp only [List.map_toArray, List.map_cons, List.map_nil]); first | done | rfl) ?_
        refine (to4 k Aa_0 ca_0 la_0 Aa_1 ca_1 la_1 ba_2 ba_3 ba_4 ba_5 Aa_6 ca_6 la_6 Aa_7 ca_7 la_7 ba_8 la_0 la_1 ba_2 ba_3 ba_4 ba_5 la_6 la_7 ba_8 w _ (below_ch HB.out (Ch.of_below hJ.hb) (Or.inl (Nat.le_refl _))) HR0.out HC0.out HR1.out HC1.out HR6.out HC6.out HR7.out HC7.out Hto.out).mono ?_
        rintro e w2 ⟨Ax_0, cx_0, Ax_1, cx_1, Ax_6, cx_6, Ax_7, cx_7, lox, hix, rfl, h1, h2, h3, hR, hc⟩
        refine ⟨_, rfl, ?_⟩
        have hJ2 : J 1 true false ZM_ ZP_ w' la_0 la_1 la_6 la_7 lo_0 lo_1 lo_6 lo_7 ⟨⟨Ax_0, cx_0, Ax_1, cx_1, Ax_6, cx_6, Ax_7, cx_7, lox, hix⟩, ⟨Au_0, cu_0, Au_1, cu_1, Au_6, cu_6, Au_7, cu_7, lou, hiu⟩, gg, gh⟩ w2 := hJ.x h1 h2 h3 hR hc
        exact hK.out _ _ ⟨blk_below BK2.out hJ2.hb, blk_below BK3.out hJ2.hb⟩ (fun hHeld => norm_ (by show Act.put _ (some 98) _ = _; simp only [putAll, Act.put, List.setIfInBounds_toArray, List.set_cons_zero, List.set_cons_succ]) (hs1tf ⟨⟨Ax_0, cx_0, Ax_1, cx_1, Ax_6, cx_6, Ax_7, cx_7, lox, hix⟩, ⟨Au_0, cu_0, Au_1, cu_1, Au_6, cu_6, Au_7, cu_7, lou, hiu⟩, gg, gh⟩ _ hJ2))
      · refine box_step ?hg (N := 17) ?hd (cs := #[.int .i64 0, .int .i64 0]) (t := 38) ?hr ?_; (case hd => rfl); (case hg => rfl); (case hr => first | (go_simp; done) | (go_simp; rfl))
        intro g2_ hg2 w2 hbox hb2
        have hJ2 : J 0 true true ZM_ ZP_ w' la_0 la_1 la_6 la_7 lo_0 lo_1 lo_6 lo_7 ⟨⟨Ax_0, cx_0, Ax_1, cx_1, Ax_6, cx_6, Ax_7, cx_7, lox, hix⟩, ⟨Au_0, cu_0, Au_1, cu_1, Au_6, cu_6, Au_7, cu_7, lou, hiu⟩, gg, g2_⟩ w2 := hJ.bh hg2 hbox hb2
        exact hK.out _ _ ⟨blk_below BK2.out hJ2.hb, blk_below BK3.out hJ2.hb⟩ (fun hHeld => norm_ (by show Act.put _ (some 17) _ = _; simp only [putAll, Act.put, List.setIfInBounds_toArray, List.set_cons_zero, List.set_cons_succ]) (hs0tt ⟨⟨Ax_0, cx_0, Ax_1, cx_1, Ax_6, cx_6, Ax_7, cx_7, lox, hix⟩, ⟨Au_0, cu_0, Au_1, cu_1, Au_6, cu_6, Au_7, cu_7, lou, hiu⟩, gg, g2_⟩ _ hJ2))
    intro hs0tf
    refine join_ (σ := St) 11 #[true, false, true, false, false, false, false, false, false, false, true, false, false, false] (fun s_ => [(17, .pointer (some ⟨s_.h, 0, none⟩))]) (fun s_ w1 => J 0 false true ZM_ ZP_ w' la_0 la_1 la_6 la_7 lo_0 lo_1 lo_6 lo_7 s_ w1) ?_ ?_
    · rintro ⟨⟨Ax_0, cx_0, Ax_1, cx_1, Ax_6, cx_6, Ax_7, cx_7, lox, hix⟩, ⟨Au_0, cu_0, Au_1, cu_1, Au_6, cu_6, Au_7, cu_7, lou, hiu⟩, gg, gh⟩ w1 hJ
      have hHeld : (fun w' => w'.heap[g2]? = some (.cells #[.slice Aa_0 la_0.length ca_0, .slice Aa_1 la_1.length ca_1, .bool ba_2, .bool ba_3, .bool ba_4, .bool ba_5, .slice Aa_6 la_6.length ca_6, .slice Aa_7 la_7.length ca_7, .int .i64 ba_8] 24 (0, 0)) ∧ w'.heap[g3]? = some (.cells #[.int .i64 p0, .int .i64 p1, .int .i64 p2] 60 (0, 0))) w1 := ⟨blk_below BK2.out hJ.hb, blk_below BK3.out hJ.hb⟩
      refine norm_ (a' := ?_) ?_ ?_
      rotate_left
      · simp only [putAll, Act.put, List.setIfInBounds_toArray, List.set_cons_zero, List.set_cons_succ]
        rfl
      refine two_ (i := 1) (j := 9) (Ni := some 98) (Nj := some 16) #[true, true, true, false, false, false, false, false, false, false, true, false, false, false] #[true, false, true, false, false, false, false, false, false, true, true, false, false, false] rfl rfl rfl rfl (by kernel_rfl) (by decide) (by decide) (fun K hK => ?_) (fun K hK => ?_)
      · refine goes_ Try.func17 (by kernel_rfl) rfl #[.agg #[.slice Aa_0 la_0.length ca_0, .slice Aa_1 la_1.length ca_1, .bool ba_2, .bool ba_3, .bool ba_4, .bool ba_5, .slice Aa_6 la_6.length ca_6, .slice Aa_7 la_7.length ca_7, .int .i64 ba_8]] (by rfl) rfl rfl (by (try simp only [List.map_toArray, List.map_cons, List.map_nil]); first | done | rfl) ?_
        refine (to4 k Aa_0 ca_0 la_0 Aa_1 ca_1 la_1 ba_2 ba_3 ba_4 ba_5 Aa_6 ca_6 la_6 Aa_7 ca_7 la_7 ba_8 la_0 la_1 ba_2 ba_3 ba_4 ba_5 la_6 la_7 ba_8 w _ (below_ch HB.out (Ch.of_below hJ.hb) (Or.inl (Nat.le_refl _))) HR0.out HC0.out HR1.out HC1.out HR6.out HC6.out HR7.out HC7.out Hto.out).mono ?_
        rintro e w2 ⟨Ax_0, cx_0, Ax_1, cx_1, Ax_6, cx_6, Ax_7, cx_7, lox, hix, rfl, h1, h2, h3, hR, hc⟩
        refine ⟨_, rfl, ?_⟩
        have hJ2 : J 1 false true ZM_ ZP_ w' la_0 la_1 la_6 la_7 lo_0 lo_1 lo_6 lo_7 ⟨⟨Ax_0, cx_0, Ax_1, cx_1, Ax_6, cx_6, Ax_7, cx_7, lox, hix⟩, ⟨Au_0, cu_0, Au_1, cu_1, Au_6, cu_6, Au_7, cu_7, lou, hiu⟩, gg, gh⟩ w2 := hJ.x h1 h2 h3 hR hc
        exact hK.out _ _ ⟨blk_below BK2.out hJ2.hb, blk_below BK3.out hJ2.hb⟩ (fun hHeld => norm_ (by show Act.put _ (some 98) _ = _; simp only [putAll, Act.put, List.setIfInBounds_toArray, List.set_cons_zero, List.set_cons_succ]) (hs1ft ⟨⟨Ax_0, cx_0, Ax_1, cx_1, Ax_6, cx_6, Ax_7, cx_7, lox, hix⟩, ⟨Au_0, cu_0, Au_1, cu_1, Au_6, cu_6, Au_7, cu_7, lou, hiu⟩, gg, gh⟩ _ hJ2))
      · refine box_step ?hg (N := 16) ?hd (cs := #[.slice none 0 0, .slice none 0 0, .bool false, .bool false, .bool false, .bool false, .slice none 0 0, .slice none 0 0, .int .i64 0]) (t := 28) ?hr ?_; (case hd => rfl); (case hg => rfl); (case hr => first | (go_simp; done) | (go_simp; rfl))
        intro g2_ hg2 w2 hbox hb2
        have hJ2 : J 0 true true ZM_ ZP_ w' la_0 la_1 la_6 la_7 lo_0 lo_1 lo_6 lo_7 ⟨⟨Ax_0, cx_0, Ax_1, cx_1, Ax_6, cx_6, Ax_7, cx_7, lox, hix⟩, ⟨Au_0, cu_0, Au_1, cu_1, Au_6, cu_6, Au_7, cu_7, lou, hiu⟩, g2_, gh⟩ w2 := hJ.bg hg2 hbox hb2
        exact hK.out _ _ ⟨blk_below BK2.out hJ2.hb, blk_below BK3.out hJ2.hb⟩ (fun hHeld => norm_ (by show Act.put _ (some 16) _ = _; simp only [putAll, Act.put, List.setIfInBounds_toArray, List.set_cons_zero, List.set_cons_succ]) (hs0tt ⟨⟨Ax_0, cx_0, Ax_1, cx_1, Ax_6, cx_6, Ax_7, cx_7, lox, hix⟩, ⟨Au_0, cu_0, Au_1, cu_1, Au_6, cu_6, Au_7, cu_7, lou, hiu⟩, g2_, gh⟩ _ hJ2))
    intro hs0ft
    refine join_ (σ := St) 11 #[true, true, true, false, false, false, false, false, false, false, false, false, false, false] (fun s_ => [(98, .agg #[.slice s_.x.A0 la_0.length s_.x.c0, .slice s_.x.A1 la_1.length s_.x.c1, .bool ba_2, .bool ba_3, .bool ba_4, .bool ba_5, .slice s_.x.A6 la_6.length s_.x.c6, .slice s_.x.A7 la_7.length s_.x.c7, .int .i64 ba_8])]) (fun s_ w1 => J 1 false false ZM_ ZP_ w' la_0 la_1 la_6 la_7 lo_0 lo_1 lo_6 lo_7 s_ w1) ?_ ?_
    · rintro ⟨⟨Ax_0, cx_0, Ax_1, cx_1, Ax_6, cx_6, Ax_7, cx_7, lox, hix⟩, ⟨Au_0, cu_0, Au_1, cu_1, Au_6, cu_6, Au_7, cu_7, lou, hiu⟩, gg, gh⟩ w1 hJ
      have hHeld : (fun w' => w'.heap[g2]? = some (.cells #[.slice Aa_0 la_0.length ca_0, .slice Aa_1 la_1.length ca_1, .bool ba_2, .bool ba_3, .bool ba_4, .bool ba_5, .slice Aa_6 la_6.length ca_6, .slice Aa_7 la_7.length ca_7, .int .i64 ba_8] 24 (0, 0)) ∧ w'.heap[g3]? = some (.cells #[.int .i64 p0, .int .i64 p1, .int .i64 p2] 60 (0, 0))) w1 := ⟨blk_below BK2.out hJ.hb, blk_below BK3.out hJ.hb⟩
      refine norm_ (a' := ?_) ?_ ?_
      rotate_left
      · simp only [putAll, Act.put, List.setIfInBounds_toArray, List.set_cons_zero, List.set_cons_succ]
        rfl
      refine three_ (i := 3) (j := 9) (k := 10) (Ni := some 100) (Nj := some 16) (Nk := some 17) #[true, true, true, true, false, false, false, false, false, false, false, false, false, false] #[true, true, true, false, false, false, false, false, false, true, false, false, false, false] #[true, true, true, false, false, false, false, false, false, false, true, false, false, false] rfl rfl rfl rfl rfl rfl (by kernel_rfl) (by decide) (by decide) (by decide) (fun K hK => ?_) (fun K hK => ?_) (fun K hK => ?_)
      · refine goes_ Try.func45 (by kernel_rfl) rfl #[.agg #[.int .i64 p0, .int .i64 p1, .int .i64 p2]] (by rfl) rfl rfl (by (try simp only [List.map_toArray, List.map_cons, List.map_nil]); first | done | rfl) ?_
        refine (laws_toOpd.calls p0 p1 p2 p0 p1 p2 _ Htp.out).mono ?_
        rintro e w2 ⟨rfl, hb2⟩
        refine ⟨_, rfl, ?_⟩
        have hJ2 : J 1 false false ZM_ ZP_ w' la_0 la_1 la_6 la_7 lo_0 lo_1 lo_6 lo_7 ⟨⟨Ax_0, cx_0, Ax_1, cx_1, Ax_6, cx_6, Ax_7, cx_7, lox, hix⟩, ⟨Au_0, cu_0, Au_1, cu_1, Au_6, cu_6, Au_7, cu_7, lou, hiu⟩, gg, gh⟩ w2 := hJ.still hb2
        exact hK.out _ _ ⟨blk_below BK2.out hJ2.hb, blk_below BK3.out hJ2.hb⟩ (fun hHeld => norm_ (by show Act.put _ (some 100) _ = _; simp only [putAll, Act.put, List.setIfInBounds_toArray, List.set_cons_zero, List.set_cons_succ]) (hs2ff ⟨⟨Ax_0, cx_0, Ax_1, cx_1, Ax_6, cx_6, Ax_7, cx_7, lox, hix⟩, ⟨Au_0, cu_0, Au_1, cu_1, Au_6, cu_6, Au_7, cu_7, lou, hiu⟩, gg, gh⟩ _ hJ2))
      · refine box_step ?hg (N := 16) ?hd (cs := #[.slice none 0 0, .slice none 0 0, .bool false, .bool false, .bool false, .bool false, .slice none 0 0, .slice none 0 0, .int .i64 0]) (t := 28) ?hr ?_; (case hd => rfl); (case hg => rfl); (case hr => first | (go_simp; done) | (go_simp; rfl))
        intro g2_ hg2 w2 hbox hb2
        have hJ2 : J 1 true false ZM_ ZP_ w' la_0 la_1 la_6 la_7 lo_0 lo_1 lo_6 lo_7 ⟨⟨Ax_0, cx_0, Ax_1, cx_1, Ax_6, cx_6, Ax_7, cx_7, lox, hix⟩, ⟨Au_0, cu_0, Au_1, cu_1, Au_6, cu_6, Au_7, cu_7, lou, hiu⟩, g2_, gh⟩ w2 := hJ.bg hg2 hbox hb2
        exact hK.out _ _ ⟨blk_below BK2.out hJ2.hb, blk_below BK3.out hJ2.hb⟩ (fun hHeld => norm_ (by show Act.put _ (some 16) _ = _; simp only [putAll, Act.put, List.setIfInBounds_toArray, List.set_cons_zero, List.set_cons_succ]) (hs1tf ⟨⟨Ax_0, cx_0, Ax_1, cx_1, Ax_6, cx_6, Ax_7, cx_7, lox, hix⟩, ⟨Au_0, cu_0, Au_1, cu_1, Au_6, cu_6, Au_7, cu_7, lou, hiu⟩, g2_, gh⟩ _ hJ2))
      · refine box_step ?hg (N := 17) ?hd (cs := #[.int .i64 0, .int .i64 0]) (t := 38) ?hr ?_; (case hd => rfl); (case hg => rfl); (case hr => first | (go_simp; done) | (go_simp; rfl))
        intro g2_ hg2 w2 hbox hb2
        have hJ2 : J 1 false true ZM_ ZP_ w' la_0 la_1 la_6 la_7 lo_0 lo_1 lo_6 lo_7 ⟨⟨Ax_0, cx_0, Ax_1, cx_1, Ax_6, cx_6, Ax_7, cx_7, lox, hix⟩, ⟨Au_0, cu_0, Au_1, cu_1, Au_6, cu_6, Au_7, cu_7, lou, hiu⟩, gg, g2_⟩ w2 := hJ.bh hg2 hbox hb2
        exact hK.out _ _ ⟨blk_below BK2.out hJ2.hb, blk_below BK3.out hJ2.hb⟩ (fun hHeld => norm_ (by show Act.put _ (some 17) _ = _; simp only [putAll, Act.put, List.setIfInBounds_toArray, List.set_cons_zero, List.set_cons_succ]) (hs1ft ⟨⟨Ax_0, cx_0, Ax_1, cx_1, Ax_6, cx_6, Ax_7, cx_7, lox, hix⟩, ⟨Au_0, cu_0, Au_1, cu_1, Au_6, cu_6, Au_7, cu_7, lou, hiu⟩, gg, g2_⟩ _ hJ2))
    intro hs1ff
    have hJ : J 0 false false ZM_ ZP_ w' la_0 la_1 la_6 la_7 lo_0 lo_1 lo_6 lo_7 ⟨⟨none, 0, none, 0, none, 0, none, 0, 0, 0⟩, ⟨none, 0, none, 0, none, 0, none, 0, 0, 0⟩, 0, 0⟩ w' := ⟨Below.refl _ _, fun e => absurd e (by decide), fun e => absurd e (by decide), fun e => absurd e (by decide), fun e => absurd e (by decide), fun e => absurd e (by decide), fun e => absurd e (by decide), fun e => absurd e (by decide)⟩
    refine three_ (i := 1) (j := 9) (k := 10) (Ni := some 98) (Nj := some 16) (Nk := some 17) #[true, true, true, false, false, false, false, false, false, false, false, false, false, false] #[true, false, true, false, false, false, false, false, false, true, false, false, false, false] #[true, false, true, false, false, false, false, false, false, false, true, false, false, false] rfl rfl rfl rfl rfl rfl (by kernel_rfl) (by decide) (by decide) (by decide) (fun K hK => ?_) (fun K hK => ?_) (fun K hK => ?_)
    · refine goes_ Try.func17 (by kernel_rfl) rfl #[.agg #[.slice Aa_0 la_0.length ca_0, .slice Aa_1 la_1.length ca_1, .bool ba_2, .bool ba_3, .bool ba_4, .bool ba_5, .slice Aa_6 la_6.length ca_6, .slice Aa_7 la_7.length ca_7, .int .i64 ba_8]] (by rfl) rfl rfl (by (try simp only [List.map_toArray, List.map_cons, List.map_nil]); first | done | rfl) ?_
      refine (to4 k Aa_0 ca_0 la_0 Aa_1 ca_1 la_1 ba_2 ba_3 ba_4 ba_5 Aa_6 ca_6 la_6 Aa_7 ca_7 la_7 ba_8 la_0 la_1 ba_2 ba_3 ba_4 ba_5 la_6 la_7 ba_8 w _ (below_ch HB.out (Ch.of_below hJ.hb) (Or.inl (Nat.le_refl _))) HR0.out HC0.out HR1.out HC1.out HR6.out HC6.out HR7.out HC7.out Hto.out).mono ?_
      rintro e w2 ⟨Ax_0, cx_0, Ax_1, cx_1, Ax_6, cx_6, Ax_7, cx_7, lox, hix, rfl, h1, h2, h3, hR, hc⟩
      refine ⟨_, rfl, ?_⟩
      have hJ2 : J 1 false false ZM_ ZP_ w' la_0 la_1 la_6 la_7 lo_0 lo_1 lo_6 lo_7 ⟨⟨Ax_0, cx_0, Ax_1, cx_1, Ax_6, cx_6, Ax_7, cx_7, lox, hix⟩, ⟨none, 0, none, 0, none, 0, none, 0, 0, 0⟩, 0, 0⟩ w2 := hJ.x h1 h2 h3 hR hc
      exact hK.out _ _ ⟨blk_below BK2.out hJ2.hb, blk_below BK3.out hJ2.hb⟩ (fun hHeld => norm_ (by show Act.put _ (some 98) _ = _; simp only [putAll, Act.put, List.setIfInBounds_toArray, List.set_cons_zero, List.set_cons_succ]) (hs1ff ⟨⟨Ax_0, cx_0, Ax_1, cx_1, Ax_6, cx_6, Ax_7, cx_7, lox, hix⟩, ⟨none, 0, none, 0, none, 0, none, 0, 0, 0⟩, 0, 0⟩ _ hJ2))
    · refine box_step ?hg (N := 16) ?hd (cs := #[.slice none 0 0, .slice none 0 0, .bool false, .bool false, .bool false, .bool false, .slice none 0 0, .slice none 0 0, .int .i64 0]) (t := 28) ?hr ?_; (case hd => rfl); (case hg => rfl); (case hr => first | (go_simp; done) | (go_simp; rfl))
      intro g2_ hg2 w2 hbox hb2
      have hJ2 : J 0 true false ZM_ ZP_ w' la_0 la_1 la_6 la_7 lo_0 lo_1 lo_6 lo_7 ⟨⟨none, 0, none, 0, none, 0, none, 0, 0, 0⟩, ⟨none, 0, none, 0, none, 0, none, 0, 0, 0⟩, g2_, 0⟩ w2 := hJ.bg hg2 hbox hb2
      exact hK.out _ _ ⟨blk_below BK2.out hJ2.hb, blk_below BK3.out hJ2.hb⟩ (fun hHeld => norm_ (by show Act.put _ (some 16) _ = _; simp only [putAll, Act.put, List.setIfInBounds_toArray, List.set_cons_zero, List.set_cons_succ]) (hs0tf ⟨⟨none, 0, none, 0, none, 0, none, 0, 0, 0⟩, ⟨none, 0, none, 0, none, 0, none, 0, 0, 0⟩, g2_, 0⟩ _ hJ2))
    · refine box_step ?hg (N := 17) ?hd (cs := #[.int .i64 0, .int .i64 0]) (t := 38) ?hr ?_; (case hd => rfl); (case hg => rfl); (case hr => first | (go_simp; done) | (go_simp; rfl))
      intro g2_ hg2 w2 hbox hb2
      have hJ2 : J 0 false true ZM_ ZP_ w' la_0 la_1 la_6 la_7 lo_0 lo_1 lo_6 lo_7 ⟨⟨none, 0, none, 0, none, 0, none, 0, 0, 0⟩, ⟨none, 0, none, 0, none, 0, none, 0, 0, 0⟩, 0, g2_⟩ w2 := hJ.bh hg2 hbox hb2
      exact hK.out _ _ ⟨blk_below BK2.out hJ2.hb, blk_below BK3.out hJ2.hb⟩ (fun hHeld => norm_ (by show Act.put _ (some 17) _ = _; simp only [putAll, Act.put, List.setIfInBounds_toArray, List.set_cons_zero, List.set_cons_succ]) (hs0ft ⟨⟨none, 0, none, 0, none, 0, none, 0, 0, 0⟩, ⟨none, 0, none, 0, none, 0, none, 0, 0, 0⟩, 0, g2_⟩ _ hJ2))
  rintro ⟨xx_, ⟨Ah_0, ch_0, Ah_1, ch_1, Ah_6, ch_6, Ah_7, ch_7, loh, hih⟩, g16, g17⟩ w' hJ
  have hc := Ch.of_below hJ.hb
  have hU := hJ.hu rfl
  have F28 : Aside0 (hiz ≤ loh) := Aside0.mk (Nat.le_trans S.out hU.1.1)
  have F29 : Aside0 (loh ≤ hih) := Aside0.mk hU.1.2.1
  have F30 : Aside0 (hiz ≤ g16) := Aside0.mk (Nat.le_trans S.out (hJ.hg rfl).1)
  have F31 : Aside0 (hiz ≤ g17) := Aside0.mk (Nat.le_trans S.out (hJ.hh rfl).1)
  have F32 : Aside0 (g16 + 1 ≤ g17 ∨ g17 + 1 ≤ g16) := Aside0.mk (by have q_ : g16 ≠ g17 := hJ.gh rfl rfl; omega)
  have F33 : Aside0 (g16 + 1 ≤ loh ∨ hih ≤ g16) := Aside0.mk (hJ.gu rfl rfl)
  have F34 : Aside0 (g17 + 1 ≤ loh ∨ hih ≤ g17) := Aside0.mk (hJ.hv rfl rfl)
  replace BK2 := Aside0.mk (blk_ch hc BK2.out (Or.inr (Nat.zero_le _)))
  replace BK3 := Aside0.mk (blk_ch hc BK3.out (Or.inr (Nat.zero_le _)))
  replace Mu := Aside0.mk (R4_ch Mu.out hc (Or.inr (Or.inr (Nat.zero_le _))))
  replace BK6 := Aside0.mk (blk_ch hc BK6.out (Or.inr (Nat.zero_le _)))
  replace BK7 := Aside0.mk (blk_ch hc BK7.out (Or.inr (Nat.zero_le _)))
  replace My := Aside0.mk (R4_ch My.out hc (Or.inr (Or.inr (Nat.zero_le _))))
  replace BK9 := Aside0.mk (blk_ch hc BK9.out (Or.inr (Nat.zero_le _)))
  replace Mv := Aside0.mk (R4_ch Mv.out hc (Or.inr (Or.inr (Nat.zero_le _))))
  replace BK10 := Aside0.mk (blk_ch hc BK10.out (Or.inr (Nat.zero_le _)))
  replace BK11 := Aside0.mk (blk_ch hc BK11.out (Or.inr (Nat.zero_le _)))
  replace HB := Aside0.mk (below_ch HB.out hc (Or.inl (Nat.le_refl _)))
  replace S := Aside0.mk (Nat.le_trans S.out hc.size)
  obtain ⟨tp, htp⟩ : ∃ tp, tp = w'.heap.size := ⟨_, rfl⟩
  have F35 : Aside0 (hih ≤ tp) := Aside0.mk (by have q_ : hih ≤ w'.heap.size := hU.1.2.2; omega)
  have F36 : Aside0 (g16 + 1 ≤ tp) := Aside0.mk (by have q_ : g16 < w'.heap.size := blk_lt (hJ.hg rfl).2; omega)
  have F37 : Aside0 (g17 + 1 ≤ tp) := Aside0.mk (by have q_ : g17 < w'.heap.size := blk_lt (hJ.hh rfl).2; omega)
  clear S
  have S : Aside0 (tp ≤ w'.heap.size) := Aside0.mk (by omega)
  clear htp
  have Mh : Aside0 (R4 w' loh hih (.slice Ah_0 lo_0.length ch_0) (.slice Ah_1 lo_1.length ch_1) (.slice Ah_6 lo_6.length ch_6) (.slice Ah_7 lo_7.length ch_7) lo_0 lo_1 lo_6 lo_7) := Aside0.mk hU.2
  have BK16 : Aside0 (w'.heap[g16]? = some (.cells #[.slice none 0 0, .slice none 0 0, .bool false, .bool false, .bool false, .bool false, .slice none 0 0, .slice none 0 0, .int .i64 0] 28 (0, 0))) := Aside0.mk (hJ.hg rfl).2
  have BK17 : Aside0 (w'.heap[g17]? = some (.cells #[.int .i64 0, .int .i64 0] 38 (0, 0))) := Aside0.mk (hJ.hh rfl).2
  clear hc hU hJ
  have hHeld : w'.heap[g2]? = some (.cells #[.slice Aa_0 la_0.length ca_0, .slice Aa_1 la_1.length ca_1, .bool ba_2, .bool ba_3, .bool ba_4, .bool ba_5, .slice Aa_6 la_6.length ca_6, .slice Aa_7 la_7.length ca_7, .int .i64 ba_8] 24 (0, 0)) ∧ w'.heap[g3]? = some (.cells #[.int .i64 p0, .int .i64 p1, .int .i64 p2] 60 (0, 0)) := ⟨BK2.out, BK3.out⟩
  refine norm_ (a' := ?_) ?_ ?_
  rotate_left
  · simp only [putAll, Act.put, List.setIfInBounds_toArray, List.set_cons_zero, List.set_cons_succ]
    rfl
  refine one_ (i := 11) (N := none) #[true, true, true, true, true, true, true, true, true, true, true, true, false, false] rfl rfl (by kernel_rfl) (by decide) (fun K hK => ?_)
  refine store_struct_step (by rfl) rfl 28 (.tmp 16) (.tmp 102) rfl (cs := #[.slice Ah_0 lo_0.length ch_0, .slice Ah_1 lo_1.length ch_1, .bool bo_2, .bool bo_3, .bool bo_4, .bool bo_5, .slice Ah_6 lo_6.length ch_6, .slice Ah_7 lo_7.length ch_7, .int .i64 bo_8]) (by rfl) (by rfl) BK16.out (by kernel_rfl) rfl (by repeat (first | exact fun _ h => absurd h List.not_mem_nil | refine List.forall_mem_cons.2 ⟨rfl, ?_⟩)) ?_
  intro w' hbox hc
  replace BK2 := Aside0.mk (blk_ch hc BK2.out (by have := F1.out; have := F2.out; have := F3.out; have := F4.out; have := F5.out; have := F6.out; have := F7.out; have := F8.out; have := F9.out; have := F10.out; have := F11.out; have := F12.out; have := F13.out; have := F14.out; have := F15.out; have := F16.out; have := F17.out; have := F18.out; have := F19.out; have := F20.out; have := F21.out; have := F22.out; have := F23.out; have := F24.out; have := F25.out; have := F26.out; have := F27.out; have := F28.out; have := F29.out; have := F30.out; have := F31.out; have := F32.out; have := F33.out; have := F34.out; have := F35.out; have := F36.out; have := F37.out; have := S.out; omega))
  replace BK3 := Aside0.mk (blk_ch hc BK3.out (by have := F1.out; have := F2.out; have := F3.out; have := F4.out; have := F5.out; have := F6.out; have := F7.out; have := F8.out; have := F9.out; have := F10.out; have := F11.out; have := F12.out; have := F13.out; have := F14.out; have := F15.out; have := F16.out; have := F17.out; have := F18.out; have := F19.out; have := F20.out; have := F21.out; have := F22.out; have := F23.out; have := F24.out; have := F25.out; have := F26.out; have := F27.out; have := F28.out; have := F29.out; have := F30.out; have := F31.out; have := F32.out; have := F33.out; have := F34.out; have := F35.out; have := F36.out; have := F37.out; have := S.out; omega))
  replace Mu := Aside0.mk (R4_ch Mu.out hc (by have := F1.out; have := F2.out; have := F3.out; have := F4.out; have := F5.out; have := F6.out; have := F7.out; have := F8.out; have := F9.out; have := F10.out; have := F11.out; have := F12.out; have := F13.out; have := F14.out; have := F15.out; have := F16.out; have := F17.out; have := F18.out; have := F19.out; have := F20.out; have := F21.out; have := F22.out; have := F23.out; have := F24.out; have := F25.out; have := F26.out; have := F27.out; have := F28.out; have := F29.out; have := F30.out; have := F31.out; have := F32.out; have := F33.out; have := F34.out; have := F35.out; have := F36.out; have := F37.out; have := S.out; omega))
  replace BK6 := Aside0.mk (blk_ch hc BK6.out (by have := F1.out; have := F2.out; have := F3.out; have := F4.out; have := F5.out; have := F6.out; have := F7.out; have := F8.out; have := F9.out; have := F10.out; have := F11.out; have := F12.out; have := F13.out; have := F14.out; have := F15.out; have := F16.out; have := F17.out; have := F18.out; have := F19.out; have := F20.out; have := F21.out; have := F22.out; have := F23.out; have := F24.out; have := F25.out; have := F26.out; have := F27.out; have := F28.out; have := F29.out; have := F30.out; have := F31.out; have := F32.out; have := F33.out; have := F34.out; have := F35.out; have := F36.out; have := F37.out; have := S.out; omega))
  replace BK7 := Aside0.mk (blk_ch hc BK7.out (by have := F1.out; have := F2.out; have := F3.out; have := F4.out; have := F5.out; have := F6.out; have := F7.out; have := F8.out; have := F9.out; have := F10.out; have := F11.out; have := F12.out; have := F13.out; have := F14.out; have := F15.out; have := F16.out; have := F17.out; have := F18.out; have := F19.out; have := F20.out; have := F21.out; have := F22.out; have := F23.out; have := F24.out; have := F25.out; have := F26.out; have := F27.out; have := F28.out; have := F29.out; have := F30.out; have := F31.out; have := F32.out; have := F33.out; have := F34.out; have := F35.out; have := F36.out; have := F37.out; have := S.out; omega))
  replace My := Aside0.mk (R4_ch My.out hc (by have := F1.out; have := F2.out; have := F3.out; have := F4.out; have := F5.out; have := F6.out; have := F7.out; have := F8.out; have := F9.out; have := F10.out; have := F11.out; have := F12.out; have := F13.out; have := F14.out; have := F15.out; have := F16.out; have := F17.out; have := F18.out; have := F19.out; have := F20.out; have := F21.out; have := F22.out; have := F23.out; have := F24.out; have := F25.out; have := F26.out; have := F27.out; have := F28.out; have := F29.out; have := F30.out; have := F31.out; have := F32.out; have := F33.out; have := F34.out; have := F35.out; have := F36.out; have := F37.out; have := S.out; omega))
  replace BK9 := Aside0.mk (blk_ch hc BK9.out (by have := F1.out; have := F2.out; have := F3.out; have := F4.out; have := F5.out; have := F6.out; have := F7.out; have := F8.out; have := F9.out; have := F10.out; have := F11.out; have := F12.out; have := F13.out; have := F14.out; have := F15.out; have := F16.out; have := F17.out; have := F18.out; have := F19.out; have := F20.out; have := F21.out; have := F22.out; have := F23.out; have := F24.out; have := F25.out; have := F26.out; have := F27.out; have := F28.out; have := F29.out; have := F30.out; have := F31.out; have := F32.out; have := F33.out; have := F34.out; have := F35.out; have := F36.out; have := F37.out; have := S.out; omega))
  replace Mv := Aside0.mk (R4_ch Mv.out hc (by have := F1.out; have := F2.out; have := F3.out; have := F4.out; have := F5.out; have := F6.out; have := F7.out; have := F8.out; have := F9.out; have := F10.out; have := F11.out; have := F12.out; have := F13.out; have := F14.out; have := F15.out; have := F16.out; have := F17.out; have := F18.out; have := F19.out; have := F20.out; have := F21.out; have := F22.out; have := F23.out; have := F24.out; have := F25.out; have := F26.out; have := F27.out; have := F28.out; have := F29.out; have := F30.out; have := F31.out; have := F32.out; have := F33.out; have := F34.out; have := F35.out; have := F36.out; have := F37.out; have := S.out; omega))
  replace BK10 := Aside0.mk (blk_ch hc BK10.out (by have := F1.out; have := F2.out; have := F3.out; have := F4.out; have := F5.out; have := F6.out; have := F7.out; have := F8.out; have := F9.out; have := F10.out; have := F11.out; have := F12.out; have := F13.out; have := F14.out; have := F15.out; have := F16.out; have := F17.out; have := F18.out; have := F19.out; have := F20.out; have := F21.out; have := F22.out; have := F23.out; have := F24.out; have := F25.out; have := F26.out; have := F27.out; have := F28.out; have := F29.out; have := F30.out; have := F31.out; have := F32.out; have := F33.out; have := F34.out; have := F35.out; have := F36.out; have := F37.out; have := S.out; omega))
  replace BK11 := Aside0.mk (blk_ch hc BK11.out (by have := F1.out; have := F2.out; have := F3.out; have := F4.out; have := F5.out; have := F6.out; have := F7.out; have := F8.out; have := F9.out; have := F10.out; have := F11.out; have := F12.out; have := F13.out; have := F14.out; have := F15.out; have := F16.out; have := F17.out; have := F18.out; have := F19.out; have := F20.out; have := F21.out; have := F22.out; have := F23.out; have := F24.out; have := F25.out; have := F26.out; have := F27.out; have := F28.out; have := F29.out; have := F30.out; have := F31.out; have := F32.out; have := F33.out; have := F34.out; have := F35.out; have := F36.out; have := F37.out; have := S.out; omega))
  replace Mh := Aside0.mk (R4_ch Mh.out hc (by have := F1.out; have := F2.out; have := F3.out; have := F4.out; have := F5.out; have := F6.out; have := F7.out; have := F8.out; have := F9.out; have := F10.out; have := F11.out; have := F12.out; have := F13.out; have := F14.out; have := F15.out; have := F16.out; have := F17.out; have := F18.out; have := F19.out; have := F20.out; have := F21.out; have := F22.out; have := F23.out; have := F24.out; have := F25.out; have := F26.out; have := F27.out; have := F28.out; have := F29.out; have := F30.out; have := F31.out; have := F32.out; have := F33.out; have := F34.out; have := F35.out; have := F36.out; have := F37.out; have := S.out; omega))
  replace BK17 := Aside0.mk (blk_ch hc BK17.out (by have := F1.out; have := F2.out; have := F3.out; have := F4.out; have := F5.out; have := F6.out; have := F7.out; have := F8.out; have := F9.out; have := F10.out; have := F11.out; have := F12.out; have := F13.out; have := F14.out; have := F15.out; have := F16.out; have := F17.out; have := F18.out; have := F19.out; have := F20.out; have := F21.out; have := F22.out; have := F23.out; have := F24.out; have := F25.out; have := F26.out; have := F27.out; have := F28.out; have := F29.out; have := F30.out; have := F31.out; have := F32.out; have := F33.out; have := F34.out; have := F35.out; have := F36.out; have := F37.out; have := S.out; omega))
  replace HB := Aside0.mk (below_ch HB.out hc (Or.inr (by have := F1.out; have := F2.out; have := F3.out; have := F4.out; have := F5.out; have := F6.out; have := F7.out; have := F8.out; have := F9.out; have := F10.out; have := F11.out; have := F12.out; have := F13.out; have := F14.out; have := F15.out; have := F16.out; have := F17.out; have := F18.out; have := F19.out; have := F20.out; have := F21.out; have := F22.out; have := F23.out; have := F24.out; have := F25.out; have := F26.out; have := F27.out; have := F28.out; have := F29.out; have := F30.out; have := F31.out; have := F32.out; have := F33.out; have := F34.out; have := F35.out; have := F36.out; have := F37.out; have := S.out; omega)))
  replace S := Aside0.mk (Nat.le_trans S.out hc.size)
  clear BK16
  have BK16 := Aside0.mk hbox
  clear hbox hc
  refine hK.out _ _ ⟨BK2.out, BK3.out⟩ (fun hHeld => ?_)
  clear hK K
  refine one_ (i := 12) (N := none) #[true, true, true, true, true, true, true, true, true, true, true, true, true, false] rfl rfl (by kernel_rfl) (by decide) (fun K hK => ?_)
  refine store_struct_step (by rfl) rfl 38 (.tmp 17) (.tmp 103) rfl (cs := #[.int .i64 y0, .int .i64 y1]) (by rfl) (by rfl) BK17.out (by kernel_rfl) rfl (by repeat (first | exact fun _ h => absurd h List.not_mem_nil | refine List.forall_mem_cons.2 ⟨rfl, ?_⟩)) ?_
  intro w' hbox hc
  replace BK2 := Aside0.mk (blk_ch hc BK2.out (by have := F1.out; have := F2.out; have := F3.out; have := F4.out; have := F5.out; have := F6.out; have := F7.out; have := F8.out; have := F9.out; have := F10.out; have := F11.out; have := F12.out; have := F13.out; have := F14.out; have := F15.out; have := F16.out; have := F17.out; have := F18.out; have := F19.out; have := F20.out; have := F21.out; have := F22.out; have := F23.out; have := F24.out; have := F25.out; have := F26.out; have := F27.out; have := F28.out; have := F29.out; have := F30.out; have := F31.out; have := F32.out; have := F33.out; have := F34.out; have := F35.out; have := F36.out; have := F37.out; have := S.out; omega))
  replace BK3 := Aside0.mk (blk_ch hc BK3.out (by have := F1.out; have := F2.out; have := F3.out; have := F4.out; have := F5.out; have := F6.out; have := F7.out; have := F8.out; have := F9.out; have := F10.out; have := F11.out; have := F12.out; have := F13.out; have := F14.out; have := F15.out; have := F16.out; have := F17.out; have := F18.out; have := F19.out; have := F20.out; have := F21.out; have := F22.out; have := F23.out; have := F24.out; have := F25.out; have := F26.out; have := F27.out; have := F28.out; have := F29.out; have := F30.out; have := F31.out; have := F32.out; have := F33.out; have := F34.out; have := F35.out; have := F36.out; have := F37.out; have := S.out; omega))
  replace Mu := Aside0.mk (R4_ch Mu.out hc (by have := F1.out; have := F2.out; have := F3.out; have := F4.out; have := F5.out; have := F6.out; have := F7.out; have := F8.out; have := F9.out; have := F10.out; have := F11.out; have := F12.out; have := F13.out; have := F14.out; have := F15.out; have := F16.out; have := F17.out; have := F18.out; have := F19.out; have := F20.out; have := F21.out; have := F22.out; have := F23.out; have := F24.out; have := F25.out; have := F26.out; have := F27.out; have := F28.out; have := F29.out; have := F30.out; have := F31.out; have := F32.out; have := F33.out; have := F34.out; have := F35.out; have := F36.out; have := F37.out; have := S.out; omega))
  replace BK6 := Aside0.mk (blk_ch hc BK6.out (by have := F1.out; have := F2.out; have := F3.out; have := F4.out; have := F5.out; have := F6.out; have := F7.out; have := F8.out; have := F9.out; have := F10.out; have := F11.out; have := F12.out; have := F13.out; have := F14.out; have := F15.out; have := F16.out; have := F17.out; have := F18.out; have := F19.out; have := F20.out; have := F21.out; have := F22.out; have := F23.out; have := F24.out; have := F25.out; have := F26.out; have := F27.out; have := F28.out; have := F29.out; have := F30.out; have := F31.out; have := F32.out; have := F33.out; have := F34.out; have := F35.out; have := F36.out; have := F37.out; have := S.out; omega))
  replace BK7 := Aside0.mk (blk_ch hc BK7.out (by have := F1.out; have := F2.out; have := F3.out; have := F4.out; have := F5.out; have := F6.out; have := F7.out; have := F8.out; have := F9.out; have := F10.out; have := F11.out; have := F12.out; have := F13.out; have := F14.out; have := F15.out; have := F16.out; have := F17.out; have := F18.out; have := F19.out; have := F20.out; have := F21.out; have := F22.out; have := F23.out; have := F24.out; have := F25.out; have := F26.out; have := F27.out; have := F28.out; have := F29.out; have := F30.out; have := F31.out; have := F32.out; have := F33.out; have := F34.out; have := F35.out; have := F36.out; have := F37.out; have := S.out; omega))
  replace My := Aside0.mk (R4_ch My.out hc (by have := F1.out; have := F2.out; have := F3.out; have := F4.out; have := F5.out; have := F6.out; have := F7.out; have := F8.out; have := F9.out; have := F10.out; have := F11.out; have := F12.out; have := F13.out; have := F14.out; have := F15.out; have := F16.out; have := F17.out; have := F18.out; have := F19.out; have := F20.out; have := F21.out; have := F22.out; have := F23.out; have := F24.out; have := F25.out; have := F26.out; have := F27.out; have := F28.out; have := F29.out; have := F30.out; have := F31.out; have := F32.out; have := F33.out; have := F34.out; have := F35.out; have := F36.out; have := F37.out; have := S.out; omega))
  replace BK9 := Aside0.mk (blk_ch hc BK9.out (by have := F1.out; have := F2.out; have := F3.out; have := F4.out; have := F5.out; have := F6.out; have := F7.out; have := F8.out; have := F9.out; have := F10.out; have := F11.out; have := F12.out; have := F13.out; have := F14.out; have := F15.out; have := F16.out; have := F17.out; have := F18.out; have := F19.out; have := F20.out; have := F21.out; have := F22.out; have := F23.out; have := F24.out; have := F25.out; have := F26.out; have := F27.out; have := F28.out; have := F29.out; have := F30.out; have := F31.out; have := F32.out; have := F33.out; have := F34.out; have := F35.out; have := F36.out; have := F37.out; have := S.out; omega))
  replace Mv := Aside0.mk (R4_ch Mv.out hc (by have := F1.out; have := F2.out; have := F3.out; have := F4.out; have := F5.out; have := F6.out; have := F7.out; have := F8.out; have := F9.out; have := F10.out; have := F11.out; have := F12.out; have := F13.out; have := F14.out; have := F15.out; have := F16.out; have := F17.out; have := F18.out; have := F19.out; have := F20.out; have := F21.out; have := F22.out; have := F23.out; have := F24.out; have := F25.out; have := F26.out; have := F27.out; have := F28.out; have := F29.out; have := F30.out; have := F31.out; have := F32.out; have := F33.out; have := F34.out; have := F35.out; have := F36.out; have := F37.out; have := S.out; omega))
  replace BK10 := Aside0.mk (blk_ch hc BK10.out (by have := F1.out; have := F2.out; have := F3.out; have := F4.out; have := F5.out; have := F6.out; have := F7.out; have := F8.out; have := F9.out; have := F10.out; have := F11.out; have := F12.out; have := F13.out; have := F14.out; have := F15.out; have := F16.out; have := F17.out; have := F18.out; have := F19.out; have := F20.out; have := F21.out; have := F22.out; have := F23.out; have := F24.out; have := F25.out; have := F26.out; have := F27.out; have := F28.out; have := F29.out; have := F30.out; have := F31.out; have := F32.out; have := F33.out; have := F34.out; have := F35.out; have := F36.out; have := F37.out; have := S.out; omega))
  replace BK11 := Aside0.mk (blk_ch hc BK11.out (by have := F1.out; have := F2.out; have := F3.out; have := F4.out; have := F5.out; have := F6.out; have := F7.out; have := F8.out; have := F9.out; have := F10.out; have := F11.out; have := F12.out; have := F13.out; have := F14.out; have := F15.out; have := F16.out; have := F17.out; have := F18.out; have := F19.out; have := F20.out; have := F21.out; have := F22.out; have := F23.out; have := F24.out; have := F25.out; have := F26.out; have := F27.out; have := F28.out; have := F29.out; have := F30.out; have := F31.out; have := F32.out; have := F33.out; have := F34.out; have := F35.out; have := F36.out; have := F37.out; have := S.out; omega))
  replace Mh := Aside0.mk (R4_ch Mh.out hc (by have := F1.out; have := F2.out; have := F3.out; have := F4.out; have := F5.out; have := F6.out; have := F7.out; have := F8.out; have := F9.out; have := F10.out; have := F11.out; have := F12.out; have := F13.out; have := F14.out; have := F15.out; have := F16.out; have := F17.out; have := F18.out; have := F19.out; have := F20.out; have := F21.out; have := F22.out; have := F23.out; have := F24.out; have := F25.out; have := F26.out; have := F27.out; have := F28.out; have := F29.out; have := F30.out; have := F31.out; have := F32.out; have := F33.out; have := F34.out; have := F35.out; have := F36.out; have := F37.out; have := S.out; omega))
  replace BK16 := Aside0.mk (blk_ch hc BK16.out (by have := F1.out; have := F2.out; have := F3.out; have := F4.out; have := F5.out; have := F6.out; have := F7.out; have := F8.out; have := F9.out; have := F10.out; have := F11.out; have := F12.out; have := F13.out; have := F14.out; have := F15.out; have := F16.out; have := F17.out; have := F18.out; have := F19.out; have := F20.out; have := F21.out; have := F22.out; have := F23.out; have := F24.out; have := F25.out; have := F26.out; have := F27.out; have := F28.out; have := F29.out; have := F30.out; have := F31.out; have := F32.out; have := F33.out; have := F34.out; have := F35.out; have := F36.out; have := F37.out; have := S.out; omega))
  replace HB := Aside0.mk (below_ch HB.out hc (Or.inr (by have := F1.out; have := F2.out; have := F3.out; have := F4.out; have := F5.out; have := F6.out; have := F7.out; have := F8.out; have := F9.out; have := F10.out; have := F11.out; have := F12.out; have := F13.out; have := F14.out; have := F15.out; have := F16.out; have := F17.out; have := F18.out; have := F19.out; have := F20.out; have := F21.out; have := F22.out; have := F23.out; have := F24.out; have := F25.out; have := F26.out; have := F27.out; have := F28.out; have := F29.out; have := F30.out; have := F31.out; have := F32.out; have := F33.out; have := F34.out; have := F35.out; have := F36.out; have := F37.out; have := S.out; omega)))
  replace S := Aside0.mk (Nat.le_trans S.out hc.size)
  clear BK17
  have BK17 := Aside0.mk hbox
  clear hbox hc
  refine hK.out _ _ ⟨BK2.out, BK3.out⟩ (fun hHeld => ?_)
  clear hK K
  refine pure_ (i := 13) (N := some 18) (v := ?_) (a' := ?_) #[true, true, true, true, true, true, true, true, true, true, true, true, true, true] rfl rfl (by kernel_rfl) (fun _ _ _ h => h) (Or.inl ⟨by rfl, ?_⟩) ?_ ?_
  rotate_left
  · intro w'
    go_simp
    with_reducible rfl
  rotate_left
  · simp only [Act.put, List.setIfInBounds_toArray, List.set_cons_zero, List.set_cons_succ, i64_w, i32_w]
    rfl
  refine done_ (by kernel_rfl) ?_
  go_wp2_with (first
    | ((with_reducible refine gate_ (.load 28 (.tmp 16)) rfl ?_); (try (refine gate_guard (by rfl) ?_; dsimp only)); refine wpList_load_row rfl 28 (.tmp 16) rfl g16 rfl 28 _ _ _ BK16.out Try.underlying28 rfl (by kernel_rfl) ?_)
    | ((with_reducible refine gate_ (.load 28 (.tmp 6)) rfl ?_); (try (refine gate_guard (by rfl) ?_; dsimp only)); refine wpList_load_row rfl 28 (.tmp 6) rfl g6 rfl 28 _ _ _ BK6.out Try.underlying28 rfl (by kernel_rfl) ?_)
    | ((with_reducible refine gate_ (.load 28 (.tmp 10)) rfl ?_); (try (refine gate_guard (by rfl) ?_; dsimp only)); refine wpList_load_row rfl 28 (.tmp 10) rfl g10 rfl 28 _ _ _ BK10.out Try.underlying28 rfl (by kernel_rfl) ?_)
    | ((with_reducible refine gate_ (.load 38 (.tmp 17)) rfl ?_); (try (refine gate_guard (by rfl) ?_; dsimp only)); refine wpList_load_row rfl 38 (.tmp 17) rfl g17 rfl 38 _ _ _ BK17.out Try.underlying38 rfl (by kernel_rfl) ?_)
    | ((with_reducible refine gate_ (.load 38 (.tmp 7)) rfl ?_); (try (refine gate_guard (by rfl) ?_; dsimp only)); refine wpList_load_row rfl 38 (.tmp 7) rfl g7 rfl 38 _ _ _ BK7.out Try.underlying38 rfl (by kernel_rfl) ?_)
    | ((with_reducible refine gate_callee (f := 19) rfl ?_); (try (refine gate_guard (by rfl) ?_; dsimp only)); refine goesL_ (some 107) rfl rfl Try.func19 (by kernel_rfl) rfl #[.agg #[.slice Ah_0 lo_0.length ch_0, .slice Ah_1 lo_1.length ch_1, .bool bo_2, .bool bo_3, .bool bo_4, .bool bo_5, .slice Ah_6 lo_6.length ch_6, .slice Ah_7 lo_7.length ch_7, .int .i64 bo_8], .agg #[.slice Au_0 lo_0.length cu_0, .slice Au_1 lo_1.length cu_1, .bool bo_2, .bool bo_3, .bool bo_4, .bool bo_5, .slice Au_6 lo_6.length cu_6, .slice Au_7 lo_7.length cu_7, .int .i64 bo_8]] rfl (by (try simp only [List.map_toArray, List.map_cons, List.map_nil]); first | done | rfl) ?_; refine (eq4 k Ah_0 ch_0 _ lo_0 Ah_1 ch_1 _ lo_1 bo_2 bo_3 bo_4 bo_5 Ah_6 ch_6 _ lo_6 Ah_7 ch_7 _ lo_7 bo_8 Au_0 cu_0 _ lo_0 Au_1 cu_1 _ lo_1 bo_2 bo_3 bo_4 bo_5 Au_6 cu_6 _ lo_6 Au_7 cu_7 _ lo_7 bo_8 true _ _ _ _ _ Mh.out Mu.out Heo.out).mono ?_; rintro e w' ⟨rfl, hc⟩; refine ⟨_, rfl, ?_⟩; replace BK2 := Aside0.mk (blk_ch hc BK2.out (Or.inr (Nat.zero_le _))); replace BK3 := Aside0.mk (blk_ch hc BK3.out (Or.inr (Nat.zero_le _))); replace Mu := Aside0.mk (R4_ch Mu.out hc (Or.inr (Or.inr (Nat.zero_le _)))); replace BK6 := Aside0.mk (blk_ch hc BK6.out (Or.inr (Nat.zero_le _))); replace BK7 := Aside0.mk (blk_ch hc BK7.out (Or.inr (Nat.zero_le _))); replace My := Aside0.mk (R4_ch My.out hc (Or.inr (Or.inr (Nat.zero_le _)))); replace BK9 := Aside0.mk (blk_ch hc BK9.out (Or.inr (Nat.zero_le _))); replace Mv := Aside0.mk (R4_ch Mv.out hc (Or.inr (Or.inr (Nat.zero_le _)))); replace BK10 := Aside0.mk (blk_ch hc BK10.out (Or.inr (Nat.zero_le _))); replace BK11 := Aside0.mk (blk_ch hc BK11.out (Or.inr (Nat.zero_le _))); replace Mh := Aside0.mk (R4_ch Mh.out hc (Or.inr (Or.inr (Nat.zero_le _)))); replace BK16 := Aside0.mk (blk_ch hc BK16.out (Or.inr (Nat.zero_le _))); replace BK17 := Aside0.mk (blk_ch hc BK17.out (Or.inr (Nat.zero_le _))); replace HB := Aside0.mk (below_ch HB.out hc (Or.inl (Nat.le_refl _))); replace S := Aside0.mk (Nat.le_trans S.out hc.size); clear hc)
    | ((with_reducible refine gate_callee (f := 47) rfl ?_); (try (refine gate_guard (by rfl) ?_; dsimp only)); refine goesL_ (some 112) rfl rfl Try.func47 (by kernel_rfl) rfl #[.agg #[.int .i64 y0, .int .i64 y1], .agg #[.int .i64 y0, .int .i64 y1]] rfl (by (try simp only [List.map_toArray, List.map_cons, List.map_nil]); first | done | rfl) ?_; refine (laws_eqPlace.calls y0 y1 y0 y1 true _ Hep.out).mono ?_; rintro e w' ⟨rfl, hb⟩; have hc := Ch.of_below hb; refine ⟨_, rfl, ?_⟩; replace BK2 := Aside0.mk (blk_ch hc BK2.out (Or.inr (Nat.zero_le _))); replace BK3 := Aside0.mk (blk_ch hc BK3.out (Or.inr (Nat.zero_le _))); replace Mu := Aside0.mk (R4_ch Mu.out hc (Or.inr (Or.inr (Nat.zero_le _)))); replace BK6 := Aside0.mk (blk_ch hc BK6.out (Or.inr (Nat.zero_le _))); replace BK7 := Aside0.mk (blk_ch hc BK7.out (Or.inr (Nat.zero_le _))); replace My := Aside0.mk (R4_ch My.out hc (Or.inr (Or.inr (Nat.zero_le _)))); replace BK9 := Aside0.mk (blk_ch hc BK9.out (Or.inr (Nat.zero_le _))); replace Mv := Aside0.mk (R4_ch Mv.out hc (Or.inr (Or.inr (Nat.zero_le _)))); replace BK10 := Aside0.mk (blk_ch hc BK10.out (Or.inr (Nat.zero_le _))); replace BK11 := Aside0.mk (blk_ch hc BK11.out (Or.inr (Nat.zero_le _))); replace Mh := Aside0.mk (R4_ch Mh.out hc (Or.inr (Or.inr (Nat.zero_le _)))); replace BK16 := Aside0.mk (blk_ch hc BK16.out (Or.inr (Nat.zero_le _))); replace BK17 := Aside0.mk (blk_ch hc BK17.out (Or.inr (Nat.zero_le _))); replace HB := Aside0.mk (below_ch HB.out hc (Or.inl (Nat.le_refl _))); replace S := Aside0.mk (Nat.le_trans S.out hc.size); clear hc hb)
    | ((with_reducible refine gate_callee (f := 33) rfl ?_); (try (refine gate_guard (by rfl) ?_; dsimp only)); refine goesL_ (some 122) rfl rfl Try.func33 (by kernel_rfl) rfl #[.agg #[.slice Av_0 lo_0.length cv_0, .slice Av_1 lo_1.length cv_1, .bool bo_2, .bool bo_3, .bool bo_4, .bool bo_5, .slice Av_6 lo_6.length cv_6, .slice Av_7 lo_7.length cv_7, .int .i64 bo_8], .int .i64 1] rfl (by (try simp only [List.map_toArray, List.map_cons, List.map_nil]); first | done | rfl) ?_; refine (held4 k Av_0 cv_0 _ lq_0 Av_1 cv_1 _ lq_1 bo_2 bo_3 bo_4 bo_5 Av_6 cv_6 _ lq_6 Av_7 cv_7 _ lq_7 bo_8 1 m1 _ _ _ Mv.out Hh.out).mono ?_; rintro e w' ⟨rfl, hc⟩; refine ⟨_, rfl, ?_⟩; replace BK2 := Aside0.mk (blk_ch hc BK2.out (Or.inr (Nat.zero_le _))); replace BK3 := Aside0.mk (blk_ch hc BK3.out (Or.inr (Nat.zero_le _))); replace Mu := Aside0.mk (R4_ch Mu.out hc (Or.inr (Or.inr (Nat.zero_le _)))); replace BK6 := Aside0.mk (blk_ch hc BK6.out (Or.inr (Nat.zero_le _))); replace BK7 := Aside0.mk (blk_ch hc BK7.out (Or.inr (Nat.zero_le _))); replace My := Aside0.mk (R4_ch My.out hc (Or.inr (Or.inr (Nat.zero_le _)))); replace BK9 := Aside0.mk (blk_ch hc BK9.out (Or.inr (Nat.zero_le _))); replace Mv := Aside0.mk (R4_ch Mv.out hc (Or.inr (Or.inr (Nat.zero_le _)))); replace BK10 := Aside0.mk (blk_ch hc BK10.out (Or.inr (Nat.zero_le _))); replace BK11 := Aside0.mk (blk_ch hc BK11.out (Or.inr (Nat.zero_le _))); replace Mh := Aside0.mk (R4_ch Mh.out hc (Or.inr (Or.inr (Nat.zero_le _)))); replace BK16 := Aside0.mk (blk_ch hc BK16.out (Or.inr (Nat.zero_le _))); replace BK17 := Aside0.mk (blk_ch hc BK17.out (Or.inr (Nat.zero_le _))); replace HB := Aside0.mk (below_ch HB.out hc (Or.inl (Nat.le_refl _))); replace S := Aside0.mk (Nat.le_trans S.out hc.size); clear hc))
  go_ret
  exact ⟨rfl, HB.out⟩
theorem law (Aa_0 : Option Addr) (ca_0 : Nat) (la_0 : List Int) (Aa_1 : Option Addr) (ca_1 : Nat) (la_1 : List Int) (ba_2 : Bool) (ba_3 : Bool) (ba_4 : Bool) (ba_5 : Bool) (Aa_6 : Option Addr) (ca_6 : Nat) (la_6 : List Int) (Aa_7 : Option Addr) (ca_7 : Nat) (la_7 : List Int) (ba_8 : Int) (p0 p1 p2 : Int) (w : World) (hra_0 : Kd.C (Kd.int .i64) w Aa_0 la_0.length la_0) (hca_0 : la_0.length ≤ ca_0) (hra_1 : Kd.C (Kd.int .i64) w Aa_1 la_1.length la_1) (hca_1 : la_1.length ≤ ca_1) (hra_6 : Kd.C (Kd.int .i64) w Aa_6 la_6.length la_6) (hca_6 : la_6.length ≤ ca_6) (hra_7 : Kd.C (Kd.int .i64) w Aa_7 la_7.length la_7) (hca_7 : la_7.length ≤ ca_7) (h : Pure.Facts la_0 la_1 ba_2 ba_3 ba_4 ba_5 la_6 la_7 ba_8 p0 p1 p2) :
    Calls Try.prog 11 #[.agg #[.slice Aa_0 la_0.length ca_0, .slice Aa_1 la_1.length ca_1, .bool ba_2, .bool ba_3, .bool ba_4, .bool ba_5, .slice Aa_6 la_6.length ca_6, .slice Aa_7 la_7.length ca_7, .int .i64 ba_8], .agg #[.int .i64 p0, .int .i64 p1, .int .i64 p2]] w fun e w' => e = .returned (.bool true) ∧ Below w.heap.size w w' := by
  rcases h with ⟨s, h1, h2⟩ | ⟨k, s, lo_0, lo_1, bo_2, bo_3, bo_4, bo_5, lo_6, lo_7, bo_8, y0, y1, ok, m0, m1, lp_0, lp_1, lp_6, lp_7, lq_0, lq_1, lq_6, lq_7, e1, e2, e3, e3', e4, e5, e6, e7, ep, e8, e9, e10, e11, e12⟩
  · exact early Aa_0 ca_0 la_0 Aa_1 ca_1 la_1 ba_2 ba_3 ba_4 ba_5 Aa_6 ca_6 la_6 Aa_7 ca_7 la_7 ba_8 p0 p1 p2 s w hra_0 hca_0 hra_1 hca_1 hra_6 hca_6 hra_7 hca_7 h1 h2
  · exact whole k Aa_0 ca_0 la_0 Aa_1 ca_1 la_1 ba_2 ba_3 ba_4 ba_5 Aa_6 ca_6 la_6 Aa_7 ca_7 la_7 ba_8 p0 p1 p2 s lo_0 lo_1 bo_2 bo_3 bo_4 bo_5 lo_6 lo_7 bo_8 y0 y1 ok m0 m1 lp_0 lp_1 lp_6 lp_7 lq_0 lq_1 lq_6 lq_7 w hra_0 hca_0 hra_1 hca_1 hra_6 hca_6 hra_7 hca_7 e1 e2 e3 e3' e4 e5 e6 e7 ep e8 e9 e10 e11 e12
end Go.Proofs.Ytiagbfilffbljaa.WFnExactPlaceOf
