/- The walk of the law FnExactStore: where the plain functions tell these values, the law returns true and leaves what was there as it was. -/
import Derived.Test.YtiagbfilffbljaaMCFnExactStore
import Derived.Test.YtiagbfilffbljaaPureFnExactStore
namespace Go.Proofs.Ytiagbfilffbljaa.WFnExactStore
open Go.RowKit Go.Proofs.YtiagbfilffbljaaW.PrintWords Go.Proofs.YtiagbfilffbljaaW.PrintLast Go.Proofs.YtiagbfilffbljaaW.PrintMore Go.Proofs.Ytiagbfilffbljaa.Chg Go.Proofs.Ytiagbfilffbljaa.PFnExactStore Go.Proofs.Ytiagbfilffbljaa.MCFnExactStore
set_option linter.unusedVariables false
set_option linter.unusedSimpArgs false
attribute [local go_sem] max2_int min2_int max_two min_two max_three min_three max_four min_four
set_option maxHeartbeats 16000000 in
set_option maxRecDepth 100000 in
theorem early (Aa_0 : Option Addr) (ca_0 : Nat) (la_0 : List Int) (Aa_1 : Option Addr) (ca_1 : Nat) (la_1 : List Int) (ba_2 : Bool) (ba_3 : Bool) (ba_4 : Bool) (ba_5 : Bool) (Aa_6 : Option Addr) (ca_6 : Nat) (la_6 : List Int) (Aa_7 : Option Addr) (ca_7 : Nat) (la_7 : List Int) (ba_8 : Int) (p0 p1 n : Int) (s : Int) (w : World) (hra_0 : Kd.C (Kd.int .i64) w Aa_0 la_0.length la_0) (hca_0 : la_0.length ≤ ca_0) (hra_1 : Kd.C (Kd.int .i64) w Aa_1 la_1.length la_1) (hca_1 : la_1.length ≤ ca_1) (hra_6 : Kd.C (Kd.int .i64) w Aa_6 la_6.length la_6) (hca_6 : la_6.length ≤ ca_6) (hra_7 : Kd.C (Kd.int .i64) w Aa_7 la_7.length la_7) (hca_7 : la_7.length ≤ ca_7) (hsz : laws_szMach.f la_0 la_1 ba_2 ba_3 ba_4 ba_5 la_6 la_7 ba_8 1048576 = some s) (hs : decide (s < 0) = true) :
    Calls Try.prog 9 #[.agg #[.slice Aa_0 la_0.length ca_0, .slice Aa_1 la_1.length ca_1, .bool ba_2, .bool ba_3, .bool ba_4, .bool ba_5, .slice Aa_6 la_6.length ca_6, .slice Aa_7 la_7.length ca_7, .int .i64 ba_8], .agg #[.int .i64 p0, .int .i64 p1], .int .i64 n] w fun e w' => e = .returned (.bool true) ∧ Below w.heap.size w w' := by
  have HR0 := Aside0.mk hra_0
  have HC0 := Aside0.mk hca_0
  clear hra_0 hca_0
  have HR1 := Aside0.mk hra_1
  have HC1 := Aside0.mk hca_1
  clear hra_1 hca_1
  have HR6 := Aside0.mk hra_6
  have HC6 := Aside0.mk hca_6
  clear hra_6 hca_6
  have HR7 := Aside0.mk hra_7
  have HC7 := Aside0.mk hca_7
  clear hra_7 hca_7
  have HB := Aside0.mk (Below.refl w.heap.size w)
  have S : Aside0 (w.heap.size ≤ w.heap.size) := Aside0.mk (Nat.le_refl _)
  have Hsz := Aside0.mk hsz
  clear hsz
  go_enter Try.func9, Try.ntmps9
  go_wp2_with (first
    | ((with_reducible refine gate_dst (N := 3) rfl ?_); refine box_event ?hg (N := 3) ?hd (cs := #[.slice Aa_0 la_0.length ca_0, .slice Aa_1 la_1.length ca_1, .bool ba_2, .bool ba_3, .bool ba_4, .bool ba_5, .slice Aa_6 la_6.length ca_6, .slice Aa_7 la_7.length ca_7, .int .i64 ba_8]) (t := 24) ?hr ?_; (case hd => rfl); (case hg => rfl); (case hr => first | (go_simp; done) | (go_simp; rfl)); intro g3 hg w' hbox hb; have hc := Ch.of_below hb; have F1 : Aside0 (w.heap.size ≤ g3) := Aside0.mk (by have := S.out; omega); clear hg; replace HB := Aside0.mk (below_ch HB.out hc (Or.inl (Nat.le_refl _))); replace S := Aside0.mk (Nat.le_trans S.out hc.size); clear S; have S : Aside0 (g3 + 1 ≤ w'.heap.size) := Aside0.mk (blk_lt hbox); have BK3 := Aside0.mk hbox; clear hbox hb hc)
    | ((with_reducible refine gate_dst (N := 4) rfl ?_); refine box_event ?hg (N := 4) ?hd (cs := #[.int .i64 p0, .int .i64 p1]) (t := 36) ?hr ?_; (case hd => rfl); (case hg => rfl); (case hr => first | (go_simp; done) | (go_simp; rfl)); intro g4 hg w' hbox hb; have hc := Ch.of_below hb; have F2 : Aside0 (g3 + 1 ≤ g4) := Aside0.mk (by have := S.out; omega); clear hg; replace BK3 := Aside0.mk (blk_ch hc BK3.out (Or.inr (Nat.zero_le _))); replace HB := Aside0.mk (below_ch HB.out hc (Or.inl (Nat.le_refl _))); replace S := Aside0.mk (Nat.le_trans S.out hc.size); clear S; have S : Aside0 (g4 + 1 ≤ w'.heap.size) := Aside0.mk (blk_lt hbox); have BK4 := Aside0.mk hbox; clear hbox hb hc)
    | ((with_reducible refine gate_ (.load 24 (.tmp 3)) rfl ?_); (try (refine gate_guard (by rfl) ?_; dsimp only)); refine wpList_load_row rfl 24 (.tmp 3) rfl g3 rfl 24 _ _ _ BK3.out Try.underlying24 rfl (by kernel_rfl) ?_)
    | ((with_reducible refine gate_callee (f := 15) rfl ?_); (try (refine gate_guard (by rfl) ?_; dsimp only)); refine goesL_ (some 20) rfl rfl Try.func15 (by kernel_rfl) rfl #[.agg #[.slice Aa_0 la_0.length ca_0, .slice Aa_1 la_1.length ca_1, .bool ba_2, .bool ba_3, .bool ba_4, .bool ba_5, .slice Aa_6 la_6.length ca_6, .slice Aa_7 la_7.length ca_7, .int .i64 ba_8], .int .i64 1048576] rfl (by (try simp only [List.map_toArray, List.map_cons, List.map_nil]); first | done | rfl) ?_; refine (laws_szMach.calls Aa_0 ca_0 la_0 Aa_1 ca_1 la_1 ba_2 ba_3 ba_4 ba_5 Aa_6 ca_6 la_6 Aa_7 ca_7 la_7 ba_8 1048576 s _ (Kd.C_below HR0.out HB.out) HC0.out (Kd.C_below HR1.out HB.out) HC1.out (Kd.C_below HR6.out HB.out) HC6.out (Kd.C_below HR7.out HB.out) HC7.out Hsz.out).mono ?_; rintro e w' ⟨rfl, hb⟩; have hc := Ch.of_below hb; refine ⟨_, rfl, ?_⟩; replace BK3 := Aside0.mk (blk_ch hc BK3.out (Or.inr (Nat.zero_le _))); replace BK4 := Aside0.mk (blk_ch hc BK4.out (Or.inr (Nat.zero_le _))); replace HB := Aside0.mk (below_ch HB.out hc (Or.inl (Nat.le_refl _))); replace S := Aside0.mk (Nat.le_trans S.out hc.size); clear hc hb))
  go_ret
  exact ⟨rfl, HB.out⟩
set_option maxHeartbeats 16000000 in
set_option maxRecDepth 100000 in
theorem whole (k : Nat) (Aa_0 : Option Addr) (ca_0 : Nat) (la_0 : List Int) (Aa_1 : Option Addr) (ca_1 : Nat) (la_1 : List Int) (ba_2 : Bool) (ba_3 : Bool) (ba_4 : Bool) (ba_5 : Bool) (Aa_6 : Option Addr) (ca_6 : Nat) (la_6 : List Int) (Aa_7 : Option Addr) (ca_7 : Nat) (la_7 : List Int) (ba_8 : Int) (p0 p1 n : Int) (s : Int) (lo_0 : List Int) (lo_1 : List Int) (bo_2 : Bool) (bo_3 : Bool) (bo_4 : Bool) (bo_5 : Bool) (lo_6 : List Int) (lo_7 : List Int) (bo_8 : Int) (ok : Bool) (m0 m1 : Int) (lp_0 : List Int) (lp_1 : List Int) (lp_6 : List Int) (lp_7 : List Int) (lq_0 : List Int) (lq_1 : List Int) (lq_6 : List Int) (lq_7 : List Int) (w : World) (hra_0 : Kd.C (Kd.int .i64) w Aa_0 la_0.length la_0) (hca_0 : la_0.length ≤ ca_0) (hra_1 : Kd.C (Kd.int .i64) w Aa_1 la_1.length la_1) (hca_1 : la_1.length ≤ ca_1) (hra_6 : Kd.C (Kd.int .i64) w Aa_6 la_6.length la_6) (hca_6 : la_6.length ≤ ca_6) (hra_7 : Kd.C (Kd.int .i64) w Aa_7 la_7.length la_7) (hca_7 : la_7.length ≤ ca_7)
    (hsz : laws_szMach.f la_0 la_1 ba_2 ba_3 ba_4 ba_5 la_6 la_7 ba_8 1048576 = some s) (hs : decide (s < 0) = false) (hto : laws_toMach.f k la_0 la_1 ba_2 ba_3 ba_4 ba_5 la_6 la_7 ba_8 = some (la_0, la_1, ba_2, ba_3, ba_4, ba_5, la_6, la_7, ba_8)) (htp : laws_toPlace.f p0 p1 = some (p0, p1)) (hsp : spec_Store.f la_0 la_1 ba_2 ba_3 ba_4 ba_5 la_6 la_7 ba_8 p0 p1 n = some (lo_0, lo_1, bo_2, bo_3, bo_4, bo_5, lo_6, lo_7, bo_8, ok)) (him : impl_Store.f la_0 la_1 ba_2 ba_3 ba_4 ba_5 la_6 la_7 ba_8 p0 p1 n = some (lo_0, lo_1, bo_2, bo_3, bo_4, bo_5, lo_6, lo_7, bo_8, ok))
    (heo : laws_eqMach.f k lo_0 lo_1 bo_2 bo_3 bo_4 bo_5 lo_6 lo_7 bo_8 lo_0 lo_1 bo_2 bo_3 bo_4 bo_5 lo_6 lo_7 bo_8 = some true) (hel : laws_eqMach.f k la_0 la_1 ba_2 ba_3 ba_4 ba_5 la_6 la_7 ba_8 la_0 la_1 ba_2 ba_3 ba_4 ba_5 la_6 la_7 ba_8 = some true) (hm0 : laws_markMach.f k la_0 la_1 ba_2 ba_3 ba_4 ba_5 la_6 la_7 ba_8 1 = some (m0, lp_0, lp_1, lp_6, lp_7)) (hn0 : decide (m0 < 0) = false)
    (hm1 : laws_markMach.f k lo_0 lo_1 bo_2 bo_3 bo_4 bo_5 lo_6 lo_7 bo_8 1 = some (m1, lq_0, lq_1, lq_6, lq_7)) (hn1 : decide (m1 < 0) = false) (hh : laws_heldMach.f k lq_0 lq_1 bo_2 bo_3 bo_4 bo_5 lq_6 lq_7 bo_8 1 = some m1) :
    Calls Try.prog 9 #[.agg #[.slice Aa_0 la_0.length ca_0, .slice Aa_1 la_1.length ca_1, .bool ba_2, .bool ba_3, .bool ba_4, .bool ba_5, .slice Aa_6 la_6.length ca_6, .slice Aa_7 la_7.length ca_7, .int .i64 ba_8], .agg #[.int .i64 p0, .int .i64 p1], .int .i64 n] w fun e w' => e = .returned (.bool true) ∧ Below w.heap.size w w' := by
  have HR0 := Aside0.mk hra_0
  have HC0 := Aside0.mk hca_0
  clear hra_0 hca_0
  have HR1 := Aside0.mk hra_1
  have HC1 := Aside0.mk hca_1
  clear hra_1 hca_1
  have HR6 := Aside0.mk hra_6
  have HC6 := Aside0.mk hca_6
  clear hra_6 hca_6
  have HR7 := Aside0.mk hra_7
  have HC7 := Aside0.mk hca_7
  clear hra_7 hca_7
  have HB := Aside0.mk (Below.refl w.heap.size w)
  have S : Aside0 (w.heap.size ≤ w.heap.size) := Aside0.mk (Nat.le_refl _)
  have Hsz := Aside0.mk hsz
  have Hto := Aside0.mk hto
  have Htp := Aside0.mk htp
  have Hsp := Aside0.mk hsp
  have Him := Aside0.mk him
  have Heo := Aside0.mk heo
  have Hel := Aside0.mk hel
  have Hm0 := Aside0.mk hm0
  have Hm1 := Aside0.mk hm1
  have Hh := Aside0.mk hh
  clear hsz hto htp hsp him heo hel hm0 hm1 hh
  have hok : (ok != ok) = false := bne_self_eq_false ok
  have hmm : (m1 != m1) = false := bne_self_eq_false m1
  go_enter Try.func9, Try.ntmps9
  go_wp2_with (first
    | ((with_reducible refine gate_dst (N := 3) rfl ?_); refine box_event ?hg (N := 3) ?hd (cs := #[.slice Aa_0 la_0.length ca_0, .slice Aa_1 la_1.length ca_1, .bool ba_2, .bool ba_3, .bool ba_4, .bool ba_5, .slice Aa_6 la_6.length ca_6, .slice Aa_7 la_7.length ca_7, .int .i64 ba_8]) (t := 24) ?hr ?_; (case hd => rfl); (case hg => rfl); (case hr => first | (go_simp; done) | (go_simp; rfl)); intro g3 hg w' hbox hb; have hc := Ch.of_below hb; have F1 : Aside0 (w.heap.size ≤ g3) := Aside0.mk (by have := S.out; omega); clear hg; replace HB := Aside0.mk (below_ch HB.out hc (Or.inl (Nat.le_refl _))); replace S := Aside0.mk (Nat.le_trans S.out hc.size); clear S; have S : Aside0 (g3 + 1 ≤ w'.heap.size) := Aside0.mk (blk_lt hbox); have BK3 := Aside0.mk hbox; clear hbox hb hc)
    | ((with_reducible refine gate_dst (N := 4) rfl ?_); refine box_event ?hg (N := 4) ?hd (cs := #[.int .i64 p0, .int .i64 p1]) (t := 36) ?hr ?_; (case hd => rfl); (case hg => rfl); (case hr => first | (go_simp; done) | (go_simp; rfl)); intro g4 hg w' hbox hb; have hc := Ch.of_below hb; have F2 : Aside0 (g3 + 1 ≤ g4) := Aside0.mk (by have := S.out; omega); clear hg; replace BK3 := Aside0.mk (blk_ch hc BK3.out (Or.inr (Nat.zero_le _))); replace HB := Aside0.mk (below_ch HB.out hc (Or.inl (Nat.le_refl _))); replace S := Aside0.mk (Nat.le_trans S.out hc.size); clear S; have S : Aside0 (g4 + 1 ≤ w'.heap.size) := Aside0.mk (blk_lt hbox); have BK4 := Aside0.mk hbox; clear hbox hb hc)
    | ((with_reducible refine gate_ (.load 24 (.tmp 3)) rfl ?_); (try (refine gate_guard (by rfl) ?_; dsimp only)); refine wpList_load_row rfl 24 (.tmp 3) rfl g3 rfl 24 _ _ _ BK3.out Try.underlying24 rfl (by kernel_rfl) ?_)
    | ((with_reducible refine gate_callee (f := 15) rfl ?_); (try (refine gate_guard (by rfl) ?_; dsimp only)); refine goesL_ (some 20) rfl rfl Try.func15 (by kernel_rfl) rfl #[.agg #[.slice Aa_0 la_0.length ca_0, .slice Aa_1 la_1.length ca_1, .bool ba_2, .bool ba_3, .bool ba_4, .bool ba_5, .slice Aa_6 la_6.length ca_6, .slice Aa_7 la_7.length ca_7, .int .i64 ba_8], .int .i64 1048576] rfl (by (try simp only [List.map_toArray, List.map_cons, List.map_nil]); first | done | rfl) ?_; refine (laws_szMach.calls Aa_0 ca_0 la_0 Aa_1 ca_1 la_1 ba_2 ba_3 ba_4 ba_5 Aa_6 ca_6 la_6 Aa_7 ca_7 la_7 ba_8 1048576 s _ (Kd.C_below HR0.out HB.out) HC0.out (Kd.C_below HR1.out HB.out) HC1.out (Kd.C_below HR6.out HB.out) HC6.out (Kd.C_below HR7.out HB.out) HC7.out Hsz.out).mono ?_; rintro e w' ⟨rfl, hb⟩; have hc := Ch.of_below hb; refine ⟨_, rfl, ?_⟩; replace BK3 := Aside0.mk (blk_ch hc BK3.out (Or.inr (Nat.zero_le _))); replace BK4 := Aside0.mk (blk_ch hc BK4.out (Or.inr (Nat.zero_le _))); replace HB := Aside0.mk (below_ch HB.out hc (Or.inl (Nat.le_refl _))); replace S := Aside0.mk (Nat.le_trans S.out hc.size); clear hc hb))
  have hc := Ch.drew w'
  replace BK3 := Aside0.mk (blk_ch hc BK3.out (Or.inr (Nat.zero_le _)))
  replace BK4 := Aside0.mk (blk_ch hc BK4.out (Or.inr (Nat.zero_le _)))
  replace HB := Aside0.mk (below_ch HB.out hc (Or.inl (Nat.le_refl _)))
  replace S := Aside0.mk (Nat.le_trans S.out hc.size)
  clear hc
  refine start_ (n := 12) (S := fun w' => w'.heap[g3]? = some (.cells #[.slice Aa_0 la_0.length ca_0, .slice Aa_1 la_1.length ca_1, .bool ba_2, .bool ba_3, .bool ba_4, .bool ba_5, .slice Aa_6 la_6.length ca_6, .slice Aa_7 la_7.length ca_7, .int .i64 ba_8] 24 (0, 0)) ∧ w'.heap[g4]? = some (.cells #[.int .i64 p0, .int .i64 p1] 36 (0, 0))) (ds := []) #[false, false, false, false, false, false, false, false, false, false, false, false] (by kernel_rfl) rfl rfl ⟨BK3.out, BK4.out⟩ (fun hHeld => ?_)
  generalize w'.drew = w' at BK3 BK4 HB S hHeld ⊢
  refine pure_ (i := 4) (N := some 28) (v := ?_) (a' := ?_) #[false, false, false, false, true, false, false, false, false, false, false, false] rfl rfl (by kernel_rfl) (fun _ _ _ h => h) (Or.inl ⟨by rfl, ?_⟩) ?_ ?_
  rotate_left
  · intro w'
    go_simp
    with_reducible rfl
  rotate_left
  · simp only [Act.put, List.setIfInBounds_toArray, List.set_cons_zero, List.set_cons_succ, i64_w, i32_w]
    rfl
  refine take_ (i := 0) (N := some 24) (v := .agg #[.slice Aa_0 la_0.length ca_0, .slice Aa_1 la_1.length ca_1, .bool ba_2, .bool ba_3, .bool ba_4, .bool ba_5, .slice Aa_6 la_6.length ca_6, .slice Aa_7 la_7.length ca_7, .int .i64 ba_8]) (a' := ?_) #[true, false, false, false, true, false, false, false, false, false, false, false] rfl rfl (by kernel_rfl) (fun _ _ _ h => h) (Or.inl ⟨by rfl, ?_⟩) hHeld ?_ ?_
  · rintro w' ⟨s0, s1⟩
    exact load_yields 24 (.tmp 3) (by rfl) g3 (by rfl) 24 _ _ s0 Try.underlying24 rfl (by kernel_rfl)
  rotate_left
  · simp only [Act.put, List.setIfInBounds_toArray, List.set_cons_zero, List.set_cons_succ, i64_w, i32_w]
    rfl
  refine take_ (i := 2) (N := some 26) (v := .agg #[.int .i64 p0, .int .i64 p1]) (a' := ?_) #[true, false, true, false, true, false, false, false, false, false, false, false] rfl rfl (by kernel_rfl) (fun _ _ _ h => h) (Or.inl ⟨by rfl, ?_⟩) hHeld ?_ ?_
  · rintro w' ⟨s0, s1⟩
    exact load_yields 36 (.tmp 4) (by rfl) g4 (by rfl) 36 _ _ s1 Try.underlying36 rfl (by kernel_rfl)
  rotate_left
  · simp only [Act.put, List.setIfInBounds_toArray, List.set_cons_zero, List.set_cons_succ, i64_w, i32_w]
    rfl
  refine join_ (σ := Option Addr × Nat × Option Addr × Nat × Option Addr × Nat × Option Addr × Nat × Option Addr × Nat × Option Addr × Nat × Option Addr × Nat × Option Addr × Nat × Nat × Nat × Nat × Nat) 2 #[true, true, true, true, true, true, true, true, true, true, false, false] (fun s_ => [(25, .agg #[.slice s_.1 la_0.length s_.2.1, .slice s_.2.2.1 la_1.length s_.2.2.2.1, .bool ba_2, .bool ba_3, .bool ba_4, .bool ba_5, .slice s_.2.2.2.2.1 la_6.length s_.2.2.2.2.2.1, .slice s_.2.2.2.2.2.2.1 la_7.length s_.2.2.2.2.2.2.2.1, .int .i64 ba_8]), (27, .agg #[.int .i64 p0, .int .i64 p1]), (29, .tuple #[.agg #[.slice s_.2.2.2.2.2.2.2.2.1 lo_0.length s_.2.2.2.2.2.2.2.2.2.1, .slice s_.2.2.2.2.2.2.2.2.2.2.1 lo_1.length s_.2.2.2.2.2.2.2.2.2.2.2.1, .bool bo_2, .bool bo_3, .bool bo_4, .bool bo_5, .slice s_.2.2.2.2.2.2.2.2.2.2.2.2.1 lo_6.length s_.2.2.2.2.2.2.2.2.2.2.2.2.2.1, .slice s_.2.2.2.2.2.2.2.2.2.2.2.2.2.2.1 lo_7.length s_.2.2.2.2.2.2.2.2.2.2.2.2.2.2.2.1, .int .i64 bo_8], .bool ok]), (8, .pointer (some ⟨s_.2.2.2.2.2.2.2.2.2.2.2.2.2.2.2.2.2.2.1, 0, none⟩)), (23, .tuple #[.agg #[.slice s_.2.2.2.2.2.2.2.2.1 lo_0.length s_.2.2.2.2.2.2.2.2.2.1, .slice s_.2.2.2.2.2.2.2.2.2.2.1 lo_1.length s_.2.2.2.2.2.2.2.2.2.2.2.1, .bool bo_2, .bool bo_3, .bool bo_4, .bool bo_5, .slice s_.2.2.2.2.2.2.2.2.2.2.2.2.1 lo_6.length s_.2.2.2.2.2.2.2.2.2.2.2.2.2.1, .slice s_.2.2.2.2.2.2.2.2.2.2.2.2.2.2.1 lo_7.length s_.2.2.2.2.2.2.2.2.2.2.2.2.2.2.2.1, .int .i64 bo_8], .bool ok]), (30, .agg #[.slice s_.2.2.2.2.2.2.2.2.1 lo_0.length s_.2.2.2.2.2.2.2.2.2.1, .slice s_.2.2.2.2.2.2.2.2.2.2.1 lo_1.length s_.2.2.2.2.2.2.2.2.2.2.2.1, .bool bo_2, .bool bo_3, .bool bo_4, .bool bo_5, .slice s_.2.2.2.2.2.2.2.2.2.2.2.2.1 lo_6.length s_.2.2.2.2.2.2.2.2.2.2.2.2.2.1, .slice s_.2.2.2.2.2.2.2.2.2.2.2.2.2.2.1 lo_7.length s_.2.2.2.2.2.2.2.2.2.2.2.2.2.2.2.1, .int .i64 bo_8]), (31, .bool ok)]) (fun s_ w' => (w'.heap[g3]? = some (.cells #[.slice Aa_0 la_0.length ca_0, .slice Aa_1 la_1.length ca_1, .bool ba_2, .bool ba_3, .bool ba_4, .bool ba_5, .slice Aa_6 la_6.length ca_6, .slice Aa_7 la_7.length ca_7, .int .i64 ba_8] 24 (0, 0)) ∧ w'.heap[g4]? = some (.cells #[.int .i64 p0, .int .i64 p1] 36 (0, 0))) ∧ (w'.heap[g3]? = some (.cells #[.slice Aa_0 la_0.length ca_0, .slice Aa_1 la_1.length ca_1, .bool ba_2, .bool ba_3, .bool ba_4, .bool ba_5, .slice Aa_6 la_6.length ca_6, .slice Aa_7 la_7.length ca_7, .int .i64 ba_8] 24 (0, 0))) ∧ (w'.heap[g4]? = some (.cells #[.int .i64 p0, .int .i64 p1] 36 (0, 0))) ∧ (R4 w' s_.2.2.2.2.2.2.2.2.2.2.2.2.2.2.2.2.1 s_.2.2.2.2.2.2.2.2.2.2.2.2.2.2.2.2.2.1 (.slice s_.2.2.2.2.2.2.2.2.1 lo_0.length s_.2.2.2.2.2.2.2.2.2.1) (.slice s_.2.2.2.2.2.2.2.2.2.2.1 lo_1.length s_.2.2.2.2.2.2.2.2.2.2.2.1) (.slice s_.2.2.2.2.2.2.2.2.2.2.2.2.1 lo_6.length s_.2.2.2.2.2.2.2.2.2.2.2.2.2.1) (.slice s_.2.2.2.2.2.2.2.2.2.2.2.2.2.2.1 lo_7.length s_.2.2.2.2.2.2.2.2.2.2.2.2.2.2.2.1) lo_0 lo_1 lo_6 lo_7) ∧ (w'.heap[s_.2.2.2.2.2.2.2.2.2.2.2.2.2.2.2.2.2.2.1]? = some (.cells #[.slice none 0 0, .slice none 0 0, .bool false, .bool false, .bool false, .bool false, .slice none 0 0, .slice none 0 0, .int .i64 0] 28 (0, 0))) ∧ (Below w.heap.size w w') ∧ (g4 + 1 ≤ s_.2.2.2.2.2.2.2.2.2.2.2.2.2.2.2.2.2.2.1) ∧ (g4 + 1 ≤ s_.2.2.2.2.2.2.2.2.2.2.2.2.2.2.2.2.1) ∧ (s_.2.2.2.2.2.2.2.2.2.2.2.2.2.2.2.2.1 ≤ s_.2.2.2.2.2.2.2.2.2.2.2.2.2.2.2.2.2.1) ∧ (s_.2.2.2.2.2.2.2.2.2.2.2.2.2.2.2.2.2.2.1 + 1 ≤ s_.2.2.2.2.2.2.2.2.2.2.2.2.2.2.2.2.1 ∨ s_.2.2.2.2.2.2.2.2.2.2.2.2.2.2.2.2.2.1 ≤ s_.2.2.2.2.2.2.2.2.2.2.2.2.2.2.2.2.2.2.1) ∧ (s_.2.2.2.2.2.2.2.2.2.2.2.2.2.2.2.2.2.1 ≤ s_.2.2.2.2.2.2.2.2.2.2.2.2.2.2.2.2.2.2.2) ∧ (s_.2.2.2.2.2.2.2.2.2.2.2.2.2.2.2.2.2.2.1 + 1 ≤ s_.2.2.2.2.2.2.2.2.2.2.2.2.2.2.2.2.2.2.2) ∧ (s_.2.2.2.2.2.2.2.2.2.2.2.2.2.2.2.2.2.2.2 ≤ w'.heap.size)) ?_ ?_
  rotate_left
  · intro hCont
    refine two_ (i := 1) (j := 9) (Ni := some 25) (Nj := some 8) #[true, true, true, false, true, false, false, false, false, false, false, false] #[true, false, true, false, true, false, false, false, false, true, false, false] rfl rfl rfl rfl (by kernel_rfl) (by decide) (by decide) (fun K hK => ?_) (fun K hK => ?_)
    · skip
      refine goes_ Try.func17 (by kernel_rfl) rfl #[.agg #[.slice Aa_0 la_0.length ca_0, .slice Aa_1 la_1.length ca_1, .bool ba_2, .bool ba_3, .bool ba_4, .bool ba_5, .slice Aa_6 la_6.length ca_6, .slice Aa_7 la_7.length ca_7, .int .i64 ba_8]] (by rfl) rfl rfl (by (try simp only [List.map_toArray, List.map_cons, List.map_nil]); first | done | rfl) ?_
      refine (to4 k Aa_0 ca_0 la_0 Aa_1 ca_1 la_1 ba_2 ba_3 ba_4 ba_5 Aa_6 ca_6 la_6 Aa_7 ca_7 la_7 ba_8 la_0 la_1 ba_2 ba_3 ba_4 ba_5 la_6 la_7 ba_8 w _ HB.out HR0.out HC0.out HR1.out HC1.out HR6.out HC6.out HR7.out HC7.out Hto.out).mono ?_
      rintro e w' ⟨Ax_0, cx_0, Ax_1, cx_1, Ax_6, cx_6, Ax_7, cx_7, lox, hix, rfl, h1, h2, h3, hR, hc⟩
      refine ⟨_, rfl, ?_⟩
      have F3 : Aside0 (g4 + 1 ≤ lox) := Aside0.mk (Nat.le_trans S.out h1)
      have F4 : Aside0 (lox ≤ hix) := Aside0.mk h2
      replace BK3 := Aside0.mk (blk_ch hc BK3.out (Or.inr (Nat.zero_le _)))
      replace BK4 := Aside0.mk (blk_ch hc BK4.out (Or.inr (Nat.zero_le _)))
      replace HB := Aside0.mk (below_ch HB.out hc (Or.inl (Nat.le_refl _)))
      replace S := Aside0.mk (Nat.le_trans S.out hc.size)
      clear S
      have S := Aside0.mk h3
      have Mx := Aside0.mk hR
      clear h1 h2 h3 hR hc
      refine hK.out _ _ ⟨BK3.out, BK4.out⟩ (fun hHeld => ?_)
      clear hK K
      refine norm_ (a' := ?_) ?_ ?_
      rotate_left
      · show Act.put _ (some 25) _ = _
        simp only [Act.put, List.setIfInBounds_toArray, List.set_cons_zero, List.set_cons_succ, i64_w, i32_w]
        rfl
      refine two_ (i := 3) (j := 9) (Ni := some 27) (Nj := some 8) #[true, true, true, true, true, false, false, false, false, false, false, false] #[true, true, true, false, true, false, false, false, false, true, false, false] rfl rfl rfl rfl (by kernel_rfl) (by decide) (by decide) (fun K hK => ?_) (fun K hK => ?_)
      · skip
        refine goes_ Try.func25 (by kernel_rfl) rfl #[.agg #[.int .i64 p0, .int .i64 p1]] (by rfl) rfl rfl (by (try simp only [List.map_toArray, List.map_cons, List.map_nil]); first | done | rfl) ?_
        refine (laws_toPlace.calls p0 p1 p0 p1 _ Htp.out).mono ?_
        rintro e w' ⟨rfl, hb⟩
        have hc := Ch.of_below hb
        refine ⟨_, rfl, ?_⟩
        replace BK3 := Aside0.mk (blk_ch hc BK3.out (Or.inr (Nat.zero_le _)))
        replace BK4 := Aside0.mk (blk_ch hc BK4.out (Or.inr (Nat.zero_le _)))
        replace Mx := Aside0.mk (R4_ch Mx.out hc (Or.inr (Or.inr (Nat.zero_le _))))
        replace HB := Aside0.mk (below_ch HB.out hc (Or.inl (Nat.le_refl _)))
        replace S := Aside0.mk (Nat.le_trans S.out hc.size)
        clear hc hb
        refine hK.out _ _ ⟨BK3.out, BK4.out⟩ (fun hHeld => ?_)
        clear hK K
        refine norm_ (a' := ?_) ?_ ?_
        rotate_left
        · show Act.put _ (some 27) _ = _
          simp only [Act.put, List.setIfInBounds_toArray, List.set_cons_zero, List.set_cons_succ, i64_w, i32_w]
          rfl
        refine two_ (i := 5) (j := 9) (Ni := some 29) (Nj := some 8) #[true, true, true, true, true, true, false, false, false, false, false, false] #[true, true, true, true, true, false, false, false, false, true, false, false] rfl rfl rfl rfl (by kernel_rfl) (by decide) (by decide) (fun K hK => ?_) (fun K hK => ?_)
        · skip
          refine goes_ Try.func36 (by kernel_rfl) rfl #[.agg #[.slice Ax_0 la_0.length cx_0, .slice Ax_1 la_1.length cx_1, .bool ba_2, .bool ba_3, .bool ba_4, .bool ba_5, .slice Ax_6 la_6.length cx_6, .slice Ax_7 la_7.length cx_7, .int .i64 ba_8], .agg #[.int .i64 p0, .int .i64 p1], .int .i64 n] (by rfl) rfl rfl (by (try simp only [List.map_toArray, List.map_cons, List.map_nil]); first | done | rfl) ?_
          refine (spec4 k Ax_0 cx_0 _ la_0 Ax_1 cx_1 _ la_1 ba_2 ba_3 ba_4 ba_5 Ax_6 cx_6 _ la_6 Ax_7 cx_7 _ la_7 ba_8 p0 p1 n lo_0 lo_1 bo_2 bo_3 bo_4 bo_5 lo_6 lo_7 bo_8 ok _ _ _ Mx.out Hsp.out).mono ?_
          rintro e w' ⟨Au_0, cu_0, Au_1, cu_1, Au_6, cu_6, Au_7, cu_7, lou, hiu, rfl, h1, h2, h3, hR, hc⟩
          refine ⟨_, rfl, ?_⟩
          have F5 : Aside0 (hix ≤ lou) := Aside0.mk (Nat.le_trans S.out h1)
          have F6 : Aside0 (lou ≤ hiu) := Aside0.mk h2
          clear Mx
          replace BK3 := Aside0.mk (blk_ch hc BK3.out (Or.inr (Nat.zero_le _)))
          replace BK4 := Aside0.mk (blk_ch hc BK4.out (Or.inr (Nat.zero_le _)))
          replace HB := Aside0.mk (below_ch HB.out hc (Or.inl (Nat.le_refl _)))
          replace S := Aside0.mk (Nat.le_trans S.out hc.size)
          clear S
          have S := Aside0.mk h3
          have Mu := Aside0.mk hR
          clear h1 h2 h3 hR hc
          refine hK.out _ _ ⟨BK3.out, BK4.out⟩ (fun hHeld => ?_)
          clear hK K
          refine norm_ (a' := ?_) ?_ ?_
          rotate_left
          · show Act.put _ (some 29) _ = _
            simp only [Act.put, List.setIfInBounds_toArray, List.set_cons_zero, List.set_cons_succ, i64_w, i32_w]
            rfl
          refine pure_ (i := 6) (N := some 23) (v := ?_) (a' := ?_) #[true, true, true, true, true, true, true, false, false, false, false, false] rfl rfl (by kernel_rfl) (fun _ _ _ h => h) (Or.inl ⟨by rfl, ?_⟩) ?_ ?_
          rotate_left
          · intro w'
            go_simp
            with_reducible rfl
          rotate_left
          · simp only [Act.put, List.setIfInBounds_toArray, List.set_cons_zero, List.set_cons_succ, i64_w, i32_w]
            rfl
          refine pure_ (i := 7) (N := some 30) (v := ?_) (a' := ?_) #[true, true, true, true, true, true, true, true, false, false, false, false] rfl rfl (by kernel_rfl) (fun _ _ _ h => h) (Or.inl ⟨by rfl, ?_⟩) ?_ ?_
          rotate_left
          · intro w'
            go_simp
            with_reducible rfl
          rotate_left
          · simp only [Act.put, List.setIfInBounds_toArray, List.set_cons_zero, List.set_cons_succ, i64_w, i32_w]
            rfl
          refine pure_ (i := 8) (N := some 31) (v := ?_) (a' := ?_) #[true, true, true, true, true, true, true, true, true, false, false, false] rfl rfl (by kernel_rfl) (fun _ _ _ h => h) (Or.inl ⟨by rfl, ?_⟩) ?_ ?_
          rotate_left
          · intro w'
            go_simp
            with_reducible rfl
          rotate_left
          · simp only [Act.put, List.setIfInBounds_toArray, List.set_cons_zero, List.set_cons_succ, i64_w, i32_w]
            rfl
          refine one_ (i := 9) (N := some 8) #[true, true, true, true, true, true, true, true, true, true, false, false] rfl rfl (by kernel_rfl) (by decide) (fun K hK => ?_)
          refine box_step ?hg (N := 8) ?hd (cs := #[.slice none 0 0, .slice none 0 0, .bool false, .bool false, .bool false, .bool false, .slice none 0 0, .slice none 0 0, .int .i64 0]) (t := 28) ?hr ?_; (case hd => rfl); (case hg => rfl); (case hr => first | (go_simp; done) | (go_simp; rfl))
          intro g8 hg w' hbox hb
          have hc := Ch.of_below hb
          have F7 : Aside0 (hiu ≤ g8) := Aside0.mk (by have := S.out; omega)
          clear hg
          replace BK3 := Aside0.mk (blk_ch hc BK3.out (Or.inr (Nat.zero_le _)))
          replace BK4 := Aside0.mk (blk_ch hc BK4.out (Or.inr (Nat.zero_le _)))
          replace Mu := Aside0.mk (R4_ch Mu.out hc (Or.inr (Or.inr (Nat.zero_le _))))
          replace HB := Aside0.mk (below_ch HB.out hc (Or.inl (Nat.le_refl _)))
          replace S := Aside0.mk (Nat.le_trans S.out hc.size)
          clear S
          have S : Aside0 (g8 + 1 ≤ w'.heap.size) := Aside0.mk (blk_lt hbox)
          have BK8 := Aside0.mk hbox
          clear hbox hb hc
          refine hK.out _ _ ⟨BK3.out, BK4.out⟩ (fun hHeld => ?_)
          clear hK K
          refine norm_ (a' := ?_) ?_ ?_
          rotate_left
          · show Act.put _ (some 8) _ = _
            simp only [Act.put, List.setIfInBounds_toArray, List.set_cons_zero, List.set_cons_succ, i64_w, i32_w]
            rfl
          exact norm_ (by simp only [putAll, Act.put, List.setIfInBounds_toArray, List.set_cons_zero, List.set_cons_succ]) (hCont (Ax_0, cx_0, Ax_1, cx_1, Ax_6, cx_6, Ax_7, cx_7, Au_0, cu_0, Au_1, cu_1, Au_6, cu_6, Au_7, cu_7, lou, hiu, g8, w'.heap.size) _ ⟨hHeld, BK3.out, BK4.out, Mu.out, BK8.out, HB.out, (by (try dsimp only); have := F1.out; have := F2.out; have := F3.out; have := F4.out; have := F5.out; have := F6.out; have := F7.out; have := S.out; omega), (by (try dsimp only); have := F1.out; have := F2.out; have := F3.out; have := F4.out; have := F5.out; have := F6.out; have := F7.out; have := S.out; omega), (by (try dsimp only); have := F1.out; have := F2.out; have := F3.out; have := F4.out; have := F5.out; have := F6.out; have := F7.out; have := S.out; omega), (by (try dsimp only); have := F1.out; have := F2.out; have := F3.out; have := F4.out; have := F5.out; have := F6.out; have := F7.out; have := S.out; omega), (by (try dsimp only); have := F1.out; have := F2.out; have := F3.out; have := F4.out; have := F5.out; have := F6.out; have := F7.out; have := S.out; omega), (by (try dsimp only); have := F1.out; have := F2.out; have := F3.out; have := F4.out; have := F5.out; have := F6.out; have := F7.out; have := S.out; omega), (by (try dsimp only); have := F1.out; have := F2.out; have := F3.out; have := F4.out; have := F5.out; have := F6.out; have := F7.out; have := S.out; omega)⟩)
        · refine box_step ?hg (N := 8) ?hd (cs := #[.slice none 0 0, .slice none 0 0, .bool false, .bool false, .bool false, .bool false, .slice none 0 0, .slice none 0 0, .int .i64 0]) (t := 28) ?hr ?_; (case hd => rfl); (case hg => rfl); (case hr => first | (go_simp; done) | (go_simp; rfl))
          intro g8 hg w' hbox hb
          have hc := Ch.of_below hb
          have F5 : Aside0 (hix ≤ g8) := Aside0.mk (by have := S.out; omega)
          clear hg
          replace BK3 := Aside0.mk (blk_ch hc BK3.out (Or.inr (Nat.zero_le _)))
          replace BK4 := Aside0.mk (blk_ch hc BK4.out (Or.inr (Nat.zero_le _)))
          replace Mx := Aside0.mk (R4_ch Mx.out hc (Or.inr (Or.inr (Nat.zero_le _))))
          replace HB := Aside0.mk (below_ch HB.out hc (Or.inl (Nat.le_refl _)))
          replace S := Aside0.mk (Nat.le_trans S.out hc.size)
          clear S
          have S : Aside0 (g8 + 1 ≤ w'.heap.size) := Aside0.mk (blk_lt hbox)
          have BK8 := Aside0.mk hbox
          clear hbox hb hc
          refine hK.out _ _ ⟨BK3.out, BK4.out⟩ (fun hHeld => ?_)
          clear hK K
          refine norm_ (a' := ?_) ?_ ?_
          rotate_left
          · show Act.put _ (some 8) _ = _
            simp only [Act.put, List.setIfInBounds_toArray, List.set_cons_zero, List.set_cons_succ, i64_w, i32_w]
            rfl
          refine one_ (i := 5) (N := some 29) #[true, true, true, true, true, true, false, false, false, true, false, false] rfl rfl (by kernel_rfl) (by decide) (fun K hK => ?_)
          refine goes_ Try.func36 (by kernel_rfl) rfl #[.agg #[.slice Ax_0 la_0.length cx_0, .slice Ax_1 la_1.length cx_1, .bool ba_2, .bool ba_3, .bool ba_4, .bool ba_5, .slice Ax_6 la_6.length cx_6, .slice Ax_7 la_7.length cx_7, .int .i64 ba_8], .agg #[.int .i64 p0, .int .i64 p1], .int .i64 n] (by rfl) rfl rfl (by (try simp only [List.map_toArray, List.map_cons, List.map_nil]); first | done | rfl) ?_
          refine (spec4 k Ax_0 cx_0 _ la_0 Ax_1 cx_1 _ la_1 ba_2 ba_3 ba_4 ba_5 Ax_6 cx_6 _ la_6 Ax_7 cx_7 _ la_7 ba_8 p0 p1 n lo_0 lo_1 bo_2 bo_3 bo_4 bo_5 lo_6 lo_7 bo_8 ok _ _ _ Mx.out Hsp.out).mono ?_
          rintro e w' ⟨Au_0, cu_0, Au_1, cu_1, Au_6, cu_6, Au_7, cu_7, lou, hiu, rfl, h1, h2, h3, hR, hc⟩
          refine ⟨_, rfl, ?_⟩
          have F6 : Aside0 (g8 + 1 ≤ lou) := Aside0.mk (Nat.le_trans S.out h1)
          have F7 : Aside0 (lou ≤ hiu) := Aside0.mk h2
          clear Mx
          replace BK3 := Aside0.mk (blk_ch hc BK3.out (Or.inr (Nat.zero_le _)))
          replace BK4 := Aside0.mk (blk_ch hc BK4.out (Or.inr (Nat.zero_le _)))
          replace BK8 := Aside0.mk (blk_ch hc BK8.out (Or.inr (Nat.zero_le _)))
          replace HB := Aside0.mk (below_ch HB.out hc (Or.inl (Nat.le_refl _)))
          replace S := Aside0.mk (Nat.le_trans S.out hc.size)
          clear S
          have S := Aside0.mk h3
          have Mu := Aside0.mk hR
          clear h1 h2 h3 hR hc
          refine hK.out _ _ ⟨BK3.out, BK4.out⟩ (fun hHeld => ?_)
          clear hK K
          refine norm_ (a' := ?_) ?_ ?_
          rotate_left
          · show Act.put _ (some 29) _ = _
            simp only [Act.put, List.setIfInBounds_toArray, List.set_cons_zero, List.set_cons_succ, i64_w, i32_w]
            rfl
          refine pure_ (i := 6) (N := some 23) (v := ?_) (a' := ?_) #[true, true, true, true, true, true, true, false, false, true, false, false] rfl rfl (by kernel_rfl) (fun _ _ _ h => h) (Or.inl ⟨by rfl, ?_⟩) ?_ ?_
          rotate_left
          · intro w'
            go_simp
            with_reducible rfl
          rotate_left
          · simp only [Act.put, List.setIfInBounds_toArray, List.set_cons_zero, List.set_cons_succ, i64_w, i32_w]
            rfl
          refine pure_ (i := 7) (N := some 30) (v := ?_) (a' := ?_) #[true, true, true, true, true, true, true, true, false, true, false, false] rfl rfl (by kernel_rfl) (fun _ _ _ h => h) (Or.inl ⟨by rfl, ?_⟩) ?_ ?_
          rotate_left
          · intro w'
            go_simp
            with_reducible rfl
          rotate_left
          · simp only [Act.put, List.setIfInBounds_toArray, List.set_cons_zero, List.set_cons_succ, i64_w, i32_w]
            rfl
          refine pure_ (i := 8) (N := some 31) (v := ?_) (a' := ?_) #[true, true, true, true, true, true, true, true, true, true, false, false] rfl rfl (by kernel_rfl) (fun _ _ _ h => h) (Or.inl ⟨by rfl, ?_⟩) ?_ ?_
          rotate_left
          · intro w'
            go_simp
            with_reducible rfl
          rotate_left
          · simp only [Act.put, List.setIfInBounds_toArray, List.set_cons_zero, List.set_cons_succ, i64_w, i32_w]
            rfl
          exact norm_ (by simp only [putAll, Act.put, List.setIfInBounds_toArray, List.set_cons_zero, List.set_cons_succ]) (hCont (Ax_0, cx_0, Ax_1, cx_1, Ax_6, cx_6, Ax_7, cx_7, Au_0, cu_0, Au_1, cu_1, Au_6, cu_6, Au_7, cu_7, lou, hiu, g8, w'.heap.size) _ ⟨hHeld, BK3.out, BK4.out, Mu.out, BK8.out, HB.out, (by (try dsimp only); have := F1.out; have := F2.out; have := F3.out; have := F4.out; have := F5.out; have := F6.out; have := F7.out; have := S.out; omega), (by (try dsimp only); have := F1.out; have := F2.out; have := F3.out; have := F4.out; have := F5.out; have := F6.out; have := F7.out; have := S.out; omega), (by (try dsimp only); have := F1.out; have := F2.out; have := F3.out; have := F4.out; have := F5.out; have := F6.out; have := F7.out; have := S.out; omega), (by (try dsimp only); have := F1.out; have := F2.out; have := F3.out; have := F4.out; have := F5.out; have := F6.out; have := F7.out; have := S.out; omega), (by (try dsimp only); have := F1.out; have := F2.out; have := F3.out; have := F4.out; have := F5.out; have := F6.out; have := F7.out; have := S.out; omega), (by (try dsimp only); have := F1.out; have := F2.out; have := F3.out; have := F4.out; have := F5.out; have := F6.out; have := F7.out; have := S.out; omega), (by (try dsimp only); have := F1.out; have := F2.out; have := F3.out; have := F4.out; have := F5.out; have := F6.out; have := F7.out; have := S.out; omega)⟩)
      · refine box_step ?hg (N := 8) ?hd (cs := #[.slice none 0 0, .slice none 0 0, .bool false, .bool false, .bool false, .bool false, .slice none 0 0, .slice none 0 0, .int .i64 0]) (t := 28) ?hr ?_; (case hd => rfl); (case hg => rfl); (case hr => first | (go_simp; done) | (go_simp; rfl))
        intro g8 hg w' hbox hb
        have hc := Ch.of_below hb
        have F5 : Aside0 (hix ≤ g8) := Aside0.mk (by have := S.out; omega)
        clear hg
        replace BK3 := Aside0.mk (blk_ch hc BK3.out (Or.inr (Nat.zero_le _)))
        replace BK4 := Aside0.mk (blk_ch hc BK4.out (Or.inr (Nat.zero_le _)))
        replace Mx := Aside0.mk (R4_ch Mx.out hc (Or.inr (Or.inr (Nat.zero_le _))))
        replace HB := Aside0.mk (below_ch HB.out hc (Or.inl (Nat.le_refl _)))
        replace S := Aside0.mk (Nat.le_trans S.out hc.size)
        clear S
        have S : Aside0 (g8 + 1 ≤ w'.heap.size) := Aside0.mk (blk_lt hbox)
        have BK8 := Aside0.mk hbox
        clear hbox hb hc
        refine hK.out _ _ ⟨BK3.out, BK4.out⟩ (fun hHeld => ?_)
        clear hK K
        refine norm_ (a' := ?_) ?_ ?_
        rotate_left
        · show Act.put _ (some 8) _ = _
          simp only [Act.put, List.setIfInBounds_toArray, List.set_cons_zero, List.set_cons_succ, i64_w, i32_w]
          rfl
        refine one_ (i := 3) (N := some 27) #[true, true, true, true, true, false, false, false, false, true, false, false] rfl rfl (by kernel_rfl) (by decide) (fun K hK => ?_)
        refine goes_ Try.func25 (by kernel_rfl) rfl #[.agg #[.int .i64 p0, .int .i64 p1]] (by rfl) rfl rfl (by (try simp only [List.map_toArray, List.map_cons, List.map_nil]); first | done | rfl) ?_
        refine (laws_toPlace.calls p0 p1 p0 p1 _ Htp.out).mono ?_
        rintro e w' ⟨rfl, hb⟩
        have hc := Ch.of_below hb
        refine ⟨_, rfl, ?_⟩
        replace BK3 := Aside0.mk (blk_ch hc BK3.out (Or.inr (Nat.zero_le _)))
        replace BK4 := Aside0.mk (blk_ch hc BK4.out (Or.inr (Nat.zero_le _)))
        replace Mx := Aside0.mk (R4_ch Mx.out hc (Or.inr (Or.inr (Nat.zero_le _))))
        replace BK8 := Aside0.mk (blk_ch hc BK8.out (Or.inr (Nat.zero_le _)))
        replace HB := Aside0.mk (below_ch HB.out hc (Or.inl (Nat.le_refl _)))
        replace S := Aside0.mk (Nat.le_trans S.out hc.size)
        clear hc hb
        refine hK.out _ _ ⟨BK3.out, BK4.out⟩ (fun hHeld => ?_)
        clear hK K
        refine norm_ (a' := ?_) ?_ ?_
        rotate_left
        · show Act.put _ (some 27) _ = _
          simp only [Act.put, List.setIfInBounds_toArray, List.set_cons_zero, List.set_cons_succ, i64_w, i32_w]
          rfl
        refine one_ (i := 5) (N := some 29) #[true, true, true, true, true, true, false, false, false, true, false, false] rfl rfl (by kernel_rfl) (by decide) (fun K hK => ?_)
        refine goes_ Try.func36 (by kernel_rfl) rfl #[.agg #[.slice Ax_0 la_0.length cx_0, .slice Ax_1 la_1.length cx_1, .bool ba_2, .bool ba_3, .bool ba_4, .bool ba_5, .slice Ax_6 la_6.length cx_6, .slice Ax_7 la_7.length cx_7, .int .i64 ba_8], .agg #[.int .i64 p0, .int .i64 p1], .int .i64 n] (by rfl) rfl rfl (by (try simp only [List.map_toArray, List.map_cons, List.map_nil]); first | done | rfl) ?_
        refine (spec4 k Ax_0 cx_0 _ la_0 Ax_1 cx_1 _ la_1 ba_2 ba_3 ba_4 ba_5 Ax_6 cx_6 _ la_6 Ax_7 cx_7 _ la_7 ba_8 p0 p1 n lo_0 lo_1 bo_2 bo_3 bo_4 bo_5 lo_6 lo_7 bo_8 ok _ _ _ Mx.out Hsp.out).mono ?_
        rintro e w' ⟨Au_0, cu_0, Au_1, cu_1, Au_6, cu_6, Au_7, cu_7, lou, hiu, rfl, h1, h2, h3, hR, hc⟩
        refine ⟨_, rfl, ?_⟩
        have F6 : Aside0 (g8 + 1 ≤ lou) := Aside0.mk (Nat.le_trans S.out h1)
        have F7 : Aside0 (lou ≤ hiu) := Aside0.mk h2
        clear Mx
        replace BK3 := Aside0.mk (blk_ch hc BK3.out (Or.inr (Nat.zero_le _)))
        replace BK4 := Aside0.mk (blk_ch hc BK4.out (Or.inr (Nat.zero_le _)))
        replace BK8 := Aside0.mk (blk_ch hc BK8.out (Or.inr (Nat.zero_le _)))
        replace HB := Aside0.mk (below_ch HB.out hc (Or.inl (Nat.le_refl _)))
        replace S := Aside0.mk (Nat.le_trans S.out hc.size)
        clear S
        have S := Aside0.mk h3
        have Mu := Aside0.mk hR
        clear h1 h2 h3 hR hc
        refine hK.out _ _ ⟨BK3.out, BK4.out⟩ (fun hHeld => ?_)
        clear hK K
        refine norm_ (a' := ?_) ?_ ?_
        rotate_left
        · show Act.put _ (some 29) _ = _
          simp only [Act.put, List.setIfInBounds_toArray, List.set_cons_zero, List.set_cons_succ, i64_w, i32_w]
          rfl
        refine pure_ (i := 6) (N := some 23) (v := ?_) (a' := ?_) #[true, true, true, true, true, true, true, false, false, true, false, false] rfl rfl (by kernel_rfl) (fun _ _ _ h => h) (Or.inl ⟨by rfl, ?_⟩) ?_ ?_
        rotate_left
        · intro w'
          go_simp
          with_reducible rfl
        rotate_left
        · simp only [Act.put, List.setIfInBounds_toArray, List.set_cons_zero, List.set_cons_succ, i64_w, i32_w]
          rfl
        refine pure_ (i := 7) (N := some 30) (v := ?_) (a' := ?_) #[true, true, true, true, true, true, true, true, false, true, false, false] rfl rfl (by kernel_rfl) (fun _ _ _ h => h) (Or.inl ⟨by rfl, ?_⟩) ?_ ?_
        rotate_left
        · intro w'
          go_simp
          with_reducible rfl
        rotate_left
        · simp only [Act.put, List.setIfInBounds_toArray, List.set_cons_zero, List.set_cons_succ, i64_w, i32_w]
          rfl
        refine pure_ (i := 8) (N := some 31) (v := ?_) (a' := ?_) #[true, true, true, true, true, true, true, true, true, true, false, false] rfl rfl (by kernel_rfl) (fun _ _ _ h => h) (Or.inl ⟨by rfl, ?_⟩) ?_ ?_
        rotate_left
        · intro w'
          go_simp
          with_reducible rfl
        rotate_left
        · simp only [Act.put, List.setIfInBounds_toArray, List.set_cons_zero, List.set_cons_succ, i64_w, i32_w]
          rfl
        exact norm_ (by simp only [putAll, Act.put, List.setIfInBounds_toArray, List.set_cons_zero, List.set_cons_succ]) (hCont (Ax_0, cx_0, Ax_1, cx_1, Ax_6, cx_6, Ax_7, cx_7, Au_0, cu_0, Au_1, cu_1, Au_6, cu_6, Au_7, cu_7, lou, hiu, g8, w'.heap.size) _ ⟨hHeld, BK3.out, BK4.out, Mu.out, BK8.out, HB.out, (by (try dsimp only); have := F1.out; have := F2.out; have := F3.out; have := F4.out; have := F5.out; have := F6.out; have := F7.out; have := S.out; omega), (by (try dsimp only); have := F1.out; have := F2.out; have := F3.out; have := F4.out; have := F5.out; have := F6.out; have := F7.out; have := S.out; omega), (by (try dsimp only); have := F1.out; have := F2.out; have := F3.out; have := F4.out; have := F5.out; have := F6.out; have := F7.out; have := S.out; omega), (by (try dsimp only); have := F1.out; have := F2.out; have := F3.out; have := F4.out; have := F5.out; have := F6.out; have := F7.out; have := S.out; omega), (by (try dsimp only); have := F1.out; have := F2.out; have := F3.out; have := F4.out; have := F5.out; have := F6.out; have := F7.out; have := S.out; omega), (by (try dsimp only); have := F1.out; have := F2.out; have := F3.out; have := F4.out; have := F5.out; have := F6.out; have := F7.out; have := S.out; omega), (by (try dsimp only); have := F1.out; have := F2.out; have := F3.out; have := F4.out; have := F5.out; have := F6.out; have := F7.out; have := S.out; omega)⟩)
    · refine box_step ?hg (N := 8) ?hd (cs := #[.slice none 0 0, .slice none 0 0, .bool false, .bool false, .bool false, .bool false, .slice none 0 0, .slice none 0 0, .int .i64 0]) (t := 28) ?hr ?_; (case hd => rfl); (case hg => rfl); (case hr => first | (go_simp; done) | (go_simp; rfl))
      intro g8 hg w' hbox hb
      have hc := Ch.of_below hb
      have F3 : Aside0 (g4 + 1 ≤ g8) := Aside0.mk (by have := S.out; omega)
      clear hg
      replace BK3 := Aside0.mk (blk_ch hc BK3.out (Or.inr (Nat.zero_le _)))
      replace BK4 := Aside0.mk (blk_ch hc BK4.out (Or.inr (Nat.zero_le _)))
      replace HB := Aside0.mk (below_ch HB.out hc (Or.inl (Nat.le_refl _)))
      replace S := Aside0.mk (Nat.le_trans S.out hc.size)
      clear S
      have S : Aside0 (g8 + 1 ≤ w'.heap.size) := Aside0.mk (blk_lt hbox)
      have BK8 := Aside0.mk hbox
      clear hbox hb hc
      refine hK.out _ _ ⟨BK3.out, BK4.out⟩ (fun hHeld => ?_)
      clear hK K
      refine norm_ (a' := ?_) ?_ ?_
      rotate_left
      · show Act.put _ (some 8) _ = _
        simp only [Act.put, List.setIfInBounds_toArray, List.set_cons_zero, List.set_cons_succ, i64_w, i32_w]
        rfl
      refine one_ (i := 1) (N := some 25) #[true, true, true, false, true, false, false, false, false, true, false, false] rfl rfl (by kernel_rfl) (by decide) (fun K hK => ?_)
      refine goes_ Try.func17 (by kernel_rfl) rfl #[.agg #[.slice Aa_0 la_0.length ca_0, .slice Aa_1 la_1.length ca_1, .bool ba_2, .bool ba_3, .bool ba_4, .bool ba_5, .slice Aa_6 la_6.length ca_6, .slice Aa_7 la_7.length ca_7, .int .i64 ba_8]] (by rfl) rfl rfl (by (try simp only [List.map_toArray, List.map_cons, List.map_nil]); first | done | rfl) ?_
      refine (to4 k Aa_0 ca_0 la_0 Aa_1 ca_1 la_1 ba_2 ba_3 ba_4 ba_5 Aa_6 ca_6 la_6 Aa_7 ca_7 la_7 ba_8 la_0 la_1 ba_2 ba_3 ba_4 ba_5 la_6 la_7 ba_8 w _ HB.out HR0.out HC0.out HR1.out HC1.out HR6.out HC6.out HR7.out HC7.out Hto.out).mono ?_
      rintro e w' ⟨Ax_0, cx_0, Ax_1, cx_1, Ax_6, cx_6, Ax_7, cx_7, lox, hix, rfl, h1, h2, h3, hR, hc⟩
      refine ⟨_, rfl, ?_⟩
      have F4 : Aside0 (g8 + 1 ≤ lox) := Aside0.mk (Nat.le_trans S.out h1)
      have F5 : Aside0 (lox ≤ hix) := Aside0.mk h2
      replace BK3 := Aside0.mk (blk_ch hc BK3.out (Or.inr (Nat.zero_le _)))
      replace BK4 := Aside0.mk (blk_ch hc BK4.out (Or.inr (Nat.zero_le _)))
      replace BK8 := Aside0.mk (blk_ch hc BK8.out (Or.inr (Nat.zero_le _)))
      replace HB := Aside0.mk (below_ch HB.out hc (Or.inl (Nat.le_refl _)))
      replace S := Aside0.mk (Nat.le_trans S.out hc.size)
      clear S
      have S := Aside0.mk h3
      have Mx := Aside0.mk hR
      clear h1 h2 h3 hR hc
      refine hK.out _ _ ⟨BK3.out, BK4.out⟩ (fun hHeld => ?_)
      clear hK K
      refine norm_ (a' := ?_) ?_ ?_
      rotate_left
      · show Act.put _ (some 25) _ = _
        simp only [Act.put, List.setIfInBounds_toArray, List.set_cons_zero, List.set_cons_succ, i64_w, i32_w]
        rfl
      refine one_ (i := 3) (N := some 27) #[true, true, true, true, true, false, false, false, false, true, false, false] rfl rfl (by kernel_rfl) (by decide) (fun K hK => ?_)
      refine goes_ Try.func25 (by kernel_rfl) rfl #[.agg #[.int .i64 p0, .int .i64 p1]] (by rfl) rfl rfl (by (try simp only [List.map_toArray, List.map_cons, List.map_nil]); first | done | rfl) ?_
      refine (laws_toPlace.calls p0 p1 p0 p1 _ Htp.out).mono ?_
      rintro e w' ⟨rfl, hb⟩
      have hc := Ch.of_below hb
      refine ⟨_, rfl, ?_⟩
      replace BK3 := Aside0.mk (blk_ch hc BK3.out (Or.inr (Nat.zero_le _)))
      replace BK4 := Aside0.mk (blk_ch hc BK4.out (Or.inr (Nat.zero_le _)))
      replace BK8 := Aside0.mk (blk_ch hc BK8.out (Or.inr (Nat.zero_le _)))
      replace Mx := Aside0.mk (R4_ch Mx.out hc (Or.inr (Or.inr (Nat.zero_le _))))
      replace HB := Aside0.mk (below_ch HB.out hc (Or.inl (Nat.le_refl _)))
      replace S := Aside0.mk (Nat.le_trans S.out hc.size)
      clear hc hb
      refine hK.out _ _ ⟨BK3.out, BK4.out⟩ (fun hHeld => ?_)
      clear hK K
      refine norm_ (a' := ?_) ?_ ?_
      rotate_left
      · show Act.put _ (some 27) _ = _
        simp only [Act.put, List.setIfInBounds_toArray, List.set_cons_zero, List.set_cons_succ, i64_w, i32_w]
        rfl
      refine one_ (i := 5) (N := some 29) #[true, true, true, true, true, true, false, false, false, true, false, false] rfl rfl (by kernel_rfl) (by decide) (fun K hK => ?_)
      refine goes_ Try.func36 (by kernel_rfl) rfl #[.agg #[.slice Ax_0 la_0.length cx_0, .slice Ax_1 la_1.length cx_1, .bool ba_2, .bool ba_3, .bool ba_4, .bool ba_5, .slice Ax_6 la_6.length cx_6, .slice Ax_7 la_7.length cx_7, .int .i64 ba_8], .agg #[.int .i64 p0, .int .i64 p1], .int .i64 n] (by rfl) rfl rfl (by (try simp only [List.map_toArray, List.map_cons, List.map_nil]); first | done | rfl) ?_
      refine (spec4 k Ax_0 cx_0 _ la_0 Ax_1 cx_1 _ la_1 ba_2 ba_3 ba_4 ba_5 Ax_6 cx_6 _ la_6 Ax_7 cx_7 _ la_7 ba_8 p0 p1 n lo_0 lo_1 bo_2 bo_3 bo_4 bo_5 lo_6 lo_7 bo_8 ok _ _ _ Mx.out Hsp.out).mono ?_
      rintro e w' ⟨Au_0, cu_0, Au_1, cu_1, Au_6, cu_6, Au_7, cu_7, lou, hiu, rfl, h1, h2, h3, hR, hc⟩
      refine ⟨_, rfl, ?_⟩
      have F6 : Aside0 (hix ≤ lou) := Aside0.mk (Nat.le_trans S.out h1)
      have F7 : Aside0 (lou ≤ hiu) := Aside0.mk h2
      clear Mx
      replace BK3 := Aside0.mk (blk_ch hc BK3.out (Or.inr (Nat.zero_le _)))
      replace BK4 := Aside0.mk (blk_ch hc BK4.out (Or.inr (Nat.zero_le _)))
      replace BK8 := Aside0.mk (blk_ch hc BK8.out (Or.inr (Nat.zero_le _)))
      replace HB := Aside0.mk (below_ch HB.out hc (Or.inl (Nat.le_refl _)))
      replace S := Aside0.mk (Nat.le_trans S.out hc.size)
      clear S
      have S := Aside0.mk h3
      have Mu := Aside0.mk hR
      clear h1 h2 h3 hR hc
      refine hK.out _ _ ⟨BK3.out, BK4.out⟩ (fun hHeld => ?_)
      clear hK K
      refine norm_ (a' := ?_) ?_ ?_
      rotate_left
      · show Act.put _ (some 29) _ = _
        simp only [Act.put, List.setIfInBounds_toArray, List.set_cons_zero, List.set_cons_succ, i64_w, i32_w]
        rfl
      refine pure_ (i := 6) (N := some 23) (v := ?_) (a' := ?_) #[true, true, true, true, true, true, true, false, false, true, false, false] rfl rfl (by kernel_rfl) (fun _ _ _ h => h) (Or.inl ⟨by rfl, ?_⟩) ?_ ?_
      rotate_left
      · intro w'
        go_simp
        with_reducible rfl
      rotate_left
      · simp only [Act.put, List.setIfInBounds_toArray, List.set_cons_zero, List.set_cons_succ, i64_w, i32_w]
        rfl
      refine pure_ (i := 7) (N := some 30) (v := ?_) (a' := ?_) #[true, true, true, true, true, true, true, true, false, true, false, false] rfl rfl (by kernel_rfl) (fun _ _ _ h => h) (Or.inl ⟨by rfl, ?_⟩) ?_ ?_
      rotate_left
      · intro w'
        go_simp
        with_reducible rfl
      rotate_left
      · simp only [Act.put, List.setIfInBounds_toArray, List.set_cons_zero, List.set_cons_succ, i64_w, i32_w]
        rfl
      refine pure_ (i := 8) (N := some 31) (v := ?_) (a' := ?_) #[true, true, true, true, true, true, true, true, true, true, false, false] rfl rfl (by kernel_rfl) (fun _ _ _ h => h) (Or.inl ⟨by rfl, ?_⟩) ?_ ?_
      rotate_left
      · intro w'
        go_simp
        with_reducible rfl
      rotate_left
      · simp only [Act.put, List.setIfInBounds_toArray, List.set_cons_zero, List.set_cons_succ, i64_w, i32_w]
        rfl
      exact norm_ (by simp only [putAll, Act.put, List.setIfInBounds_toArray, List.set_cons_zero, List.set_cons_succ]) (hCont (Ax_0, cx_0, Ax_1, cx_1, Ax_6, cx_6, Ax_7, cx_7, Au_0, cu_0, Au_1, cu_1, Au_6, cu_6, Au_7, cu_7, lou, hiu, g8, w'.heap.size) _ ⟨hHeld, BK3.out, BK4.out, Mu.out, BK8.out, HB.out, (by (try dsimp only); have := F1.out; have := F2.out; have := F3.out; have := F4.out; have := F5.out; have := F6.out; have := F7.out; have := S.out; omega), (by (try dsimp only); have := F1.out; have := F2.out; have := F3.out; have := F4.out; have := F5.out; have := F6.out; have := F7.out; have := S.out; omega), (by (try dsimp only); have := F1.out; have := F2.out; have := F3.out; have := F4.out; have := F5.out; have := F6.out; have := F7.out; have := S.out; omega), (by (try dsimp only); have := F1.out; have := F2.out; have := F3.out; have := F4.out; have := F5.out; have := F6.out; have := F7.out; have := S.out; omega), (by (try dsimp only); have := F1.out; have := F2.out; have := F3.out; have := F4.out; have := F5.out; have := F6.out; have := F7.out; have := S.out; omega), (by (try dsimp only); have := F1.out; have := F2.out; have := F3.out; have := F4.out; have := F5.out; have := F6.out; have := F7.out; have := S.out; omega), (by (try dsimp only); have := F1.out; have := F2.out; have := F3.out; have := F4.out; have := F5.out; have := F6.out; have := F7.out; have := S.out; omega)⟩)
  clear HB S BK3 BK4
  rintro ⟨Ax_0, cx_0, Ax_1, cx_1, Ax_6, cx_6, Ax_7, cx_7, Au_0, cu_0, Au_1, cu_1, Au_6, cu_6, Au_7, cu_7, lou, hiu, g8, tp⟩ w' ⟨hHeld, h0_, h1_, h2_, h3_, h4_, h5_, h6_, h7_, h8_, h9_, h10_, h11_⟩
  have BK3 : Aside0 (w'.heap[g3]? = some (.cells #[.slice Aa_0 la_0.length ca_0, .slice Aa_1 la_1.length ca_1, .bool ba_2, .bool ba_3, .bool ba_4, .bool ba_5, .slice Aa_6 la_6.length ca_6, .slice Aa_7 la_7.length ca_7, .int .i64 ba_8] 24 (0, 0))) := ⟨h0_⟩
  have BK4 : Aside0 (w'.heap[g4]? = some (.cells #[.int .i64 p0, .int .i64 p1] 36 (0, 0))) := ⟨h1_⟩
  have Mu : Aside0 (R4 w' lou hiu (.slice Au_0 lo_0.length cu_0) (.slice Au_1 lo_1.length cu_1) (.slice Au_6 lo_6.length cu_6) (.slice Au_7 lo_7.length cu_7) lo_0 lo_1 lo_6 lo_7) := ⟨h2_⟩
  have BK8 : Aside0 (w'.heap[g8]? = some (.cells #[.slice none 0 0, .slice none 0 0, .bool false, .bool false, .bool false, .bool false, .slice none 0 0, .slice none 0 0, .int .i64 0] 28 (0, 0))) := ⟨h3_⟩
  have HB : Aside0 (Below w.heap.size w w') := ⟨h4_⟩
  have F108 : Aside0 (g4 + 1 ≤ g8) := Aside0.mk h5_
  have F109 : Aside0 (g4 + 1 ≤ lou) := Aside0.mk h6_
  have F110 : Aside0 (lou ≤ hiu) := Aside0.mk h7_
  have F111 : Aside0 (g8 + 1 ≤ lou ∨ hiu ≤ g8) := Aside0.mk h8_
  have F112 : Aside0 (hiu ≤ tp) := Aside0.mk h9_
  have F113 : Aside0 (g8 + 1 ≤ tp) := Aside0.mk h10_
  have S : Aside0 (tp ≤ w'.heap.size) := ⟨h11_⟩
  clear h0_ h1_ h2_ h3_ h4_ h5_ h6_ h7_ h8_ h9_ h10_ h11_
  have hHeld : w'.heap[g3]? = some (.cells #[.slice Aa_0 la_0.length ca_0, .slice Aa_1 la_1.length ca_1, .bool ba_2, .bool ba_3, .bool ba_4, .bool ba_5, .slice Aa_6 la_6.length ca_6, .slice Aa_7 la_7.length ca_7, .int .i64 ba_8] 24 (0, 0)) ∧ w'.heap[g4]? = some (.cells #[.int .i64 p0, .int .i64 p1] 36 (0, 0)) := hHeld
  refine norm_ (a' := ?_) ?_ ?_
  rotate_left
  · simp only [putAll, Act.put, List.setIfInBounds_toArray, List.set_cons_zero, List.set_cons_succ]
    rfl
  refine one_ (i := 10) (N := none) #[true, true, true, true, true, true, true, true, true, true, true, false] rfl rfl (by kernel_rfl) (by decide) (fun K hK => ?_)
  refine store_struct_step (by rfl) rfl 28 (.tmp 8) (.tmp 30) rfl (cs := #[.slice Au_0 lo_0.length cu_0, .slice Au_1 lo_1.length cu_1, .bool bo_2, .bool bo_3, .bool bo_4, .bool bo_5, .slice Au_6 lo_6.length cu_6, .slice Au_7 lo_7.length cu_7, .int .i64 bo_8]) (by rfl) (by rfl) BK8.out (by kernel_rfl) rfl (by repeat (first | exact fun _ h => absurd h List.not_mem_nil | refine List.forall_mem_cons.2 ⟨rfl, ?_⟩)) ?_
  intro w' hbox hc
  replace BK3 := Aside0.mk (blk_ch hc BK3.out (by have := F1.out; have := F2.out; have := F108.out; have := F109.out; have := F110.out; have := F111.out; have := F112.out; have := F113.out; have := S.out; omega))
  replace BK4 := Aside0.mk (blk_ch hc BK4.out (by have := F1.out; have := F2.out; have := F108.out; have := F109.out; have := F110.out; have := F111.out; have := F112.out; have := F113.out; have := S.out; omega))
  replace Mu := Aside0.mk (R4_ch Mu.out hc (by have := F1.out; have := F2.out; have := F108.out; have := F109.out; have := F110.out; have := F111.out; have := F112.out; have := F113.out; have := S.out; omega))
  replace HB := Aside0.mk (below_ch HB.out hc (Or.inr (by have := F1.out; have := F2.out; have := F108.out; have := F109.out; have := F110.out; have := F111.out; have := F112.out; have := F113.out; have := S.out; omega)))
  replace S := Aside0.mk (Nat.le_trans S.out hc.size)
  clear BK8
  have BK8 := Aside0.mk hbox
  clear hbox hc
  refine hK.out _ _ ⟨BK3.out, BK4.out⟩ (fun hHeld => ?_)
  clear hK K
  refine pure_ (i := 11) (N := some 9) (v := ?_) (a' := ?_) #[true, true, true, true, true, true, true, true, true, true, true, true] rfl rfl (by kernel_rfl) (fun _ _ _ h => h) (Or.inl ⟨by rfl, ?_⟩) ?_ ?_
  rotate_left
  · intro w'
    go_simp
    with_reducible rfl
  rotate_left
  · simp only [Act.put, List.setIfInBounds_toArray, List.set_cons_zero, List.set_cons_succ, i64_w, i32_w]
    rfl
  refine done_ (by kernel_rfl) ?_
  go_wp2_with (first
    | ((with_reducible refine gate_ (.load 24 (.tmp 3)) rfl ?_); (try (refine gate_guard (by rfl) ?_; dsimp only)); refine wpList_load_row rfl 24 (.tmp 3) rfl g3 rfl 24 _ _ _ BK3.out Try.underlying24 rfl (by kernel_rfl) ?_)
    | ((with_reducible refine gate_callee (f := 17) rfl ?_); (try (refine gate_guard (by rfl) ?_; dsimp only)); refine goesL_ (some 33) rfl rfl Try.func17 (by kernel_rfl) rfl #[.agg #[.slice Aa_0 la_0.length ca_0, .slice Aa_1 la_1.length ca_1, .bool ba_2, .bool ba_3, .bool ba_4, .bool ba_5, .slice Aa_6 la_6.length ca_6, .slice Aa_7 la_7.length ca_7, .int .i64 ba_8]] rfl (by (try simp only [List.map_toArray, List.map_cons, List.map_nil]); first | done | rfl) ?_; refine (to4 k Aa_0 ca_0 la_0 Aa_1 ca_1 la_1 ba_2 ba_3 ba_4 ba_5 Aa_6 ca_6 la_6 Aa_7 ca_7 la_7 ba_8 la_0 la_1 ba_2 ba_3 ba_4 ba_5 la_6 la_7 ba_8 w _ HB.out HR0.out HC0.out HR1.out HC1.out HR6.out HC6.out HR7.out HC7.out Hto.out).mono ?_; rintro e w' ⟨Ay_0, cy_0, Ay_1, cy_1, Ay_6, cy_6, Ay_7, cy_7, loy, hiy, rfl, h1, h2, h3, hR, hc⟩; refine ⟨_, rfl, ?_⟩; have F114 : Aside0 (tp ≤ loy) := Aside0.mk (Nat.le_trans S.out h1); have F115 : Aside0 (loy ≤ hiy) := Aside0.mk h2; replace BK3 := Aside0.mk (blk_ch hc BK3.out (Or.inr (Nat.zero_le _))); replace BK4 := Aside0.mk (blk_ch hc BK4.out (Or.inr (Nat.zero_le _))); replace Mu := Aside0.mk (R4_ch Mu.out hc (Or.inr (Or.inr (Nat.zero_le _)))); replace BK8 := Aside0.mk (blk_ch hc BK8.out (Or.inr (Nat.zero_le _))); replace HB := Aside0.mk (below_ch HB.out hc (Or.inl (Nat.le_refl _))); replace S := Aside0.mk (Nat.le_trans S.out hc.size); clear S; have S := Aside0.mk h3; have My := Aside0.mk hR; clear h1 h2 h3 hR hc)
    | ((with_reducible refine gate_dst (N := 10) rfl ?_); refine box_event ?hg (N := 10) ?hd (cs := #[.slice none 0 0, .slice none 0 0, .bool false, .bool false, .bool false, .bool false, .slice none 0 0, .slice none 0 0, .int .i64 0]) (t := 28) ?hr ?_; (case hd => rfl); (case hg => rfl); (case hr => first | (go_simp; done) | (go_simp; rfl)); intro g10 hg w' hbox hb; have hc := Ch.of_below hb; have F116 : Aside0 (hiy ≤ g10) := Aside0.mk (by have := S.out; omega); clear hg; replace BK3 := Aside0.mk (blk_ch hc BK3.out (Or.inr (Nat.zero_le _))); replace BK4 := Aside0.mk (blk_ch hc BK4.out (Or.inr (Nat.zero_le _))); replace Mu := Aside0.mk (R4_ch Mu.out hc (Or.inr (Or.inr (Nat.zero_le _)))); replace BK8 := Aside0.mk (blk_ch hc BK8.out (Or.inr (Nat.zero_le _))); replace My := Aside0.mk (R4_ch My.out hc (Or.inr (Or.inr (Nat.zero_le _)))); replace HB := Aside0.mk (below_ch HB.out hc (Or.inl (Nat.le_refl _))); replace S := Aside0.mk (Nat.le_trans S.out hc.size); clear S; have S : Aside0 (g10 + 1 ≤ w'.heap.size) := Aside0.mk (blk_lt hbox); have BK10 := Aside0.mk hbox; clear hbox hb hc)
    | ((with_reducible refine gate_ (.store 28 (.tmp 10) (.tmp 33)) rfl ?_); refine store_struct rfl rfl 28 (.tmp 10) (.tmp 33) rfl (cs := #[.slice Ay_0 la_0.length cy_0, .slice Ay_1 la_1.length cy_1, .bool ba_2, .bool ba_3, .bool ba_4, .bool ba_5, .slice Ay_6 la_6.length cy_6, .slice Ay_7 la_7.length cy_7, .int .i64 ba_8]) rfl rfl BK10.out (by kernel_rfl) rfl (by repeat (first | exact fun _ h => absurd h List.not_mem_nil | refine List.forall_mem_cons.2 ⟨rfl, ?_⟩)) ?_; intro w' hbox hc; replace BK3 := Aside0.mk (blk_ch hc BK3.out (by have := F1.out; have := F2.out; have := F108.out; have := F109.out; have := F110.out; have := F111.out; have := F112.out; have := F113.out; have := F114.out; have := F115.out; have := F116.out; have := S.out; omega)); replace BK4 := Aside0.mk (blk_ch hc BK4.out (by have := F1.out; have := F2.out; have := F108.out; have := F109.out; have := F110.out; have := F111.out; have := F112.out; have := F113.out; have := F114.out; have := F115.out; have := F116.out; have := S.out; omega)); replace Mu := Aside0.mk (R4_ch Mu.out hc (by have := F1.out; have := F2.out; have := F108.out; have := F109.out; have := F110.out; have := F111.out; have := F112.out; have := F113.out; have := F114.out; have := F115.out; have := F116.out; have := S.out; omega)); replace BK8 := Aside0.mk (blk_ch hc BK8.out (by have := F1.out; have := F2.out; have := F108.out; have := F109.out; have := F110.out; have := F111.out; have := F112.out; have := F113.out; have := F114.out; have := F115.out; have := F116.out; have := S.out; omega)); replace My := Aside0.mk (R4_ch My.out hc (by have := F1.out; have := F2.out; have := F108.out; have := F109.out; have := F110.out; have := F111.out; have := F112.out; have := F113.out; have := F114.out; have := F115.out; have := F116.out; have := S.out; omega)); replace HB := Aside0.mk (below_ch HB.out hc (Or.inr (by have := F1.out; have := F2.out; have := F108.out; have := F109.out; have := F110.out; have := F111.out; have := F112.out; have := F113.out; have := F114.out; have := F115.out; have := F116.out; have := S.out; omega))); replace S := Aside0.mk (Nat.le_trans S.out hc.size); clear BK10; have BK10 := Aside0.mk hbox; clear hbox hc))
  have hc := Ch.drew w'
  replace BK3 := Aside0.mk (blk_ch hc BK3.out (Or.inr (Nat.zero_le _)))
  replace BK4 := Aside0.mk (blk_ch hc BK4.out (Or.inr (Nat.zero_le _)))
  replace Mu := Aside0.mk (R4_ch Mu.out hc (Or.inr (Or.inr (Nat.zero_le _))))
  replace BK8 := Aside0.mk (blk_ch hc BK8.out (Or.inr (Nat.zero_le _)))
  replace My := Aside0.mk (R4_ch My.out hc (Or.inr (Or.inr (Nat.zero_le _))))
  replace BK10 := Aside0.mk (blk_ch hc BK10.out (Or.inr (Nat.zero_le _)))
  replace HB := Aside0.mk (below_ch HB.out hc (Or.inl (Nat.le_refl _)))
  replace S := Aside0.mk (Nat.le_trans S.out hc.size)
  clear hc
  refine start_ (n := 11) (S := fun w' => w'.heap[g10]? = some (.cells #[.slice Ay_0 la_0.length cy_0, .slice Ay_1 la_1.length cy_1, .bool ba_2, .bool ba_3, .bool ba_4, .bool ba_5, .slice Ay_6 la_6.length cy_6, .slice Ay_7 la_7.length cy_7, .int .i64 ba_8] 28 (0, 0)) ∧ w'.heap[g4]? = some (.cells #[.int .i64 p0, .int .i64 p1] 36 (0, 0))) (ds := []) #[false, false, false, false, false, false, false, false, false, false, false] (by kernel_rfl) rfl rfl ⟨BK10.out, BK4.out⟩ (fun hHeld => ?_)
  generalize w'.drew = w' at BK3 BK4 Mu BK8 My BK10 HB S hHeld ⊢
  refine pure_ (i := 3) (N := some 38) (v := ?_) (a' := ?_) #[false, false, false, true, false, false, false, false, false, false, false] rfl rfl (by kernel_rfl) (fun _ _ _ h => h) (Or.inl ⟨by rfl, ?_⟩) ?_ ?_
  rotate_left
  · intro w'
    go_simp
    with_reducible rfl
  rotate_left
  · simp only [Act.put, List.setIfInBounds_toArray, List.set_cons_zero, List.set_cons_succ, i64_w, i32_w]
    rfl
  refine take_ (i := 0) (N := some 35) (v := .agg #[.slice Ay_0 la_0.length cy_0, .slice Ay_1 la_1.length cy_1, .bool ba_2, .bool ba_3, .bool ba_4, .bool ba_5, .slice Ay_6 la_6.length cy_6, .slice Ay_7 la_7.length cy_7, .int .i64 ba_8]) (a' := ?_) #[true, false, false, true, false, false, false, false, false, false, false] rfl rfl (by kernel_rfl) (fun _ _ _ h => h) (Or.inl ⟨by rfl, ?_⟩) hHeld ?_ ?_
  · rintro w' ⟨s0, s1⟩
    exact load_yields 28 (.tmp 10) (by rfl) g10 (by rfl) 28 _ _ s0 Try.underlying28 rfl (by kernel_rfl)
  rotate_left
  · simp only [Act.put, List.setIfInBounds_toArray, List.set_cons_zero, List.set_cons_succ, i64_w, i32_w]
    rfl
  refine take_ (i := 1) (N := some 36) (v := .agg #[.int .i64 p0, .int .i64 p1]) (a' := ?_) #[true, true, false, true, false, false, false, false, false, false, false] rfl rfl (by kernel_rfl) (fun _ _ _ h => h) (Or.inl ⟨by rfl, ?_⟩) hHeld ?_ ?_
  · rintro w' ⟨s0, s1⟩
    exact load_yields 36 (.tmp 4) (by rfl) g4 (by rfl) 36 _ _ s1 Try.underlying36 rfl (by kernel_rfl)
  rotate_left
  · simp only [Act.put, List.setIfInBounds_toArray, List.set_cons_zero, List.set_cons_succ, i64_w, i32_w]
    rfl
  refine join_ (σ := Option Addr × Nat × Option Addr × Nat × Option Addr × Nat × Option Addr × Nat × Nat × Nat × Nat × Nat) 2 #[true, true, true, true, true, true, true, true, true, false, false] (fun s_ => [(37, .agg #[.int .i64 p0, .int .i64 p1]), (39, .tuple #[.agg #[.slice s_.1 lo_0.length s_.2.1, .slice s_.2.2.1 lo_1.length s_.2.2.2.1, .bool bo_2, .bool bo_3, .bool bo_4, .bool bo_5, .slice s_.2.2.2.2.1 lo_6.length s_.2.2.2.2.2.1, .slice s_.2.2.2.2.2.2.1 lo_7.length s_.2.2.2.2.2.2.2.1, .int .i64 bo_8], .bool ok]), (11, .pointer (some ⟨s_.2.2.2.2.2.2.2.2.2.2.1, 0, none⟩)), (34, .tuple #[.agg #[.slice s_.1 lo_0.length s_.2.1, .slice s_.2.2.1 lo_1.length s_.2.2.2.1, .bool bo_2, .bool bo_3, .bool bo_4, .bool bo_5, .slice s_.2.2.2.2.1 lo_6.length s_.2.2.2.2.2.1, .slice s_.2.2.2.2.2.2.1 lo_7.length s_.2.2.2.2.2.2.2.1, .int .i64 bo_8], .bool ok]), (40, .agg #[.slice s_.1 lo_0.length s_.2.1, .slice s_.2.2.1 lo_1.length s_.2.2.2.1, .bool bo_2, .bool bo_3, .bool bo_4, .bool bo_5, .slice s_.2.2.2.2.1 lo_6.length s_.2.2.2.2.2.1, .slice s_.2.2.2.2.2.2.1 lo_7.length s_.2.2.2.2.2.2.2.1, .int .i64 bo_8]), (41, .bool ok)]) (fun s_ w' => (w'.heap[g10]? = some (.cells #[.slice Ay_0 la_0.length cy_0, .slice Ay_1 la_1.length cy_1, .bool ba_2, .bool ba_3, .bool ba_4, .bool ba_5, .slice Ay_6 la_6.length cy_6, .slice Ay_7 la_7.length cy_7, .int .i64 ba_8] 28 (0, 0)) ∧ w'.heap[g4]? = some (.cells #[.int .i64 p0, .int .i64 p1] 36 (0, 0))) ∧ (w'.heap[g3]? = some (.cells #[.slice Aa_0 la_0.length ca_0, .slice Aa_1 la_1.length ca_1, .bool ba_2, .bool ba_3, .bool ba_4, .bool ba_5, .slice Aa_6 la_6.length ca_6, .slice Aa_7 la_7.length ca_7, .int .i64 ba_8] 24 (0, 0))) ∧ (w'.heap[g4]? = some (.cells #[.int .i64 p0, .int .i64 p1] 36 (0, 0))) ∧ (R4 w' lou hiu (.slice Au_0 lo_0.length cu_0) (.slice Au_1 lo_1.length cu_1) (.slice Au_6 lo_6.length cu_6) (.slice Au_7 lo_7.length cu_7) lo_0 lo_1 lo_6 lo_7) ∧ (w'.heap[g8]? = some (.cells #[.slice Au_0 lo_0.length cu_0, .slice Au_1 lo_1.length cu_1, .bool bo_2, .bool bo_3, .bool bo_4, .bool bo_5, .slice Au_6 lo_6.length cu_6, .slice Au_7 lo_7.length cu_7, .int .i64 bo_8] 28 (0, 0))) ∧ (R4 w' loy hiy (.slice Ay_0 la_0.length cy_0) (.slice Ay_1 la_1.length cy_1) (.slice Ay_6 la_6.length cy_6) (.slice Ay_7 la_7.length cy_7) la_0 la_1 la_6 la_7) ∧ (w'.heap[g10]? = some (.cells #[.slice Ay_0 la_0.length cy_0, .slice Ay_1 la_1.length cy_1, .bool ba_2, .bool ba_3, .bool ba_4, .bool ba_5, .slice Ay_6 la_6.length cy_6, .slice Ay_7 la_7.length cy_7, .int .i64 ba_8] 28 (0, 0))) ∧ (R4 w' s_.2.2.2.2.2.2.2.2.1 s_.2.2.2.2.2.2.2.2.2.1 (.slice s_.1 lo_0.length s_.2.1) (.slice s_.2.2.1 lo_1.length s_.2.2.2.1) (.slice s_.2.2.2.2.1 lo_6.length s_.2.2.2.2.2.1) (.slice s_.2.2.2.2.2.2.1 lo_7.length s_.2.2.2.2.2.2.2.1) lo_0 lo_1 lo_6 lo_7) ∧ (w'.heap[s_.2.2.2.2.2.2.2.2.2.2.1]? = some (.cells #[.slice none 0 0, .slice none 0 0, .bool false, .bool false, .bool false, .bool false, .slice none 0 0, .slice none 0 0, .int .i64 0] 28 (0, 0))) ∧ (Below w.heap.size w w') ∧ (g10 + 1 ≤ s_.2.2.2.2.2.2.2.2.2.2.1) ∧ (g10 + 1 ≤ s_.2.2.2.2.2.2.2.2.1) ∧ (s_.2.2.2.2.2.2.2.2.1 ≤ s_.2.2.2.2.2.2.2.2.2.1) ∧ (s_.2.2.2.2.2.2.2.2.2.2.1 + 1 ≤ s_.2.2.2.2.2.2.2.2.1 ∨ s_.2.2.2.2.2.2.2.2.2.1 ≤ s_.2.2.2.2.2.2.2.2.2.2.1) ∧ (s_.2.2.2.2.2.2.2.2.2.1 ≤ s_.2.2.2.2.2.2.2.2.2.2.2) ∧ (s_.2.2.2.2.2.2.2.2.2.2.1 + 1 ≤ s_.2.2.2.2.2.2.2.2.2.2.2) ∧ (s_.2.2.2.2.2.2.2.2.2.2.2 ≤ w'.heap.size)) ?_ ?_
  rotate_left
  · intro hCont
    refine two_ (i := 2) (j := 8) (Ni := some 37) (Nj := some 11) #[true, true, true, true, false, false, false, false, false, false, false] #[true, true, false, true, false, false, false, false, true, false, false] rfl rfl rfl rfl (by kernel_rfl) (by decide) (by decide) (fun K hK => ?_) (fun K hK => ?_)
    · skip
      refine goes_ Try.func25 (by kernel_rfl) rfl #[.agg #[.int .i64 p0, .int .i64 p1]] (by rfl) rfl rfl (by (try simp only [List.map_toArray, List.map_cons, List.map_nil]); first | done | rfl) ?_
      refine (laws_toPlace.calls p0 p1 p0 p1 _ Htp.out).mono ?_
      rintro e w' ⟨rfl, hb⟩
      have hc := Ch.of_below hb
      refine ⟨_, rfl, ?_⟩
      replace BK3 := Aside0.mk (blk_ch hc BK3.out (Or.inr (Nat.zero_le _)))
      replace BK4 := Aside0.mk (blk_ch hc BK4.out (Or.inr (Nat.zero_le _)))
      replace Mu := Aside0.mk (R4_ch Mu.out hc (Or.inr (Or.inr (Nat.zero_le _))))
      replace BK8 := Aside0.mk (blk_ch hc BK8.out (Or.inr (Nat.zero_le _)))
      replace My := Aside0.mk (R4_ch My.out hc (Or.inr (Or.inr (Nat.zero_le _))))
      replace BK10 := Aside0.mk (blk_ch hc BK10.out (Or.inr (Nat.zero_le _)))
      replace HB := Aside0.mk (below_ch HB.out hc (Or.inl (Nat.le_refl _)))
      replace S := Aside0.mk (Nat.le_trans S.out hc.size)
      clear hc hb
      refine hK.out _ _ ⟨BK10.out, BK4.out⟩ (fun hHeld => ?_)
      clear hK K
      refine norm_ (a' := ?_) ?_ ?_
      rotate_left
      · show Act.put _ (some 37) _ = _
        simp only [Act.put, List.setIfInBounds_toArray, List.set_cons_zero, List.set_cons_succ, i64_w, i32_w]
        rfl
      refine two_ (i := 4) (j := 8) (Ni := some 39) (Nj := some 11) #[true, true, true, true, true, false, false, false, false, false, false] #[true, true, true, true, false, false, false, false, true, false, false] rfl rfl rfl rfl (by kernel_rfl) (by decide) (by decide) (fun K hK => ?_) (fun K hK => ?_)
      · skip
        refine goes_ Try.func37 (by kernel_rfl) rfl #[.agg #[.slice Ay_0 la_0.length cy_0, .slice Ay_1 la_1.length cy_1, .bool ba_2, .bool ba_3, .bool ba_4, .bool ba_5, .slice Ay_6 la_6.length cy_6, .slice Ay_7 la_7.length cy_7, .int .i64 ba_8], .agg #[.int .i64 p0, .int .i64 p1], .int .i64 n] (by rfl) rfl rfl (by (try simp only [List.map_toArray, List.map_cons, List.map_nil]); first | done | rfl) ?_
        refine (impl4 k Ay_0 cy_0 _ la_0 Ay_1 cy_1 _ la_1 ba_2 ba_3 ba_4 ba_5 Ay_6 cy_6 _ la_6 Ay_7 cy_7 _ la_7 ba_8 p0 p1 n lo_0 lo_1 bo_2 bo_3 bo_4 bo_5 lo_6 lo_7 bo_8 ok _ _ _ My.out Him.out).mono ?_
        rintro e w' ⟨Av_0, cv_0, Av_1, cv_1, Av_6, cv_6, Av_7, cv_7, lov, hiv, rfl, h1, h2, h3, hR, hc⟩
        refine ⟨_, rfl, ?_⟩
        have F117 : Aside0 (g10 + 1 ≤ lov) := Aside0.mk (Nat.le_trans S.out h1)
        have F118 : Aside0 (lov ≤ hiv) := Aside0.mk h2
        replace BK3 := Aside0.mk (blk_ch hc BK3.out (Or.inr (Nat.zero_le _)))
        replace BK4 := Aside0.mk (blk_ch hc BK4.out (Or.inr (Nat.zero_le _)))
        replace Mu := Aside0.mk (R4_ch Mu.out hc (Or.inr (Or.inr (Nat.zero_le _))))
        replace BK8 := Aside0.mk (blk_ch hc BK8.out (Or.inr (Nat.zero_le _)))
        replace My := Aside0.mk (R4_ch My.out hc (Or.inr (Or.inr (Nat.zero_le _))))
        replace BK10 := Aside0.mk (blk_ch hc BK10.out (Or.inr (Nat.zero_le _)))
        replace HB := Aside0.mk (below_ch HB.out hc (Or.inl (Nat.le_refl _)))
        replace S := Aside0.mk (Nat.le_trans S.out hc.size)
        clear S
        have S := Aside0.mk h3
        have Mv := Aside0.mk hR
        clear h1 h2 h3 hR hc
        refine hK.out _ _ ⟨BK10.out, BK4.out⟩ (fun hHeld => ?_)
        clear hK K
        refine norm_ (a' := ?_) ?_ ?_
        rotate_left
        · show Act.put _ (some 39) _ = _
          simp only [Act.put, List.setIfInBounds_toArray, List.set_cons_zero, List.set_cons_succ, i64_w, i32_w]
          rfl
        refine pure_ (i := 5) (N := some 34) (v := ?_) (a' := ?_) #[true, true, true, true, true, true, false, false, false, false, false] rfl rfl (by kernel_rfl) (fun _ _ _ h => h) (Or.inl ⟨by rfl, ?_⟩) ?_ ?_
        rotate_left
        · intro w'
          go_simp
          with_reducible rfl
        rotate_left
        · simp only [Act.put, List.setIfInBounds_toArray, List.set_cons_zero, List.set_cons_succ, i64_w, i32_w]
          rfl
        refine pure_ (i := 6) (N := some 40) (v := ?_) (a' := ?_) #[true, true, true, true, true, true, true, false, false, false, false] rfl rfl (by kernel_rfl) (fun _ _ _ h => h) (Or.inl ⟨by rfl, ?_⟩) ?_ ?_
        rotate_left
        · intro w'
          go_simp
          with_reducible rfl
        rotate_left
        · simp only [Act.put, List.setIfInBounds_toArray, List.set_cons_zero, List.set_cons_succ, i64_w, i32_w]
          rfl
        refine pure_ (i := 7) (N := some 41) (v := ?_) (a' := ?_) #[true, true, true, true, true, true, true, true, false, false, false] rfl rfl (by kernel_rfl) (fun _ _ _ h => h) (Or.inl ⟨by rfl, ?_⟩) ?_ ?_
        rotate_left
        · intro w'
          go_simp
          with_reducible rfl
        rotate_left
        · simp only [Act.put, List.setIfInBounds_toArray, List.set_cons_zero, List.set_cons_succ, i64_w, i32_w]
          rfl
        refine one_ (i := 8) (N := some 11) #[true, true, true, true, true, true, true, true, true, false, false] rfl rfl (by kernel_rfl) (by decide) (fun K hK => ?_)
        refine box_step ?hg (N := 11) ?hd (cs := #[.slice none 0 0, .slice none 0 0, .bool false, .bool false, .bool false, .bool false, .slice none 0 0, .slice none 0 0, .int .i64 0]) (t := 28) ?hr ?_; (case hd => rfl); (case hg => rfl); (case hr => first | (go_simp; done) | (go_simp; rfl))
        intro g11 hg w' hbox hb
        have hc := Ch.of_below hb
        have F119 : Aside0 (hiv ≤ g11) := Aside0.mk (by have := S.out; omega)
        clear hg
        replace BK3 := Aside0.mk (blk_ch hc BK3.out (Or.inr (Nat.zero_le _)))
        replace BK4 := Aside0.mk (blk_ch hc BK4.out (Or.inr (Nat.zero_le _)))
        replace Mu := Aside0.mk (R4_ch Mu.out hc (Or.inr (Or.inr (Nat.zero_le _))))
        replace BK8 := Aside0.mk (blk_ch hc BK8.out (Or.inr (Nat.zero_le _)))
        replace My := Aside0.mk (R4_ch My.out hc (Or.inr (Or.inr (Nat.zero_le _))))
        replace BK10 := Aside0.mk (blk_ch hc BK10.out (Or.inr (Nat.zero_le _)))
        replace Mv := Aside0.mk (R4_ch Mv.out hc (Or.inr (Or.inr (Nat.zero_le _))))
        replace HB := Aside0.mk (below_ch HB.out hc (Or.inl (Nat.le_refl _)))
        replace S := Aside0.mk (Nat.le_trans S.out hc.size)
        clear S
        have S : Aside0 (g11 + 1 ≤ w'.heap.size) := Aside0.mk (blk_lt hbox)
        have BK11 := Aside0.mk hbox
        clear hbox hb hc
        refine hK.out _ _ ⟨BK10.out, BK4.out⟩ (fun hHeld => ?_)
        clear hK K
        refine norm_ (a' := ?_) ?_ ?_
        rotate_left
        · show Act.put _ (some 11) _ = _
          simp only [Act.put, List.setIfInBounds_toArray, List.set_cons_zero, List.set_cons_succ, i64_w, i32_w]
          rfl
        exact norm_ (by simp only [putAll, Act.put, List.setIfInBounds_toArray, List.set_cons_zero, List.set_cons_succ]) (hCont (Av_0, cv_0, Av_1, cv_1, Av_6, cv_6, Av_7, cv_7, lov, hiv, g11, w'.heap.size) _ ⟨hHeld, BK3.out, BK4.out, Mu.out, BK8.out, My.out, BK10.out, Mv.out, BK11.out, HB.out, (by (try dsimp only); have := F1.out; have := F2.out; have := F108.out; have := F109.out; have := F110.out; have := F111.out; have := F112.out; have := F113.out; have := F114.out; have := F115.out; have := F116.out; have := F117.out; have := F118.out; have := F119.out; have := S.out; omega), (by (try dsimp only); have := F1.out; have := F2.out; have := F108.out; have := F109.out; have := F110.out; have := F111.out; have := F112.out; have := F113.out; have := F114.out; have := F115.out; have := F116.out; have := F117.out; have := F118.out; have := F119.out; have := S.out; omega), (by (try dsimp only); have := F1.out; have := F2.out; have := F108.out; have := F109.out; have := F110.out; have := F111.out; have := F112.out; have := F113.out; have := F114.out; have := F115.out; have := F116.out; have := F117.out; have := F118.out; have := F119.out; have := S.out; omega), (by (try dsimp only); have := F1.out; have := F2.out; have := F108.out; have := F109.out; have := F110.out; have := F111.out; have := F112.out; have := F113.out; have := F114.out; have := F115.out; have := F116.out; have := F117.out; have := F118.out; have := F119.out; have := S.out; omega), (by (try dsimp only); have := F1.out; have := F2.out; have := F108.out; have := F109.out; have := F110.out; have := F111.out; have := F112.out; have := F113.out; have := F114.out; have := F115.out; have := F116.out; have := F117.out; have := F118.out; have := F119.out; have := S.out; omega), (by (try dsimp only); have := F1.out; have := F2.out; have := F108.out; have := F109.out; have := F110.out; have := F111.out; have := F112.out; have := F113.out; have := F114.out; have := F115.out; have := F116.out; have := F117.out; have := F118.out; have := F119.out; have := S.out; omega), (by (try dsimp only); have := F1.out; have := F2.out; have := F108.out; have := F109.out; have := F110.out; have := F111.out; have := F112.out; have := F113.out; have := F114.out; have := F115.out; have := F116.out; have := F117.out; have := F118.out; have := F119.out; have := S.out; omega)⟩)
      · refine box_step ?hg (N := 11) ?hd (cs := #[.slice none 0 0, .slice none 0 0, .bool false, .bool false, .bool false, .bool false, .slice none 0 0, .slice none 0 0, .int .i64 0]) (t := 28) ?hr ?_; (case hd => rfl); (case hg => rfl); (case hr => first | (go_simp; done) | (go_simp; rfl))
        intro g11 hg w' hbox hb
        have hc := Ch.of_below hb
        have F117 : Aside0 (g10 + 1 ≤ g11) := Aside0.mk (by have := S.out; omega)
        clear hg
        replace BK3 := Aside0.mk (blk_ch hc BK3.out (Or.inr (Nat.zero_le _)))
        replace BK4 := Aside0.mk (blk_ch hc BK4.out (Or.inr (Nat.zero_le _)))
        replace Mu := Aside0.mk (R4_ch Mu.out hc (Or.inr (Or.inr (Nat.zero_le _))))
        replace BK8 := Aside0.mk (blk_ch hc BK8.out (Or.inr (Nat.zero_le _)))
        replace My := Aside0.mk (R4_ch My.out hc (Or.inr (Or.inr (Nat.zero_le _))))
        replace BK10 := Aside0.mk (blk_ch hc BK10.out (Or.inr (Nat.zero_le _)))
        replace HB := Aside0.mk (below_ch HB.out hc (Or.inl (Nat.le_refl _)))
        replace S := Aside0.mk (Nat.le_trans S.out hc.size)
        clear S
        have S : Aside0 (g11 + 1 ≤ w'.heap.size) := Aside0.mk (blk_lt hbox)
        have BK11 := Aside0.mk hbox
        clear hbox hb hc
        refine hK.out _ _ ⟨BK10.out, BK4.out⟩ (fun hHeld => ?_)
        clear hK K
        refine norm_ (a' := ?_) ?_ ?_
        rotate_left
        · show Act.put _ (some 11) _ = _
          simp only [Act.put, List.setIfInBounds_toArray, List.set_cons_zero, List.set_cons_succ, i64_w, i32_w]
          rfl
        refine one_ (i := 4) (N := some 39) #[true, true, true, true, true, false, false, false, true, false, false] rfl rfl (by kernel_rfl) (by decide) (fun K hK => ?_)
        refine goes_ Try.func37 (by kernel_rfl) rfl #[.agg #[.slice Ay_0 la_0.length cy_0, .slice Ay_1 la_1.length cy_1, .bool ba_2, .bool ba_3, .bool ba_4, .bool ba_5, .slice Ay_6 la_6.length cy_6, .slice Ay_7 la_7.length cy_7, .int .i64 ba_8], .agg #[.int .i64 p0, .int .i64 p1], .int .i64 n] (by rfl) rfl rfl (by (try simp only [List.map_toArray, List.map_cons, List.map_nil]); first | done | rfl) ?_
        refine (impl4 k Ay_0 cy_0 _ la_0 Ay_1 cy_1 _ la_1 ba_2 ba_3 ba_4 ba_5 Ay_6 cy_6 _ la_6 Ay_7 cy_7 _ la_7 ba_8 p0 p1 n lo_0 lo_1 bo_2 bo_3 bo_4 bo_5 lo_6 lo_7 bo_8 ok _ _ _ My.out Him.out).mono ?_
        rintro e w' ⟨Av_0, cv_0, Av_1, cv_1, Av_6, cv_6, Av_7, cv_7, lov, hiv, rfl, h1, h2, h3, hR, hc⟩
        refine ⟨_, rfl, ?_⟩
        have F118 : Aside0 (g11 + 1 ≤ lov) := Aside0.mk (Nat.le_trans S.out h1)
        have F119 : Aside0 (lov ≤ hiv) := Aside0.mk h2
        replace BK3 := Aside0.mk (blk_ch hc BK3.out (Or.inr (Nat.zero_le _)))
        replace BK4 := Aside0.mk (blk_ch hc BK4.out (Or.inr (Nat.zero_le _)))
        replace Mu := Aside0.mk (R4_ch Mu.out hc (Or.inr (Or.inr (Nat.zero_le _))))
        replace BK8 := Aside0.mk (blk_ch hc BK8.out (Or.inr (Nat.zero_le _)))
        replace My := Aside0.mk (R4_ch My.out hc (Or.inr (Or.inr (Nat.zero_le _))))
        replace BK10 := Aside0.mk (blk_ch hc BK10.out (Or.inr (Nat.zero_le _)))
        replace BK11 := Aside0.mk (blk_ch hc BK11.out (Or.inr (Nat.zero_le _)))
        replace HB := Aside0.mk (below_ch HB.out hc (Or.inl (Nat.le_refl _)))
        replace S := Aside0.mk (Nat.le_trans S.out hc.size)
        clear S
        have S := Aside0.mk h3
        have Mv := Aside0.mk hR
        clear h1 h2 h3 hR hc
        refine hK.out _ _ ⟨BK10.out, BK4.out⟩ (fun hHeld => ?_)
        clear hK K
        refine norm_ (a' := ?_) ?_ ?_
        rotate_left
        · show Act.put _ (some 39) _ = _
          simp only [Act.put, List.setIfInBounds_toArray, List.set_cons_zero, List.set_cons_succ, i64_w, i32_w]
          rfl
        refine pure_ (i := 5) (N := some 34) (v := ?_) (a' := ?_) #[true, true, true, true, true, true, false, false, true, false, false] rfl rfl (by kernel_rfl) (fun _ _ _ h => h) (Or.inl ⟨by rfl, ?_⟩) ?_ ?_
        rotate_left
        · intro w'
          go_simp
          with_reducible rfl
        rotate_left
        · simp only [Act.put, List.setIfInBounds_toArray, List.set_cons_zero, List.set_cons_succ, i64_w, i32_w]
          rfl
        refine pure_ (i := 6) (N := some 40) (v := ?_) (a' := ?_) #[true, true, true, true, true, true, true, false, true, false, false] rfl rfl (by kernel_rfl) (fun _ _ _ h => h) (Or.inl ⟨by rfl, ?_⟩) ?_ ?_
        rotate_left
        · intro w'
          go_simp
          with_reducible rfl
        rotate_left
        · simp only [Act.put, List.setIfInBounds_toArray, List.set_cons_zero, List.set_cons_succ, i64_w, i32_w]
          rfl
        refine pure_ (i := 7) (N := some 41) (v := ?_) (a' := ?_) #[true, true, true, true, true, true, true, true, true, false, false] rfl rfl (by kernel_rfl) (fun _ _ _ h => h) (Or.inl ⟨by rfl, ?_⟩) ?_ ?_
        rotate_left
        · intro w'
          go_simp
          with_reducible rfl
        rotate_left
        · simp only [Act.put, List.setIfInBounds_toArray, List.set_cons_zero, List.set_cons_succ, i64_w, i32_w]
          rfl
        exact norm_ (by simp only [putAll, Act.put, List.setIfInBounds_toArray, List.set_cons_zero, List.set_cons_succ]) (hCont (Av_0, cv_0, Av_1, cv_1, Av_6, cv_6, Av_7, cv_7, lov, hiv, g11, w'.heap.size) _ ⟨hHeld, BK3.out, BK4.out, Mu.out, BK8.out, My.out, BK10.out, Mv.out, BK11.out, HB.out, (by (try dsimp only); have := F1.out; have := F2.out; have := F108.out; have := F109.out; have := F110.out; have := F111.out; have := F112.out; have := F113.out; have := F114.out; have := F115.out; have := F116.out; have := F117.out; have := F118.out; have := F119.out; have := S.out; omega), (by (try dsimp only); have := F1.out; have := F2.out; have := F108.out; have := F109.out; have := F110.out; have := F111.out; have := F112.out; have := F113.out; have := F114.out; have := F115.out; have := F116.out; have := F117.out; have := F118.out; have := F119.out; have := S.out; omega), (by (try dsimp only); have := F1.out; have := F2.out; have := F108.out; have := F109.out; have := F110.out; have := F111.out; have := F112.out; have := F113.out; have := F114.out; have := F115.out; have := F116.out; have := F117.out; have := F118.out; have := F119.out; have := S.out; omega), (by (try dsimp only); have := F1.out; have := F2.out; have := F108.out; have := F109.out; have := F110.out; have := F111.out; have := F112.out; have := F113.out; have := F114.out; have := F115.out; have := F116.out; have := F117.out; have := F118.out; have := F119.out; have := S.out; omega), (by (try dsimp only); have := F1.out; have := F2.out; have := F108.out; have := F109.out; have := F110.out; have := F111.out; have := F112.out; have := F113.out; have := F114.out; have := F115.out; have := F116.out; have := F117.out; have := F118.out; have := F119.out; have := S.out; omega), (by (try dsimp only); have := F1.out; have := F2.out; have := F108.out; have := F109.out; have := F110.out; have := F111.out; have := F112.out; have := F113.out; have := F114.out; have := F115.out; have := F116.out; have := F117.out; have := F118.out; have := F119.out; have := S.out; omega), (by (try dsimp only); have := F1.out; have := F2.out; have := F108.out; have := F109.out; have := F110.out; have := F111.out; have := F112.out; have := F113.out; have := F114.out; have := F115.out; have := F116.out; have := F117.out; have := F118.out; have := F119.out; have := S.out; omega)⟩)
    · refine box_step ?hg (N := 11) ?hd (cs := #[.slice none 0 0, .slice none 0 0, .bool false, .bool false, .bool false, .bool false, .slice none 0 0, .slice none 0 0, .int .i64 0]) (t := 28) ?hr ?_; (case hd => rfl); (case hg => rfl); (case hr => first | (go_simp; done) | (go_simp; rfl))
      intro g11 hg w' hbox hb
      have hc := Ch.of_below hb
      have F117 : Aside0 (g10 + 1 ≤ g11) := Aside0.mk (by have := S.out; omega)
      clear hg
      replace BK3 := Aside0.mk (blk_ch hc BK3.out (Or.inr (Nat.zero_le _)))
      replace BK4 := Aside0.mk (blk_ch hc BK4.out (Or.inr (Nat.zero_le _)))
      replace Mu := Aside0.mk (R4_ch Mu.out hc (Or.inr (Or.inr (Nat.zero_le _))))
      replace BK8 := Aside0.mk (blk_ch hc BK8.out (Or.inr (Nat.zero_le _)))
      replace My := Aside0.mk (R4_ch My.out hc (Or.inr (Or.inr (Nat.zero_le _))))
      replace BK10 := Aside0.mk (blk_ch hc BK10.out (Or.inr (Nat.zero_le _)))
      replace HB := Aside0.mk (below_ch HB.out hc (Or.inl (Nat.le_refl _)))
      replace S := Aside0.mk (Nat.le_trans S.out hc.size)
      clear S
      have S : Aside0 (g11 + 1 ≤ w'.heap.size) := Aside0.mk (blk_lt hbox)
      have BK11 := Aside0.mk hbox
      clear hbox hb hc
      refine hK.out _ _ ⟨BK10.out, BK4.out⟩ (fun hHeld => ?_)
      clear hK K
      refine norm_ (a' := ?_) ?_ ?_
      rotate_left
      · show Act.put _ (some 11) _ = _
        simp only [Act.put, List.setIfInBounds_toArray, List.set_cons_zero, List.set_cons_succ, i64_w, i32_w]
        rfl
      refine one_ (i := 2) (N := some 37) #[true, true, true, true, false, false, false, false, true, false, false] rfl rfl (by kernel_rfl) (by decide) (fun K hK => ?_)
      refine goes_ Try.func25 (by kernel_rfl) rfl #[.agg #[.int .i64 p0, .int .i64 p1]] (by rfl) rfl rfl (by (try simp only [List.map_toArray, List.map_cons, List.map_nil]); first | done | rfl) ?_
      refine (laws_toPlace.calls p0 p1 p0 p1 _ Htp.out).mono ?_
      rintro e w' ⟨rfl, hb⟩
      have hc := Ch.of_below hb
      refine ⟨_, rfl, ?_⟩
      replace BK3 := Aside0.mk (blk_ch hc BK3.out (Or.inr (Nat.zero_le _)))
      replace BK4 := Aside0.mk (blk_ch hc BK4.out (Or.inr (Nat.zero_le _)))
      replace Mu := Aside0.mk (R4_ch Mu.out hc (Or.inr (Or.inr (Nat.zero_le _))))
      replace BK8 := Aside0.mk (blk_ch hc BK8.out (Or.inr (Nat.zero_le _)))
      replace My := Aside0.mk (R4_ch My.out hc (Or.inr (Or.inr (Nat.zero_le _))))
      replace BK10 := Aside0.mk (blk_ch hc BK10.out (Or.inr (Nat.zero_le _)))
      replace BK11 := Aside0.mk (blk_ch hc BK11.out (Or.inr (Nat.zero_le _)))
      replace HB := Aside0.mk (below_ch HB.out hc (Or.inl (Nat.le_refl _)))
      replace S := Aside0.mk (Nat.le_trans S.out hc.size)
      clear hc hb
      refine hK.out _ _ ⟨BK10.out, BK4.out⟩ (fun hHeld => ?_)
      clear hK K
      refine norm_ (a' := ?_) ?_ ?_
      rotate_left
      · show Act.put _ (some 37) _ = _
        simp only [Act.put, List.setIfInBounds_toArray, List.set_cons_zero, List.set_cons_succ, i64_w, i32_w]
        rfl
      refine one_ (i := 4) (N := some 39) #[true, true, true, true, true, false, false, false, true, false, false] rfl rfl (by kernel_rfl) (by decide) (fun K hK => ?_)
      refine goes_ Try.func37 (by kernel_rfl) rfl #[.agg #[.slice Ay_0 la_0.length cy_0, .slice Ay_1 la_1.length cy_1, .bool ba_2, .bool ba_3, .bool ba_4, .bool ba_5, .slice Ay_6 la_6.length cy_6, .slice Ay_7 la_7.length cy_7, .int .i64 ba_8], .agg #[.int .i64 p0, .int .i64 p1], .int .i64 n] (by rfl) rfl rfl (by (try simp only [List.map_toArray, List.map_cons, List.map_nil]); first | done | rfl) ?_
      refine (impl4 k Ay_0 cy_0 _ la_0 Ay_1 cy_1 _ la_1 ba_2 ba_3 ba_4 ba_5 Ay_6 cy_6 _ la_6 Ay_7 cy_7 _ la_7 ba_8 p0 p1 n lo_0 lo_1 bo_2 bo_3 bo_4 bo_5 lo_6 lo_7 bo_8 ok _ _ _ My.out Him.out).mono ?_
      rintro e w' ⟨Av_0, cv_0, Av_1, cv_1, Av_6, cv_6, Av_7, cv_7, lov, hiv, rfl, h1, h2, h3, hR, hc⟩
      refine ⟨_, rfl, ?_⟩
      have F118 : Aside0 (g11 + 1 ≤ lov) := Aside0.mk (Nat.le_trans S.out h1)
      have F119 : Aside0 (lov ≤ hiv) := Aside0.mk h2
      replace BK3 := Aside0.mk (blk_ch hc BK3.out (Or.inr (Nat.zero_le _)))
      replace BK4 := Aside0.mk (blk_ch hc BK4.out (Or.inr (Nat.zero_le _)))
      replace Mu := Aside0.mk (R4_ch Mu.out hc (Or.inr (Or.inr (Nat.zero_le _))))
      replace BK8 := Aside0.mk (blk_ch hc BK8.out (Or.inr (Nat.zero_le _)))
      replace My := Aside0.mk (R4_ch My.out hc (Or.inr (Or.inr (Nat.zero_le _))))
      replace BK10 := Aside0.mk (blk_ch hc BK10.out (Or.inr (Nat.zero_le _)))
      replace BK11 := Aside0.mk (blk_ch hc BK11.out (Or.inr (Nat.zero_le _)))
      replace HB := Aside0.mk (below_ch HB.out hc (Or.inl (Nat.le_refl _)))
      replace S := Aside0.mk (Nat.le_trans S.out hc.size)
      clear S
      have S := Aside0.mk h3
      have Mv := Aside0.mk hR
      clear h1 h2 h3 hR hc
      refine hK.out _ _ ⟨BK10.out, BK4.out⟩ (fun hHeld => ?_)
      clear hK K
      refine norm_ (a' := ?_) ?_ ?_
      rotate_left
      · show Act.put _ (some 39) _ = _
        simp only [Act.put, List.setIfInBounds_toArray, List.set_cons_zero, List.set_cons_succ, i64_w, i32_w]
        rfl
      refine pure_ (i := 5) (N := some 34) (v := ?_) (a' := ?_) #[true, true, true, true, true, true, false, false, true, false, false] rfl rfl (by kernel_rfl) (fun _ _ _ h => h) (Or.inl ⟨by rfl, ?_⟩) ?_ ?_
      rotate_left
      · intro w'
        go_simp
        with_reducible rfl
      rotate_left
      · simp only [Act.put, List.setIfInBounds_toArray, List.set_cons_zero, List.set_cons_succ, i64_w, i32_w]
        rfl
      refine pure_ (i := 6) (N := some 40) (v := ?_) (a' := ?_) #[true, true, true, true, true, true, true, false, true, false, false] rfl rfl (by kernel_rfl) (fun _ _ _ h => h) (Or.inl ⟨by rfl, ?_⟩) ?_ ?_
      rotate_left
      · intro w'
        go_simp
        with_reducible rfl
      rotate_left
      · simp only [Act.put, List.setIfInBounds_toArray, List.set_cons_zero, List.set_cons_succ, i64_w, i32_w]
        rfl
      refine pure_ (i := 7) (N := some 41) (v := ?_) (a' := ?_) #[true, true, true, true, true, true, true, true, true, false, false] rfl rfl (by kernel_rfl) (fun _ _ _ h => h) (Or.inl ⟨by rfl, ?_⟩) ?_ ?_
      rotate_left
      · intro w'
        go_simp
        with_reducible rfl
      rotate_left
      · simp only [Act.put, List.setIfInBounds_toArray, List.set_cons_zero, List.set_cons_succ, i64_w, i32_w]
        rfl
      exact norm_ (by simp only [putAll, Act.put, List.setIfInBounds_toArray, List.set_cons_zero, List.set_cons_succ]) (hCont (Av_0, cv_0, Av_1, cv_1, Av_6, cv_6, Av_7, cv_7, lov, hiv, g11, w'.heap.size) _ ⟨hHeld, BK3.out, BK4.out, Mu.out, BK8.out, My.out, BK10.out, Mv.out, BK11.out, HB.out, (by (try dsimp only); have := F1.out; have := F2.out; have := F108.out; have := F109.out; have := F110.out; have := F111.out; have := F112.out; have := F113.out; have := F114.out; have := F115.out; have := F116.out; have := F117.out; have := F118.out; have := F119.out; have := S.out; omega), (by (try dsimp only); have := F1.out; have := F2.out; have := F108.out; have := F109.out; have := F110.out; have := F111.out; have := F112.out; have := F113.out; have := F114.out; have := F115.out; have := F116.out; have := F117.out; have := F118.out; have := F119.out; have := S.out; omega), (by (try dsimp only); have := F1.out; have := F2.out; have := F108.out; have := F109.out; have := F110.out; have := F111.out; have := F112.out; have := F113.out; have := F114.out; have := F115.out; have := F116.out; have := F117.out; have := F118.out; have := F119.out; have := S.out; omega), (by (try dsimp only); have := F1.out; have := F2.out; have := F108.out; have := F109.out; have := F110.out; have := F111.out; have := F112.out; have := F113.out; have := F114.out; have := F115.out; have := F116.out; have := F117.out; have := F118.out; have := F119.out; have := S.out; omega), (by (try dsimp only); have := F1.out; have := F2.out; have := F108.out; have := F109.out; have := F110.out; have := F111.out; have := F112.out; have := F113.out; have := F114.out; have := F115.out; have := F116.out; have := F117.out; have := F118.out; have := F119.out; have := S.out; omega), (by (try dsimp only); have := F1.out; have := F2.out; have := F108.out; have := F109.out; have := F110.out; have := F111.out; have := F112.out; have := F113.out; have := F114.out; have := F115.out; have := F116.out; have := F117.out; have := F118.out; have := F119.out; have := S.out; omega), (by (try dsimp only); have := F1.out; have := F2.out; have := F108.out; have := F109.out; have := F110.out; have := F111.out; have := F112.out; have := F113.out; have := F114.out; have := F115.out; have := F116.out; have := F117.out; have := F118.out; have := F119.out; have := S.out; omega)⟩)
  clear HB S BK3 BK4 Mu BK8 My BK10
  rintro ⟨Av_0, cv_0, Av_1, cv_1, Av_6, cv_6, Av_7, cv_7, lov, hiv, g11, tp⟩ w' ⟨hHeld, h0_, h1_, h2_, h3_, h4_, h5_, h6_, h7_, h8_, h9_, h10_, h11_, h12_, h13_, h14_, h15_⟩
  have BK3 : Aside0 (w'.heap[g3]? = some (.cells #[.slice Aa_0 la_0.length ca_0, .slice Aa_1 la_1.length ca_1, .bool ba_2, .bool ba_3, .bool ba_4, .bool ba_5, .slice Aa_6 la_6.length ca_6, .slice Aa_7 la_7.length ca_7, .int .i64 ba_8] 24 (0, 0))) := ⟨h0_⟩
  have BK4 : Aside0 (w'.heap[g4]? = some (.cells #[.int .i64 p0, .int .i64 p1] 36 (0, 0))) := ⟨h1_⟩
  have Mu : Aside0 (R4 w' lou hiu (.slice Au_0 lo_0.length cu_0) (.slice Au_1 lo_1.length cu_1) (.slice Au_6 lo_6.length cu_6) (.slice Au_7 lo_7.length cu_7) lo_0 lo_1 lo_6 lo_7) := ⟨h2_⟩
  have BK8 : Aside0 (w'.heap[g8]? = some (.cells #[.slice Au_0 lo_0.length cu_0, .slice Au_1 lo_1.length cu_1, .bool bo_2, .bool bo_3, .bool bo_4, .bool bo_5, .slice Au_6 lo_6.length cu_6, .slice Au_7 lo_7.length cu_7, .int .i64 bo_8] 28 (0, 0))) := ⟨h3_⟩
  have My : Aside0 (R4 w' loy hiy (.slice Ay_0 la_0.length cy_0) (.slice Ay_1 la_1.length cy_1) (.slice Ay_6 la_6.length cy_6) (.slice Ay_7 la_7.length cy_7) la_0 la_1 la_6 la_7) := ⟨h4_⟩
  have BK10 : Aside0 (w'.heap[g10]? = some (.cells #[.slice Ay_0 la_0.length cy_0, .slice Ay_1 la_1.length cy_1, .bool ba_2, .bool ba_3, .bool ba_4, .bool ba_5, .slice Ay_6 la_6.length cy_6, .slice Ay_7 la_7.length cy_7, .int .i64 ba_8] 28 (0, 0))) := ⟨h5_⟩
  have Mv : Aside0 (R4 w' lov hiv (.slice Av_0 lo_0.length cv_0) (.slice Av_1 lo_1.length cv_1) (.slice Av_6 lo_6.length cv_6) (.slice Av_7 lo_7.length cv_7) lo_0 lo_1 lo_6 lo_7) := ⟨h6_⟩
  have BK11 : Aside0 (w'.heap[g11]? = some (.cells #[.slice none 0 0, .slice none 0 0, .bool false, .bool false, .bool false, .bool false, .slice none 0 0, .slice none 0 0, .int .i64 0] 28 (0, 0))) := ⟨h7_⟩
  have HB : Aside0 (Below w.heap.size w w') := ⟨h8_⟩
  have F220 : Aside0 (g10 + 1 ≤ g11) := Aside0.mk h9_
  have F221 : Aside0 (g10 + 1 ≤ lov) := Aside0.mk h10_
  have F222 : Aside0 (lov ≤ hiv) := Aside0.mk h11_
  have F223 : Aside0 (g11 + 1 ≤ lov ∨ hiv ≤ g11) := Aside0.mk h12_
  have F224 : Aside0 (hiv ≤ tp) := Aside0.mk h13_
  have F225 : Aside0 (g11 + 1 ≤ tp) := Aside0.mk h14_
  have S : Aside0 (tp ≤ w'.heap.size) := ⟨h15_⟩
  clear h0_ h1_ h2_ h3_ h4_ h5_ h6_ h7_ h8_ h9_ h10_ h11_ h12_ h13_ h14_ h15_
  have hHeld : w'.heap[g10]? = some (.cells #[.slice Ay_0 la_0.length cy_0, .slice Ay_1 la_1.length cy_1, .bool ba_2, .bool ba_3, .bool ba_4, .bool ba_5, .slice Ay_6 la_6.length cy_6, .slice Ay_7 la_7.length cy_7, .int .i64 ba_8] 28 (0, 0)) ∧ w'.heap[g4]? = some (.cells #[.int .i64 p0, .int .i64 p1] 36 (0, 0)) := hHeld
  refine norm_ (a' := ?_) ?_ ?_
  rotate_left
  · simp only [putAll, Act.put, List.setIfInBounds_toArray, List.set_cons_zero, List.set_cons_succ]
    rfl
  refine one_ (i := 9) (N := none) #[true, true, true, true, true, true, true, true, true, true, false] rfl rfl (by kernel_rfl) (by decide) (fun K hK => ?_)
  refine store_struct_step (by rfl) rfl 28 (.tmp 11) (.tmp 40) rfl (cs := #[.slice Av_0 lo_0.length cv_0, .slice Av_1 lo_1.length cv_1, .bool bo_2, .bool bo_3, .bool bo_4, .bool bo_5, .slice Av_6 lo_6.length cv_6, .slice Av_7 lo_7.length cv_7, .int .i64 bo_8]) (by rfl) (by rfl) BK11.out (by kernel_rfl) rfl (by repeat (first | exact fun _ h => absurd h List.not_mem_nil | refine List.forall_mem_cons.2 ⟨rfl, ?_⟩)) ?_
  intro w' hbox hc
  replace BK3 := Aside0.mk (blk_ch hc BK3.out (by have := F1.out; have := F2.out; have := F108.out; have := F109.out; have := F110.out; have := F111.out; have := F112.out; have := F113.out; have := F114.out; have := F115.out; have := F116.out; have := F220.out; have := F221.out; have := F222.out; have := F223.out; have := F224.out; have := F225.out; have := S.out; omega))
  replace BK4 := Aside0.mk (blk_ch hc BK4.out (by have := F1.out; have := F2.out; have := F108.out; have := F109.out; have := F110.out; have := F111.out; have := F112.out; have := F113.out; have := F114.out; have := F115.out; have := F116.out; have := F220.out; have := F221.out; have := F222.out; have := F223.out; have := F224.out; have := F225.out; have := S.out; omega))
  replace Mu := Aside0.mk (R4_ch Mu.out hc (by have := F1.out; have := F2.out; have := F108.out; have := F109.out; have := F110.out; have := F111.out; have := F112.out; have := F113.out; have := F114.out; have := F115.out; have := F116.out; have := F220.out; have := F221.out; have := F222.out; have := F223.out; have := F224.out; have := F225.out; have := S.out; omega))
  replace BK8 := Aside0.mk (blk_ch hc BK8.out (by have := F1.out; have := F2.out; have := F108.out; have := F109.out; have := F110.out; have := F111.out; have := F112.out; have := F113.out; have := F114.out; have := F115.out; have := F116.out; have := F220.out; have := F221.out; have := F222.out; have := F223.out; have := F224.out; have := F225.out; have := S.out; omega))
  replace My := Aside0.mk (R4_ch My.out hc (by have := F1.out; have := F2.out; have := F108.out; have := F109.out; have := F110.out; have := F111.out; have := F112.out; have := F113.out; have := F114.out; have := F115.out; have := F116.out; have := F220.out; have := F221.out; have := F222.out; have := F223.out; have := F224.out; have := F225.out; have := S.out; omega))
  replace BK10 := Aside0.mk (blk_ch hc BK10.out (by have := F1.out; have := F2.out; have := F108.out; have := F109.out; have := F110.out; have := F111.out; have := F112.out; have := F113.out; have := F114.out; have := F115.out; have := F116.out; have := F220.out; have := F221.out; have := F222.out; have := F223.out; have := F224.out; have := F225.out; have := S.out; omega))
  replace Mv := Aside0.mk (R4_ch Mv.out hc (by have := F1.out; have := F2.out; have := F108.out; have := F109.out; have := F110.out; have := F111.out; have := F112.out; have := F113.out; have := F114.out; have := F115.out; have := F116.out; have := F220.out; have := F221.out; have := F222.out; have := F223.out; have := F224.out; have := F225.out; have := S.out; omega))
  replace HB := Aside0.mk (below_ch HB.out hc (Or.inr (by have := F1.out; have := F2.out; have := F108.out; have := F109.out; have := F110.out; have := F111.out; have := F112.out; have := F113.out; have := F114.out; have := F115.out; have := F116.out; have := F220.out; have := F221.out; have := F222.out; have := F223.out; have := F224.out; have := F225.out; have := S.out; omega)))
  replace S := Aside0.mk (Nat.le_trans S.out hc.size)
  clear BK11
  have BK11 := Aside0.mk hbox
  clear hbox hc
  refine hK.out _ _ ⟨BK10.out, BK4.out⟩ (fun hHeld => ?_)
  clear hK K
  refine pure_ (i := 10) (N := some 12) (v := ?_) (a' := ?_) #[true, true, true, true, true, true, true, true, true, true, true] rfl rfl (by kernel_rfl) (fun _ _ _ h => h) (Or.inl ⟨by rfl, ?_⟩) ?_ ?_
  rotate_left
  · intro w'
    go_simp
    with_reducible rfl
  rotate_left
  · simp only [Act.put, List.setIfInBounds_toArray, List.set_cons_zero, List.set_cons_succ, i64_w, i32_w]
    rfl
  refine done_ (by kernel_rfl) ?_
  go_wp2_with (first
    | ((with_reducible refine gate_ (.load 28 (.tmp 11)) rfl ?_); (try (refine gate_guard (by rfl) ?_; dsimp only)); refine wpList_load_row rfl 28 (.tmp 11) rfl g11 rfl 28 _ _ _ BK11.out Try.underlying28 rfl (by kernel_rfl) ?_)
    | ((with_reducible refine gate_ (.load 28 (.tmp 8)) rfl ?_); (try (refine gate_guard (by rfl) ?_; dsimp only)); refine wpList_load_row rfl 28 (.tmp 8) rfl g8 rfl 28 _ _ _ BK8.out Try.underlying28 rfl (by kernel_rfl) ?_)
    | ((with_reducible refine gate_callee (f := 19) rfl ?_); (try (refine gate_guard (by rfl) ?_; dsimp only)); refine goesL_ (some 44) rfl rfl Try.func19 (by kernel_rfl) rfl #[.agg #[.slice Av_0 lo_0.length cv_0, .slice Av_1 lo_1.length cv_1, .bool bo_2, .bool bo_3, .bool bo_4, .bool bo_5, .slice Av_6 lo_6.length cv_6, .slice Av_7 lo_7.length cv_7, .int .i64 bo_8], .agg #[.slice Au_0 lo_0.length cu_0, .slice Au_1 lo_1.length cu_1, .bool bo_2, .bool bo_3, .bool bo_4, .bool bo_5, .slice Au_6 lo_6.length cu_6, .slice Au_7 lo_7.length cu_7, .int .i64 bo_8]] rfl (by (try simp only [List.map_toArray, List.map_cons, List.map_nil]); first | done | rfl) ?_; refine (eq4 k Av_0 cv_0 _ lo_0 Av_1 cv_1 _ lo_1 bo_2 bo_3 bo_4 bo_5 Av_6 cv_6 _ lo_6 Av_7 cv_7 _ lo_7 bo_8 Au_0 cu_0 _ lo_0 Au_1 cu_1 _ lo_1 bo_2 bo_3 bo_4 bo_5 Au_6 cu_6 _ lo_6 Au_7 cu_7 _ lo_7 bo_8 true _ _ _ _ _ Mv.out Mu.out Heo.out).mono ?_; rintro e w' ⟨rfl, hc⟩; refine ⟨_, rfl, ?_⟩; replace BK3 := Aside0.mk (blk_ch hc BK3.out (Or.inr (Nat.zero_le _))); replace BK4 := Aside0.mk (blk_ch hc BK4.out (Or.inr (Nat.zero_le _))); replace Mu := Aside0.mk (R4_ch Mu.out hc (Or.inr (Or.inr (Nat.zero_le _)))); replace BK8 := Aside0.mk (blk_ch hc BK8.out (Or.inr (Nat.zero_le _))); replace My := Aside0.mk (R4_ch My.out hc (Or.inr (Or.inr (Nat.zero_le _)))); replace BK10 := Aside0.mk (blk_ch hc BK10.out (Or.inr (Nat.zero_le _))); replace Mv := Aside0.mk (R4_ch Mv.out hc (Or.inr (Or.inr (Nat.zero_le _)))); replace BK11 := Aside0.mk (blk_ch hc BK11.out (Or.inr (Nat.zero_le _))); replace HB := Aside0.mk (below_ch HB.out hc (Or.inl (Nat.le_refl _))); replace S := Aside0.mk (Nat.le_trans S.out hc.size); clear hc))
  have hc := Ch.drew w'
  replace BK3 := Aside0.mk (blk_ch hc BK3.out (Or.inr (Nat.zero_le _)))
  replace BK4 := Aside0.mk (blk_ch hc BK4.out (Or.inr (Nat.zero_le _)))
  replace Mu := Aside0.mk (R4_ch Mu.out hc (Or.inr (Or.inr (Nat.zero_le _))))
  replace BK8 := Aside0.mk (blk_ch hc BK8.out (Or.inr (Nat.zero_le _)))
  replace My := Aside0.mk (R4_ch My.out hc (Or.inr (Or.inr (Nat.zero_le _))))
  replace BK10 := Aside0.mk (blk_ch hc BK10.out (Or.inr (Nat.zero_le _)))
  replace Mv := Aside0.mk (R4_ch Mv.out hc (Or.inr (Or.inr (Nat.zero_le _))))
  replace BK11 := Aside0.mk (blk_ch hc BK11.out (Or.inr (Nat.zero_le _)))
  replace HB := Aside0.mk (below_ch HB.out hc (Or.inl (Nat.le_refl _)))
  replace S := Aside0.mk (Nat.le_trans S.out hc.size)
  clear hc
  refine start_ (n := 5) (S := fun w' => w'.heap[g10]? = some (.cells #[.slice Ay_0 la_0.length cy_0, .slice Ay_1 la_1.length cy_1, .bool ba_2, .bool ba_3, .bool ba_4, .bool ba_5, .slice Ay_6 la_6.length cy_6, .slice Ay_7 la_7.length cy_7, .int .i64 ba_8] 28 (0, 0)) ∧ w'.heap[g3]? = some (.cells #[.slice Aa_0 la_0.length ca_0, .slice Aa_1 la_1.length ca_1, .bool ba_2, .bool ba_3, .bool ba_4, .bool ba_5, .slice Aa_6 la_6.length ca_6, .slice Aa_7 la_7.length ca_7, .int .i64 ba_8] 24 (0, 0))) (ds := []) #[false, false, false, false, false] (by kernel_rfl) rfl rfl ⟨BK10.out, BK3.out⟩ (fun hHeld => ?_)
  generalize w'.drew = w' at BK3 BK4 Mu BK8 My BK10 Mv BK11 HB S hHeld ⊢
  refine take_ (i := 0) (N := some 51) (v := .agg #[.slice Ay_0 la_0.length cy_0, .slice Ay_1 la_1.length cy_1, .bool ba_2, .bool ba_3, .bool ba_4, .bool ba_5, .slice Ay_6 la_6.length cy_6, .slice Ay_7 la_7.length cy_7, .int .i64 ba_8]) (a' := ?_) #[true, false, false, false, false] rfl rfl (by kernel_rfl) (fun _ _ _ h => h) (Or.inl ⟨by rfl, ?_⟩) hHeld ?_ ?_
  · rintro w' ⟨s0, s1⟩
    exact load_yields 28 (.tmp 10) (by rfl) g10 (by rfl) 28 _ _ s0 Try.underlying28 rfl (by kernel_rfl)
  rotate_left
  · simp only [Act.put, List.setIfInBounds_toArray, List.set_cons_zero, List.set_cons_succ, i64_w, i32_w]
    rfl
  refine take_ (i := 1) (N := some 52) (v := .agg #[.slice Aa_0 la_0.length ca_0, .slice Aa_1 la_1.length ca_1, .bool ba_2, .bool ba_3, .bool ba_4, .bool ba_5, .slice Aa_6 la_6.length ca_6, .slice Aa_7 la_7.length ca_7, .int .i64 ba_8]) (a' := ?_) #[true, true, false, false, false] rfl rfl (by kernel_rfl) (fun _ _ _ h => h) (Or.inl ⟨by rfl, ?_⟩) hHeld ?_ ?_
  · rintro w' ⟨s0, s1⟩
    exact load_yields 24 (.tmp 3) (by rfl) g3 (by rfl) 24 _ _ s1 Try.underlying24 rfl (by kernel_rfl)
  rotate_left
  · simp only [Act.put, List.setIfInBounds_toArray, List.set_cons_zero, List.set_cons_succ, i64_w, i32_w]
    rfl
  refine one_ (i := 2) (N := some 53) #[true, true, true, false, false] rfl rfl (by kernel_rfl) (by decide) (fun K hK => ?_)
  refine goes_ Try.func17 (by kernel_rfl) rfl #[.agg #[.slice Aa_0 la_0.length ca_0, .slice Aa_1 la_1.length ca_1, .bool ba_2, .bool ba_3, .bool ba_4, .bool ba_5, .slice Aa_6 la_6.length ca_6, .slice Aa_7 la_7.length ca_7, .int .i64 ba_8]] (by rfl) rfl rfl (by (try simp only [List.map_toArray, List.map_cons, List.map_nil]); first | done | rfl) ?_
  refine (to4 k Aa_0 ca_0 la_0 Aa_1 ca_1 la_1 ba_2 ba_3 ba_4 ba_5 Aa_6 ca_6 la_6 Aa_7 ca_7 la_7 ba_8 la_0 la_1 ba_2 ba_3 ba_4 ba_5 la_6 la_7 ba_8 w _ HB.out HR0.out HC0.out HR1.out HC1.out HR6.out HC6.out HR7.out HC7.out Hto.out).mono ?_
  rintro e w' ⟨Az_0, cz_0, Az_1, cz_1, Az_6, cz_6, Az_7, cz_7, loz, hiz, rfl, h1, h2, h3, hR, hc⟩
  refine ⟨_, rfl, ?_⟩
  have F226 : Aside0 (tp ≤ loz) := Aside0.mk (Nat.le_trans S.out h1)
  have F227 : Aside0 (loz ≤ hiz) := Aside0.mk h2
  replace BK3 := Aside0.mk (blk_ch hc BK3.out (Or.inr (Nat.zero_le _)))
  replace BK4 := Aside0.mk (blk_ch hc BK4.out (Or.inr (Nat.zero_le _)))
  replace Mu := Aside0.mk (R4_ch Mu.out hc (Or.inr (Or.inr (Nat.zero_le _))))
  replace BK8 := Aside0.mk (blk_ch hc BK8.out (Or.inr (Nat.zero_le _)))
  replace My := Aside0.mk (R4_ch My.out hc (Or.inr (Or.inr (Nat.zero_le _))))
  replace BK10 := Aside0.mk (blk_ch hc BK10.out (Or.inr (Nat.zero_le _)))
  replace Mv := Aside0.mk (R4_ch Mv.out hc (Or.inr (Or.inr (Nat.zero_le _))))
  replace BK11 := Aside0.mk (blk_ch hc BK11.out (Or.inr (Nat.zero_le _)))
  replace HB := Aside0.mk (below_ch HB.out hc (Or.inl (Nat.le_refl _)))
  replace S := Aside0.mk (Nat.le_trans S.out hc.size)
  clear S
  have S := Aside0.mk h3
  have Mz := Aside0.mk hR
  clear h1 h2 h3 hR hc
  refine hK.out _ _ ⟨BK10.out, BK3.out⟩ (fun hHeld => ?_)
  clear hK K
  refine norm_ (a' := ?_) ?_ ?_
  rotate_left
  · show Act.put _ (some 53) _ = _
    simp only [Act.put, List.setIfInBounds_toArray, List.set_cons_zero, List.set_cons_succ, i64_w, i32_w]
    rfl
  refine one_ (i := 3) (N := some 54) #[true, true, true, true, false] rfl rfl (by kernel_rfl) (by decide) (fun K hK => ?_)
  refine goes_ Try.func19 (by kernel_rfl) rfl #[.agg #[.slice Ay_0 la_0.length cy_0, .slice Ay_1 la_1.length cy_1, .bool ba_2, .bool ba_3, .bool ba_4, .bool ba_5, .slice Ay_6 la_6.length cy_6, .slice Ay_7 la_7.length cy_7, .int .i64 ba_8], .agg #[.slice Az_0 la_0.length cz_0, .slice Az_1 la_1.length cz_1, .bool ba_2, .bool ba_3, .bool ba_4, .bool ba_5, .slice Az_6 la_6.length cz_6, .slice Az_7 la_7.length cz_7, .int .i64 ba_8]] (by rfl) rfl rfl (by (try simp only [List.map_toArray, List.map_cons, List.map_nil]); first | done | rfl) ?_
  refine (eq4 k Ay_0 cy_0 _ la_0 Ay_1 cy_1 _ la_1 ba_2 ba_3 ba_4 ba_5 Ay_6 cy_6 _ la_6 Ay_7 cy_7 _ la_7 ba_8 Az_0 cz_0 _ la_0 Az_1 cz_1 _ la_1 ba_2 ba_3 ba_4 ba_5 Az_6 cz_6 _ la_6 Az_7 cz_7 _ la_7 ba_8 true _ _ _ _ _ My.out Mz.out Hel.out).mono ?_
  rintro e w' ⟨rfl, hc⟩
  refine ⟨_, rfl, ?_⟩
  replace BK3 := Aside0.mk (blk_ch hc BK3.out (Or.inr (Nat.zero_le _)))
  replace BK4 := Aside0.mk (blk_ch hc BK4.out (Or.inr (Nat.zero_le _)))
  replace Mu := Aside0.mk (R4_ch Mu.out hc (Or.inr (Or.inr (Nat.zero_le _))))
  replace BK8 := Aside0.mk (blk_ch hc BK8.out (Or.inr (Nat.zero_le _)))
  replace My := Aside0.mk (R4_ch My.out hc (Or.inr (Or.inr (Nat.zero_le _))))
  replace BK10 := Aside0.mk (blk_ch hc BK10.out (Or.inr (Nat.zero_le _)))
  replace Mv := Aside0.mk (R4_ch Mv.out hc (Or.inr (Or.inr (Nat.zero_le _))))
  replace BK11 := Aside0.mk (blk_ch hc BK11.out (Or.inr (Nat.zero_le _)))
  replace Mz := Aside0.mk (R4_ch Mz.out hc (Or.inr (Or.inr (Nat.zero_le _))))
  replace HB := Aside0.mk (below_ch HB.out hc (Or.inl (Nat.le_refl _)))
  replace S := Aside0.mk (Nat.le_trans S.out hc.size)
  clear hc
  refine hK.out _ _ ⟨BK10.out, BK3.out⟩ (fun hHeld => ?_)
  clear hK K
  refine norm_ (a' := ?_) ?_ ?_
  rotate_left
  · show Act.put _ (some 54) _ = _
    simp only [Act.put, List.setIfInBounds_toArray, List.set_cons_zero, List.set_cons_succ, i64_w, i32_w]
    rfl
  refine pure_ (i := 4) (N := some 55) (v := ?_) (a' := ?_) #[true, true, true, true, true] rfl rfl (by kernel_rfl) (fun _ _ _ h => h) (Or.inl ⟨by rfl, ?_⟩) ?_ ?_
  rotate_left
  · intro w'
    go_simp
    with_reducible rfl
  rotate_left
  · simp only [Act.put, List.setIfInBounds_toArray, List.set_cons_zero, List.set_cons_succ, i64_w, i32_w]
    rfl
  refine done_ (by kernel_rfl) ?_
  clear Mz
  go_wp2_with (first
    | ((with_reducible refine gate_ (.load 28 (.tmp 10)) rfl ?_); (try (refine gate_guard (by rfl) ?_; dsimp only)); refine wpList_load_row rfl 28 (.tmp 10) rfl g10 rfl 28 _ _ _ BK10.out Try.underlying28 rfl (by kernel_rfl) ?_)
    | ((with_reducible refine gate_ (.load 28 (.tmp 11)) rfl ?_); (try (refine gate_guard (by rfl) ?_; dsimp only)); refine wpList_load_row rfl 28 (.tmp 11) rfl g11 rfl 28 _ _ _ BK11.out Try.underlying28 rfl (by kernel_rfl) ?_)
    | ((with_reducible refine gate_ (.load 28 (.tmp 8)) rfl ?_); (try (refine gate_guard (by rfl) ?_; dsimp only)); refine wpList_load_row rfl 28 (.tmp 8) rfl g8 rfl 28 _ _ _ BK8.out Try.underlying28 rfl (by kernel_rfl) ?_)
    | ((with_reducible refine gate_ (.load 24 (.tmp 3)) rfl ?_); (try (refine gate_guard (by rfl) ?_; dsimp only)); refine wpList_load_row rfl 24 (.tmp 3) rfl g3 rfl 24 _ _ _ BK3.out Try.underlying24 rfl (by kernel_rfl) ?_)
    | ((with_reducible refine gate_callee (f := 32) rfl ?_); (try (refine gate_guard (by rfl) ?_; dsimp only)); refine goesL_ (some 58) rfl rfl Try.func32 (by kernel_rfl) rfl #[.agg #[.slice Ay_0 la_0.length cy_0, .slice Ay_1 la_1.length cy_1, .bool ba_2, .bool ba_3, .bool ba_4, .bool ba_5, .slice Ay_6 la_6.length cy_6, .slice Ay_7 la_7.length cy_7, .int .i64 ba_8], .int .i64 1] rfl (by (try simp only [List.map_toArray, List.map_cons, List.map_nil]); first | done | rfl) ?_; refine (mark4 k (.slice Ay_0 la_0.length cy_0) (.slice Ay_1 la_1.length cy_1) (.slice Ay_6 la_6.length cy_6) (.slice Ay_7 la_7.length cy_7) la_0 la_1 ba_2 ba_3 ba_4 ba_5 la_6 la_7 ba_8 1 m0 lp_0 lp_1 lp_6 lp_7 _ _ w _ HB.out (by have := F1.out; have := F2.out; have := F108.out; have := F109.out; have := F110.out; have := F111.out; have := F112.out; have := F113.out; have := F114.out; have := F115.out; have := F116.out; have := F220.out; have := F221.out; have := F222.out; have := F223.out; have := F224.out; have := F225.out; have := F226.out; have := F227.out; have := S.out; omega) My.out Hm0.out).mono ?_; rintro e w' ⟨rfl, hR, hc⟩; refine ⟨_, rfl, ?_⟩; replace BK3 := Aside0.mk (blk_ch hc BK3.out (by have := F1.out; have := F2.out; have := F108.out; have := F109.out; have := F110.out; have := F111.out; have := F112.out; have := F113.out; have := F114.out; have := F115.out; have := F116.out; have := F220.out; have := F221.out; have := F222.out; have := F223.out; have := F224.out; have := F225.out; have := F226.out; have := F227.out; have := S.out; omega)); replace BK4 := Aside0.mk (blk_ch hc BK4.out (by have := F1.out; have := F2.out; have := F108.out; have := F109.out; have := F110.out; have := F111.out; have := F112.out; have := F113.out; have := F114.out; have := F115.out; have := F116.out; have := F220.out; have := F221.out; have := F222.out; have := F223.out; have := F224.out; have := F225.out; have := F226.out; have := F227.out; have := S.out; omega)); replace Mu := Aside0.mk (R4_ch Mu.out hc (by have := F1.out; have := F2.out; have := F108.out; have := F109.out; have := F110.out; have := F111.out; have := F112.out; have := F113.out; have := F114.out; have := F115.out; have := F116.out; have := F220.out; have := F221.out; have := F222.out; have := F223.out; have := F224.out; have := F225.out; have := F226.out; have := F227.out; have := S.out; omega)); replace BK8 := Aside0.mk (blk_ch hc BK8.out (by have := F1.out; have := F2.out; have := F108.out; have := F109.out; have := F110.out; have := F111.out; have := F112.out; have := F113.out; have := F114.out; have := F115.out; have := F116.out; have := F220.out; have := F221.out; have := F222.out; have := F223.out; have := F224.out; have := F225.out; have := F226.out; have := F227.out; have := S.out; omega)); replace BK10 := Aside0.mk (blk_ch hc BK10.out (by have := F1.out; have := F2.out; have := F108.out; have := F109.out; have := F110.out; have := F111.out; have := F112.out; have := F113.out; have := F114.out; have := F115.out; have := F116.out; have := F220.out; have := F221.out; have := F222.out; have := F223.out; have := F224.out; have := F225.out; have := F226.out; have := F227.out; have := S.out; omega)); replace Mv := Aside0.mk (R4_ch Mv.out hc (by have := F1.out; have := F2.out; have := F108.out; have := F109.out; have := F110.out; have := F111.out; have := F112.out; have := F113.out; have := F114.out; have := F115.out; have := F116.out; have := F220.out; have := F221.out; have := F222.out; have := F223.out; have := F224.out; have := F225.out; have := F226.out; have := F227.out; have := S.out; omega)); replace BK11 := Aside0.mk (blk_ch hc BK11.out (by have := F1.out; have := F2.out; have := F108.out; have := F109.out; have := F110.out; have := F111.out; have := F112.out; have := F113.out; have := F114.out; have := F115.out; have := F116.out; have := F220.out; have := F221.out; have := F222.out; have := F223.out; have := F224.out; have := F225.out; have := F226.out; have := F227.out; have := S.out; omega)); replace HB := Aside0.mk (below_ch HB.out hc (Or.inr (by have := F1.out; have := F2.out; have := F108.out; have := F109.out; have := F110.out; have := F111.out; have := F112.out; have := F113.out; have := F114.out; have := F115.out; have := F116.out; have := F220.out; have := F221.out; have := F222.out; have := F223.out; have := F224.out; have := F225.out; have := F226.out; have := F227.out; have := S.out; omega))); replace S := Aside0.mk (Nat.le_trans S.out hc.size); clear My; have My := Aside0.mk hR; clear hR hc)
    | ((with_reducible refine gate_callee (f := 19) rfl ?_); (try (refine gate_guard (by rfl) ?_; dsimp only)); refine goesL_ (some 64) rfl rfl Try.func19 (by kernel_rfl) rfl #[.agg #[.slice Av_0 lo_0.length cv_0, .slice Av_1 lo_1.length cv_1, .bool bo_2, .bool bo_3, .bool bo_4, .bool bo_5, .slice Av_6 lo_6.length cv_6, .slice Av_7 lo_7.length cv_7, .int .i64 bo_8], .agg #[.slice Au_0 lo_0.length cu_0, .slice Au_1 lo_1.length cu_1, .bool bo_2, .bool bo_3, .bool bo_4, .bool bo_5, .slice Au_6 lo_6.length cu_6, .slice Au_7 lo_7.length cu_7, .int .i64 bo_8]] rfl (by (try simp only [List.map_toArray, List.map_cons, List.map_nil]); first | done | rfl) ?_; refine (eq4 k Av_0 cv_0 _ lo_0 Av_1 cv_1 _ lo_1 bo_2 bo_3 bo_4 bo_5 Av_6 cv_6 _ lo_6 Av_7 cv_7 _ lo_7 bo_8 Au_0 cu_0 _ lo_0 Au_1 cu_1 _ lo_1 bo_2 bo_3 bo_4 bo_5 Au_6 cu_6 _ lo_6 Au_7 cu_7 _ lo_7 bo_8 true _ _ _ _ _ Mv.out Mu.out Heo.out).mono ?_; rintro e w' ⟨rfl, hc⟩; refine ⟨_, rfl, ?_⟩; replace BK3 := Aside0.mk (blk_ch hc BK3.out (Or.inr (Nat.zero_le _))); replace BK4 := Aside0.mk (blk_ch hc BK4.out (Or.inr (Nat.zero_le _))); replace Mu := Aside0.mk (R4_ch Mu.out hc (Or.inr (Or.inr (Nat.zero_le _)))); replace BK8 := Aside0.mk (blk_ch hc BK8.out (Or.inr (Nat.zero_le _))); replace My := Aside0.mk (R4_ch My.out hc (Or.inr (Or.inr (Nat.zero_le _)))); replace BK10 := Aside0.mk (blk_ch hc BK10.out (Or.inr (Nat.zero_le _))); replace Mv := Aside0.mk (R4_ch Mv.out hc (Or.inr (Or.inr (Nat.zero_le _)))); replace BK11 := Aside0.mk (blk_ch hc BK11.out (Or.inr (Nat.zero_le _))); replace HB := Aside0.mk (below_ch HB.out hc (Or.inl (Nat.le_refl _))); replace S := Aside0.mk (Nat.le_trans S.out hc.size); clear hc)
    | ((with_reducible refine gate_callee (f := 32) rfl ?_); (try (refine gate_guard (by rfl) ?_; dsimp only)); refine goesL_ (some 74) rfl rfl Try.func32 (by kernel_rfl) rfl #[.agg #[.slice Av_0 lo_0.length cv_0, .slice Av_1 lo_1.length cv_1, .bool bo_2, .bool bo_3, .bool bo_4, .bool bo_5, .slice Av_6 lo_6.length cv_6, .slice Av_7 lo_7.length cv_7, .int .i64 bo_8], .int .i64 1] rfl (by (try simp only [List.map_toArray, List.map_cons, List.map_nil]); first | done | rfl) ?_; refine (mark4 k (.slice Av_0 lo_0.length cv_0) (.slice Av_1 lo_1.length cv_1) (.slice Av_6 lo_6.length cv_6) (.slice Av_7 lo_7.length cv_7) lo_0 lo_1 bo_2 bo_3 bo_4 bo_5 lo_6 lo_7 bo_8 1 m1 lq_0 lq_1 lq_6 lq_7 _ _ w _ HB.out (by have := F1.out; have := F2.out; have := F108.out; have := F109.out; have := F110.out; have := F111.out; have := F112.out; have := F113.out; have := F114.out; have := F115.out; have := F116.out; have := F220.out; have := F221.out; have := F222.out; have := F223.out; have := F224.out; have := F225.out; have := F226.out; have := F227.out; have := S.out; omega) Mv.out Hm1.out).mono ?_; rintro e w' ⟨rfl, hR, hc⟩; refine ⟨_, rfl, ?_⟩; replace BK3 := Aside0.mk (blk_ch hc BK3.out (by have := F1.out; have := F2.out; have := F108.out; have := F109.out; have := F110.out; have := F111.out; have := F112.out; have := F113.out; have := F114.out; have := F115.out; have := F116.out; have := F220.out; have := F221.out; have := F222.out; have := F223.out; have := F224.out; have := F225.out; have := F226.out; have := F227.out; have := S.out; omega)); replace BK4 := Aside0.mk (blk_ch hc BK4.out (by have := F1.out; have := F2.out; have := F108.out; have := F109.out; have := F110.out; have := F111.out; have := F112.out; have := F113.out; have := F114.out; have := F115.out; have := F116.out; have := F220.out; have := F221.out; have := F222.out; have := F223.out; have := F224.out; have := F225.out; have := F226.out; have := F227.out; have := S.out; omega)); replace Mu := Aside0.mk (R4_ch Mu.out hc (by have := F1.out; have := F2.out; have := F108.out; have := F109.out; have := F110.out; have := F111.out; have := F112.out; have := F113.out; have := F114.out; have := F115.out; have := F116.out; have := F220.out; have := F221.out; have := F222.out; have := F223.out; have := F224.out; have := F225.out; have := F226.out; have := F227.out; have := S.out; omega)); replace BK8 := Aside0.mk (blk_ch hc BK8.out (by have := F1.out; have := F2.out; have := F108.out; have := F109.out; have := F110.out; have := F111.out; have := F112.out; have := F113.out; have := F114.out; have := F115.out; have := F116.out; have := F220.out; have := F221.out; have := F222.out; have := F223.out; have := F224.out; have := F225.out; have := F226.out; have := F227.out; have := S.out; omega)); replace My := Aside0.mk (R4_ch My.out hc (by have := F1.out; have := F2.out; have := F108.out; have := F109.out; have := F110.out; have := F111.out; have := F112.out; have := F113.out; have := F114.out; have := F115.out; have := F116.out; have := F220.out; have := F221.out; have := F222.out; have := F223.out; have := F224.out; have := F225.out; have := F226.out; have := F227.out; have := S.out; omega)); replace BK10 := Aside0.mk (blk_ch hc BK10.out (by have := F1.out; have := F2.out; have := F108.out; have := F109.out; have := F110.out; have := F111.out; have := F112.out; have := F113.out; have := F114.out; have := F115.out; have := F116.out; have := F220.out; have := F221.out; have := F222.out; have := F223.out; have := F224.out; have := F225.out; have := F226.out; have := F227.out; have := S.out; omega)); replace BK11 := Aside0.mk (blk_ch hc BK11.out (by have := F1.out; have := F2.out; have := F108.out; have := F109.out; have := F110.out; have := F111.out; have := F112.out; have := F113.out; have := F114.out; have := F115.out; have := F116.out; have := F220.out; have := F221.out; have := F222.out; have := F223.out; have := F224.out; have := F225.out; have := F226.out; have := F227.out; have := S.out; omega)); replace HB := Aside0.mk (below_ch HB.out hc (Or.inr (by have := F1.out; have := F2.out; have := F108.out; have := F109.out; have := F110.out; have := F111.out; have := F112.out; have := F113.out; have := F114.out; have := F115.out; have := F116.out; have := F220.out; have := F221.out; have := F222.out; have := F223.out; have := F224.out; have := F225.out; have := F226.out; have := F227.out; have := S.out; omega))); replace S := Aside0.mk (Nat.le_trans S.out hc.size); clear Mv; have Mv := Aside0.mk hR; clear hR hc)
    | ((with_reducible refine gate_callee (f := 33) rfl ?_); (try (refine gate_guard (by rfl) ?_; dsimp only)); refine goesL_ (some 77) rfl rfl Try.func33 (by kernel_rfl) rfl #[.agg #[.slice Av_0 lo_0.length cv_0, .slice Av_1 lo_1.length cv_1, .bool bo_2, .bool bo_3, .bool bo_4, .bool bo_5, .slice Av_6 lo_6.length cv_6, .slice Av_7 lo_7.length cv_7, .int .i64 bo_8], .int .i64 1] rfl (by (try simp only [List.map_toArray, List.map_cons, List.map_nil]); first | done | rfl) ?_; refine (held4 k Av_0 cv_0 _ lq_0 Av_1 cv_1 _ lq_1 bo_2 bo_3 bo_4 bo_5 Av_6 cv_6 _ lq_6 Av_7 cv_7 _ lq_7 bo_8 1 m1 _ _ _ Mv.out Hh.out).mono ?_; rintro e w' ⟨rfl, hc⟩; refine ⟨_, rfl, ?_⟩; replace BK3 := Aside0.mk (blk_ch hc BK3.out (Or.inr (Nat.zero_le _))); replace BK4 := Aside0.mk (blk_ch hc BK4.out (Or.inr (Nat.zero_le _))); replace Mu := Aside0.mk (R4_ch Mu.out hc (Or.inr (Or.inr (Nat.zero_le _)))); replace BK8 := Aside0.mk (blk_ch hc BK8.out (Or.inr (Nat.zero_le _))); replace My := Aside0.mk (R4_ch My.out hc (Or.inr (Or.inr (Nat.zero_le _)))); replace BK10 := Aside0.mk (blk_ch hc BK10.out (Or.inr (Nat.zero_le _))); replace Mv := Aside0.mk (R4_ch Mv.out hc (Or.inr (Or.inr (Nat.zero_le _)))); replace BK11 := Aside0.mk (blk_ch hc BK11.out (Or.inr (Nat.zero_le _))); replace HB := Aside0.mk (below_ch HB.out hc (Or.inl (Nat.le_refl _))); replace S := Aside0.mk (Nat.le_trans S.out hc.size); clear hc))
  have hc := Ch.drew w'
  replace BK3 := Aside0.mk (blk_ch hc BK3.out (Or.inr (Nat.zero_le _)))
  replace BK4 := Aside0.mk (blk_ch hc BK4.out (Or.inr (Nat.zero_le _)))
  replace Mu := Aside0.mk (R4_ch Mu.out hc (Or.inr (Or.inr (Nat.zero_le _))))
  replace BK8 := Aside0.mk (blk_ch hc BK8.out (Or.inr (Nat.zero_le _)))
  replace My := Aside0.mk (R4_ch My.out hc (Or.inr (Or.inr (Nat.zero_le _))))
  replace BK10 := Aside0.mk (blk_ch hc BK10.out (Or.inr (Nat.zero_le _)))
  replace Mv := Aside0.mk (R4_ch Mv.out hc (Or.inr (Or.inr (Nat.zero_le _))))
  replace BK11 := Aside0.mk (blk_ch hc BK11.out (Or.inr (Nat.zero_le _)))
  replace HB := Aside0.mk (below_ch HB.out hc (Or.inl (Nat.le_refl _)))
  replace S := Aside0.mk (Nat.le_trans S.out hc.size)
  clear hc
  refine start_ (n := 12) (S := fun w' => w'.heap[g3]? = some (.cells #[.slice Aa_0 la_0.length ca_0, .slice Aa_1 la_1.length ca_1, .bool ba_2, .bool ba_3, .bool ba_4, .bool ba_5, .slice Aa_6 la_6.length ca_6, .slice Aa_7 la_7.length ca_7, .int .i64 ba_8] 24 (0, 0)) ∧ w'.heap[g4]? = some (.cells #[.int .i64 p0, .int .i64 p1] 36 (0, 0))) (ds := []) #[false, false, false, false, false, false, false, false, false, false, false, false] (by kernel_rfl) rfl rfl ⟨BK3.out, BK4.out⟩ (fun hHeld => ?_)
  generalize w'.drew = w' at BK3 BK4 Mu BK8 My BK10 Mv BK11 HB S hHeld ⊢
  refine pure_ (i := 4) (N := some 88) (v := ?_) (a' := ?_) #[false, false, false, false, true, false, false, false, false, false, false, false] rfl rfl (by kernel_rfl) (fun _ _ _ h => h) (Or.inl ⟨by rfl, ?_⟩) ?_ ?_
  rotate_left
  · intro w'
    go_simp
    with_reducible rfl
  rotate_left
  · simp only [Act.put, List.setIfInBounds_toArray, List.set_cons_zero, List.set_cons_succ, i64_w, i32_w]
    rfl
  refine take_ (i := 0) (N := some 84) (v := .agg #[.slice Aa_0 la_0.length ca_0, .slice Aa_1 la_1.length ca_1, .bool ba_2, .bool ba_3, .bool ba_4, .bool ba_5, .slice Aa_6 la_6.length ca_6, .slice Aa_7 la_7.length ca_7, .int .i64 ba_8]) (a' := ?_) #[true, false, false, false, true, false, false, false, false, false, false, false] rfl rfl (by kernel_rfl) (fun _ _ _ h => h) (Or.inl ⟨by rfl, ?_⟩) hHeld ?_ ?_
  · rintro w' ⟨s0, s1⟩
    exact load_yields 24 (.tmp 3) (by rfl) g3 (by rfl) 24 _ _ s0 Try.underlying24 rfl (by kernel_rfl)
  rotate_left
  · simp only [Act.put, List.setIfInBounds_toArray, List.set_cons_zero, List.set_cons_succ, i64_w, i32_w]
    rfl
  refine take_ (i := 2) (N := some 86) (v := .agg #[.int .i64 p0, .int .i64 p1]) (a' := ?_) #[true, false, true, false, true, false, false, false, false, false, false, false] rfl rfl (by kernel_rfl) (fun _ _ _ h => h) (Or.inl ⟨by rfl, ?_⟩) hHeld ?_ ?_
  · rintro w' ⟨s0, s1⟩
    exact load_yields 36 (.tmp 4) (by rfl) g4 (by rfl) 36 _ _ s1 Try.underlying36 rfl (by kernel_rfl)
  rotate_left
  · simp only [Act.put, List.setIfInBounds_toArray, List.set_cons_zero, List.set_cons_succ, i64_w, i32_w]
    rfl
  refine join_ (σ := Option Addr × Nat × Option Addr × Nat × Option Addr × Nat × Option Addr × Nat × Option Addr × Nat × Option Addr × Nat × Option Addr × Nat × Option Addr × Nat × Nat × Nat × Nat × Nat) 2 #[true, true, true, true, true, true, true, true, true, true, false, false] (fun s_ => [(85, .agg #[.slice s_.1 la_0.length s_.2.1, .slice s_.2.2.1 la_1.length s_.2.2.2.1, .bool ba_2, .bool ba_3, .bool ba_4, .bool ba_5, .slice s_.2.2.2.2.1 la_6.length s_.2.2.2.2.2.1, .slice s_.2.2.2.2.2.2.1 la_7.length s_.2.2.2.2.2.2.2.1, .int .i64 ba_8]), (87, .agg #[.int .i64 p0, .int .i64 p1]), (89, .tuple #[.agg #[.slice s_.2.2.2.2.2.2.2.2.1 lo_0.length s_.2.2.2.2.2.2.2.2.2.1, .slice s_.2.2.2.2.2.2.2.2.2.2.1 lo_1.length s_.2.2.2.2.2.2.2.2.2.2.2.1, .bool bo_2, .bool bo_3, .bool bo_4, .bool bo_5, .slice s_.2.2.2.2.2.2.2.2.2.2.2.2.1 lo_6.length s_.2.2.2.2.2.2.2.2.2.2.2.2.2.1, .slice s_.2.2.2.2.2.2.2.2.2.2.2.2.2.2.1 lo_7.length s_.2.2.2.2.2.2.2.2.2.2.2.2.2.2.2.1, .int .i64 bo_8], .bool ok]), (16, .pointer (some ⟨s_.2.2.2.2.2.2.2.2.2.2.2.2.2.2.2.2.2.2.1, 0, none⟩)), (83, .tuple #[.agg #[.slice s_.2.2.2.2.2.2.2.2.1 lo_0.length s_.2.2.2.2.2.2.2.2.2.1, .slice s_.2.2.2.2.2.2.2.2.2.2.1 lo_1.length s_.2.2.2.2.2.2.2.2.2.2.2.1, .bool bo_2, .bool bo_3, .bool bo_4, .bool bo_5, .slice s_.2.2.2.2.2.2.2.2.2.2.2.2.1 lo_6.length s_.2.2.2.2.2.2.2.2.2.2.2.2.2.1, .slice s_.2.2.2.2.2.2.2.2.2.2.2.2.2.2.1 lo_7.length s_.2.2.2.2.2.2.2.2.2.2.2.2.2.2.2.1, .int .i64 bo_8], .bool ok]), (90, .agg #[.slice s_.2.2.2.2.2.2.2.2.1 lo_0.length s_.2.2.2.2.2.2.2.2.2.1, .slice s_.2.2.2.2.2.2.2.2.2.2.1 lo_1.length s_.2.2.2.2.2.2.2.2.2.2.2.1, .bool bo_2, .bool bo_3, .bool bo_4, .bool bo_5, .slice s_.2.2.2.2.2.2.2.2.2.2.2.2.1 lo_6.length s_.2.2.2.2.2.2.2.2.2.2.2.2.2.1, .slice s_.2.2.2.2.2.2.2.2.2.2.2.2.2.2.1 lo_7.length s_.2.2.2.2.2.2.2.2.2.2.2.2.2.2.2.1, .int .i64 bo_8]), (91, .bool ok)]) (fun s_ w' => (w'.heap[g3]? = some (.cells #[.slice Aa_0 la_0.length ca_0, .slice Aa_1 la_1.length ca_1, .bool ba_2, .bool ba_3, .bool ba_4, .bool ba_5, .slice Aa_6 la_6.length ca_6, .slice Aa_7 la_7.length ca_7, .int .i64 ba_8] 24 (0, 0)) ∧ w'.heap[g4]? = some (.cells #[.int .i64 p0, .int .i64 p1] 36 (0, 0))) ∧ (w'.heap[g3]? = some (.cells #[.slice Aa_0 la_0.length ca_0, .slice Aa_1 la_1.length ca_1, .bool ba_2, .bool ba_3, .bool ba_4, .bool ba_5, .slice Aa_6 la_6.length ca_6, .slice Aa_7 la_7.length ca_7, .int .i64 ba_8] 24 (0, 0))) ∧ (w'.heap[g4]? = some (.cells #[.int .i64 p0, .int .i64 p1] 36 (0, 0))) ∧ (R4 w' lou hiu (.slice Au_0 lo_0.length cu_0) (.slice Au_1 lo_1.length cu_1) (.slice Au_6 lo_6.length cu_6) (.slice Au_7 lo_7.length cu_7) lo_0 lo_1 lo_6 lo_7) ∧ (w'.heap[g8]? = some (.cells #[.slice Au_0 lo_0.length cu_0, .slice Au_1 lo_1.length cu_1, .bool bo_2, .bool bo_3, .bool bo_4, .bool bo_5, .slice Au_6 lo_6.length cu_6, .slice Au_7 lo_7.length cu_7, .int .i64 bo_8] 28 (0, 0))) ∧ (R4 w' loy hiy (.slice Ay_0 la_0.length cy_0) (.slice Ay_1 la_1.length cy_1) (.slice Ay_6 la_6.length cy_6) (.slice Ay_7 la_7.length cy_7) lp_0 lp_1 lp_6 lp_7) ∧ (w'.heap[g10]? = some (.cells #[.slice Ay_0 la_0.length cy_0, .slice Ay_1 la_1.length cy_1, .bool ba_2, .bool ba_3, .bool ba_4, .bool ba_5, .slice Ay_6 la_6.length cy_6, .slice Ay_7 la_7.length cy_7, .int .i64 ba_8] 28 (0, 0))) ∧ (R4 w' lov hiv (.slice Av_0 lo_0.length cv_0) (.slice Av_1 lo_1.length cv_1) (.slice Av_6 lo_6.length cv_6) (.slice Av_7 lo_7.length cv_7) lq_0 lq_1 lq_6 lq_7) ∧ (w'.heap[g11]? = some (.cells #[.slice Av_0 lo_0.length cv_0, .slice Av_1 lo_1.length cv_1, .bool bo_2, .bool bo_3, .bool bo_4, .bool bo_5, .slice Av_6 lo_6.length cv_6, .slice Av_7 lo_7.length cv_7, .int .i64 bo_8] 28 (0, 0))) ∧ (R4 w' s_.2.2.2.2.2.2.2.2.2.2.2.2.2.2.2.2.1 s_.2.2.2.2.2.2.2.2.2.2.2.2.2.2.2.2.2.1 (.slice s_.2.2.2.2.2.2.2.2.1 lo_0.length s_.2.2.2.2.2.2.2.2.2.1) (.slice s_.2.2.2.2.2.2.2.2.2.2.1 lo_1.length s_.2.2.2.2.2.2.2.2.2.2.2.1) (.slice s_.2.2.2.2.2.2.2.2.2.2.2.2.1 lo_6.length s_.2.2.2.2.2.2.2.2.2.2.2.2.2.1) (.slice s_.2.2.2.2.2.2.2.2.2.2.2.2.2.2.1 lo_7.length s_.2.2.2.2.2.2.2.2.2.2.2.2.2.2.2.1) lo_0 lo_1 lo_6 lo_7) ∧ (w'.heap[s_.2.2.2.2.2.2.2.2.2.2.2.2.2.2.2.2.2.2.1]? = some (.cells #[.slice none 0 0, .slice none 0 0, .bool false, .bool false, .bool false, .bool false, .slice none 0 0, .slice none 0 0, .int .i64 0] 28 (0, 0))) ∧ (Below w.heap.size w w') ∧ (hiz ≤ s_.2.2.2.2.2.2.2.2.2.2.2.2.2.2.2.2.2.2.1) ∧ (hiz ≤ s_.2.2.2.2.2.2.2.2.2.2.2.2.2.2.2.2.1) ∧ (s_.2.2.2.2.2.2.2.2.2.2.2.2.2.2.2.2.1 ≤ s_.2.2.2.2.2.2.2.2.2.2.2.2.2.2.2.2.2.1) ∧ (s_.2.2.2.2.2.2.2.2.2.2.2.2.2.2.2.2.2.2.1 + 1 ≤ s_.2.2.2.2.2.2.2.2.2.2.2.2.2.2.2.2.1 ∨ s_.2.2.2.2.2.2.2.2.2.2.2.2.2.2.2.2.2.1 ≤ s_.2.2.2.2.2.2.2.2.2.2.2.2.2.2.2.2.2.2.1) ∧ (s_.2.2.2.2.2.2.2.2.2.2.2.2.2.2.2.2.2.1 ≤ s_.2.2.2.2.2.2.2.2.2.2.2.2.2.2.2.2.2.2.2) ∧ (s_.2.2.2.2.2.2.2.2.2.2.2.2.2.2.2.2.2.2.1 + 1 ≤ s_.2.2.2.2.2.2.2.2.2.2.2.2.2.2.2.2.2.2.2) ∧ (s_.2.2.2.2.2.2.2.2.2.2.2.2.2.2.2.2.2.2.2 ≤ w'.heap.size)) ?_ ?_
  rotate_left
  · intro hCont
    refine two_ (i := 1) (j := 9) (Ni := some 85) (Nj := some 16) #[true, true, true, false, true, false, false, false, false, false, false, false] #[true, false, true, false, true, false, false, false, false, true, false, false] rfl rfl rfl rfl (by kernel_rfl) (by decide) (by decide) (fun K hK => ?_) (fun K hK => ?_)
    · skip
      refine goes_ Try.func17 (by kernel_rfl) rfl #[.agg #[.slice Aa_0 la_0.length ca_0, .slice Aa_1 la_1.length ca_1, .bool ba_2, .bool ba_3, .bool ba_4, .bool ba_5, .slice Aa_6 la_6.length ca_6, .slice Aa_7 la_7.length ca_7, .int .i64 ba_8]] (by rfl) rfl rfl (by (try simp only [List.map_toArray, List.map_cons, List.map_nil]); first | done | rfl) ?_
      refine (to4 k Aa_0 ca_0 la_0 Aa_1 ca_1 la_1 ba_2 ba_3 ba_4 ba_5 Aa_6 ca_6 la_6 Aa_7 ca_7 la_7 ba_8 la_0 la_1 ba_2 ba_3 ba_4 ba_5 la_6 la_7 ba_8 w _ HB.out HR0.out HC0.out HR1.out HC1.out HR6.out HC6.out HR7.out HC7.out Hto.out).mono ?_
      rintro e w' ⟨As_0, cs_0, As_1, cs_1, As_6, cs_6, As_7, cs_7, los, his, rfl, h1, h2, h3, hR, hc⟩
      refine ⟨_, rfl, ?_⟩
      have F228 : Aside0 (hiz ≤ los) := Aside0.mk (Nat.le_trans S.out h1)
      have F229 : Aside0 (los ≤ his) := Aside0.mk h2
      replace BK3 := Aside0.mk (blk_ch hc BK3.out (Or.inr (Nat.zero_le _)))
      replace BK4 := Aside0.mk (blk_ch hc BK4.out (Or.inr (Nat.zero_le _)))
      replace Mu := Aside0.mk (R4_ch Mu.out hc (Or.inr (Or.inr (Nat.zero_le _))))
      replace BK8 := Aside0.mk (blk_ch hc BK8.out (Or.inr (Nat.zero_le _)))
      replace My := Aside0.mk (R4_ch My.out hc (Or.inr (Or.inr (Nat.zero_le _))))
      replace BK10 := Aside0.mk (blk_ch hc BK10.out (Or.inr (Nat.zero_le _)))
      replace Mv := Aside0.mk (R4_ch Mv.out hc (Or.inr (Or.inr (Nat.zero_le _))))
      replace BK11 := Aside0.mk (blk_ch hc BK11.out (Or.inr (Nat.zero_le _)))
      replace HB := Aside0.mk (below_ch HB.out hc (Or.inl (Nat.le_refl _)))
      replace S := Aside0.mk (Nat.le_trans S.out hc.size)
      clear S
      have S := Aside0.mk h3
      have Ms := Aside0.mk hR
      clear h1 h2 h3 hR hc
      refine hK.out _ _ ⟨BK3.out, BK4.out⟩ (fun hHeld => ?_)
      clear hK K
      refine norm_ (a' := ?_) ?_ ?_
      rotate_left
      · show Act.put _ (some 85) _ = _
        simp only [Act.put, List.setIfInBounds_toArray, List.set_cons_zero, List.set_cons_succ, i64_w, i32_w]
        rfl
      refine two_ (i := 3) (j := 9) (Ni := some 87) (Nj := some 16) #[true, true, true, true, true, false, false, false, false, false, false, false] #[true, true, true, false, true, false, false, false, false, true, false, false] rfl rfl rfl rfl (by kernel_rfl) (by decide) (by decide) (fun K hK => ?_) (fun K hK => ?_)
      · skip
        refine goes_ Try.func25 (by kernel_rfl) rfl #[.agg #[.int .i64 p0, .int .i64 p1]] (by rfl) rfl rfl (by (try simp only [List.map_toArray, List.map_cons, List.map_nil]); first | done | rfl) ?_
        refine (laws_toPlace.calls p0 p1 p0 p1 _ Htp.out).mono ?_
        rintro e w' ⟨rfl, hb⟩
        have hc := Ch.of_below hb
        refine ⟨_, rfl, ?_⟩
        replace BK3 := Aside0.mk (blk_ch hc BK3.out (Or.inr (Nat.zero_le _)))
        replace BK4 := Aside0.mk (blk_ch hc BK4.out (Or.inr (Nat.zero_le _)))
        replace Mu := Aside0.mk (R4_ch Mu.out hc (Or.inr (Or.inr (Nat.zero_le _))))
        replace BK8 := Aside0.mk (blk_ch hc BK8.out (Or.inr (Nat.zero_le _)))
        replace My := Aside0.mk (R4_ch My.out hc (Or.inr (Or.inr (Nat.zero_le _))))
        replace BK10 := Aside0.mk (blk_ch hc BK10.out (Or.inr (Nat.zero_le _)))
        replace Mv := Aside0.mk (R4_ch Mv.out hc (Or.inr (Or.inr (Nat.zero_le _))))
        replace BK11 := Aside0.mk (blk_ch hc BK11.out (Or.inr (Nat.zero_le _)))
        replace Ms := Aside0.mk (R4_ch Ms.out hc (Or.inr (Or.inr (Nat.zero_le _))))
        replace HB := Aside0.mk (below_ch HB.out hc (Or.inl (Nat.le_refl _)))
        replace S := Aside0.mk (Nat.le_trans S.out hc.size)
        clear hc hb
        refine hK.out _ _ ⟨BK3.out, BK4.out⟩ (fun hHeld => ?_)
        clear hK K
        refine norm_ (a' := ?_) ?_ ?_
        rotate_left
        · show Act.put _ (some 87) _ = _
          simp only [Act.put, List.setIfInBounds_toArray, List.set_cons_zero, List.set_cons_succ, i64_w, i32_w]
          rfl
        refine two_ (i := 5) (j := 9) (Ni := some 89) (Nj := some 16) #[true, true, true, true, true, true, false, false, false, false, false, false] #[true, true, true, true, true, false, false, false, false, true, false, false] rfl rfl rfl rfl (by kernel_rfl) (by decide) (by decide) (fun K hK => ?_) (fun K hK => ?_)
        · skip
          refine goes_ Try.func37 (by kernel_rfl) rfl #[.agg #[.slice As_0 la_0.length cs_0, .slice As_1 la_1.length cs_1, .bool ba_2, .bool ba_3, .bool ba_4, .bool ba_5, .slice As_6 la_6.length cs_6, .slice As_7 la_7.length cs_7, .int .i64 ba_8], .agg #[.int .i64 p0, .int .i64 p1], .int .i64 n] (by rfl) rfl rfl (by (try simp only [List.map_toArray, List.map_cons, List.map_nil]); first | done | rfl) ?_
          refine (impl4 k As_0 cs_0 _ la_0 As_1 cs_1 _ la_1 ba_2 ba_3 ba_4 ba_5 As_6 cs_6 _ la_6 As_7 cs_7 _ la_7 ba_8 p0 p1 n lo_0 lo_1 bo_2 bo_3 bo_4 bo_5 lo_6 lo_7 bo_8 ok _ _ _ Ms.out Him.out).mono ?_
          rintro e w' ⟨Ah_0, ch_0, Ah_1, ch_1, Ah_6, ch_6, Ah_7, ch_7, loh, hih, rfl, h1, h2, h3, hR, hc⟩
          refine ⟨_, rfl, ?_⟩
          have F230 : Aside0 (his ≤ loh) := Aside0.mk (Nat.le_trans S.out h1)
          have F231 : Aside0 (loh ≤ hih) := Aside0.mk h2
          clear Ms
          replace BK3 := Aside0.mk (blk_ch hc BK3.out (Or.inr (Nat.zero_le _)))
          replace BK4 := Aside0.mk (blk_ch hc BK4.out (Or.inr (Nat.zero_le _)))
          replace Mu := Aside0.mk (R4_ch Mu.out hc (Or.inr (Or.inr (Nat.zero_le _))))
          replace BK8 := Aside0.mk (blk_ch hc BK8.out (Or.inr (Nat.zero_le _)))
          replace My := Aside0.mk (R4_ch My.out hc (Or.inr (Or.inr (Nat.zero_le _))))
          replace BK10 := Aside0.mk (blk_ch hc BK10.out (Or.inr (Nat.zero_le _)))
          replace Mv := Aside0.mk (R4_ch Mv.out hc (Or.inr (Or.inr (Nat.zero_le _))))
          replace BK11 := Aside0.mk (blk_ch hc BK11.out (Or.inr (Nat.zero_le _)))
          replace HB := Aside0.mk (below_ch HB.out hc (Or.inl (Nat.le_refl _)))
          replace S := Aside0.mk (Nat.le_trans S.out hc.size)
          clear S
          have S := Aside0.mk h3
          have Mh := Aside0.mk hR
          clear h1 h2 h3 hR hc
          refine hK.out _ _ ⟨BK3.out, BK4.out⟩ (fun hHeld => ?_)
          clear hK K
          refine norm_ (a' := ?_) ?_ ?_
          rotate_left
          · show Act.put _ (some 89) _ = _
            simp only [Act.put, List.setIfInBounds_toArray, List.set_cons_zero, List.set_cons_succ, i64_w, i32_w]
            rfl
          refine pure_ (i := 6) (N := some 83) (v := ?_) (a' := ?_) #[true, true, true, true, true, true, true, false, false, false, false, false] rfl rfl (by kernel_rfl) (fun _ _ _ h => h) (Or.inl ⟨by rfl, ?_⟩) ?_ ?_
          rotate_left
          · intro w'
            go_simp
            with_reducible rfl
          rotate_left
          · simp only [Act.put, List.setIfInBounds_toArray, List.set_cons_zero, List.set_cons_succ, i64_w, i32_w]
            rfl
          refine pure_ (i := 7) (N := some 90) (v := ?_) (a' := ?_) #[true, true, true, true, true, true, true, true, false, false, false, false] rfl rfl (by kernel_rfl) (fun _ _ _ h => h) (Or.inl ⟨by rfl, ?_⟩) ?_ ?_
          rotate_left
          · intro w'
            go_simp
            with_reducible rfl
          rotate_left
          · simp only [Act.put, List.setIfInBounds_toArray, List.set_cons_zero, List.set_cons_succ, i64_w, i32_w]
            rfl
          refine pure_ (i := 8) (N := some 91) (v := ?_) (a' := ?_) #[true, true, true, true, true, true, true, true, true, false, false, false] rfl rfl (by kernel_rfl) (fun _ _ _ h => h) (Or.inl ⟨by rfl, ?_⟩) ?_ ?_
          rotate_left
          · intro w'
            go_simp
            with_reducible rfl
          rotate_left
          · simp only [Act.put, List.setIfInBounds_toArray, List.set_cons_zero, List.set_cons_succ, i64_w, i32_w]
            rfl
          refine one_ (i := 9) (N := some 16) #[true, true, true, true, true, true, true, true, true, true, false, false] rfl rfl (by kernel_rfl) (by decide) (fun K hK => ?_)
          refine box_step ?hg (N := 16) ?hd (cs := #[.slice none 0 0, .slice none 0 0, .bool false, .bool false, .bool false, .bool false, .slice none 0 0, .slice none 0 0, .int .i64 0]) (t := 28) ?hr ?_; (case hd => rfl); (case hg => rfl); (case hr => first | (go_simp; done) | (go_simp; rfl))
          intro g16 hg w' hbox hb
          have hc := Ch.of_below hb
          have F232 : Aside0 (hih ≤ g16) := Aside0.mk (by have := S.out; omega)
          clear hg
          replace BK3 := Aside0.mk (blk_ch hc BK3.out (Or.inr (Nat.zero_le _)))
          replace BK4 := Aside0.mk (blk_ch hc BK4.out (Or.inr (Nat.zero_le _)))
          replace Mu := Aside0.mk (R4_ch Mu.out hc (Or.inr (Or.inr (Nat.zero_le _))))
          replace BK8 := Aside0.mk (blk_ch hc BK8.out (Or.inr (Nat.zero_le _)))
          replace My := Aside0.mk (R4_ch My.out hc (Or.inr (Or.inr (Nat.zero_le _))))
          replace BK10 := Aside0.mk (blk_ch hc BK10.out (Or.inr (Nat.zero_le _)))
          replace Mv := Aside0.mk (R4_ch Mv.out hc (Or.inr (Or.inr (Nat.zero_le _))))
          replace BK11 := Aside0.mk (blk_ch hc BK11.out (Or.inr (Nat.zero_le _)))
          replace Mh := Aside0.mk (R4_ch Mh.out hc (Or.inr (Or.inr (Nat.zero_le _))))
          replace HB := Aside0.mk (below_ch HB.out hc (Or.inl (Nat.le_refl _)))
          replace S := Aside0.mk (Nat.le_trans S.out hc.size)
          clear S
          have S : Aside0 (g16 + 1 ≤ w'.heap.size) := Aside0.mk (blk_lt hbox)
          have BK16 := Aside0.mk hbox
          clear hbox hb hc
          refine hK.out _ _ ⟨BK3.out, BK4.out⟩ (fun hHeld => ?_)
          clear hK K
          refine norm_ (a' := ?_) ?_ ?_
          rotate_left
          · show Act.put _ (some 16) _ = _
            simp only [Act.put, List.setIfInBounds_toArray, List.set_cons_zero, List.set_cons_succ, i64_w, i32_w]
            rfl
          exact norm_ (by simp only [putAll, Act.put, List.setIfInBounds_toArray, List.set_cons_zero, List.set_cons_succ]) (hCont (As_0, cs_0, As_1, cs_1, As_6, cs_6, As_7, cs_7, Ah_0, ch_0, Ah_1, ch_1, Ah_6, ch_6, Ah_7, ch_7, loh, hih, g16, w'.heap.size) _ ⟨hHeld, BK3.out, BK4.out, Mu.out, BK8.out, My.out, BK10.out, Mv.out, BK11.out, Mh.out, BK16.out, HB.out, (by (try dsimp only); have := F1.out; have := F2.out; have := F108.out; have := F109.out; have := F110.out; have := F111.out; have := F112.out; have := F113.out; have := F114.out; have := F115.out; have := F116.out; have := F220.out; have := F221.out; have := F222.out; have := F223.out; have := F224.out; have := F225.out; have := F226.out; have := F227.out; have := F228.out; have := F229.out; have := F230.out; have := F231.out; have := F232.out; have := S.out; omega), (by (try dsimp only); have := F1.out; have := F2.out; have := F108.out; have := F109.out; have := F110.out; have := F111.out; have := F112.out; have := F113.out; have := F114.out; have := F115.out; have := F116.out; have := F220.out; have := F221.out; have := F222.out; have := F223.out; have := F224.out; have := F225.out; have := F226.out; have := F227.out; have := F228.out; have := F229.out; have := F230.out; have := F231.out; have := F232.out; have := S.out; omega), (by (try dsimp only); have := F1.out; have := F2.out; have := F108.out; have := F109.out; have := F110.out; have := F111.out; have := F112.out; have := F113.out; have := F114.out; have := F115.out; have := F116.out; have := F220.out; have := F221.out; have := F222.out; have := F223.out; have := F224.out; have := F225.out; have := F226.out; have := F227.out; have := F228.out; have := F229.out; have := F230.out; have := F231.out; have := F232.out; have := S.out; omega), (by (try dsimp only); have := F1.out; have := F2.out; have := F108.out; have := F109.out; have := F110.out; have := F111.out; have := F112.out; have := F113.out; have := F114.out; have := F115.out; have := F116.out; have := F220.out; have := F221.out; have := F222.out; have := F223.out; have := F224.out; have := F225.out; have := F226.out; have := F227.out; have := F228.out; have := F229.out; have := F230.out; have := F231.out; have := F232.out; have := S.out; omega), (by (try dsimp only); have := F1.out; have := F2.out; have := F108.out; have := F109.out; have := F110.out; have := F111.out; have := F112.out; have := F113.out; have := F114.out; have := F115.out; have := F116.out; have := F220.out; have := F221.out; have := F222.out; have := F223.out; have := F224.out; have := F225.out; have := F226.out; have := F227.out; have := F228.out; have := F229.out; have := F230.out; have := F231.out; have := F232.out; have := S.out; omega), (by (try dsimp only); have := F1.out; have := F2.out; have := F108.out; have := F109.out; have := F110.out; have := F111.out; have := F112.out; have := F113.out; have := F114.out; have := F115.out; have := F116.out; have := F220.out; have := F221.out; have := F222.out; have := F223.out; have := F224.out; have := F225.out; have := F226.out; have := F227.out; have := F228.out; have := F229.out; have := F230.out; have := F231.out; have := F232.out; have := S.out; omega), (by (try dsimp only); have := F1.out; have := F2.out; have := F108.out; have := F109.out; have := F110.out; have := F111.out; have := F112.out; have := F113.out; have := F114.out; have := F115.out; have := F116.out; have := F220.out; have := F221.out; have := F222.out; have := F223.out; have := F224.out; have := F225.out; have := F226.out; have := F227.out; have := F228.out; have := F229.out; have := F230.out; have := F231.out; have := F232.out; have := S.out; omega)⟩)
        · refine box_step ?hg (N := 16) ?hd (cs := #[.slice none 0 0, .slice none 0 0, .bool false, .bool false, .bool false, .bool false, .slice none 0 0, .slice none 0 0, .int .i64 0]) (t := 28) ?hr ?_; (case hd => rfl); (case hg => rfl); (case hr => first | (go_simp; done) | (go_simp; rfl))
          intro g16 hg w' hbox hb
          have hc := Ch.of_below hb
          have F230 : Aside0 (his ≤ g16) := Aside0.mk (by have := S.out; omega)
          clear hg
          replace BK3 := Aside0.mk (blk_ch hc BK3.out (Or.inr (Nat.zero_le _)))
          replace BK4 := Aside0.mk (blk_ch hc BK4.out (Or.inr (Nat.zero_le _)))
          replace Mu := Aside0.mk (R4_ch Mu.out hc (Or.inr (Or.inr (Nat.zero_le _))))
          replace BK8 := Aside0.mk (blk_ch hc BK8.out (Or.inr (Nat.zero_le _)))
          replace My := Aside0.mk (R4_ch My.out hc (Or.inr (Or.inr (Nat.zero_le _))))
          replace BK10 := Aside0.mk (blk_ch hc BK10.out (Or.inr (Nat.zero_le _)))
          replace Mv := Aside0.mk (R4_ch Mv.out hc (Or.inr (Or.inr (Nat.zero_le _))))
          replace BK11 := Aside0.mk (blk_ch hc BK11.out (Or.inr (Nat.zero_le _)))
          replace Ms := Aside0.mk (R4_ch Ms.out hc (Or.inr (Or.inr (Nat.zero_le _))))
          replace HB := Aside0.mk (below_ch HB.out hc (Or.inl (Nat.le_refl _)))
          replace S := Aside0.mk (Nat.le_trans S.out hc.size)
          clear S
          have S : Aside0 (g16 + 1 ≤ w'.heap.size) := Aside0.mk (blk_lt hbox)
          have BK16 := Aside0.mk hbox
          clear hbox hb hc
          refine hK.out _ _ ⟨BK3.out, BK4.out⟩ (fun hHeld => ?_)
          clear hK K
          refine norm_ (a' := ?_) ?_ ?_
          rotate_left
          · show Act.put _ (some 16) _ = _
            simp only [Act.put, List.setIfInBounds_toArray, List.set_cons_zero, List.set_cons_succ, i64_w, i32_w]
            rfl
          refine one_ (i := 5) (N := some 89) #[true, true, true, true, true, true, false, false, false, true, false, false] rfl rfl (by kernel_rfl) (by decide) (fun K hK => ?_)
          refine goes_ Try.func37 (by kernel_rfl) rfl #[.agg #[.slice As_0 la_0.length cs_0, .slice As_1 la_1.length cs_1, .bool ba_2, .bool ba_3, .bool ba_4, .bool ba_5, .slice As_6 la_6.length cs_6, .slice As_7 la_7.length cs_7, .int .i64 ba_8], .agg #[.int .i64 p0, .int .i64 p1], .int .i64 n] (by rfl) rfl rfl (by (try simp only [List.map_toArray, List.map_cons, List.map_nil]); first | done | rfl) ?_
          refine (impl4 k As_0 cs_0 _ la_0 As_1 cs_1 _ la_1 ba_2 ba_3 ba_4 ba_5 As_6 cs_6 _ la_6 As_7 cs_7 _ la_7 ba_8 p0 p1 n lo_0 lo_1 bo_2 bo_3 bo_4 bo_5 lo_6 lo_7 bo_8 ok _ _ _ Ms.out Him.out).mono ?_
          rintro e w' ⟨Ah_0, ch_0, Ah_1, ch_1, Ah_6, ch_6, Ah_7, ch_7, loh, hih, rfl, h1, h2, h3, hR, hc⟩
          refine ⟨_, rfl, ?_⟩
          have F231 : Aside0 (g16 + 1 ≤ loh) := Aside0.mk (Nat.le_trans S.out h1)
          have F232 : Aside0 (loh ≤ hih) := Aside0.mk h2
          clear Ms
          replace BK3 := Aside0.mk (blk_ch hc BK3.out (Or.inr (Nat.zero_le _)))
          replace BK4 := Aside0.mk (blk_ch hc BK4.out (Or.inr (Nat.zero_le _)))
          replace Mu := Aside0.mk (R4_ch Mu.out hc (Or.inr (Or.inr (Nat.zero_le _))))
          replace BK8 := Aside0.mk (blk_ch hc BK8.out (Or.inr (Nat.zero_le _)))
          replace My := Aside0.mk (R4_ch My.out hc (Or.inr (Or.inr (Nat.zero_le _))))
          replace BK10 := Aside0.mk (blk_ch hc BK10.out (Or.inr (Nat.zero_le _)))
          replace Mv := Aside0.mk (R4_ch Mv.out hc (Or.inr (Or.inr (Nat.zero_le _))))
          replace BK11 := Aside0.mk (blk_ch hc BK11.out (Or.inr (Nat.zero_le _)))
          replace BK16 := Aside0.mk (blk_ch hc BK16.out (Or.inr (Nat.zero_le _)))
          replace HB := Aside0.mk (below_ch HB.out hc (Or.inl (Nat.le_refl _)))
          replace S := Aside0.mk (Nat.le_trans S.out hc.size)
          clear S
          have S := Aside0.mk h3
          have Mh := Aside0.mk hR
          clear h1 h2 h3 hR hc
          refine hK.out _ _ ⟨BK3.out, BK4.out⟩ (fun hHeld => ?_)
          clear hK K
          refine norm_ (a' := ?_) ?_ ?_
          rotate_left
          · show Act.put _ (some 89) _ = _
            simp only [Act.put, List.setIfInBounds_toArray, List.set_cons_zero, List.set_cons_succ, i64_w, i32_w]
            rfl
          refine pure_ (i := 6) (N := some 83) (v := ?_) (a' := ?_) #[true, true, true, true, true, true, true, false, false, true, false, false] rfl rfl (by kernel_rfl) (fun _ _ _ h => h) (Or.inl ⟨by rfl, ?_⟩) ?_ ?_
          rotate_left
          · intro w'
            go_simp
            with_reducible rfl
          rotate_left
          · simp only [Act.put, List.setIfInBounds_toArray, List.set_cons_zero, List.set_cons_succ, i64_w, i32_w]
            rfl
          refine pure_ (i := 7) (N := some 90) (v := ?_) (a' := ?_) #[true, true, true, true, true, true, true, true, false, true, false, false] rfl rfl (by kernel_rfl) (fun _ _ _ h => h) (Or.inl ⟨by rfl, ?_⟩) ?_ ?_
          rotate_left
          · intro w'
            go_simp
            with_reducible rfl
          rotate_left
          · simp only [Act.put, List.setIfInBounds_toArray, List.set_cons_zero, List.set_cons_succ, i64_w, i32_w]
            rfl
          refine pure_ (i := 8) (N := some 91) (v := ?_) (a' := ?_) #[true, true, true, true, true, true, true, true, true, true, false, false] rfl rfl (by kernel_rfl) (fun _ _ _ h => h) (Or.inl ⟨by rfl, ?_⟩) ?_ ?_
          rotate_left
          · intro w'
            go_simp
            with_reducible rfl
          rotate_left
          · simp only [Act.put, List.setIfInBounds_toArray, List.set_cons_zero, List.set_cons_succ, i64_w, i32_w]
            rfl
          exact norm_ (by simp only [putAll, Act.put, List.setIfInBounds_toArray, List.set_cons_zero, List.set_cons_succ]) (hCont (As_0, cs_0, As_1, cs_1, As_6, cs_6, As_7, cs_7, Ah_0, ch_0, Ah_1, ch_1, Ah_6, ch_6, Ah_7, ch_7, loh, hih, g16, w'.heap.size) _ ⟨hHeld, BK3.out, BK4.out, Mu.out, BK8.out, My.out, BK10.out, Mv.out, BK11.out, Mh.out, BK16.out, HB.out, (by (try dsimp only); have := F1.out; have := F2.out; have := F108.out; have := F109.out; have := F110.out; have := F111.out; have := F112.out; have := F113.out; have := F114.out; have := F115.out; have := F116.out; have := F220.out; have := F221.out; have := F222.out; have := F223.out; have := F224.out; have := F225.out; have := F226.out; have := F227.out; have := F228.out; have := F229.out; have := F230.out; have := F231.out; have := F232.out; have := S.out; omega), (by (try dsimp only); have := F1.out; have := F2.out; have := F108.out; have := F109.out; have := F110.out; have := F111.out; have := F112.out; have := F113.out; have := F114.out; have := F115.out; have := F116.out; have := F220.out; have := F221.out; have := F222.out; have := F223.out; have := F224.out; have := F225.out; have := F226.out; have := F227.out; have := F228.out; have := F229.out; have := F230.out; have := F231.out; have := F232.out; have := S.out; omega), (by (try dsimp only); have := F1.out; have := F2.out; have := F108.out; have := F109.out; have := F110.out; have := F111.out; have := F112.out; have := F113.out; have := F114.out; have := F115.out; have := F116.out; have := F220.out; have := F221.out; have := F222.out; have := F223.out; have := F224.out; have := F225.out; have := F226.out; have := F227.out; have := F228.out; have := F229.out; have := F230.out; have := F231.out; have := F232.out; have := S.out; omega), (by (try dsimp only); have := F1.out; have := F2.out; have := F108.out; have := F109.out; have := F110.out; have := F111.out; have := F112.out; have := F113.out; have := F114.out; have := F115.out; have := F116.out; have := F220.out; have := F221.out; have := F222.out; have := F223.out; have := F224.out; have := F225.out; have := F226.out; have := F227.out; have := F228.out; have := F229.out; have := F230.out; have := F231.out; have := F232.out; have := S.out; omega), (by (try dsimp only); have := F1.out; have := F2.out; have := F108.out; have := F109.out; have := F110.out; have := F111.out; have := F112.out; have := F113.out; have := F114.out; have := F115.out; have := F116.out; have := F220.out; have := F221.out; have := F222.out; have := F223.out; have := F224.out; have := F225.out; have := F226.out; have := F227.out; have := F228.out; have := F229.out; have := F230.out; have := F231.out; have := F232.out; have := S.out; omega), (by (try dsimp only); have := F1.out; have := F2.out; have := F108.out; have := F109.out; have := F110.out; have := F111.out; have := F112.out; have := F113.out; have := F114.out; have := F115.out; have := F116.out; have := F220.out; have := F221.out; have := F222.out; have := F223.out; have := F224.out; have := F225.out; have := F226.out; have := F227.out; have := F228.out; have := F229.out; have := F230.out; have := F231.out; have := F232.out; have := S.out; omega), (by (try dsimp only); have := F1.out; have := F2.out; have := F108.out; have := F109.out; have := F110.out; have := F111.out; have := F112.out; have := F113.out; have := F114.out; have := F115.out; have := F116.out; have := F220.out; have := F221.out; have := F222.out; have := F223.out; have := F224.out; have := F225.out; have := F226.out; have := F227.out; have := F228.out; have := F229.out; have := F230.out; have := F231.out; have := F232.out; have := S.out; omega)⟩)
      · refine box_step ?hg (N := 16) ?hd (cs := #[.slice none 0 0, .slice none 0 0, .bool false, .bool false, .bool false, .bool false, .slice none 0 0, .slice none 0 0, .int .i64 0]) (t := 28) ?hr ?_; (case hd => rfl); (case hg => rfl); (case hr => first | (go_simp; done) | (go_simp; rfl))
        intro g16 hg w' hbox hb
        have hc := Ch.of_below hb
        have F230 : Aside0 (his ≤ g16) := Aside0.mk (by have := S.out; omega)
        clear hg
        replace BK3 := Aside0.mk (blk_ch hc BK3.out (Or.inr (Nat.zero_le _)))
        replace BK4 := Aside0.mk (blk_ch hc BK4.out (Or.inr (Nat.zero_le _)))
        replace Mu := Aside0.mk (R4_ch Mu.out hc (Or.inr (Or.inr (Nat.zero_le _))))
        replace BK8 := Aside0.mk (blk_ch hc BK8.out (Or.inr (Nat.zero_le _)))
        replace My := Aside0.mk (R4_ch My.out hc (Or.inr (Or.inr (Nat.zero_le _))))
        replace BK10 := Aside0.mk (blk_ch hc BK10.out (Or.inr (Nat.zero_le _)))
        replace Mv := Aside0.mk (R4_ch Mv.out hc (Or.inr (Or.inr (Nat.zero_le _))))
        replace BK11 := Aside0.mk (blk_ch hc BK11.out (Or.inr (Nat.zero_le _)))
        replace Ms := Aside0.mk (R4_ch Ms.out hc (Or.inr (Or.inr (Nat.zero_le _))))
        replace HB := Aside0.mk (below_ch HB.out hc (Or.inl (Nat.le_refl _)))
        replace S := Aside0.mk (Nat.le_trans S.out hc.size)
        clear S
        have S : Aside0 (g16 + 1 ≤ w'.heap.size) := Aside0.mk (blk_lt hbox)
        have BK16 := Aside0.mk hbox
        clear hbox hb hc
        refine hK.out _ _ ⟨BK3.out, BK4.out⟩ (fun hHeld => ?_)
        clear hK K
        refine norm_ (a' := ?_) ?_ ?_
        rotate_left
        · show Act.put _ (some 16) _ = _
          simp only [Act.put, List.setIfInBounds_toArray, List.set_cons_zero, List.set_cons_succ, i64_w, i32_w]
          rfl
        refine one_ (i := 3) (N := some 87) #[true, true, true, true, true, false, false, false, false, true, false, false] rfl rfl (by kernel_rfl) (by decide) (fun K hK => ?_)
        refine goes_ Try.func25 (by kernel_rfl) rfl #[.agg #[.int .i64 p0, .int .i64 p1]] (by rfl) rfl rfl (by (try simp only [List.map_toArray, List.map_cons, List.map_nil]); first | done | rfl) ?_
        refine (laws_toPlace.calls p0 p1 p0 p1 _ Htp.out).mono ?_
        rintro e w' ⟨rfl, hb⟩
        have hc := Ch.of_below hb
        refine ⟨_, rfl, ?_⟩
        replace BK3 := Aside0.mk (blk_ch hc BK3.out (Or.inr (Nat.zero_le _)))
        replace BK4 := Aside0.mk (blk_ch hc BK4.out (Or.inr (Nat.zero_le _)))
        replace Mu := Aside0.mk (R4_ch Mu.out hc (Or.inr (Or.inr (Nat.zero_le _))))
        replace BK8 := Aside0.mk (blk_ch hc BK8.out (Or.inr (Nat.zero_le _)))
        replace My := Aside0.mk (R4_ch My.out hc (Or.inr (Or.inr (Nat.zero_le _))))
        replace BK10 := Aside0.mk (blk_ch hc BK10.out (Or.inr (Nat.zero_le _)))
        replace Mv := Aside0.mk (R4_ch Mv.out hc (Or.inr (Or.inr (Nat.zero_le _))))
        replace BK11 := Aside0.mk (blk_ch hc BK11.out (Or.inr (Nat.zero_le _)))
        replace Ms := Aside0.mk (R4_ch Ms.out hc (Or.inr (Or.inr (Nat.zero_le _))))
        replace BK16 := Aside0.mk (blk_ch hc BK16.out (Or.inr (Nat.zero_le _)))
        replace HB := Aside0.mk (below_ch HB.out hc (Or.inl (Nat.le_refl _)))
        replace S := Aside0.mk (Nat.le_trans S.out hc.size)
        clear hc hb
        refine hK.out _ _ ⟨BK3.out, BK4.out⟩ (fun hHeld => ?_)
        clear hK K
        refine norm_ (a' := ?_) ?_ ?_
        rotate_left
        · show Act.put _ (some 87) _ = _
          simp only [Act.put, List.setIfInBounds_toArray, List.set_cons_zero, List.set_cons_succ, i64_w, i32_w]
          rfl
        refine one_ (i := 5) (N := some 89) #[true, true, true, true, true, true, false, false, false, true, false, false] rfl rfl (by kernel_rfl) (by decide) (fun K hK => ?_)
        refine goes_ Try.func37 (by kernel_rfl) rfl #[.agg #[.slice As_0 la_0.length cs_0, .slice As_1 la_1.length cs_1, .bool ba_2, .bool ba_3, .bool ba_4, .bool ba_5, .slice As_6 la_6.length cs_6, .slice As_7 la_7.length cs_7, .int .i64 ba_8], .agg #[.int .i64 p0, .int .i64 p1], .int .i64 n] (by rfl) rfl rfl (by (try simp only [List.map_toArray, List.map_cons, List.map_nil]); first | done | rfl) ?_
        refine (impl4 k As_0 cs_0 _ la_0 As_1 cs_1 _ la_1 ba_2 ba_3 ba_4 ba_5 As_6 cs_6 _ la_6 As_7 cs_7 _ la_7 ba_8 p0 p1 n lo_0 lo_1 bo_2 bo_3 bo_4 bo_5 lo_6 lo_7 bo_8 ok _ _ _ Ms.out Him.out).mono ?_
        rintro e w' ⟨Ah_0, ch_0, Ah_1, ch_1, Ah_6, ch_6, Ah_7, ch_7, loh, hih, rfl, h1, h2, h3, hR, hc⟩
        refine ⟨_, rfl, ?_⟩
        have F231 : Aside0 (g16 + 1 ≤ loh) := Aside0.mk (Nat.le_trans S.out h1)
        have F232 : Aside0 (loh ≤ hih) := Aside0.mk h2
        clear Ms
        replace BK3 := Aside0.mk (blk_ch hc BK3.out (Or.inr (Nat.zero_le _)))
        replace BK4 := Aside0.mk (blk_ch hc BK4.out (Or.inr (Nat.zero_le _)))
        replace Mu := Aside0.mk (R4_ch Mu.out hc (Or.inr (Or.inr (Nat.zero_le _))))
        replace BK8 := Aside0.mk (blk_ch hc BK8.out (Or.inr (Nat.zero_le _)))
        replace My := Aside0.mk (R4_ch My.out hc (Or.inr (Or.inr (Nat.zero_le _))))
        replace BK10 := Aside0.mk (blk_ch hc BK10.out (Or.inr (Nat.zero_le _)))
        replace Mv := Aside0.mk (R4_ch Mv.out hc (Or.inr (Or.inr (Nat.zero_le _))))
        replace BK11 := Aside0.mk (blk_ch hc BK11.out (Or.inr (Nat.zero_le _)))
        replace BK16 := Aside0.mk (blk_ch hc BK16.out (Or.inr (Nat.zero_le _)))
        replace HB := Aside0.mk (below_ch HB.out hc (Or.inl (Nat.le_refl _)))
        replace S := Aside0.mk (Nat.le_trans S.out hc.size)
        clear S
        have S := Aside0.mk h3
        have Mh := Aside0.mk hR
        clear h1 h2 h3 hR hc
        refine hK.out _ _ ⟨BK3.out, BK4.out⟩ (fun hHeld => ?_)
        clear hK K
        refine norm_ (a' := ?_) ?_ ?_
        rotate_left
        · show Act.put _ (some 89) _ = _
          simp only [Act.put, List.setIfInBounds_toArray, List.set_cons_zero, List.set_cons_succ, i64_w, i32_w]
          rfl
        refine pure_ (i := 6) (N := some 83) (v := ?_) (a' := ?_) #[true, true, true, true, true, true, true, false, false, true, false, false] rfl rfl (by kernel_rfl) (fun _ _ _ h => h) (Or.inl ⟨by rfl, ?_⟩) ?_ ?_
        rotate_left
        · intro w'
          go_simp
          with_reducible rfl
        rotate_left
        · simp only [Act.put, List.setIfInBounds_toArray, List.set_cons_zero, List.set_cons_succ, i64_w, i32_w]
          rfl
        refine pure_ (i := 7) (N := some 90) (v := ?_) (a' := ?_) #[true, true, true, true, true, true, true, true, false, true, false, false] rfl rfl (by kernel_rfl) (fun _ _ _ h => h) (Or.inl ⟨by rfl, ?_⟩) ?_ ?_
        rotate_left
        · intro w'
          go_simp
          with_reducible rfl
        rotate_left
        · simp only [Act.put, List.setIfInBounds_toArray, List.set_cons_zero, List.set_cons_succ, i64_w, i32_w]
          rfl
        refine pure_ (i := 8) (N := some 91) (v := ?_) (a' := ?_) #[true, true, true, true, true, true, true, true, true, true, false, false] rfl rfl (by kernel_rfl) (fun _ _ _ h => h) (Or.inl ⟨by rfl, ?_⟩) ?_ ?_
        rotate_left
        · intro w'
          go_simp
          with_reducible rfl
        rotate_left
        · simp only [Act.put, List.setIfInBounds_toArray, List.set_cons_zero, List.set_cons_succ, i64_w, i32_w]
          rfl
        exact norm_ (by simp only [putAll, Act.put, List.setIfInBounds_toArray, List.set_cons_zero, List.set_cons_succ]) (hCont (As_0, cs_0, As_1, cs_1, As_6, cs_6, As_7, cs_7, Ah_0, ch_0, Ah_1, ch_1, Ah_6, ch_6, Ah_7, ch_7, loh, hih, g16, w'.heap.size) _ ⟨hHeld, BK3.out, BK4.out, Mu.out, BK8.out, My.out, BK10.out, Mv.out, BK11.out, Mh.out, BK16.out, HB.out, (by (try dsimp only); have := F1.out; have := F2.out; have := F108.out; have := F109.out; have := F110.out; have := F111.out; have := F112.out; have := F113.out; have := F114.out; have := F115.out; have := F116.out; have := F220.out; have := F221.out; have := F222.out; have := F223.out; have := F224.out; have := F225.out; have := F226.out; have := F227.out; have := F228.out; have := F229.out; have := F230.out; have := F231.out; have := F232.out; have := S.out; omega), (by (try dsimp only); have := F1.out; have := F2.out; have := F108.out; have := F109.out; have := F110.out; have := F111.out; have := F112.out; have := F113.out; have := F114.out; have := F115.out; have := F116.out; have := F220.out; have := F221.out; have := F222.out; have := F223.out; have := F224.out; have := F225.out; have := F226.out; have := F227.out; have := F228.out; have := F229.out; have := F230.out; have := F231.out; have := F232.out; have := S.out; omega), (by (try dsimp only); have := F1.out; have := F2.out; have := F108.out; have := F109.out; have := F110.out; have := F111.out; have := F112.out; have := F113.out; have := F114.out; have := F115.out; have := F116.out; have := F220.out; have := F221.out; have := F222.out; have := F223.out; have := F224.out; have := F225.out; have := F226.out; have := F227.out; have := F228.out; have := F229.out; have := F230.out; have := F231.out; have := F232.out; have := S.out; omega), (by (try dsimp only); have := F1.out; have := F2.out; have := F108.out; have := F109.out; have := F110.out; have := F111.out; have := F112.out; have := F113.out; have := F114.out; have := F115.out; have := F116.out; have := F220.out; have := F221.out; have := F222.out; have := F223.out; have := F224.out; have := F225.out; have := F226.out; have := F227.out; have := F228.out; have := F229.out; have := F230.out; have := F231.out; have := F232.out; have := S.out; omega), (by (try dsimp only); have := F1.out; have := F2.out; have := F108.out; have := F109.out; have := F110.out; have := F111.out; have := F112.out; have := F113.out; have := F114.out; have := F115.out; have := F116.out; have := F220.out; have := F221.out; have := F222.out; have := F223.out; have := F224.out; have := F225.out; have := F226.out; have := F227.out; have := F228.out; have := F229.out; have := F230.out; have := F231.out; have := F232.out; have := S.out; omega), (by (try dsimp only); have := F1.out; have := F2.out; have := F108.out; have := F109.out; have := F110.out; have := F111.out; have := F112.out; have := F113.out; have := F114.out; have := F115.out; have := F116.out; have := F220.out; have := F221.out; have := F222.out; have := F223.out; have := F224.out; have := F225.out; have := F226.out; have := F227.out; have := F228.out; have := F229.out; have := F230.out; have := F231.out; have := F232.out; have := S.out; omega), (by (try dsimp only); have := F1.out; have := F2.out; have := F108.out; have := F109.out; have := F110.out; have := F111.out; have := F112.out; have := F113.out; have := F114.out; have := F115.out; have := F116.out; have := F220.out; have := F221.out; have := F222.out; have := F223.out; have := F224.out; have := F225.out; have := F226.out; have := F227.out; have := F228.out; have := F229.out; have := F230.out; have := F231.out; have := F232.out; have := S.out; omega)⟩)
    · refine box_step ?hg (N := 16) ?hd (cs := #[.slice none 0 0, .slice none 0 0, .bool false, .bool false, .bool false, .bool false, .slice none 0 0, .slice none 0 0, .int .i64 0]) (t := 28) ?hr ?_; (case hd => rfl); (case hg => rfl); (case hr => first | (go_simp; done) | (go_simp; rfl))
      intro g16 hg w' hbox hb
      have hc := Ch.of_below hb
      have F228 : Aside0 (hiz ≤ g16) := Aside0.mk (by have := S.out; omega)
      clear hg
      replace BK3 := Aside0.mk (blk_ch hc BK3.out (Or.inr (Nat.zero_le _)))
      replace BK4 := Aside0.mk (blk_ch hc BK4.out (Or.inr (Nat.zero_le _)))
      replace Mu := Aside0.mk (R4_ch Mu.out hc (Or.inr (Or.inr (Nat.zero_le _))))
      replace BK8 := Aside0.mk (blk_ch hc BK8.out (Or.inr (Nat.zero_le _)))
      replace My := Aside0.mk (R4_ch My.out hc (Or.inr (Or.inr (Nat.zero_le _))))
      replace BK10 := Aside0.mk (blk_ch hc BK10.out (Or.inr (Nat.zero_le _)))
      replace Mv := Aside0.mk (R4_ch Mv.out hc (Or.inr (Or.inr (Nat.zero_le _))))
      replace BK11 := Aside0.mk (blk_ch hc BK11.out (Or.inr (Nat.zero_le _)))
      replace HB := Aside0.mk (below_ch HB.out hc (Or.inl (Nat.le_refl _)))
      replace S := Aside0.mk (Nat.le_trans S.out hc.size)
      clear S
      have S : Aside0 (g16 + 1 ≤ w'.heap.size) := Aside0.mk (blk_lt hbox)
      have BK16 := Aside0.mk hbox
      clear hbox hb hc
      refine hK.out _ _ ⟨BK3.out, BK4.out⟩ (fun hHeld => ?_)
      clear hK K
      refine norm_ (a' := ?_) ?_ ?_
      rotate_left
      · show Act.put _ (some 16) _ = _
        simp only [Act.put, List.setIfInBounds_toArray, List.set_cons_zero, List.set_cons_succ, i64_w, i32_w]
        rfl
      refine one_ (i := 1) (N := some 85) #[true, true, true, false, true, false, false, false, false, true, false, false] rfl rfl (by kernel_rfl) (by decide) (fun K hK => ?_)
      refine goes_ Try.func17 (by kernel_rfl) rfl #[.agg #[.slice Aa_0 la_0.length ca_0, .slice Aa_1 la_1.length ca_1, .bool ba_2, .bool ba_3, .bool ba_4, .bool ba_5, .slice Aa_6 la_6.length ca_6, .slice Aa_7 la_7.length ca_7, .int .i64 ba_8]] (by rfl) rfl rfl (by (try simp only [List.map_toArray, List.map_cons, List.map_nil]); first | done | rfl) ?_
      refine (to4 k Aa_0 ca_0 la_0 Aa_1 ca_1 la_1 ba_2 ba_3 ba_4 ba_5 Aa_6 ca_6 la_6 Aa_7 ca_7 la_7 ba_8 la_0 la_1 ba_2 ba_3 ba_4 ba_5 la_6 la_7 ba_8 w _ HB.out HR0.out HC0.out HR1.out HC1.out HR6.out HC6.out HR7.out HC7.out Hto.out).mono ?_
      rintro e w' ⟨As_0, cs_0, As_1, cs_1, As_6, cs_6, As_7, cs_7, los, his, rfl, h1, h2, h3, hR, hc⟩
      refine ⟨_, rfl, ?_⟩
      have F229 : Aside0 (g16 + 1 ≤ los) := Aside0.mk (Nat.le_trans S.out h1)
      have F230 : Aside0 (los ≤ his) := Aside0.mk h2
      replace BK3 := Aside0.mk (blk_ch hc BK3.out (Or.inr (Nat.zero_le _)))
      replace BK4 := Aside0.mk (blk_ch hc BK4.out (Or.inr (Nat.zero_le _)))
      replace Mu := Aside0.mk (R4_ch Mu.out hc (Or.inr (Or.inr (Nat.zero_le _))))
      replace BK8 := Aside0.mk (blk_ch hc BK8.out (Or.inr (Nat.zero_le _)))
      replace My := Aside0.mk (R4_ch My.out hc (Or.inr (Or.inr (Nat.zero_le _))))
      replace BK10 := Aside0.mk (blk_ch hc BK10.out (Or.inr (Nat.zero_le _)))
      replace Mv := Aside0.mk (R4_ch Mv.out hc (Or.inr (Or.inr (Nat.zero_le _))))
      replace BK11 := Aside0.mk (blk_ch hc BK11.out (Or.inr (Nat.zero_le _)))
      replace BK16 := Aside0.mk (blk_ch hc BK16.out (Or.inr (Nat.zero_le _)))
      replace HB := Aside0.mk (below_ch HB.out hc (Or.inl (Nat.le_refl _)))
      replace S := Aside0.mk (Nat.le_trans S.out hc.size)
      clear S
      have S := Aside0.mk h3
      have Ms := Aside0.mk hR
      clear h1 h2 h3 hR hc
      refine hK.out _ _ ⟨BK3.out, BK4.out⟩ (fun hHeld => ?_)
      clear hK K
      refine norm_ (a' := ?_) ?_ ?_
      rotate_left
      · show Act.put _ (some 85) _ = _
        simp only [Act.put, List.setIfInBounds_toArray, List.set_cons_zero, List.set_cons_succ, i64_w, i32_w]
        rfl
      refine one_ (i := 3) (N := some 87) #[true, true, true, true, true, false, false, false, false, true, false, false] rfl rfl (by kernel_rfl) (by decide) (fun K hK => ?_)
      refine goes_ Try.func25 (by kernel_rfl) rfl #[.agg #[.int .i64 p0, .int .i64 p1]] (by rfl) rfl rfl (by (try simp only [List.map_toArray, List.map_cons, List.map_nil]); first | done | rfl) ?_
      refine (laws_toPlace.calls p0 p1 p0 p1 _ Htp.out).mono ?_
      rintro e w' ⟨rfl, hb⟩
      have hc := Ch.of_below hb
      refine ⟨_, rfl, ?_⟩
      replace BK3 := Aside0.mk (blk_ch hc BK3.out (Or.inr (Nat.zero_le _)))
      replace BK4 := Aside0.mk (blk_ch hc BK4.out (Or.inr (Nat.zero_le _)))
      replace Mu := Aside0.mk (R4_ch Mu.out hc (Or.inr (Or.inr (Nat.zero_le _))))
      replace BK8 := Aside0.mk (blk_ch hc BK8.out (Or.inr (Nat.zero_le _)))
      replace My := Aside0.mk (R4_ch My.out hc (Or.inr (Or.inr (Nat.zero_le _))))
      replace BK10 := Aside0.mk (blk_ch hc BK10.out (Or.inr (Nat.zero_le _)))
      replace Mv := Aside0.mk (R4_ch Mv.out hc (Or.inr (Or.inr (Nat.zero_le _))))
      replace BK11 := Aside0.mk (blk_ch hc BK11.out (Or.inr (Nat.zero_le _)))
      replace BK16 := Aside0.mk (blk_ch hc BK16.out (Or.inr (Nat.zero_le _)))
      replace Ms := Aside0.mk (R4_ch Ms.out hc (Or.inr (Or.inr (Nat.zero_le _))))
      replace HB := Aside0.mk (below_ch HB.out hc (Or.inl (Nat.le_refl _)))
      replace S := Aside0.mk (Nat.le_trans S.out hc.size)
      clear hc hb
      refine hK.out _ _ ⟨BK3.out, BK4.out⟩ (fun hHeld => ?_)
      clear hK K
      refine norm_ (a' := ?_) ?_ ?_
      rotate_left
      · show Act.put _ (some 87) _ = _
        simp only [Act.put, List.setIfInBounds_toArray, List.set_cons_zero, List.set_cons_succ, i64_w, i32_w]
        rfl
      refine one_ (i := 5) (N := some 89) #[true, true, true, true, true, true, false, false, false, true, false, false] rfl rfl (by kernel_rfl) (by decide) (fun K hK => ?_)
      refine goes_ Try.func37 (by kernel_rfl) rfl #[.agg #[.slice As_0 la_0.length cs_0, .slice As_1 la_1.length cs_1, .bool ba_2, .bool ba_3, .bool ba_4, .bool ba_5, .slice As_6 la_6.length cs_6, .slice As_7 la_7.length cs_7, .int .i64 ba_8], .agg #[.int .i64 p0, .int .i64 p1], .int .i64 n] (by rfl) rfl rfl (by (try simp only [List.map_toArray, List.map_cons, List.map_nil]); first | done | rfl) ?_
      refine (impl4 k As_0 cs_0 _ la_0 As_1 cs_1 _ la_1 ba_2 ba_3 ba_4 ba_5 As_6 cs_6 _ la_6 As_7 cs_7 _ la_7 ba_8 p0 p1 n lo_0 lo_1 bo_2 bo_3 bo_4 bo_5 lo_6 lo_7 bo_8 ok _ _ _ Ms.out Him.out).mono ?_
      rintro e w' ⟨Ah_0, ch_0, Ah_1, ch_1, Ah_6, ch_6, Ah_7, ch_7, loh, hih, rfl, h1, h2, h3, hR, hc⟩
      refine ⟨_, rfl, ?_⟩
      have F231 : Aside0 (his ≤ loh) := Aside0.mk (Nat.le_trans S.out h1)
      have F232 : Aside0 (loh ≤ hih) := Aside0.mk h2
      clear Ms
      replace BK3 := Aside0.mk (blk_ch hc BK3.out (Or.inr (Nat.zero_le _)))
      replace BK4 := Aside0.mk (blk_ch hc BK4.out (Or.inr (Nat.zero_le _)))
      replace Mu := Aside0.mk (R4_ch Mu.out hc (Or.inr (Or.inr (Nat.zero_le _))))
      replace BK8 := Aside0.mk (blk_ch hc BK8.out (Or.inr (Nat.zero_le _)))
      replace My := Aside0.mk (R4_ch My.out hc (Or.inr (Or.inr (Nat.zero_le _))))
      replace BK10 := Aside0.mk (blk_ch hc BK10.out (Or.inr (Nat.zero_le _)))
      replace Mv := Aside0.mk (R4_ch Mv.out hc (Or.inr (Or.inr (Nat.zero_le _))))
      replace BK11 := Aside0.mk (blk_ch hc BK11.out (Or.inr (Nat.zero_le _)))
      replace BK16 := Aside0.mk (blk_ch hc BK16.out (Or.inr (Nat.zero_le _)))
      replace HB := Aside0.mk (below_ch HB.out hc (Or.inl (Nat.le_refl _)))
      replace S := Aside0.mk (Nat.le_trans S.out hc.size)
      clear S
      have S := Aside0.mk h3
      have Mh := Aside0.mk hR
      clear h1 h2 h3 hR hc
      refine hK.out _ _ ⟨BK3.out, BK4.out⟩ (fun hHeld => ?_)
      clear hK K
      refine norm_ (a' := ?_) ?_ ?_
      rotate_left
      · show Act.put _ (some 89) _ = _
        simp only [Act.put, List.setIfInBounds_toArray, List.set_cons_zero, List.set_cons_succ, i64_w, i32_w]
        rfl
      refine pure_ (i := 6) (N := some 83) (v := ?_) (a' := ?_) #[true, true, true, true, true, true, true, false, false, true, false, false] rfl rfl (by kernel_rfl) (fun _ _ _ h => h) (Or.inl ⟨by rfl, ?_⟩) ?_ ?_
      rotate_left
      · intro w'
        go_simp
        with_reducible rfl
      rotate_left
      · simp only [Act.put, List.setIfInBounds_toArray, List.set_cons_zero, List.set_cons_succ, i64_w, i32_w]
        rfl
      refine pure_ (i := 7) (N := some 90) (v := ?_) (a' := ?_) #[true, true, true, true, true, true, true, true, false, true, false, false] rfl rfl (by kernel_rfl) (fun _ _ _ h => h) (Or.inl ⟨by rfl, ?_⟩) ?_ ?_
      rotate_left
      · intro w'
        go_simp
        with_reducible rfl
      rotate_left
      · simp only [Act.put, List.setIfInBounds_toArray, List.set_cons_zero, List.set_cons_succ, i64_w, i32_w]
        rfl
      refine pure_ (i := 8) (N := some 91) (v := ?_) (a' := ?_) #[true, true, true, true, true, true, true, true, true, true, false, false] rfl rfl (by kernel_rfl) (fun _ _ _ h => h) (Or.inl ⟨by rfl, ?_⟩) ?_ ?_
      rotate_left
      · intro w'
        go_simp
        with_reducible rfl
      rotate_left
      · simp only [Act.put, List.setIfInBounds_toArray, List.set_cons_zero, List.set_cons_succ, i64_w, i32_w]
        rfl
      exact norm_ (by simp only [putAll, Act.put, List.setIfInBounds_toArray, List.set_cons_zero, List.set_cons_succ]) (hCont (As_0, cs_0, As_1, cs_1, As_6, cs_6, As_7, cs_7, Ah_0, ch_0, Ah_1, ch_1, Ah_6, ch_6, Ah_7, ch_7, loh, hih, g16, w'.heap.size) _ ⟨hHeld, BK3.out, BK4.out, Mu.out, BK8.out, My.out, BK10.out, Mv.out, BK11.out, Mh.out, BK16.out, HB.out, (by (try dsimp only); have := F1.out; have := F2.out; have := F108.out; have := F109.out; have := F110.out; have := F111.out; have := F112.out; have := F113.out; have := F114.out; have := F115.out; have := F116.out; have := F220.out; have := F221.out; have := F222.out; have := F223.out; have := F224.out; have := F225.out; have := F226.out; have := F227.out; have := F228.out; have := F229.out; have := F230.out; have := F231.out; have := F232.out; have := S.out; omega), (by (try dsimp only); have := F1.out; have := F2.out; have := F108.out; have := F109.out; have := F110.out; have := F111.out; have := F112.out; have := F113.out; have := F114.out; have := F115.out; have := F116.out; have := F220.out; have := F221.out; have := F222.out; have := F223.out; have := F224.out; have := F225.out; have := F226.out; have := F227.out; have := F228.out; have := F229.out; have := F230.out; have := F231.out; have := F232.out; have := S.out; omega), (by (try dsimp only); have := F1.out; have := F2.out; have := F108.out; have := F109.out; have := F110.out; have := F111.out; have := F112.out; have := F113.out; have := F114.out; have := F115.out; have := F116.out; have := F220.out; have := F221.out; have := F222.out; have := F223.out; have := F224.out; have := F225.out; have := F226.out; have := F227.out; have := F228.out; have := F229.out; have := F230.out; have := F231.out; have := F232.out; have := S.out; omega), (by (try dsimp only); have := F1.out; have := F2.out; have := F108.out; have := F109.out; have := F110.out; have := F111.out; have := F112.out; have := F113.out; have := F114.out; have := F115.out; have := F116.out; have := F220.out; have := F221.out; have := F222.out; have := F223.out; have := F224.out; have := F225.out; have := F226.out; have := F227.out; have := F228.out; have := F229.out; have := F230.out; have := F231.out; have := F232.out; have := S.out; omega), (by (try dsimp only); have := F1.out; have := F2.out; have := F108.out; have := F109.out; have := F110.out; have := F111.out; have := F112.out; have := F113.out; have := F114.out; have := F115.out; have := F116.out; have := F220.out; have := F221.out; have := F222.out; have := F223.out; have := F224.out; have := F225.out; have := F226.out; have := F227.out; have := F228.out; have := F229.out; have := F230.out; have := F231.out; have := F232.out; have := S.out; omega), (by (try dsimp only); have := F1.out; have := F2.out; have := F108.out; have := F109.out; have := F110.out; have := F111.out; have := F112.out; have := F113.out; have := F114.out; have := F115.out; have := F116.out; have := F220.out; have := F221.out; have := F222.out; have := F223.out; have := F224.out; have := F225.out; have := F226.out; have := F227.out; have := F228.out; have := F229.out; have := F230.out; have := F231.out; have := F232.out; have := S.out; omega), (by (try dsimp only); have := F1.out; have := F2.out; have := F108.out; have := F109.out; have := F110.out; have := F111.out; have := F112.out; have := F113.out; have := F114.out; have := F115.out; have := F116.out; have := F220.out; have := F221.out; have := F222.out; have := F223.out; have := F224.out; have := F225.out; have := F226.out; have := F227.out; have := F228.out; have := F229.out; have := F230.out; have := F231.out; have := F232.out; have := S.out; omega)⟩)
  clear HB S BK3 BK4 Mu BK8 My BK10 Mv BK11
  rintro ⟨As_0, cs_0, As_1, cs_1, As_6, cs_6, As_7, cs_7, Ah_0, ch_0, Ah_1, ch_1, Ah_6, ch_6, Ah_7, ch_7, loh, hih, g16, tp⟩ w' ⟨hHeld, h0_, h1_, h2_, h3_, h4_, h5_, h6_, h7_, h8_, h9_, h10_, h11_, h12_, h13_, h14_, h15_, h16_, h17_⟩
  have BK3 : Aside0 (w'.heap[g3]? = some (.cells #[.slice Aa_0 la_0.length ca_0, .slice Aa_1 la_1.length ca_1, .bool ba_2, .bool ba_3, .bool ba_4, .bool ba_5, .slice Aa_6 la_6.length ca_6, .slice Aa_7 la_7.length ca_7, .int .i64 ba_8] 24 (0, 0))) := ⟨h0_⟩
  have BK4 : Aside0 (w'.heap[g4]? = some (.cells #[.int .i64 p0, .int .i64 p1] 36 (0, 0))) := ⟨h1_⟩
  have Mu : Aside0 (R4 w' lou hiu (.slice Au_0 lo_0.length cu_0) (.slice Au_1 lo_1.length cu_1) (.slice Au_6 lo_6.length cu_6) (.slice Au_7 lo_7.length cu_7) lo_0 lo_1 lo_6 lo_7) := ⟨h2_⟩
  have BK8 : Aside0 (w'.heap[g8]? = some (.cells #[.slice Au_0 lo_0.length cu_0, .slice Au_1 lo_1.length cu_1, .bool bo_2, .bool bo_3, .bool bo_4, .bool bo_5, .slice Au_6 lo_6.length cu_6, .slice Au_7 lo_7.length cu_7, .int .i64 bo_8] 28 (0, 0))) := ⟨h3_⟩
  have My : Aside0 (R4 w' loy hiy (.slice Ay_0 la_0.length cy_0) (.slice Ay_1 la_1.length cy_1) (.slice Ay_6 la_6.length cy_6) (.slice Ay_7 la_7.length cy_7) lp_0 lp_1 lp_6 lp_7) := ⟨h4_⟩
  have BK10 : Aside0 (w'.heap[g10]? = some (.cells #[.slice Ay_0 la_0.length cy_0, .slice Ay_1 la_1.length cy_1, .bool ba_2, .bool ba_3, .bool ba_4, .bool ba_5, .slice Ay_6 la_6.length cy_6, .slice Ay_7 la_7.length cy_7, .int .i64 ba_8] 28 (0, 0))) := ⟨h5_⟩
  have Mv : Aside0 (R4 w' lov hiv (.slice Av_0 lo_0.length cv_0) (.slice Av_1 lo_1.length cv_1) (.slice Av_6 lo_6.length cv_6) (.slice Av_7 lo_7.length cv_7) lq_0 lq_1 lq_6 lq_7) := ⟨h6_⟩
  have BK11 : Aside0 (w'.heap[g11]? = some (.cells #[.slice Av_0 lo_0.length cv_0, .slice Av_1 lo_1.length cv_1, .bool bo_2, .bool bo_3, .bool bo_4, .bool bo_5, .slice Av_6 lo_6.length cv_6, .slice Av_7 lo_7.length cv_7, .int .i64 bo_8] 28 (0, 0))) := ⟨h7_⟩
  have Mh : Aside0 (R4 w' loh hih (.slice Ah_0 lo_0.length ch_0) (.slice Ah_1 lo_1.length ch_1) (.slice Ah_6 lo_6.length ch_6) (.slice Ah_7 lo_7.length ch_7) lo_0 lo_1 lo_6 lo_7) := ⟨h8_⟩
  have BK16 : Aside0 (w'.heap[g16]? = some (.cells #[.slice none 0 0, .slice none 0 0, .bool false, .bool false, .bool false, .bool false, .slice none 0 0, .slice none 0 0, .int .i64 0] 28 (0, 0))) := ⟨h9_⟩
  have HB : Aside0 (Below w.heap.size w w') := ⟨h10_⟩
  have F333 : Aside0 (hiz ≤ g16) := Aside0.mk h11_
  have F334 : Aside0 (hiz ≤ loh) := Aside0.mk h12_
  have F335 : Aside0 (loh ≤ hih) := Aside0.mk h13_
  have F336 : Aside0 (g16 + 1 ≤ loh ∨ hih ≤ g16) := Aside0.mk h14_
  have F337 : Aside0 (hih ≤ tp) := Aside0.mk h15_
  have F338 : Aside0 (g16 + 1 ≤ tp) := Aside0.mk h16_
  have S : Aside0 (tp ≤ w'.heap.size) := ⟨h17_⟩
  clear h0_ h1_ h2_ h3_ h4_ h5_ h6_ h7_ h8_ h9_ h10_ h11_ h12_ h13_ h14_ h15_ h16_ h17_
  have hHeld : w'.heap[g3]? = some (.cells #[.slice Aa_0 la_0.length ca_0, .slice Aa_1 la_1.length ca_1, .bool ba_2, .bool ba_3, .bool ba_4, .bool ba_5, .slice Aa_6 la_6.length ca_6, .slice Aa_7 la_7.length ca_7, .int .i64 ba_8] 24 (0, 0)) ∧ w'.heap[g4]? = some (.cells #[.int .i64 p0, .int .i64 p1] 36 (0, 0)) := hHeld
  refine norm_ (a' := ?_) ?_ ?_
  rotate_left
  · simp only [putAll, Act.put, List.setIfInBounds_toArray, List.set_cons_zero, List.set_cons_succ]
    rfl
  refine one_ (i := 10) (N := none) #[true, true, true, true, true, true, true, true, true, true, true, false] rfl rfl (by kernel_rfl) (by decide) (fun K hK => ?_)
  refine store_struct_step (by rfl) rfl 28 (.tmp 16) (.tmp 90) rfl (cs := #[.slice Ah_0 lo_0.length ch_0, .slice Ah_1 lo_1.length ch_1, .bool bo_2, .bool bo_3, .bool bo_4, .bool bo_5, .slice Ah_6 lo_6.length ch_6, .slice Ah_7 lo_7.length ch_7, .int .i64 bo_8]) (by rfl) (by rfl) BK16.out (by kernel_rfl) rfl (by repeat (first | exact fun _ h => absurd h List.not_mem_nil | refine List.forall_mem_cons.2 ⟨rfl, ?_⟩)) ?_
  intro w' hbox hc
  replace BK3 := Aside0.mk (blk_ch hc BK3.out (by have := F1.out; have := F2.out; have := F108.out; have := F109.out; have := F110.out; have := F111.out; have := F112.out; have := F113.out; have := F114.out; have := F115.out; have := F116.out; have := F220.out; have := F221.out; have := F222.out; have := F223.out; have := F224.out; have := F225.out; have := F226.out; have := F227.out; have := F333.out; have := F334.out; have := F335.out; have := F336.out; have := F337.out; have := F338.out; have := S.out; omega))
  replace BK4 := Aside0.mk (blk_ch hc BK4.out (by have := F1.out; have := F2.out; have := F108.out; have := F109.out; have := F110.out; have := F111.out; have := F112.out; have := F113.out; have := F114.out; have := F115.out; have := F116.out; have := F220.out; have := F221.out; have := F222.out; have := F223.out; have := F224.out; have := F225.out; have := F226.out; have := F227.out; have := F333.out; have := F334.out; have := F335.out; have := F336.out; have := F337.out; have := F338.out; have := S.out; omega))
  replace Mu := Aside0.mk (R4_ch Mu.out hc (by have := F1.out; have := F2.out; have := F108.out; have := F109.out; have := F110.out; have := F111.out; have := F112.out; have := F113.out; have := F114.out; have := F115.out; have := F116.out; have := F220.out; have := F221.out; have := F222.out; have := F223.out; have := F224.out; have := F225.out; have := F226.out; have := F227.out; have := F333.out; have := F334.out; have := F335.out; have := F336.out; have := F337.out; have := F338.out; have := S.out; omega))
  replace BK8 := Aside0.mk (blk_ch hc BK8.out (by have := F1.out; have := F2.out; have := F108.out; have := F109.out; have := F110.out; have := F111.out; have := F112.out; have := F113.out; have := F114.out; have := F115.out; have := F116.out; have := F220.out; have := F221.out; have := F222.out; have := F223.out; have := F224.out; have := F225.out; have := F226.out; have := F227.out; have := F333.out; have := F334.out; have := F335.out; have := F336.out; have := F337.out; have := F338.out; have := S.out; omega))
  replace My := Aside0.mk (R4_ch My.out hc (by have := F1.out; have := F2.out; have := F108.out; have := F109.out; have := F110.out; have := F111.out; have := F112.out; have := F113.out; have := F114.out; have := F115.out; have := F116.out; have := F220.out; have := F221.out; have := F222.out; have := F223.out; have := F224.out; have := F225.out; have := F226.out; have := F227.out; have := F333.out; have := F334.out; have := F335.out; have := F336.out; have := F337.out; have := F338.out; have := S.out; omega))
  replace BK10 := Aside0.mk (blk_ch hc BK10.out (by have := F1.out; have := F2.out; have := F108.out; have := F109.out; have := F110.out; have := F111.out; have := F112.out; have := F113.out; have := F114.out; have := F115.out; have := F116.out; have := F220.out; have := F221.out; have := F222.out; have := F223.out; have := F224.out; have := F225.out; have := F226.out; have := F227.out; have := F333.out; have := F334.out; have := F335.out; have := F336.out; have := F337.out; have := F338.out; have := S.out; omega))
  replace Mv := Aside0.mk (R4_ch Mv.out hc (by have := F1.out; have := F2.out; have := F108.out; have := F109.out; have := F110.out; have := F111.out; have := F112.out; have := F113.out; have := F114.out; have := F115.out; have := F116.out; have := F220.out; have := F221.out; have := F222.out; have := F223.out; have := F224.out; have := F225.out; have := F226.out; have := F227.out; have := F333.out; have := F334.out; have := F335.out; have := F336.out; have := F337.out; have := F338.out; have := S.out; omega))
  replace BK11 := Aside0.mk (blk_ch hc BK11.out (by have := F1.out; have := F2.out; have := F108.out; have := F109.out; have := F110.out; have := F111.out; have := F112.out; have := F113.out; have := F114.out; have := F115.out; have := F116.out; have := F220.out; have := F221.out; have := F222.out; have := F223.out; have := F224.out; have := F225.out; have := F226.out; have := F227.out; have := F333.out; have := F334.out; have := F335.out; have := F336.out; have := F337.out; have := F338.out; have := S.out; omega))
  replace Mh := Aside0.mk (R4_ch Mh.out hc (by have := F1.out; have := F2.out; have := F108.out; have := F109.out; have := F110.out; have := F111.out; have := F112.out; have := F113.out; have := F114.out; have := F115.out; have := F116.out; have := F220.out; have := F221.out; have := F222.out; have := F223.out; have := F224.out; have := F225.out; have := F226.out; have := F227.out; have := F333.out; have := F334.out; have := F335.out; have := F336.out; have := F337.out; have := F338.out; have := S.out; omega))
  replace HB := Aside0.mk (below_ch HB.out hc (Or.inr (by have := F1.out; have := F2.out; have := F108.out; have := F109.out; have := F110.out; have := F111.out; have := F112.out; have := F113.out; have := F114.out; have := F115.out; have := F116.out; have := F220.out; have := F221.out; have := F222.out; have := F223.out; have := F224.out; have := F225.out; have := F226.out; have := F227.out; have := F333.out; have := F334.out; have := F335.out; have := F336.out; have := F337.out; have := F338.out; have := S.out; omega)))
  replace S := Aside0.mk (Nat.le_trans S.out hc.size)
  clear BK16
  have BK16 := Aside0.mk hbox
  clear hbox hc
  refine hK.out _ _ ⟨BK3.out, BK4.out⟩ (fun hHeld => ?_)
  clear hK K
  refine pure_ (i := 11) (N := some 17) (v := ?_) (a' := ?_) #[true, true, true, true, true, true, true, true, true, true, true, true] rfl rfl (by kernel_rfl) (fun _ _ _ h => h) (Or.inl ⟨by rfl, ?_⟩) ?_ ?_
  rotate_left
  · intro w'
    go_simp
    with_reducible rfl
  rotate_left
  · simp only [Act.put, List.setIfInBounds_toArray, List.set_cons_zero, List.set_cons_succ, i64_w, i32_w]
    rfl
  refine done_ (by kernel_rfl) ?_
  go_wp2_with (first
    | ((with_reducible refine gate_ (.load 28 (.tmp 16)) rfl ?_); (try (refine gate_guard (by rfl) ?_; dsimp only)); refine wpList_load_row rfl 28 (.tmp 16) rfl g16 rfl 28 _ _ _ BK16.out Try.underlying28 rfl (by kernel_rfl) ?_)
    | ((with_reducible refine gate_ (.load 28 (.tmp 8)) rfl ?_); (try (refine gate_guard (by rfl) ?_; dsimp only)); refine wpList_load_row rfl 28 (.tmp 8) rfl g8 rfl 28 _ _ _ BK8.out Try.underlying28 rfl (by kernel_rfl) ?_)
    | ((with_reducible refine gate_ (.load 28 (.tmp 11)) rfl ?_); (try (refine gate_guard (by rfl) ?_; dsimp only)); refine wpList_load_row rfl 28 (.tmp 11) rfl g11 rfl 28 _ _ _ BK11.out Try.underlying28 rfl (by kernel_rfl) ?_)
    | ((with_reducible refine gate_callee (f := 19) rfl ?_); (try (refine gate_guard (by rfl) ?_; dsimp only)); refine goesL_ (some 94) rfl rfl Try.func19 (by kernel_rfl) rfl #[.agg #[.slice Ah_0 lo_0.length ch_0, .slice Ah_1 lo_1.length ch_1, .bool bo_2, .bool bo_3, .bool bo_4, .bool bo_5, .slice Ah_6 lo_6.length ch_6, .slice Ah_7 lo_7.length ch_7, .int .i64 bo_8], .agg #[.slice Au_0 lo_0.length cu_0, .slice Au_1 lo_1.length cu_1, .bool bo_2, .bool bo_3, .bool bo_4, .bool bo_5, .slice Au_6 lo_6.length cu_6, .slice Au_7 lo_7.length cu_7, .int .i64 bo_8]] rfl (by (try simp only [List.map_toArray, List.map_cons, List.map_nil]); first | done | rfl) ?_; refine (eq4 k Ah_0 ch_0 _ lo_0 Ah_1 ch_1 _ lo_1 bo_2 bo_3 bo_4 bo_5 Ah_6 ch_6 _ lo_6 Ah_7 ch_7 _ lo_7 bo_8 Au_0 cu_0 _ lo_0 Au_1 cu_1 _ lo_1 bo_2 bo_3 bo_4 bo_5 Au_6 cu_6 _ lo_6 Au_7 cu_7 _ lo_7 bo_8 true _ _ _ _ _ Mh.out Mu.out Heo.out).mono ?_; rintro e w' ⟨rfl, hc⟩; refine ⟨_, rfl, ?_⟩; replace BK3 := Aside0.mk (blk_ch hc BK3.out (Or.inr (Nat.zero_le _))); replace BK4 := Aside0.mk (blk_ch hc BK4.out (Or.inr (Nat.zero_le _))); replace Mu := Aside0.mk (R4_ch Mu.out hc (Or.inr (Or.inr (Nat.zero_le _)))); replace BK8 := Aside0.mk (blk_ch hc BK8.out (Or.inr (Nat.zero_le _))); replace My := Aside0.mk (R4_ch My.out hc (Or.inr (Or.inr (Nat.zero_le _)))); replace BK10 := Aside0.mk (blk_ch hc BK10.out (Or.inr (Nat.zero_le _))); replace Mv := Aside0.mk (R4_ch Mv.out hc (Or.inr (Or.inr (Nat.zero_le _)))); replace BK11 := Aside0.mk (blk_ch hc BK11.out (Or.inr (Nat.zero_le _))); replace Mh := Aside0.mk (R4_ch Mh.out hc (Or.inr (Or.inr (Nat.zero_le _)))); replace BK16 := Aside0.mk (blk_ch hc BK16.out (Or.inr (Nat.zero_le _))); replace HB := Aside0.mk (below_ch HB.out hc (Or.inl (Nat.le_refl _))); replace S := Aside0.mk (Nat.le_trans S.out hc.size); clear hc)
    | ((with_reducible refine gate_callee (f := 33) rfl ?_); (try (refine gate_guard (by rfl) ?_; dsimp only)); refine goesL_ (some 103) rfl rfl Try.func33 (by kernel_rfl) rfl #[.agg #[.slice Av_0 lo_0.length cv_0, .slice Av_1 lo_1.length cv_1, .bool bo_2, .bool bo_3, .bool bo_4, .bool bo_5, .slice Av_6 lo_6.length cv_6, .slice Av_7 lo_7.length cv_7, .int .i64 bo_8], .int .i64 1] rfl (by (try simp only [List.map_toArray, List.map_cons, List.map_nil]); first | done | rfl) ?_; refine (held4 k Av_0 cv_0 _ lq_0 Av_1 cv_1 _ lq_1 bo_2 bo_3 bo_4 bo_5 Av_6 cv_6 _ lq_6 Av_7 cv_7 _ lq_7 bo_8 1 m1 _ _ _ Mv.out Hh.out).mono ?_; rintro e w' ⟨rfl, hc⟩; refine ⟨_, rfl, ?_⟩; replace BK3 := Aside0.mk (blk_ch hc BK3.out (Or.inr (Nat.zero_le _))); replace BK4 := Aside0.mk (blk_ch hc BK4.out (Or.inr (Nat.zero_le _))); replace Mu := Aside0.mk (R4_ch Mu.out hc (Or.inr (Or.inr (Nat.zero_le _)))); replace BK8 := Aside0.mk (blk_ch hc BK8.out (Or.inr (Nat.zero_le _))); replace My := Aside0.mk (R4_ch My.out hc (Or.inr (Or.inr (Nat.zero_le _)))); replace BK10 := Aside0.mk (blk_ch hc BK10.out (Or.inr (Nat.zero_le _))); replace Mv := Aside0.mk (R4_ch Mv.out hc (Or.inr (Or.inr (Nat.zero_le _)))); replace BK11 := Aside0.mk (blk_ch hc BK11.out (Or.inr (Nat.zero_le _))); replace Mh := Aside0.mk (R4_ch Mh.out hc (Or.inr (Or.inr (Nat.zero_le _)))); replace BK16 := Aside0.mk (blk_ch hc BK16.out (Or.inr (Nat.zero_le _))); replace HB := Aside0.mk (below_ch HB.out hc (Or.inl (Nat.le_refl _))); replace S := Aside0.mk (Nat.le_trans S.out hc.size); clear hc))
  go_ret
  exact ⟨rfl, HB.out⟩
theorem law (Aa_0 : Option Addr) (ca_0 : Nat) (la_0 : List Int) (Aa_1 : Option Addr) (ca_1 : Nat) (la_1 : List Int) (ba_2 : Bool) (ba_3 : Bool) (ba_4 : Bool) (ba_5 : Bool) (Aa_6 : Option Addr) (ca_6 : Nat) (la_6 : List Int) (Aa_7 : Option Addr) (ca_7 : Nat) (la_7 : List Int) (ba_8 : Int) (p0 p1 n : Int) (w : World) (hra_0 : Kd.C (Kd.int .i64) w Aa_0 la_0.length la_0) (hca_0 : la_0.length ≤ ca_0) (hra_1 : Kd.C (Kd.int .i64) w Aa_1 la_1.length la_1) (hca_1 : la_1.length ≤ ca_1) (hra_6 : Kd.C (Kd.int .i64) w Aa_6 la_6.length la_6) (hca_6 : la_6.length ≤ ca_6) (hra_7 : Kd.C (Kd.int .i64) w Aa_7 la_7.length la_7) (hca_7 : la_7.length ≤ ca_7) (h : Pure.Facts la_0 la_1 ba_2 ba_3 ba_4 ba_5 la_6 la_7 ba_8 p0 p1 n) :
    Calls Try.prog 9 #[.agg #[.slice Aa_0 la_0.length ca_0, .slice Aa_1 la_1.length ca_1, .bool ba_2, .bool ba_3, .bool ba_4, .bool ba_5, .slice Aa_6 la_6.length ca_6, .slice Aa_7 la_7.length ca_7, .int .i64 ba_8], .agg #[.int .i64 p0, .int .i64 p1], .int .i64 n] w fun e w' => e = .returned (.bool true) ∧ Below w.heap.size w w' := by
  rcases h with ⟨s, h1, h2⟩ | ⟨k, s, lo_0, lo_1, bo_2, bo_3, bo_4, bo_5, lo_6, lo_7, bo_8, ok, m0, m1, lp_0, lp_1, lp_6, lp_7, lq_0, lq_1, lq_6, lq_7, e1, e2, e3, e3', e4, e5, e6, e7, e8, e9, e10, e11, e12⟩
  · exact early Aa_0 ca_0 la_0 Aa_1 ca_1 la_1 ba_2 ba_3 ba_4 ba_5 Aa_6 ca_6 la_6 Aa_7 ca_7 la_7 ba_8 p0 p1 n s w hra_0 hca_0 hra_1 hca_1 hra_6 hca_6 hra_7 hca_7 h1 h2
  · exact whole k Aa_0 ca_0 la_0 Aa_1 ca_1 la_1 ba_2 ba_3 ba_4 ba_5 Aa_6 ca_6 la_6 Aa_7 ca_7 la_7 ba_8 p0 p1 n s lo_0 lo_1 bo_2 bo_3 bo_4 bo_5 lo_6 lo_7 bo_8 ok m0 m1 lp_0 lp_1 lp_6 lp_7 lq_0 lq_1 lq_6 lq_7 w hra_0 hca_0 hra_1 hca_1 hra_6 hca_6 hra_7 hca_7 e1 e2 e3 e3' e4 e5 e6 e7 e8 e9 e10 e11 e12
end Go.Proofs.Ytiagbfilffbljaa.WFnExactStore
