-- Laid by a program of this session (a changed copy of the kit's printer); Lean checks every line.
import Derived.Test.YtiagbfilffbljaaPFnMachsx0
import Derived.Test.YtiagbfilffbljaaPFnMachsx2
import Derived.Test.YtiagbfilffbljaaPFnMachsx5
import Derived.Test.YtiagbfilffbljaaPFnMachsx7
namespace Go.Proofs.Ytiagbfilffbljaa.PFnMachs
open Go.RowKit Go.Proofs.YtiagbfilffbljaaW.PrintWords Go.Proofs.YtiagbfilffbljaaW.PrintLast Go.Proofs.YtiagbfilffbljaaW.PrintMore
attribute [local go_sem] max2_int min2_int max_two min_two max_three min_three max_four min_four   -- for this text's walks alone
set_option linter.unusedVariables false
set_option linter.unusedSimpArgs false

/-! ### spec_l3Draw: function 87 -/
mutual
def spec_l3Draw.j0 : Nat → List Int → Int → Int → Int → Int → Int → Int → Int → Int → Int → Int → Option (Int × Int × Int × Int × Int × Int × Int × Int × Int × Int)
 | 0, _, _, _, _, _, _, _, _, _, _, _ => none
 | k + 1, x1000, x1001, x1002, x294000, x294001, x294002, x294003, x294004, x294005, x294006, x294007 => if x294000 ≤ 15 then ((spec_l3Opd.f x1000 x1001 x1002).bind fun bt299 => (spec_l3Draw.j1 k x1000 bt299.2.2.2.1 bt299.2.2.2.2 x294000 x294001 x294002 x294003 bt299.1 bt299.2.1 bt299.2.2.1 x294007)) else (spec_l3Draw.j1 k x1000 x1001 x1002 x294000 x294001 x294002 x294003 x294004 x294005 x294006 x294007)
def spec_l3Draw.j1 : Nat → List Int → Int → Int → Int → Int → Int → Int → Int → Int → Int → Int → Option (Int × Int × Int × Int × Int × Int × Int × Int × Int × Int)
 | 0, _, _, _, _, _, _, _, _, _, _, _ => none
 | k + 1, x1000, x1001, x1002, x294000, x294001, x294002, x294003, x294004, x294005, x294006, x294007 => if x294000 = 15 then (spec_l3Draw.j2 k true x1000 x1001 x1002 x294000 x294001 x294002 x294003 x294004 x294005 x294006 x294007) else (spec_l3Draw.j2 k (x294000 == 16) x1000 x1001 x1002 x294000 x294001 x294002 x294003 x294004 x294005 x294006 x294007)
def spec_l3Draw.j2 : Nat → Bool → List Int → Int → Int → Int → Int → Int → Int → Int → Int → Int → Int → Option (Int × Int × Int × Int × Int × Int × Int × Int × Int × Int)
 | 0, _, _, _, _, _, _, _, _, _, _, _, _ => none
 | k + 1, x20, x1000, x1001, x1002, x294000, x294001, x294002, x294003, x294004, x294005, x294006, x294007 => if x20 = true then ((spec_l1Below.f x1000 x1001 x1002 8).bind fun bt304 => (some (x294000, x294001, x294002, x294003, x294004, x294005, x294006, bt304.1, bt304.2.1, bt304.2.2))) else ((spec_l1In.f x294000 17 21).bind fun t307 => (if t307 = true then ((spec_l1Int.f x1000 x1001 x1002 (([(-128), 127, 0, (-1), 1, 2, (-3)] : List Int))).bind fun bt311 => (some (x294000, x294001, x294002, x294003, x294004, x294005, x294006, bt311.1, bt311.2.1, bt311.2.2))) else (if x294000 = 23 then ((spec_l1Int.f x1000 x1001 x1002 (([0, 1, 2, 255] : List Int))).bind fun bt317 => (some (x294000, x294001, x294002, x294003, x294004, x294005, x294006, bt317.1, bt317.2.1, bt317.2.2))) else (some (x294000, x294001, x294002, x294003, x294004, x294005, x294006, x294007, x1001, x1002)))))
end
def spec_l3Draw.f (k : Nat) (s0_0 : List Int) (s0_1 : Int) (s0_2 : Int) : Option (Int × Int × Int × Int × Int × Int × Int × Int × Int × Int) := (spec_l1Below.f s0_0 s0_1 s0_2 23).bind fun bt290 => (if (wrap64 (1 + bt290.1)) ≤ 6 then ((spec_l3Opd.f s0_0 bt290.2.1 bt290.2.2).bind fun bt294 => (spec_l3Draw.j0 k s0_0 bt294.2.2.2.1 bt294.2.2.2.2 (wrap64 (1 + bt290.1)) bt294.1 bt294.2.1 bt294.2.2.1 0 0 0 0)) else (spec_l3Draw.j0 k s0_0 bt290.2.1 bt290.2.2 (wrap64 (1 + bt290.1)) 0 0 0 0 0 0 0))
theorem spec_l3Draw.mono_l : ∀ k, (∀ y0 y1 y2 y3 y4 y5 y6 y7 y8 y9 y10, LeO (spec_l3Draw.j0 k y0 y1 y2 y3 y4 y5 y6 y7 y8 y9 y10) (spec_l3Draw.j0 (k + 1) y0 y1 y2 y3 y4 y5 y6 y7 y8 y9 y10)) ∧ (∀ y0 y1 y2 y3 y4 y5 y6 y7 y8 y9 y10, LeO (spec_l3Draw.j1 k y0 y1 y2 y3 y4 y5 y6 y7 y8 y9 y10) (spec_l3Draw.j1 (k + 1) y0 y1 y2 y3 y4 y5 y6 y7 y8 y9 y10)) ∧ (∀ y0 y1 y2 y3 y4 y5 y6 y7 y8 y9 y10 y11, LeO (spec_l3Draw.j2 k y0 y1 y2 y3 y4 y5 y6 y7 y8 y9 y10 y11) (spec_l3Draw.j2 (k + 1) y0 y1 y2 y3 y4 y5 y6 y7 y8 y9 y10 y11))
 | 0 => ⟨fun _ _ _ _ _ _ _ _ _ _ _ r h => by simp [spec_l3Draw.j0] at h, fun _ _ _ _ _ _ _ _ _ _ _ r h => by simp [spec_l3Draw.j1] at h, fun _ _ _ _ _ _ _ _ _ _ _ _ r h => by simp [spec_l3Draw.j2] at h⟩
 | k + 1 => by
  obtain ⟨ih0, ih1, ih2⟩ := spec_l3Draw.mono_l k
  refine ⟨?_, ?_, ?_⟩
  ·intro y0 y1 y2 y3 y4 y5 y6 y7 y8 y9 y10
   unfold spec_l3Draw.j0
   repeat' first
   | (with_reducible exact ih0 _ _ _ _ _ _ _ _ _ _ _)
   | (with_reducible exact ih1 _ _ _ _ _ _ _ _ _ _ _)
   | (with_reducible exact ih2 _ _ _ _ _ _ _ _ _ _ _ _)
   | (with_reducible exact LeO.refl _)
   | (with_reducible exact LeO.none _)
   | (with_reducible refine LeO.ite ?_ ?_)
   | (with_reducible refine LeO.bind ?_ (fun _ => ?_))
   | exact ih0 _ _ _ _ _ _ _ _ _ _ _
   | exact ih1 _ _ _ _ _ _ _ _ _ _ _
   | exact ih2 _ _ _ _ _ _ _ _ _ _ _ _
   | exact LeO.none _
   | refine LeO.ite ?_ ?_
   | refine LeO.bind ?_ (fun _ => ?_)
  ·intro y0 y1 y2 y3 y4 y5 y6 y7 y8 y9 y10
   unfold spec_l3Draw.j1
   repeat' first
   | (with_reducible exact ih0 _ _ _ _ _ _ _ _ _ _ _)
   | (with_reducible exact ih1 _ _ _ _ _ _ _ _ _ _ _)
   | (with_reducible exact ih2 _ _ _ _ _ _ _ _ _ _ _ _)
   | (with_reducible exact LeO.refl _)
   | (with_reducible exact LeO.none _)
   | (with_reducible refine LeO.ite ?_ ?_)
   | (with_reducible refine LeO.bind ?_ (fun _ => ?_))
   | exact ih0 _ _ _ _ _ _ _ _ _ _ _
   | exact ih1 _ _ _ _ _ _ _ _ _ _ _
   | exact ih2 _ _ _ _ _ _ _ _ _ _ _ _
   | exact LeO.none _
   | refine LeO.ite ?_ ?_
   | refine LeO.bind ?_ (fun _ => ?_)
  ·intro y0 y1 y2 y3 y4 y5 y6 y7 y8 y9 y10 y11
   unfold spec_l3Draw.j2
   repeat' first
   | (with_reducible exact ih0 _ _ _ _ _ _ _ _ _ _ _)
   | (with_reducible exact ih1 _ _ _ _ _ _ _ _ _ _ _)
   | (with_reducible exact ih2 _ _ _ _ _ _ _ _ _ _ _ _)
   | (with_reducible exact LeO.refl _)
   | (with_reducible exact LeO.none _)
   | (with_reducible refine LeO.ite ?_ ?_)
   | (with_reducible refine LeO.bind ?_ (fun _ => ?_))
   | exact ih0 _ _ _ _ _ _ _ _ _ _ _
   | exact ih1 _ _ _ _ _ _ _ _ _ _ _
   | exact ih2 _ _ _ _ _ _ _ _ _ _ _ _
   | exact LeO.none _
   | refine LeO.ite ?_ ?_
   | refine LeO.bind ?_ (fun _ => ?_)
theorem spec_l3Draw.mono : ∀ a0 a1 a2 k, LeO (spec_l3Draw.f k a0 a1 a2) (spec_l3Draw.f (k + 1) a0 a1 a2) := by
 intro a0 a1 a2 k
 obtain ⟨ih0, ih1, ih2⟩ := spec_l3Draw.mono_l k
 unfold spec_l3Draw.f
 repeat' first
   | (with_reducible exact ih0 _ _ _ _ _ _ _ _ _ _ _)
   | (with_reducible exact ih1 _ _ _ _ _ _ _ _ _ _ _)
   | (with_reducible exact ih2 _ _ _ _ _ _ _ _ _ _ _ _)
   | (with_reducible exact LeO.refl _)
   | (with_reducible exact LeO.none _)
   | (with_reducible refine LeO.ite ?_ ?_)
   | (with_reducible refine LeO.bind ?_ (fun _ => ?_))
   | exact ih0 _ _ _ _ _ _ _ _ _ _ _
   | exact ih1 _ _ _ _ _ _ _ _ _ _ _
   | exact ih2 _ _ _ _ _ _ _ _ _ _ _ _
   | exact LeO.none _
   | refine LeO.ite ?_ ?_
   | refine LeO.bind ?_ (fun _ => ?_)
set_option maxHeartbeats 8000000 in
set_option maxRecDepth 100000 in
theorem spec_l3Draw.calls (k : Nat) (g : Nat) (s0_0 : List Int) (s0_1 : Int) (s0_2 : Int) (r1 : Int) (r2 : Int) (r3 : Int) (r4 : Int) (r5 : Int) (r6 : Int) (r7 : Int) (r8 : Int) (r9 : Int) (r10 : Int) (w0 w : World) (hI : IsS102 w0 w g s0_0 s0_1 s0_2) (hB : Below w0.heap.size w0 w) (h : spec_l3Draw.f k s0_0 s0_1 s0_2 = some (r1, r2, r3, r4, r5, r6, r7, r8, r9, r10)) :
  Calls Try.prog 87 #[.pointer (some ⟨g, 0, none⟩)] w fun e w' => e = .returned (.agg #[.int .i64 r1, .int .i64 r2, .int .i64 r3, .int .i64 r4, .int .i64 r5, .int .i64 r6, .int .i64 r7, .int .i64 r8]) ∧ IsS102 w0 w' g s0_0 r9 r10 ∧ Below w0.heap.size w0 w' ∧ KeepBut w w' g none := by
 have hu98 := Try.underlying98
 have hu63 := Try.underlying63
 have HI0 := A_ hI
 have HK := A_ (KeepBut.refl w g none)
 have HL := A_ hB.size
 clear hI
 have HW0 := A_ hB.size
 have HB := A_ hB
 clear hB
 have H : ((spec_l1Below.f s0_0 s0_1 s0_2 23).bind fun bt290 => (if (wrap64 (1 + bt290.1)) ≤ 6 then ((spec_l3Opd.f s0_0 bt290.2.1 bt290.2.2).bind fun bt294 => (spec_l3Draw.j0 k s0_0 bt294.2.2.2.1 bt294.2.2.2.2 (wrap64 (1 + bt290.1)) bt294.1 bt294.2.1 bt294.2.2.1 0 0 0 0)) else (spec_l3Draw.j0 k s0_0 bt290.2.1 bt290.2.2 (wrap64 (1 + bt290.1)) 0 0 0 0 0 0 0))) = some (r1, r2, r3, r4, r5, r6, r7, r8, r9, r10) := h
 clear h
 replace H := Option.bind_eq_some_iff.mp H
 obtain ⟨⟨t290, t291, t292⟩, A20, H⟩ := H
 try dsimp only at H
 have A2 := A_ A20
 clear A20
 have HC3 := A_ H
 clear H
 go_enter Try.func87, Try.ntmps87
 go_upto_if 10 with (first | ((with_reducible refine gate_dst (N := 2) rfl ?_); refine box_event ?hg (N := 2) ?hd (cs := #[.int .i64 0, .int .i64 0, .int .i64 0, .int .i64 0, .int .i64 0, .int .i64 0, .int .i64 0, .int .i64 0]) (t := 98) ?hr ?_; (case hd => rfl); (case hg => rfl); (case hr => first | (go_simp; done) | (go_simp; rfl)); intro gb289 hg w4 hbox hb; replace HB := A_ (below_step (have := GeI.mk (IsS102.ge HI0.out); bw_ HB.out) hb); have BK289 := A_ (hbox); have GW289 := A_ ((d23_ : w.heap.size ≤ gb289)); have GE289 := A_ ((Nat.le_trans HW0.out (d23_ : w.heap.size ≤ gb289) : w0.heap.size ≤ gb289)); replace HK := A_ (KeepBut.trans d1_ (KeepBut.of_below hb g none) (.inl rfl)); have NB0_289 := A_ ((d15_ : g ≠ gb289)); have NB289_0 := A_ ((d16_ : gb289 ≠ g)); replace HI0 := A_ (IsS102.below d11_ hb); have GI289 := GeI.mk GE289.out; clear hb hbox hg) | ((with_reducible refine gate_callee (f := 71) rfl ?_); refine gL_ (some 5) Try.func71 #[.pointer (some ⟨g, 0, none⟩), .int .i64 23] ?_; (with_reducible refine (spec_l1Below.calls g s0_0 s0_1 s0_2 23 t290 t291 t292 w0 _ ?side1 ?side2 A2.out).mono ?_); (case side1 => repeat (first | (with_reducible first | exact HI0.out | apply IsS102.alloc | apply IsS102.drewN | apply IsS102.drew | apply IsS102.set_1 | apply IsS102.set_2 | refine IsS102.far ?_ NB0_289.out _) | exact HI0.out)); (case side2 => exact (have := GeI.mk (IsS102.ge HI0.out); bw_ HB.out)); rintro e w5 ⟨rfl, hi, hb, hk⟩; refine ⟨_, rfl, ?_⟩; replace BK289 := A_ (KeepBut.blk hk (bk_ BK289.out) NB289_0.out (by simp)); replace HK := A_ (KeepBut.trans d14_ hk (.inl rfl)); replace HB := A_ (hb); replace HI0 := A_ (hi); (try clear hb); (try clear hb2); (try clear hk); (try clear hi)) | ((with_reducible refine gate_dst (N := 3) rfl ?_); refine box_event ?hg (N := 3) ?hd (cs := #[.int .i64 0, .int .i64 0, .int .i64 0, .int .i64 0, .int .i64 0, .int .i64 0, .int .i64 0, .int .i64 0]) (t := 98) ?hr ?_; (case hd => rfl); (case hg => rfl); (case hr => first | (go_simp; done) | (go_simp; rfl)); intro gb293 hg w6 hbox hb; have n0_ := A_ (IsS102.below (by repeat (first | (with_reducible first | exact HI0.out | apply IsS102.alloc | apply IsS102.drewN | apply IsS102.drew | apply IsS102.set_1 | apply IsS102.set_2 | refine IsS102.far ?_ NB0_289.out _) | exact HI0.out)) hb); have n1_ := A_ (blk_below (bk_ BK289.out) hb); have n2_ := A_ (KeepBut.trans d14_ (KeepBut.of_below hb g none) (.inl rfl)); have n3_ := A_ (below_step (have := GeI.mk (IsS102.ge HI0.out); bw_ HB.out) hb); have n4_ := A_ (hbox); have n5_ := A_ ((by rw [hg]; exact (keep_size (w := w) (g := g) (row := none) d14_) : w.heap.size ≤ gb293)); have n6_ := A_ ((Nat.le_trans HW0.out (by rw [hg]; exact (keep_size (w := w) (g := g) (row := none) d14_) : w.heap.size ≤ gb293) : w0.heap.size ≤ gb293)); have n7_ := A_ ((by rw [hg]; exact Nat.ne_of_lt (blk_lt (bk_ BK289.out)) : gb289 ≠ gb293)); have n8_ := A_ n7_.out.symm; have n9_ := A_ ((by rw [hg]; exact Nat.ne_of_lt (IsS102.lt (show IsS102 w0 _ g s0_0 t291 t292 from by repeat (first | (with_reducible first | exact HI0.out | apply IsS102.alloc | apply IsS102.drewN | apply IsS102.drew | apply IsS102.set_1 | apply IsS102.set_2 | refine IsS102.far ?_ NB0_289.out _) | exact HI0.out))) : g ≠ gb293)); have n10_ := A_ ((by rw [hg]; exact Nat.ne_of_gt (IsS102.lt (show IsS102 w0 _ g s0_0 t291 t292 from by repeat (first | (with_reducible first | exact HI0.out | apply IsS102.alloc | apply IsS102.drewN | apply IsS102.drew | apply IsS102.set_1 | apply IsS102.set_2 | refine IsS102.far ?_ NB0_289.out _) | exact HI0.out))) : gb293 ≠ g)); clear HI0; clear BK289; clear HK; clear HB; have HI0 := n0_; have BK289 := n1_; have HK := n2_; have HB := n3_; have BK293 := n4_; have GW293 := n5_; have GE293 := n6_; have GI293 := GeI.mk GE293.out; have NB289_293 := n7_; have NB293_289 := n8_; have NB0_293 := n9_; have NB293_0 := n10_; clear n0_ n1_ n2_ n3_ n4_ n5_ n6_ n7_ n8_ n9_ n10_; clear hb hbox hg; have hnb7 := NB293_289.out; have hnc7 := NB289_293.out; have hnb8 := NB293_0.out; have hnc8 := NB0_293.out; obtain ⟨y9_0, y9_1, y9_2, y9_3, y9_4, y9_5, y9_6, y9_7, z9_0, z9_1, z9_2, z9_3, z9_4, z9_5, z9_6, z9_7⟩ := cz8_ BK293.out))
 (try simp only [Act.put, List.setIfInBounds_toArray, List.set_cons_zero, List.set_cons_succ])
 go_cut [] (fun wc => ∃ (kq : Nat) (x1001_2 : Int) (x1002_2 : Int) (x294001_2 : Int) (x294002_2 : Int) (x294003_2 : Int), Aside0 (spec_l3Draw.j0 kq s0_0 x1001_2 x1002_2 (wrap64 (1 + t290)) x294001_2 x294002_2 x294003_2 0 0 0 0 = some (r1, r2, r3, r4, r5, r6, r7, r8, r9, r10)) ∧ Aside0 (kq ≤ k) ∧ Aside0 (wc.heap[gb289]? = some (.cells #[.int .i64 0, .int .i64 0, .int .i64 0, .int .i64 0, .int .i64 0, .int .i64 0, .int .i64 0, .int .i64 0] 98 (0, 0))) ∧ Aside0 (wc.heap[gb293]? = some (.cells #[.int .i64 (wrap64 (1 + t290)), .int .i64 x294001_2, .int .i64 x294002_2, .int .i64 x294003_2, .int .i64 0, .int .i64 0, .int .i64 0, .int .i64 0] 98 (0, 0))) ∧ Aside0 (IsS102 w0 wc g s0_0 x1001_2 x1002_2) ∧ Aside0 (KeepBut w wc g none) ∧ Aside0 (Below w0.heap.size w0 wc))
 case first =>
  have H := HC3.out
  clear HC3
  by_cases c10 : (wrap64 (1 + t290)) ≤ 6
  ·rw [if_pos c10] at H
   have c10b0 := decide_eq_true c10
   clear c10
   (first | rw [c10b0] | (simp only [i64_w, i32_w]; rw [c10b0]) | skip)
   replace H := Option.bind_eq_some_iff.mp H
   obtain ⟨⟨t294, t295, t296, t297, t298⟩, A110, H⟩ := H
   try dsimp only at H
   have A11 := A_ A110
   clear A110
   have H' := A_ H
   clear H
   go_wp2_with (first | ((with_reducible refine gate_callee (f := 82) rfl ?_); refine gL_ (some 12) Try.func82 #[.pointer (some ⟨g, 0, none⟩)] ?_; (with_reducible refine (spec_l3Opd.calls g s0_0 t291 t292 t294 t295 t296 t297 t298 w0 _ ?side1 ?side2 A11.out).mono ?_); (case side1 => repeat (first | (with_reducible first | exact HI0.out | apply IsS102.alloc | apply IsS102.drewN | apply IsS102.drew | apply IsS102.set_1 | apply IsS102.set_2 | refine IsS102.far ?_ NB0_289.out _ | refine IsS102.far ?_ NB0_293.out _) | exact HI0.out)); (case side2 => exact (have := GeI.mk (IsS102.ge HI0.out); bw_ HB.out)); rintro e w12 ⟨rfl, hi, hb, hk⟩; refine ⟨_, rfl, ?_⟩; replace BK289 := A_ (KeepBut.blk hk (g' := gb289) (o := .cells #[.int .i64 0, .int .i64 0, .int .i64 0, .int .i64 0, .int .i64 0, .int .i64 0, .int .i64 0, .int .i64 0] 98 (0, 0)) (by refine bk_ ?_; refine blk_far ?_ NB289_293.out _; refine bk_ ?_; refine blk_far ?_ NB289_293.out _; refine bk_ ?_; refine blk_far ?_ NB289_293.out _; refine bk_ ?_; refine blk_far ?_ NB289_293.out _; refine bk_ ?_; refine blk_far ?_ NB289_293.out _; refine bk_ ?_; refine blk_far ?_ NB289_293.out _; refine bk_ ?_; refine blk_far ?_ NB289_293.out _; refine bk_ ?_; refine blk_far ?_ NB289_293.out _; refine bk_ ?_; exact BK289.out) NB289_0.out (by simp)); replace BK293 := A_ (KeepBut.blk hk (g' := gb293) (o := .cells #[.int .i64 (wrap64 (1 + t290)), .int .i64 0, .int .i64 0, .int .i64 0, .int .i64 0, .int .i64 0, .int .i64 0, .int .i64 0] 98 (0, 0)) (by exact bk_ (bp8_ (bk_ BK293.out))) NB293_0.out (by simp)); replace HK := A_ (KeepBut.trans d6_ hk (.inl rfl)); replace HB := A_ (hb); replace HI0 := A_ (hi); (try clear hb); (try clear hb2); (try clear hk); (try clear hi); have hnb13 := NB293_289.out; have hnc13 := NB289_293.out; have hnb14 := NB293_0.out; have hnc14 := NB0_293.out; obtain ⟨y15_0, y15_1, y15_2, y15_3, y15_4, y15_5, y15_6, y15_7, z15_0, z15_1, z15_2, z15_3, z15_4, z15_5, z15_6, z15_7⟩ := cz8_ BK293.out))
   go_meet
   case rel => exact ⟨_, (t297), (t298), (t294), (t295), (t296), H', ⟨by first | omega | exact Nat.le_refl _⟩, ⟨by refine bk_ ?_; refine blk_far ?_ NB289_293.out _; refine bk_ ?_; refine blk_far ?_ NB289_293.out _; refine bk_ ?_; refine blk_far ?_ NB289_293.out _; refine bk_ ?_; exact BK289.out⟩, ⟨by refine bk_ ?_; refine blk_put (cs := #[.int .i64 (wrap64 (1 + t290)), .int .i64 t294, .int .i64 t295, .int .i64 0, .int .i64 0, .int .i64 0, .int .i64 0, .int .i64 0]) ?_ 3 _ rfl; refine bk_ ?_; refine blk_put (cs := #[.int .i64 (wrap64 (1 + t290)), .int .i64 t294, .int .i64 0, .int .i64 0, .int .i64 0, .int .i64 0, .int .i64 0, .int .i64 0]) ?_ 2 _ rfl; refine bk_ ?_; refine blk_put (cs := #[.int .i64 (wrap64 (1 + t290)), .int .i64 0, .int .i64 0, .int .i64 0, .int .i64 0, .int .i64 0, .int .i64 0, .int .i64 0]) ?_ 1 _ rfl; refine bk_ ?_; exact BK293.out⟩, ⟨by repeat (first | (with_reducible first | exact HI0.out | apply IsS102.alloc | apply IsS102.drewN | apply IsS102.drew | apply IsS102.set_1 | apply IsS102.set_2 | refine IsS102.far ?_ NB0_289.out _ | refine IsS102.far ?_ NB0_293.out _) | exact HI0.out)⟩, ⟨by repeat (first | (with_reducible first | exact HK.out | apply KeepBut.set_ | apply keep_drewN | apply keep_drew | apply keep_alloc | refine keep_far ?_ GW289.out _ | refine keep_far ?_ GW293.out _) | exact HK.out)⟩, ⟨(have := GeI.mk (IsS102.ge HI0.out); bw_ HB.out)⟩⟩
  ·rw [if_neg c10] at H
   have c10b0 := decide_eq_false c10
   clear c10
   (first | rw [c10b0] | (simp only [i64_w, i32_w]; rw [c10b0]) | skip)
   have H' := A_ H
   clear H
   go_wp2
   go_meet
   case rel => exact ⟨_, (t291), (t292), (0), (0), (0), H', ⟨by first | omega | exact Nat.le_refl _⟩, ⟨by refine bk_ ?_; refine blk_far ?_ NB289_293.out _; refine bk_ ?_; refine blk_far ?_ NB289_293.out _; refine bk_ ?_; refine blk_far ?_ NB289_293.out _; refine bk_ ?_; refine blk_far ?_ NB289_293.out _; refine bk_ ?_; refine blk_far ?_ NB289_293.out _; refine bk_ ?_; refine blk_far ?_ NB289_293.out _; refine bk_ ?_; refine blk_far ?_ NB289_293.out _; refine bk_ ?_; refine blk_far ?_ NB289_293.out _; refine bk_ ?_; exact BK289.out⟩, ⟨by exact bk_ (bp8_ (bk_ BK293.out))⟩, ⟨by repeat (first | (with_reducible first | exact HI0.out | apply IsS102.alloc | apply IsS102.drewN | apply IsS102.drew | apply IsS102.set_1 | apply IsS102.set_2 | refine IsS102.far ?_ NB0_289.out _ | refine IsS102.far ?_ NB0_293.out _) | exact HI0.out)⟩, ⟨by repeat (first | (with_reducible first | exact HK.out | apply KeepBut.set_ | apply keep_drewN | apply keep_drew | apply keep_alloc | refine keep_far ?_ GW289.out _ | refine keep_far ?_ GW293.out _) | exact HK.out)⟩, ⟨(have := GeI.mk (IsS102.ge HI0.out); bw_ HB.out)⟩⟩
 case rest =>
  clear HC3
  try clear c1
  try clear p2
  try clear p6
  try clear c7
  try clear c8
  try clear c10
  try clear c10b0
  try clear c13
  try clear c14
  try clear y15_0 y15_1 y15_2 y15_3 y15_4 y15_5 y15_6 y15_7 z15_0 z15_1 z15_2 z15_3 z15_4 z15_5 z15_6 z15_7
  try clear y9_0 y9_1 y9_2 y9_3 y9_4 y9_5 y9_6 y9_7 z9_0 z9_1 z9_2 z9_3 z9_4 z9_5 z9_6 z9_7
  obtain ⟨kq, x1001_2, x1002_2, x294001_2, x294002_2, x294003_2, HA, HJ2, BK289, BK293, HI0, HK, HB⟩ := hcut
  cases kq with
  | zero => exact absurd HA.out (by simp [spec_l3Draw.j0])
  | succ kj2 =>
   have H := HA.out
   clear HA
   simp only [spec_l3Draw.j0] at H
   have HC16 := A_ H
   clear H
   have hnb17 := NB293_289.out
   have hnc17 := NB289_293.out
   have hnb18 := NB293_0.out
   have hnc18 := NB0_293.out
   obtain ⟨y19_0, y19_1, y19_2, y19_3, y19_4, y19_5, y19_6, y19_7, z19_0, z19_1, z19_2, z19_3, z19_4, z19_5, z19_6, z19_7⟩ := cz8_ BK293.out
   go_upto_if 16 with (fail)
   go_cut [] (fun wc => ∃ (kq : Nat) (x1001_15 : Int) (x1002_15 : Int) (x294004_15 : Int) (x294005_15 : Int) (x294006_15 : Int), Aside0 (spec_l3Draw.j1 kq s0_0 x1001_15 x1002_15 (wrap64 (1 + t290)) x294001_2 x294002_2 x294003_2 x294004_15 x294005_15 x294006_15 0 = some (r1, r2, r3, r4, r5, r6, r7, r8, r9, r10)) ∧ Aside0 (kq ≤ kj2) ∧ Aside0 (wc.heap[gb289]? = some (.cells #[.int .i64 0, .int .i64 0, .int .i64 0, .int .i64 0, .int .i64 0, .int .i64 0, .int .i64 0, .int .i64 0] 98 (0, 0))) ∧ Aside0 (wc.heap[gb293]? = some (.cells #[.int .i64 (wrap64 (1 + t290)), .int .i64 x294001_2, .int .i64 x294002_2, .int .i64 x294003_2, .int .i64 x294004_15, .int .i64 x294005_15, .int .i64 x294006_15, .int .i64 0] 98 (0, 0))) ∧ Aside0 (IsS102 w0 wc g s0_0 x1001_15 x1002_15) ∧ Aside0 (KeepBut w wc g none) ∧ Aside0 (Below w0.heap.size w0 wc))
   case first =>
    have H := HC16.out
    clear HC16
    by_cases c20 : (wrap64 (1 + t290)) ≤ 15
    ·rw [if_pos c20] at H
     have c20b0 := decide_eq_true c20
     clear c20
     (first | rw [c20b0] | (simp only [i64_w, i32_w]; rw [c20b0]) | skip)
     replace H := Option.bind_eq_some_iff.mp H
     obtain ⟨⟨t299, t300, t301, t302, t303⟩, A210, H⟩ := H
     try dsimp only at H
     have A21 := A_ A210
     clear A210
     have H' := A_ H
     clear H
     go_wp2_with (first | ((with_reducible refine gate_callee (f := 82) rfl ?_); refine gL_ (some 18) Try.func82 #[.pointer (some ⟨g, 0, none⟩)] ?_; (with_reducible refine (spec_l3Opd.calls g s0_0 x1001_2 x1002_2 t299 t300 t301 t302 t303 w0 _ ?side1 ?side2 A21.out).mono ?_); (case side1 => repeat (first | (with_reducible first | exact HI0.out | apply IsS102.alloc | apply IsS102.drewN | apply IsS102.drew | apply IsS102.set_1 | apply IsS102.set_2 | refine IsS102.far ?_ NB0_289.out _ | refine IsS102.far ?_ NB0_293.out _) | exact HI0.out)); (case side2 => exact (have := GeI.mk (IsS102.ge HI0.out); bw_ HB.out)); rintro e w22 ⟨rfl, hi, hb, hk⟩; refine ⟨_, rfl, ?_⟩; replace BK289 := A_ (KeepBut.blk hk (bk_ BK289.out) NB289_0.out (by simp)); replace BK293 := A_ (KeepBut.blk hk (bk_ BK293.out) NB293_0.out (by simp)); replace HK := A_ (KeepBut.trans d6_ hk (.inl rfl)); replace HB := A_ (hb); replace HI0 := A_ (hi); (try clear hb); (try clear hb2); (try clear hk); (try clear hi); have hnb23 := NB293_289.out; have hnc23 := NB289_293.out; have hnb24 := NB293_0.out; have hnc24 := NB0_293.out; obtain ⟨y25_0, y25_1, y25_2, y25_3, y25_4, y25_5, y25_6, y25_7, z25_0, z25_1, z25_2, z25_3, z25_4, z25_5, z25_6, z25_7⟩ := cz8_ BK293.out))
     go_meet
     case rel => exact ⟨_, (t302), (t303), (t299), (t300), (t301), H', ⟨by have := HJ2.out; first | omega | exact Nat.le_refl _⟩, ⟨by refine bk_ ?_; refine blk_far ?_ NB289_293.out _; refine bk_ ?_; refine blk_far ?_ NB289_293.out _; refine bk_ ?_; refine blk_far ?_ NB289_293.out _; refine bk_ ?_; exact BK289.out⟩, ⟨by refine bk_ ?_; refine blk_put (cs := #[.int .i64 (wrap64 (1 + t290)), .int .i64 x294001_2, .int .i64 x294002_2, .int .i64 x294003_2, .int .i64 t299, .int .i64 t300, .int .i64 0, .int .i64 0]) ?_ 6 _ rfl; refine bk_ ?_; refine blk_put (cs := #[.int .i64 (wrap64 (1 + t290)), .int .i64 x294001_2, .int .i64 x294002_2, .int .i64 x294003_2, .int .i64 t299, .int .i64 0, .int .i64 0, .int .i64 0]) ?_ 5 _ rfl; refine bk_ ?_; refine blk_put (cs := #[.int .i64 (wrap64 (1 + t290)), .int .i64 x294001_2, .int .i64 x294002_2, .int .i64 x294003_2, .int .i64 0, .int .i64 0, .int .i64 0, .int .i64 0]) ?_ 4 _ rfl; refine bk_ ?_; exact BK293.out⟩, ⟨by repeat (first | (with_reducible first | exact HI0.out | apply IsS102.alloc | apply IsS102.drewN | apply IsS102.drew | apply IsS102.set_1 | apply IsS102.set_2 | refine IsS102.far ?_ NB0_289.out _ | refine IsS102.far ?_ NB0_293.out _) | exact HI0.out)⟩, ⟨by repeat (first | (with_reducible first | exact HK.out | apply KeepBut.set_ | apply keep_drewN | apply keep_drew | apply keep_alloc | refine keep_far ?_ GW289.out _ | refine keep_far ?_ GW293.out _) | exact HK.out)⟩, ⟨(have := GeI.mk (IsS102.ge HI0.out); bw_ HB.out)⟩⟩
    ·rw [if_neg c20] at H
     have c20b0 := decide_eq_false c20
     clear c20
     (first | rw [c20b0] | (simp only [i64_w, i32_w]; rw [c20b0]) | skip)
     have H' := A_ H
     clear H
     go_wp2
     go_meet
     case rel => exact ⟨_, (x1001_2), (x1002_2), (0), (0), (0), H', ⟨by have := HJ2.out; first | omega | exact Nat.le_refl _⟩, ⟨by refine bk_ ?_; exact BK289.out⟩, ⟨by refine bk_ ?_; exact BK293.out⟩, ⟨by repeat (first | (with_reducible first | exact HI0.out | apply IsS102.alloc | apply IsS102.drewN | apply IsS102.drew | apply IsS102.set_1 | apply IsS102.set_2 | refine IsS102.far ?_ NB0_289.out _ | refine IsS102.far ?_ NB0_293.out _) | exact HI0.out)⟩, ⟨by repeat (first | (with_reducible first | exact HK.out | apply KeepBut.set_ | apply keep_drewN | apply keep_drew | apply keep_alloc | refine keep_far ?_ GW289.out _ | refine keep_far ?_ GW293.out _) | exact HK.out)⟩, ⟨(have := GeI.mk (IsS102.ge HI0.out); bw_ HB.out)⟩⟩
   case rest =>
    clear HC16
    try clear c1
    try clear c2
    try clear p2
    try clear p6
    try clear c7
    try clear c8
    try clear c10
    try clear c10b0
    try clear c13
    try clear c14
    try clear c17
    try clear c18
    try clear c20
    try clear c20b0
    try clear c23
    try clear c24
    try clear y15_0 y15_1 y15_2 y15_3 y15_4 y15_5 y15_6 y15_7 z15_0 z15_1 z15_2 z15_3 z15_4 z15_5 z15_6 z15_7
    try clear y19_0 y19_1 y19_2 y19_3 y19_4 y19_5 y19_6 y19_7 z19_0 z19_1 z19_2 z19_3 z19_4 z19_5 z19_6 z19_7
    try clear y25_0 y25_1 y25_2 y25_3 y25_4 y25_5 y25_6 y25_7 z25_0 z25_1 z25_2 z25_3 z25_4 z25_5 z25_6 z25_7
    try clear y9_0 y9_1 y9_2 y9_3 y9_4 y9_5 y9_6 y9_7 z9_0 z9_1 z9_2 z9_3 z9_4 z9_5 z9_6 z9_7
    try clear p2
    try clear p6
    obtain ⟨kq, x1001_15, x1002_15, x294004_15, x294005_15, x294006_15, HA, HJ15, BK289, BK293, HI0, HK, HB⟩ := hcut
    cases kq with
    | zero => exact absurd HA.out (by simp [spec_l3Draw.j1])
    | succ kj15 =>
     have H := HA.out
     clear HA
     simp only [spec_l3Draw.j1] at H
     have HC26 := A_ H
     clear H
     go_upto_region 6 with (fail)
     go_cut [20] (fun v20 wc => ∃ (kq : Nat) (x20_25 : Bool), v20 = .bool x20_25 ∧ Aside0 (spec_l3Draw.j2 kq x20_25 s0_0 x1001_15 x1002_15 (wrap64 (1 + t290)) x294001_2 x294002_2 x294003_2 x294004_15 x294005_15 x294006_15 0 = some (r1, r2, r3, r4, r5, r6, r7, r8, r9, r10)) ∧ Aside0 (kq ≤ kj15) ∧ Aside0 (wc.heap[gb289]? = some (.cells #[.int .i64 0, .int .i64 0, .int .i64 0, .int .i64 0, .int .i64 0, .int .i64 0, .int .i64 0, .int .i64 0] 98 (0, 0))) ∧ Aside0 (wc.heap[gb293]? = some (.cells #[.int .i64 (wrap64 (1 + t290)), .int .i64 x294001_2, .int .i64 x294002_2, .int .i64 x294003_2, .int .i64 x294004_15, .int .i64 x294005_15, .int .i64 x294006_15, .int .i64 0] 98 (0, 0))) ∧ Aside0 (IsS102 w0 wc g s0_0 x1001_15 x1002_15) ∧ Aside0 (KeepBut w wc g none) ∧ Aside0 (Below w0.heap.size w0 wc))
     case first =>
      have H := HC26.out
      clear HC26
      by_cases c27 : (wrap64 (1 + t290)) = 15
      ·rw [if_pos c27] at H
       have c27b0 := beq_iff_eq.mpr c27
       have c27b1 := bne_eq_false_iff_eq.mpr c27
       clear c27
       (first | rw [c27b0] | (simp only [i64_w, i32_w]; rw [c27b0]) | skip)
       have H' := A_ H
       clear H
       have hnb28 := NB293_289.out
       have hnc28 := NB289_293.out
       have hnb29 := NB293_0.out
       have hnc29 := NB0_293.out
       obtain ⟨y30_0, y30_1, y30_2, y30_3, y30_4, y30_5, y30_6, y30_7, z30_0, z30_1, z30_2, z30_3, z30_4, z30_5, z30_6, z30_7⟩ := cz8_ BK293.out
       go_wp2
       go_meet
       case rel => exact ⟨_, (true), d3_, H', ⟨by have := HJ2.out; have := HJ15.out; first | omega | exact Nat.le_refl _⟩, ⟨by refine bk_ ?_; exact BK289.out⟩, ⟨by refine bk_ ?_; exact BK293.out⟩, ⟨by repeat (first | (with_reducible first | exact HI0.out | apply IsS102.alloc | apply IsS102.drewN | apply IsS102.drew | apply IsS102.set_1 | apply IsS102.set_2 | refine IsS102.far ?_ NB0_289.out _ | refine IsS102.far ?_ NB0_293.out _) | exact HI0.out)⟩, ⟨by repeat (first | (with_reducible first | exact HK.out | apply KeepBut.set_ | apply keep_drewN | apply keep_drew | apply keep_alloc | refine keep_far ?_ GW289.out _ | refine keep_far ?_ GW293.out _) | exact HK.out)⟩, ⟨(have := GeI.mk (IsS102.ge HI0.out); bw_ HB.out)⟩⟩
      ·rw [if_neg c27] at H
       have c27b0 := beq_eq_false_iff_ne.mpr c27
       have c27b1 := bne_iff_ne.mpr c27
       (first | rw [c27b0] | (simp only [i64_w, i32_w]; rw [c27b0]) | skip)
       have H' := A_ H
       clear H
       have hnb31 := NB293_289.out
       have hnc31 := NB289_293.out
       have hnb32 := NB293_0.out
       have hnc32 := NB0_293.out
       obtain ⟨y33_0, y33_1, y33_2, y33_3, y33_4, y33_5, y33_6, y33_7, z33_0, z33_1, z33_2, z33_3, z33_4, z33_5, z33_6, z33_7⟩ := cz8_ BK293.out
       go_wp2
       go_meet
       case rel => exact ⟨_, (((wrap64 (1 + t290)) == 16)), d3_, H', ⟨by have := HJ2.out; have := HJ15.out; first | omega | exact Nat.le_refl _⟩, ⟨by refine bk_ ?_; exact BK289.out⟩, ⟨by refine bk_ ?_; exact BK293.out⟩, ⟨by repeat (first | (with_reducible first | exact HI0.out | apply IsS102.alloc | apply IsS102.drewN | apply IsS102.drew | apply IsS102.set_1 | apply IsS102.set_2 | refine IsS102.far ?_ NB0_289.out _ | refine IsS102.far ?_ NB0_293.out _) | exact HI0.out)⟩, ⟨by repeat (first | (with_reducible first | exact HK.out | apply KeepBut.set_ | apply keep_drewN | apply keep_drew | apply keep_alloc | refine keep_far ?_ GW289.out _ | refine keep_far ?_ GW293.out _) | exact HK.out)⟩, ⟨(have := GeI.mk (IsS102.ge HI0.out); bw_ HB.out)⟩⟩
     case rest =>
      clear HC26
      try clear c1
      try clear c2
      try clear p2
      try clear c3
      try clear p6
      try clear c7
      try clear c8
      try clear c10
      try clear c10b0
      try clear c13
      try clear c14
      try clear c17
      try clear c18
      try clear c20
      try clear c20b0
      try clear c23
      try clear c24
      try clear c27
      try clear c27b0
      try clear c27b1
      try clear c28
      try clear c29
      try clear c31
      try clear c32
      try clear y15_0 y15_1 y15_2 y15_3 y15_4 y15_5 y15_6 y15_7 z15_0 z15_1 z15_2 z15_3 z15_4 z15_5 z15_6 z15_7
      try clear y19_0 y19_1 y19_2 y19_3 y19_4 y19_5 y19_6 y19_7 z19_0 z19_1 z19_2 z19_3 z19_4 z19_5 z19_6 z19_7
      try clear y25_0 y25_1 y25_2 y25_3 y25_4 y25_5 y25_6 y25_7 z25_0 z25_1 z25_2 z25_3 z25_4 z25_5 z25_6 z25_7
      try clear y30_0 y30_1 y30_2 y30_3 y30_4 y30_5 y30_6 y30_7 z30_0 z30_1 z30_2 z30_3 z30_4 z30_5 z30_6 z30_7
      try clear y33_0 y33_1 y33_2 y33_3 y33_4 y33_5 y33_6 y33_7 z33_0 z33_1 z33_2 z33_3 z33_4 z33_5 z33_6 z33_7
      try clear y9_0 y9_1 y9_2 y9_3 y9_4 y9_5 y9_6 y9_7 z9_0 z9_1 z9_2 z9_3 z9_4 z9_5 z9_6 z9_7
      try clear p2
      try clear p6
      obtain ⟨kq, x20_25, rfl, HA, HJ25, BK289, BK293, HI0, HK, HB⟩ := hcut
      cases kq with
      | zero => exact absurd HA.out (by simp [spec_l3Draw.j2])
      | succ kj25 =>
       have H := HA.out
       clear HA
       simp only [spec_l3Draw.j2] at H
       by_cases c34 : x20_25 = true
       ·subst c34
        rw [if_pos rfl] at H
        replace H := Option.bind_eq_some_iff.mp H
        obtain ⟨⟨t304, t305, t306⟩, A350, H⟩ := H
        try dsimp only at H
        have A35 := A_ A350
        clear A350
        simp only [Option.some.injEq, Prod.mk.injEq] at H
        obtain ⟨rfl, rfl, rfl, rfl, rfl, rfl, rfl, rfl, rfl, rfl⟩ := H
        go_wp2_with (first | ((with_reducible refine gate_callee (f := 71) rfl ?_); refine gL_ (some 30) Try.func71 #[.pointer (some ⟨g, 0, none⟩), .int .i64 8] ?_; (with_reducible refine (spec_l1Below.calls g s0_0 x1001_15 x1002_15 8 t304 t305 t306 w0 _ ?side1 ?side2 A35.out).mono ?_); (case side1 => repeat (first | (with_reducible first | exact HI0.out | apply IsS102.alloc | apply IsS102.drewN | apply IsS102.drew | apply IsS102.set_1 | apply IsS102.set_2 | refine IsS102.far ?_ NB0_289.out _ | refine IsS102.far ?_ NB0_293.out _) | exact HI0.out)); (case side2 => exact (have := GeI.mk (IsS102.ge HI0.out); bw_ HB.out)); rintro e w36 ⟨rfl, hi, hb, hk⟩; refine ⟨_, rfl, ?_⟩; replace BK289 := A_ (KeepBut.blk hk (bk_ BK289.out) NB289_0.out (by simp)); replace BK293 := A_ (KeepBut.blk hk (bk_ BK293.out) NB293_0.out (by simp)); replace HK := A_ (KeepBut.trans d6_ hk (.inl rfl)); replace HB := A_ (hb); replace HI0 := A_ (hi); (try clear hb); (try clear hb2); (try clear hk); (try clear hi); have hnb37 := NB293_289.out; have hnc37 := NB289_293.out; have hnb38 := NB293_0.out; have hnc38 := NB0_293.out; obtain ⟨y39_0, y39_1, y39_2, y39_3, y39_4, y39_5, y39_6, y39_7, z39_0, z39_1, z39_2, z39_3, z39_4, z39_5, z39_6, z39_7⟩ := cz8_ BK293.out; have hnb40 := NB289_0.out; have hnc40 := NB0_289.out; obtain ⟨y41_0, y41_1, y41_2, y41_3, y41_4, y41_5, y41_6, y41_7, z41_0, z41_1, z41_2, z41_3, z41_4, z41_5, z41_6, z41_7⟩ := cz8_ BK289.out))
        refine bodyPost_ret (results_cell_row rfl _ _ gb289 98 #[.int .i64 (wrap64 (1 + t290)), .int .i64 x294001_2, .int .i64 x294002_2, .int .i64 x294003_2, .int .i64 x294004_15, .int .i64 x294005_15, .int .i64 x294006_15, .int .i64 t304] (0, 0) _ rfl ?hb_ Try.underlying98 rfl (by kernel_rfl)) rfl ?_
        (case hb_ => refine bk_ ?_; refine blk_put (cs := #[.int .i64 (wrap64 (1 + t290)), .int .i64 x294001_2, .int .i64 x294002_2, .int .i64 x294003_2, .int .i64 x294004_15, .int .i64 x294005_15, .int .i64 x294006_15, .int .i64 0]) ?_ 7 _ rfl; refine bk_ ?_; refine blk_put (cs := #[.int .i64 (wrap64 (1 + t290)), .int .i64 x294001_2, .int .i64 x294002_2, .int .i64 x294003_2, .int .i64 x294004_15, .int .i64 x294005_15, .int .i64 0, .int .i64 0]) ?_ 6 _ rfl; refine bk_ ?_; refine blk_put (cs := #[.int .i64 (wrap64 (1 + t290)), .int .i64 x294001_2, .int .i64 x294002_2, .int .i64 x294003_2, .int .i64 x294004_15, .int .i64 0, .int .i64 0, .int .i64 0]) ?_ 5 _ rfl; refine bk_ ?_; refine blk_put (cs := #[.int .i64 (wrap64 (1 + t290)), .int .i64 x294001_2, .int .i64 x294002_2, .int .i64 x294003_2, .int .i64 0, .int .i64 0, .int .i64 0, .int .i64 0]) ?_ 4 _ rfl; refine bk_ ?_; refine blk_put (cs := #[.int .i64 (wrap64 (1 + t290)), .int .i64 x294001_2, .int .i64 x294002_2, .int .i64 0, .int .i64 0, .int .i64 0, .int .i64 0, .int .i64 0]) ?_ 3 _ rfl; refine bk_ ?_; refine blk_put (cs := #[.int .i64 (wrap64 (1 + t290)), .int .i64 x294001_2, .int .i64 0, .int .i64 0, .int .i64 0, .int .i64 0, .int .i64 0, .int .i64 0]) ?_ 2 _ rfl; refine bk_ ?_; refine blk_put (cs := #[.int .i64 (wrap64 (1 + t290)), .int .i64 0, .int .i64 0, .int .i64 0, .int .i64 0, .int .i64 0, .int .i64 0, .int .i64 0]) ?_ 1 _ rfl; refine bk_ ?_; refine blk_put (cs := #[.int .i64 0, .int .i64 0, .int .i64 0, .int .i64 0, .int .i64 0, .int .i64 0, .int .i64 0, .int .i64 0]) ?_ 0 _ rfl; refine bk_ ?_; refine blk_far ?_ NB289_293.out _; refine bk_ ?_; exact BK289.out)
        exact rt_ ⟨by repeat (first | (with_reducible first | exact HI0.out | apply IsS102.alloc | apply IsS102.drewN | apply IsS102.drew | apply IsS102.set_1 | apply IsS102.set_2 | refine IsS102.far ?_ NB0_289.out _ | refine IsS102.far ?_ NB0_293.out _) | exact HI0.out), (have := GeI.mk (IsS102.ge HI0.out); bw_ HB.out), by repeat (first | (with_reducible first | exact HK.out | apply KeepBut.set_ | apply keep_drewN | apply keep_drew | apply keep_alloc | refine keep_far ?_ GW289.out _ | refine keep_far ?_ GW293.out _) | exact HK.out)⟩
       ·replace c34 := Bool.eq_false_iff.mpr c34
        subst c34
        rw [if_neg (show ¬ (false = true) by decide)] at H
        replace H := Option.bind_eq_some_iff.mp H
        obtain ⟨t307, A420, H⟩ := H
        try dsimp only at H
        have A42 := A_ A420
        clear A420
        by_cases c43 : t307 = true
        ·subst c43
         rw [if_pos rfl] at H
         obtain ⟨y308, hy308⟩ : ∃ y_ : List Int, y_ = (([(-128), 127, 0, (-1), 1, 2, (-3)] : List Int)) := ⟨_, rfl⟩
         replace H : ((spec_l1Int.f s0_0 x1001_15 x1002_15 y308).bind fun bt311 => (some ((wrap64 (1 + t290)), x294001_2, x294002_2, x294003_2, x294004_15, x294005_15, x294006_15, bt311.1, bt311.2.1, bt311.2.2))) = some (r1, r2, r3, r4, r5, r6, r7, r8, r9, r10) := by first | (rw [hy308]; with_reducible exact H) | (have H2_ := (Option.bind_some _ _).symm.trans H; rw [hy308]; with_reducible exact H2_) | (have H2_ := (Option.bind_some _ _).symm.trans H; with_reducible exact H2_) | with_reducible exact H | (rw [hy308]; exact H) | exact H
         have Ny308 := A_ hy308
         clear hy308
         replace H := Option.bind_eq_some_iff.mp H
         obtain ⟨⟨t311, t312, t313⟩, A440, H⟩ := H
         try dsimp only at H
         have A44 := A_ A440
         clear A440
         simp only [Option.some.injEq, Prod.mk.injEq] at H
         obtain ⟨rfl, rfl, rfl, rfl, rfl, rfl, rfl, rfl, rfl, rfl⟩ := H
         have hnb45 := NB293_289.out
         have hnc45 := NB289_293.out
         have hnb46 := NB293_0.out
         have hnc46 := NB0_293.out
         obtain ⟨y47_0, y47_1, y47_2, y47_3, y47_4, y47_5, y47_6, y47_7, z47_0, z47_1, z47_2, z47_3, z47_4, z47_5, z47_6, z47_7⟩ := cz8_ BK293.out
         go_wp2_with (first | ((with_reducible refine gate_callee (f := 57) rfl ?_); refine gL_ (some 35) Try.func57 #[.int .i64 (wrap64 (1 + t290)), .int .i64 17, .int .i64 21] ?_; (with_reducible refine (spec_l1In.calls (wrap64 (1 + t290)) 17 21 true _ A42.out).mono ?_); rintro e w' ⟨rfl, ⟨nd, rfl⟩⟩; refine ⟨_, rfl, ?_⟩; (try (rw [drewN_self wc]; generalize hq_ : World.drewN wc _ = wc; have n0_ := A_ (bq_ hq_ BK289.out); have n1_ := A_ (bq_ hq_ BK293.out); have n2_ : Aside0 (IsS102 w0 wc g s0_0 x1001_15 x1002_15) := ⟨by rw [← hq_]; exact d12_⟩; have n3_ : Aside0 (KeepBut w wc g none) := ⟨by rw [← hq_]; exact d6_⟩; have n4_ : Aside0 (Below w0.heap.size w0 wc) := ⟨by rw [← hq_]; exact (have := GeI.mk (IsS102.ge HI0.out); bw_ HB.out)⟩; clear BK289 BK293 HI0 HK HB hq_; have BK289 := n0_; have BK293 := n1_; have HI0 := n2_; have HK := n3_; have HB := n4_; clear n0_ n1_ n2_ n3_ n4_; have hcq289_0 : wc.cell? ⟨gb289, 0, none⟩ = some (.int .i64 0) := (blk_cell BK289.out 0).trans rfl; have hcq289_1 : wc.cell? ⟨gb289, 1, none⟩ = some (.int .i64 0) := (blk_cell BK289.out 1).trans rfl; have hcq289_2 : wc.cell? ⟨gb289, 2, none⟩ = some (.int .i64 0) := (blk_cell BK289.out 2).trans rfl; have hcq289_3 : wc.cell? ⟨gb289, 3, none⟩ = some (.int .i64 0) := (blk_cell BK289.out 3).trans rfl; have hcq289_4 : wc.cell? ⟨gb289, 4, none⟩ = some (.int .i64 0) := (blk_cell BK289.out 4).trans rfl; have hcq289_5 : wc.cell? ⟨gb289, 5, none⟩ = some (.int .i64 0) := (blk_cell BK289.out 5).trans rfl; have hcq289_6 : wc.cell? ⟨gb289, 6, none⟩ = some (.int .i64 0) := (blk_cell BK289.out 6).trans rfl; have hcq289_7 : wc.cell? ⟨gb289, 7, none⟩ = some (.int .i64 0) := (blk_cell BK289.out 7).trans rfl; have hcq293_0 : wc.cell? ⟨gb293, 0, none⟩ = some (.int .i64 (wrap64 (1 + t290))) := (blk_cell BK293.out 0).trans rfl; have hcq293_1 : wc.cell? ⟨gb293, 1, none⟩ = some (.int .i64 x294001_2) := (blk_cell BK293.out 1).trans rfl; have hcq293_2 : wc.cell? ⟨gb293, 2, none⟩ = some (.int .i64 x294002_2) := (blk_cell BK293.out 2).trans rfl; have hcq293_3 : wc.cell? ⟨gb293, 3, none⟩ = some (.int .i64 x294003_2) := (blk_cell BK293.out 3).trans rfl; have hcq293_4 : wc.cell? ⟨gb293, 4, none⟩ = some (.int .i64 x294004_15) := (blk_cell BK293.out 4).trans rfl; have hcq293_5 : wc.cell? ⟨gb293, 5, none⟩ = some (.int .i64 x294005_15) := (blk_cell BK293.out 5).trans rfl; have hcq293_6 : wc.cell? ⟨gb293, 6, none⟩ = some (.int .i64 x294006_15) := (blk_cell BK293.out 6).trans rfl; have hcq293_7 : wc.cell? ⟨gb293, 7, none⟩ = some (.int .i64 0) := (blk_cell BK293.out 7).trans rfl))) | ((with_reducible refine gate_dst (N := 37) rfl ?_); refine Kd.R_lit (Kd.int .i64) _ 3 ?hg (N := 37) ?hd (xs := ([(-128), 127, 0, (-1), 1, 2, (-3)] : List Int)) (inner := [.int .i64 (-128), .int .i64 127, .int .i64 0, .int .i64 (-1), .int .i64 1, .int .i64 2, .int .i64 (-3)]) (ok := fun _ => True) (okp := fun _ => True) ?hr ?hp (fun _ hk => hk) trivial (Below.refl _ _) (Nat.le_refl _) (by simp) ?_; (case hd => rfl); (case hg => rfl); (case hr => first | (go_simp; done) | (go_simp; rfl)); (case hp => exact (Reps.one (show Kd.M (Kd.int .i64) _ _ _ (-128) [.int .i64 (-128)] from rfl) (Reps.one (show Kd.M (Kd.int .i64) _ _ _ 127 [.int .i64 127] from rfl) (Reps.one (show Kd.M (Kd.int .i64) _ _ _ 0 [.int .i64 0] from rfl) (Reps.one (show Kd.M (Kd.int .i64) _ _ _ (-1) [.int .i64 (-1)] from rfl) (Reps.one (show Kd.M (Kd.int .i64) _ _ _ 1 [.int .i64 1] from rfl) (Reps.one (show Kd.M (Kd.int .i64) _ _ _ 2 [.int .i64 2] from rfl) (Reps.one (show Kd.M (Kd.int .i64) _ _ _ (-3) [.int .i64 (-3)] from rfl) (Reps.none _ _))))))))); intro v309 w48 ho49 hb hg_ hnew_; clear hg_ hnew_; (first | rw [← Ny308.out] at ho49 | (simp only [Int.reduceToNat] at ho49; rw [← Ny308.out] at ho49)); have HO310 := A_ (Kd.R_lower ho49 (keep_size (w := w) (g := g) (row := none) d6_)); replace BK289 := A_ (blk_below (bk_ BK289.out) hb); replace BK293 := A_ (blk_below (bk_ BK293.out) hb); replace HK := A_ (KeepBut.trans d6_ (KeepBut.of_below hb g none) (.inl rfl)); replace HB := A_ (below_step (have := GeI.mk (IsS102.ge HI0.out); bw_ HB.out) hb); replace HI0 := A_ (IsS102.below d12_ hb); clear hb ho49; obtain ⟨Ao50, co50, eo50⟩ := Kd.R_slice HO310.out; subst eo50) | ((with_reducible refine gate_callee (f := 72) rfl ?_); refine gL_ (some 38) Try.func72 #[.pointer (some ⟨g, 0, none⟩), .slice Ao50 y308.length co50] ?_; (with_reducible refine (spec_l1Int.calls g s0_0 x1001_15 x1002_15 _ _ y308 t311 t312 t313 w0 _ ?side1 ?side2 ?side3 ?side4 ?side5 A44.out).mono ?_); (case side1 => repeat (first | (with_reducible first | exact HI0.out | apply IsS102.alloc | apply IsS102.drewN | apply IsS102.drew | apply IsS102.set_1 | apply IsS102.set_2 | refine IsS102.far ?_ NB0_289.out _ | refine IsS102.far ?_ NB0_293.out _) | exact HI0.out)); (case side2 => exact (have := GeI.mk (IsS102.ge HI0.out); bw_ HB.out)); (case side3 => repeat (first | exact (Kd.R_reads' HO310.out).2.2 | (with_reducible refine Kd.C_alloc ?_ _) | (with_reducible refine Kd.C_drewN ?_ _) | (with_reducible refine Kd.C_drew ?_))); (case side4 => exact (Kd.R_reads' HO310.out).2.1); (case side5 => exact far_slice (IsS102.own_ne HI0.out HO310.out (by decide))); rintro e w51 ⟨rfl, hi, hb, hk⟩; refine ⟨_, rfl, ?_⟩; replace BK289 := A_ (KeepBut.blk hk (bk_ BK289.out) NB289_0.out (by simp)); replace BK293 := A_ (KeepBut.blk hk (bk_ BK293.out) NB293_0.out (by simp)); replace HO310 := A_ (Kd.R_mono (Kd.R_keep (IsS102.apart (show IsS102 w0 _ g s0_0 x1001_15 x1002_15 from by repeat (first | (with_reducible first | exact HI0.out | apply IsS102.alloc | apply IsS102.drewN | apply IsS102.drew | apply IsS102.set_1 | apply IsS102.set_2 | refine IsS102.far ?_ NB0_289.out _ | refine IsS102.far ?_ NB0_293.out _) | exact HI0.out)) (kr_ HO310.out) (by decide)) hk (fun _ h => h.2)) (fun _ h => h.1)); replace HK := A_ (KeepBut.trans d6_ hk (.inl rfl)); replace HB := A_ (hb); replace HI0 := A_ (hi); (try clear hb); (try clear hb2); (try clear hk); (try clear hi); obtain ⟨y52_0, y52_1, y52_2, y52_3, y52_4, y52_5, y52_6, y52_7, z52_0, z52_1, z52_2, z52_3, z52_4, z52_5, z52_6, z52_7⟩ := cz8_ BK293.out; have hnb53 := NB289_0.out; have hnc53 := NB0_289.out; obtain ⟨y54_0, y54_1, y54_2, y54_3, y54_4, y54_5, y54_6, y54_7, z54_0, z54_1, z54_2, z54_3, z54_4, z54_5, z54_6, z54_7⟩ := cz8_ BK289.out))
         refine bodyPost_ret (results_cell_row rfl _ _ gb289 98 #[.int .i64 (wrap64 (1 + t290)), .int .i64 x294001_2, .int .i64 x294002_2, .int .i64 x294003_2, .int .i64 x294004_15, .int .i64 x294005_15, .int .i64 x294006_15, .int .i64 t311] (0, 0) _ rfl ?hb_ Try.underlying98 rfl (by kernel_rfl)) rfl ?_
         (case hb_ => refine bk_ ?_; refine blk_put (cs := #[.int .i64 (wrap64 (1 + t290)), .int .i64 x294001_2, .int .i64 x294002_2, .int .i64 x294003_2, .int .i64 x294004_15, .int .i64 x294005_15, .int .i64 x294006_15, .int .i64 0]) ?_ 7 _ rfl; refine bk_ ?_; refine blk_put (cs := #[.int .i64 (wrap64 (1 + t290)), .int .i64 x294001_2, .int .i64 x294002_2, .int .i64 x294003_2, .int .i64 x294004_15, .int .i64 x294005_15, .int .i64 0, .int .i64 0]) ?_ 6 _ rfl; refine bk_ ?_; refine blk_put (cs := #[.int .i64 (wrap64 (1 + t290)), .int .i64 x294001_2, .int .i64 x294002_2, .int .i64 x294003_2, .int .i64 x294004_15, .int .i64 0, .int .i64 0, .int .i64 0]) ?_ 5 _ rfl; refine bk_ ?_; refine blk_put (cs := #[.int .i64 (wrap64 (1 + t290)), .int .i64 x294001_2, .int .i64 x294002_2, .int .i64 x294003_2, .int .i64 0, .int .i64 0, .int .i64 0, .int .i64 0]) ?_ 4 _ rfl; refine bk_ ?_; refine blk_put (cs := #[.int .i64 (wrap64 (1 + t290)), .int .i64 x294001_2, .int .i64 x294002_2, .int .i64 0, .int .i64 0, .int .i64 0, .int .i64 0, .int .i64 0]) ?_ 3 _ rfl; refine bk_ ?_; refine blk_put (cs := #[.int .i64 (wrap64 (1 + t290)), .int .i64 x294001_2, .int .i64 0, .int .i64 0, .int .i64 0, .int .i64 0, .int .i64 0, .int .i64 0]) ?_ 2 _ rfl; refine bk_ ?_; refine blk_put (cs := #[.int .i64 (wrap64 (1 + t290)), .int .i64 0, .int .i64 0, .int .i64 0, .int .i64 0, .int .i64 0, .int .i64 0, .int .i64 0]) ?_ 1 _ rfl; refine bk_ ?_; refine blk_put (cs := #[.int .i64 0, .int .i64 0, .int .i64 0, .int .i64 0, .int .i64 0, .int .i64 0, .int .i64 0, .int .i64 0]) ?_ 0 _ rfl; refine bk_ ?_; refine blk_far ?_ NB289_293.out _; refine bk_ ?_; exact BK289.out)
         exact rt_ ⟨by repeat (first | (with_reducible first | exact HI0.out | apply IsS102.alloc | apply IsS102.drewN | apply IsS102.drew | apply IsS102.set_1 | apply IsS102.set_2 | refine IsS102.far ?_ NB0_289.out _ | refine IsS102.far ?_ NB0_293.out _) | exact HI0.out), (have := GeI.mk (IsS102.ge HI0.out); bw_ HB.out), by repeat (first | (with_reducible first | exact HK.out | apply KeepBut.set_ | apply keep_drewN | apply keep_drew | apply keep_alloc | refine keep_far ?_ GW289.out _ | refine keep_far ?_ GW293.out _) | exact HK.out)⟩
        ·replace c43 := Bool.eq_false_iff.mpr c43
         subst c43
         rw [if_neg (show ¬ (false = true) by decide)] at H
         by_cases c55 : (wrap64 (1 + t290)) = 23
         ·rw [if_pos c55] at H
          have c55b0 := beq_iff_eq.mpr c55
          have c55b1 := bne_eq_false_iff_eq.mpr c55
          clear c55
          obtain ⟨y314, hy314⟩ : ∃ y_ : List Int, y_ = (([0, 1, 2, 255] : List Int)) := ⟨_, rfl⟩
          replace H : ((spec_l1Int.f s0_0 x1001_15 x1002_15 y314).bind fun bt317 => (some ((wrap64 (1 + t290)), x294001_2, x294002_2, x294003_2, x294004_15, x294005_15, x294006_15, bt317.1, bt317.2.1, bt317.2.2))) = some (r1, r2, r3, r4, r5, r6, r7, r8, r9, r10) := by first | (rw [hy314]; with_reducible exact H) | (have H2_ := (Option.bind_some _ _).symm.trans H; rw [hy314]; with_reducible exact H2_) | (have H2_ := (Option.bind_some _ _).symm.trans H; with_reducible exact H2_) | with_reducible exact H | (rw [hy314]; exact H) | exact H
          have Ny314 := A_ hy314
          clear hy314
          replace H := Option.bind_eq_some_iff.mp H
          obtain ⟨⟨t317, t318, t319⟩, A560, H⟩ := H
          try dsimp only at H
          have A56 := A_ A560
          clear A560
          simp only [Option.some.injEq, Prod.mk.injEq] at H
          obtain ⟨rfl, rfl, rfl, rfl, rfl, rfl, rfl, rfl, rfl, rfl⟩ := H
          have hnb57 := NB293_289.out
          have hnc57 := NB289_293.out
          have hnb58 := NB293_0.out
          have hnc58 := NB0_293.out
          obtain ⟨y59_0, y59_1, y59_2, y59_3, y59_4, y59_5, y59_6, y59_7, z59_0, z59_1, z59_2, z59_3, z59_4, z59_5, z59_6, z59_7⟩ := cz8_ BK293.out
          go_wp2_with (first | ((with_reducible refine gate_callee (f := 57) rfl ?_); refine gL_ (some 35) Try.func57 #[.int .i64 (wrap64 (1 + t290)), .int .i64 17, .int .i64 21] ?_; (with_reducible refine (spec_l1In.calls (wrap64 (1 + t290)) 17 21 false _ A42.out).mono ?_); rintro e w' ⟨rfl, ⟨nd, rfl⟩⟩; refine ⟨_, rfl, ?_⟩; (try (rw [drewN_self wc]; generalize hq_ : World.drewN wc _ = wc; have n0_ := A_ (bq_ hq_ BK289.out); have n1_ := A_ (bq_ hq_ BK293.out); have n2_ : Aside0 (IsS102 w0 wc g s0_0 x1001_15 x1002_15) := ⟨by rw [← hq_]; exact d12_⟩; have n3_ : Aside0 (KeepBut w wc g none) := ⟨by rw [← hq_]; exact d6_⟩; have n4_ : Aside0 (Below w0.heap.size w0 wc) := ⟨by rw [← hq_]; exact (have := GeI.mk (IsS102.ge HI0.out); bw_ HB.out)⟩; clear BK289 BK293 HI0 HK HB hq_; have BK289 := n0_; have BK293 := n1_; have HI0 := n2_; have HK := n3_; have HB := n4_; clear n0_ n1_ n2_ n3_ n4_; have hcq289_0 : wc.cell? ⟨gb289, 0, none⟩ = some (.int .i64 0) := (blk_cell BK289.out 0).trans rfl; have hcq289_1 : wc.cell? ⟨gb289, 1, none⟩ = some (.int .i64 0) := (blk_cell BK289.out 1).trans rfl; have hcq289_2 : wc.cell? ⟨gb289, 2, none⟩ = some (.int .i64 0) := (blk_cell BK289.out 2).trans rfl; have hcq289_3 : wc.cell? ⟨gb289, 3, none⟩ = some (.int .i64 0) := (blk_cell BK289.out 3).trans rfl; have hcq289_4 : wc.cell? ⟨gb289, 4, none⟩ = some (.int .i64 0) := (blk_cell BK289.out 4).trans rfl; have hcq289_5 : wc.cell? ⟨gb289, 5, none⟩ = some (.int .i64 0) := (blk_cell BK289.out 5).trans rfl; have hcq289_6 : wc.cell? ⟨gb289, 6, none⟩ = some (.int .i64 0) := (blk_cell BK289.out 6).trans rfl; have hcq289_7 : wc.cell? ⟨gb289, 7, none⟩ = some (.int .i64 0) := (blk_cell BK289.out 7).trans rfl; have hcq293_0 : wc.cell? ⟨gb293, 0, none⟩ = some (.int .i64 (wrap64 (1 + t290))) := (blk_cell BK293.out 0).trans rfl; have hcq293_1 : wc.cell? ⟨gb293, 1, none⟩ = some (.int .i64 x294001_2) := (blk_cell BK293.out 1).trans rfl; have hcq293_2 : wc.cell? ⟨gb293, 2, none⟩ = some (.int .i64 x294002_2) := (blk_cell BK293.out 2).trans rfl; have hcq293_3 : wc.cell? ⟨gb293, 3, none⟩ = some (.int .i64 x294003_2) := (blk_cell BK293.out 3).trans rfl; have hcq293_4 : wc.cell? ⟨gb293, 4, none⟩ = some (.int .i64 x294004_15) := (blk_cell BK293.out 4).trans rfl; have hcq293_5 : wc.cell? ⟨gb293, 5, none⟩ = some (.int .i64 x294005_15) := (blk_cell BK293.out 5).trans rfl; have hcq293_6 : wc.cell? ⟨gb293, 6, none⟩ = some (.int .i64 x294006_15) := (blk_cell BK293.out 6).trans rfl; have hcq293_7 : wc.cell? ⟨gb293, 7, none⟩ = some (.int .i64 0) := (blk_cell BK293.out 7).trans rfl))) | ((with_reducible refine gate_dst (N := 45) rfl ?_); refine Kd.R_lit (Kd.int .i64) _ 3 ?hg (N := 45) ?hd (xs := ([0, 1, 2, 255] : List Int)) (inner := [.int .i64 0, .int .i64 1, .int .i64 2, .int .i64 255]) (ok := fun _ => True) (okp := fun _ => True) ?hr ?hp (fun _ hk => hk) trivial (Below.refl _ _) (Nat.le_refl _) (by simp) ?_; (case hd => rfl); (case hg => rfl); (case hr => first | (go_simp; done) | (go_simp; rfl)); (case hp => exact (Reps.one (show Kd.M (Kd.int .i64) _ _ _ 0 [.int .i64 0] from rfl) (Reps.one (show Kd.M (Kd.int .i64) _ _ _ 1 [.int .i64 1] from rfl) (Reps.one (show Kd.M (Kd.int .i64) _ _ _ 2 [.int .i64 2] from rfl) (Reps.one (show Kd.M (Kd.int .i64) _ _ _ 255 [.int .i64 255] from rfl) (Reps.none _ _)))))); intro v315 w60 ho61 hb hg_ hnew_; clear hg_ hnew_; (first | rw [← Ny314.out] at ho61 | (simp only [Int.reduceToNat] at ho61; rw [← Ny314.out] at ho61)); have HO316 := A_ (Kd.R_lower ho61 (keep_size (w := w) (g := g) (row := none) d6_)); replace BK289 := A_ (blk_below (bk_ BK289.out) hb); replace BK293 := A_ (blk_below (bk_ BK293.out) hb); replace HK := A_ (KeepBut.trans d6_ (KeepBut.of_below hb g none) (.inl rfl)); replace HB := A_ (below_step (have := GeI.mk (IsS102.ge HI0.out); bw_ HB.out) hb); replace HI0 := A_ (IsS102.below d12_ hb); clear hb ho61; obtain ⟨Ao62, co62, eo62⟩ := Kd.R_slice HO316.out; subst eo62) | ((with_reducible refine gate_callee (f := 72) rfl ?_); refine gL_ (some 46) Try.func72 #[.pointer (some ⟨g, 0, none⟩), .slice Ao62 y314.length co62] ?_; (with_reducible refine (spec_l1Int.calls g s0_0 x1001_15 x1002_15 _ _ y314 t317 t318 t319 w0 _ ?side1 ?side2 ?side3 ?side4 ?side5 A56.out).mono ?_); (case side1 => repeat (first | (with_reducible first | exact HI0.out | apply IsS102.alloc | apply IsS102.drewN | apply IsS102.drew | apply IsS102.set_1 | apply IsS102.set_2 | refine IsS102.far ?_ NB0_289.out _ | refine IsS102.far ?_ NB0_293.out _) | exact HI0.out)); (case side2 => exact (have := GeI.mk (IsS102.ge HI0.out); bw_ HB.out)); (case side3 => repeat (first | exact (Kd.R_reads' HO316.out).2.2 | (with_reducible refine Kd.C_alloc ?_ _) | (with_reducible refine Kd.C_drewN ?_ _) | (with_reducible refine Kd.C_drew ?_))); (case side4 => exact (Kd.R_reads' HO316.out).2.1); (case side5 => exact far_slice (IsS102.own_ne HI0.out HO316.out (by decide))); rintro e w63 ⟨rfl, hi, hb, hk⟩; refine ⟨_, rfl, ?_⟩; replace BK289 := A_ (KeepBut.blk hk (bk_ BK289.out) NB289_0.out (by simp)); replace BK293 := A_ (KeepBut.blk hk (bk_ BK293.out) NB293_0.out (by simp)); replace HO316 := A_ (Kd.R_mono (Kd.R_keep (IsS102.apart (show IsS102 w0 _ g s0_0 x1001_15 x1002_15 from by repeat (first | (with_reducible first | exact HI0.out | apply IsS102.alloc | apply IsS102.drewN | apply IsS102.drew | apply IsS102.set_1 | apply IsS102.set_2 | refine IsS102.far ?_ NB0_289.out _ | refine IsS102.far ?_ NB0_293.out _) | exact HI0.out)) (kr_ HO316.out) (by decide)) hk (fun _ h => h.2)) (fun _ h => h.1)); replace HK := A_ (KeepBut.trans d6_ hk (.inl rfl)); replace HB := A_ (hb); replace HI0 := A_ (hi); (try clear hb); (try clear hb2); (try clear hk); (try clear hi); obtain ⟨y64_0, y64_1, y64_2, y64_3, y64_4, y64_5, y64_6, y64_7, z64_0, z64_1, z64_2, z64_3, z64_4, z64_5, z64_6, z64_7⟩ := cz8_ BK293.out; have hnb65 := NB289_0.out; have hnc65 := NB0_289.out; obtain ⟨y66_0, y66_1, y66_2, y66_3, y66_4, y66_5, y66_6, y66_7, z66_0, z66_1, z66_2, z66_3, z66_4, z66_5, z66_6, z66_7⟩ := cz8_ BK289.out))
          refine bodyPost_ret (results_cell_row rfl _ _ gb289 98 #[.int .i64 (wrap64 (1 + t290)), .int .i64 x294001_2, .int .i64 x294002_2, .int .i64 x294003_2, .int .i64 x294004_15, .int .i64 x294005_15, .int .i64 x294006_15, .int .i64 t317] (0, 0) _ rfl ?hb_ Try.underlying98 rfl (by kernel_rfl)) rfl ?_
          (case hb_ => refine bk_ ?_; refine blk_put (cs := #[.int .i64 (wrap64 (1 + t290)), .int .i64 x294001_2, .int .i64 x294002_2, .int .i64 x294003_2, .int .i64 x294004_15, .int .i64 x294005_15, .int .i64 x294006_15, .int .i64 0]) ?_ 7 _ rfl; refine bk_ ?_; refine blk_put (cs := #[.int .i64 (wrap64 (1 + t290)), .int .i64 x294001_2, .int .i64 x294002_2, .int .i64 x294003_2, .int .i64 x294004_15, .int .i64 x294005_15, .int .i64 0, .int .i64 0]) ?_ 6 _ rfl; refine bk_ ?_; refine blk_put (cs := #[.int .i64 (wrap64 (1 + t290)), .int .i64 x294001_2, .int .i64 x294002_2, .int .i64 x294003_2, .int .i64 x294004_15, .int .i64 0, .int .i64 0, .int .i64 0]) ?_ 5 _ rfl; refine bk_ ?_; refine blk_put (cs := #[.int .i64 (wrap64 (1 + t290)), .int .i64 x294001_2, .int .i64 x294002_2, .int .i64 x294003_2, .int .i64 0, .int .i64 0, .int .i64 0, .int .i64 0]) ?_ 4 _ rfl; refine bk_ ?_; refine blk_put (cs := #[.int .i64 (wrap64 (1 + t290)), .int .i64 x294001_2, .int .i64 x294002_2, .int .i64 0, .int .i64 0, .int .i64 0, .int .i64 0, .int .i64 0]) ?_ 3 _ rfl; refine bk_ ?_; refine blk_put (cs := #[.int .i64 (wrap64 (1 + t290)), .int .i64 x294001_2, .int .i64 0, .int .i64 0, .int .i64 0, .int .i64 0, .int .i64 0, .int .i64 0]) ?_ 2 _ rfl; refine bk_ ?_; refine blk_put (cs := #[.int .i64 (wrap64 (1 + t290)), .int .i64 0, .int .i64 0, .int .i64 0, .int .i64 0, .int .i64 0, .int .i64 0, .int .i64 0]) ?_ 1 _ rfl; refine bk_ ?_; refine blk_put (cs := #[.int .i64 0, .int .i64 0, .int .i64 0, .int .i64 0, .int .i64 0, .int .i64 0, .int .i64 0, .int .i64 0]) ?_ 0 _ rfl; refine bk_ ?_; refine blk_far ?_ NB289_293.out _; refine bk_ ?_; exact BK289.out)
          exact rt_ ⟨by repeat (first | (with_reducible first | exact HI0.out | apply IsS102.alloc | apply IsS102.drewN | apply IsS102.drew | apply IsS102.set_1 | apply IsS102.set_2 | refine IsS102.far ?_ NB0_289.out _ | refine IsS102.far ?_ NB0_293.out _) | exact HI0.out), (have := GeI.mk (IsS102.ge HI0.out); bw_ HB.out), by repeat (first | (with_reducible first | exact HK.out | apply KeepBut.set_ | apply keep_drewN | apply keep_drew | apply keep_alloc | refine keep_far ?_ GW289.out _ | refine keep_far ?_ GW293.out _) | exact HK.out)⟩
         ·rw [if_neg c55] at H
          have c55b0 := beq_eq_false_iff_ne.mpr c55
          have c55b1 := bne_iff_ne.mpr c55
          simp only [Option.some.injEq, Prod.mk.injEq] at H
          obtain ⟨rfl, rfl, rfl, rfl, rfl, rfl, rfl, rfl, rfl, rfl⟩ := H
          have hnb67 := NB293_289.out
          have hnc67 := NB289_293.out
          have hnb68 := NB293_0.out
          have hnc68 := NB0_293.out
          obtain ⟨y69_0, y69_1, y69_2, y69_3, y69_4, y69_5, y69_6, y69_7, z69_0, z69_1, z69_2, z69_3, z69_4, z69_5, z69_6, z69_7⟩ := cz8_ BK293.out
          go_wp2_with (first | ((with_reducible refine gate_callee (f := 57) rfl ?_); refine gL_ (some 35) Try.func57 #[.int .i64 (wrap64 (1 + t290)), .int .i64 17, .int .i64 21] ?_; (with_reducible refine (spec_l1In.calls (wrap64 (1 + t290)) 17 21 false _ A42.out).mono ?_); rintro e w' ⟨rfl, ⟨nd, rfl⟩⟩; refine ⟨_, rfl, ?_⟩; (try (rw [drewN_self wc]; generalize hq_ : World.drewN wc _ = wc; have n0_ := A_ (bq_ hq_ BK289.out); have n1_ := A_ (bq_ hq_ BK293.out); have n2_ : Aside0 (IsS102 w0 wc g s0_0 x1001_15 x1002_15) := ⟨by rw [← hq_]; exact d12_⟩; have n3_ : Aside0 (KeepBut w wc g none) := ⟨by rw [← hq_]; exact d6_⟩; have n4_ : Aside0 (Below w0.heap.size w0 wc) := ⟨by rw [← hq_]; exact (have := GeI.mk (IsS102.ge HI0.out); bw_ HB.out)⟩; clear BK289 BK293 HI0 HK HB hq_; have BK289 := n0_; have BK293 := n1_; have HI0 := n2_; have HK := n3_; have HB := n4_; clear n0_ n1_ n2_ n3_ n4_; have hcq289_0 : wc.cell? ⟨gb289, 0, none⟩ = some (.int .i64 0) := (blk_cell BK289.out 0).trans rfl; have hcq289_1 : wc.cell? ⟨gb289, 1, none⟩ = some (.int .i64 0) := (blk_cell BK289.out 1).trans rfl; have hcq289_2 : wc.cell? ⟨gb289, 2, none⟩ = some (.int .i64 0) := (blk_cell BK289.out 2).trans rfl; have hcq289_3 : wc.cell? ⟨gb289, 3, none⟩ = some (.int .i64 0) := (blk_cell BK289.out 3).trans rfl; have hcq289_4 : wc.cell? ⟨gb289, 4, none⟩ = some (.int .i64 0) := (blk_cell BK289.out 4).trans rfl; have hcq289_5 : wc.cell? ⟨gb289, 5, none⟩ = some (.int .i64 0) := (blk_cell BK289.out 5).trans rfl; have hcq289_6 : wc.cell? ⟨gb289, 6, none⟩ = some (.int .i64 0) := (blk_cell BK289.out 6).trans rfl; have hcq289_7 : wc.cell? ⟨gb289, 7, none⟩ = some (.int .i64 0) := (blk_cell BK289.out 7).trans rfl; have hcq293_0 : wc.cell? ⟨gb293, 0, none⟩ = some (.int .i64 (wrap64 (1 + t290))) := (blk_cell BK293.out 0).trans rfl; have hcq293_1 : wc.cell? ⟨gb293, 1, none⟩ = some (.int .i64 x294001_2) := (blk_cell BK293.out 1).trans rfl; have hcq293_2 : wc.cell? ⟨gb293, 2, none⟩ = some (.int .i64 x294002_2) := (blk_cell BK293.out 2).trans rfl; have hcq293_3 : wc.cell? ⟨gb293, 3, none⟩ = some (.int .i64 x294003_2) := (blk_cell BK293.out 3).trans rfl; have hcq293_4 : wc.cell? ⟨gb293, 4, none⟩ = some (.int .i64 x294004_15) := (blk_cell BK293.out 4).trans rfl; have hcq293_5 : wc.cell? ⟨gb293, 5, none⟩ = some (.int .i64 x294005_15) := (blk_cell BK293.out 5).trans rfl; have hcq293_6 : wc.cell? ⟨gb293, 6, none⟩ = some (.int .i64 x294006_15) := (blk_cell BK293.out 6).trans rfl; have hcq293_7 : wc.cell? ⟨gb293, 7, none⟩ = some (.int .i64 0) := (blk_cell BK293.out 7).trans rfl)); have hnb70 := NB289_0.out; have hnc70 := NB0_289.out; obtain ⟨y71_0, y71_1, y71_2, y71_3, y71_4, y71_5, y71_6, y71_7, z71_0, z71_1, z71_2, z71_3, z71_4, z71_5, z71_6, z71_7⟩ := cz8_ BK289.out))
          refine bodyPost_ret (results_cell_row rfl _ _ gb289 98 #[.int .i64 (wrap64 (1 + t290)), .int .i64 x294001_2, .int .i64 x294002_2, .int .i64 x294003_2, .int .i64 x294004_15, .int .i64 x294005_15, .int .i64 x294006_15, .int .i64 0] (0, 0) _ rfl ?hb_ Try.underlying98 rfl (by kernel_rfl)) rfl ?_
          (case hb_ => exact bk_ (bp8_ (bk_ BK289.out)))
          exact rt_ ⟨by repeat (first | (with_reducible first | exact HI0.out | apply IsS102.alloc | apply IsS102.drewN | apply IsS102.drew | apply IsS102.set_1 | apply IsS102.set_2 | refine IsS102.far ?_ NB0_289.out _ | refine IsS102.far ?_ NB0_293.out _) | exact HI0.out), (have := GeI.mk (IsS102.ge HI0.out); bw_ HB.out), by repeat (first | (with_reducible first | exact HK.out | apply KeepBut.set_ | apply keep_drewN | apply keep_drew | apply keep_alloc | refine keep_far ?_ GW289.out _ | refine keep_far ?_ GW293.out _) | exact HK.out)⟩

/-! ### spec_l4Words: function 70 -/
def spec_l4Words.l0 : Nat → List Int → Int → List Int → Int → Int → Option (List Int × Int × Int)
 | 0, _, _, _, _, _ => none
 | k + 1, x5, x6, x1000, x1001, x1002 => if x6 > 0 then ((spec_l1Once.f x1000 x1001 x1002 8).bind fun bt326 => (if bt326.1 = true then ((spec_l1Word.f x1000 bt326.2.1 bt326.2.2).bind fun bt329 => (if x5.length < 17592186044416 then (spec_l4Words.l0 k (x5 ++ [bt329.1]) (wrap64 (x6 - 1)) x1000 bt329.2.1 bt329.2.2) else (none))) else ((spec_l3Draw.f k x1000 bt326.2.1 bt326.2.2).bind fun bt335 => ((spec_Encode.f k bt335.1 bt335.2.1 bt335.2.2.1 bt335.2.2.2.1 bt335.2.2.2.2.1 bt335.2.2.2.2.2.1 bt335.2.2.2.2.2.2.1 bt335.2.2.2.2.2.2.2.1).bind fun t345 => (if x5.length + t345.length < 17592186044416 then (spec_l4Words.l0 k (x5 ++ t345) (wrap64 (x6 - 1)) x1000 bt335.2.2.2.2.2.2.2.2.1 bt335.2.2.2.2.2.2.2.2.2) else (none)))))) else (some (x5, x1001, x1002))
def spec_l4Words.f (k : Nat) (s0_0 : List Int) (s0_1 : Int) (s0_2 : Int) (a1 : Int) : Option (List Int × Int × Int) := (spec_l1Below.f s0_0 s0_1 s0_2 a1).bind fun bt323 => (spec_l4Words.l0 k (([] : List Int)) bt323.1 s0_0 bt323.2.1 bt323.2.2)
theorem spec_l4Words.mono_l : ∀ k, (∀ y0 y1 y2 y3 y4, LeO (spec_l4Words.l0 k y0 y1 y2 y3 y4) (spec_l4Words.l0 (k + 1) y0 y1 y2 y3 y4))
 | 0 => fun _ _ _ _ _ r h => by simp [spec_l4Words.l0] at h
 | k + 1 => by
  have ih0 := spec_l4Words.mono_l k
  ·intro y0 y1 y2 y3 y4
   unfold spec_l4Words.l0
   repeat' first
   | (with_reducible exact ih0 _ _ _ _ _)
   | (with_reducible exact spec_Encode.mono _ _ _ _ _ _ _ _ _)
   | (with_reducible exact spec_l3Draw.mono _ _ _ _)
   | (with_reducible exact LeO.refl _)
   | (with_reducible exact LeO.none _)
   | (with_reducible refine LeO.ite ?_ ?_)
   | (with_reducible refine LeO.bind ?_ (fun _ => ?_))
   | exact ih0 _ _ _ _ _
   | exact spec_Encode.mono _ _ _ _ _ _ _ _ _
   | exact spec_l3Draw.mono _ _ _ _
   | exact LeO.none _
   | refine LeO.ite ?_ ?_
   | refine LeO.bind ?_ (fun _ => ?_)
theorem spec_l4Words.mono : ∀ a0 a1 a2 a3 k, LeO (spec_l4Words.f k a0 a1 a2 a3) (spec_l4Words.f (k + 1) a0 a1 a2 a3) := by
 intro a0 a1 a2 a3 k
 have ih0 := spec_l4Words.mono_l k
 unfold spec_l4Words.f
 repeat' first
   | (with_reducible exact ih0 _ _ _ _ _)
   | (with_reducible exact spec_Encode.mono _ _ _ _ _ _ _ _ _)
   | (with_reducible exact spec_l3Draw.mono _ _ _ _)
   | (with_reducible exact LeO.refl _)
   | (with_reducible exact LeO.none _)
   | (with_reducible refine LeO.ite ?_ ?_)
   | (with_reducible refine LeO.bind ?_ (fun _ => ?_))
   | exact ih0 _ _ _ _ _
   | exact spec_Encode.mono _ _ _ _ _ _ _ _ _
   | exact spec_l3Draw.mono _ _ _ _
   | exact LeO.none _
   | refine LeO.ite ?_ ?_
   | refine LeO.bind ?_ (fun _ => ?_)
set_option maxHeartbeats 8000000 in
set_option maxRecDepth 100000 in
theorem spec_l4Words.calls (k : Nat) (g : Nat) (s0_0 : List Int) (s0_1 : Int) (s0_2 : Int) (a1 : Int) (r1 : List Int) (r2 : Int) (r3 : Int) (w0 w : World) (hI : IsS102 w0 w g s0_0 s0_1 s0_2) (hB : Below w0.heap.size w0 w) (h : spec_l4Words.f k s0_0 s0_1 s0_2 a1 = some (r1, r2, r3)) :
  Calls Try.prog 70 #[.pointer (some ⟨g, 0, none⟩), .int .i64 a1] w fun e w' => ∃ v0_ : Value, e = .returned (v0_) ∧ Kd.R (Kd.int .i64) 3 w' w.heap.size (fun _ => True) v0_ r1 ∧ IsS102 w0 w' g s0_0 r2 r3 ∧ Below w0.heap.size w0 w' ∧ KeepBut w w' g none := by
 have HI0 := A_ hI
 have HK := A_ (KeepBut.refl w g none)
 have HL := A_ hB.size
 clear hI
 have HW0 := A_ hB.size
 have HB := A_ hB
 clear hB
 have H : ((spec_l1Below.f s0_0 s0_1 s0_2 a1).bind fun bt323 => (spec_l4Words.l0 k (([] : List Int)) bt323.1 s0_0 bt323.2.1 bt323.2.2)) = some (r1, r2, r3) := h
 clear h
 obtain ⟨y320, hy320⟩ : ∃ y_ : List Int, y_ = (([] : List Int)) := ⟨_, rfl⟩
 replace H : ((spec_l1Below.f s0_0 s0_1 s0_2 a1).bind fun bt323 => (spec_l4Words.l0 k y320 bt323.1 s0_0 bt323.2.1 bt323.2.2)) = some (r1, r2, r3) := by first | (rw [hy320]; with_reducible exact H) | (have H2_ := (Option.bind_some _ _).symm.trans H; rw [hy320]; with_reducible exact H2_) | (have H2_ := (Option.bind_some _ _).symm.trans H; with_reducible exact H2_) | with_reducible exact H | (rw [hy320]; exact H) | exact H
 have Ny320 := A_ hy320
 clear hy320
 replace H := Option.bind_eq_some_iff.mp H
 obtain ⟨⟨t323, t324, t325⟩, A30, H⟩ := H
 try dsimp only at H
 have A3 := A_ A30
 clear A30
 have H' := A_ H
 clear H
 go_enter Try.func70, Try.ntmps70
 go_wp2_with (first | ((with_reducible refine gate_dst (N := 7) rfl ?_); refine Kd.R_lit (Kd.int .i64) _ 3 ?hg (N := 7) ?hd (xs := ([] : List Int)) (inner := []) (ok := fun _ => True) (okp := fun _ => True) ?hr ?hp (fun _ hk => hk) trivial (Below.refl _ _) (Nat.le_refl _) (by simp) ?_; (case hd => rfl); (case hg => rfl); (case hr => first | (go_simp; done) | (go_simp; rfl)); (case hp => exact (Reps.none _ _)); intro v321 w4 ho5 hb hg_ hnew_; clear hg_ hnew_; (first | rw [← Ny320.out] at ho5 | (simp only [Int.reduceToNat] at ho5; rw [← Ny320.out] at ho5)); have HO322 := A_ (Kd.R_lower ho5 (keep_size (w := w) (g := g) (row := none) d1_)); replace HK := A_ (KeepBut.trans d1_ (KeepBut.of_below hb g none) (.inl rfl)); replace HB := A_ (below_step (have := GeI.mk (IsS102.ge HI0.out); bw_ HB.out) hb); replace HI0 := A_ (IsS102.below d11_ hb); clear hb ho5) | ((with_reducible refine gate_callee (f := 71) rfl ?_); refine gL_ (some 10) Try.func71 #[.pointer (some ⟨g, 0, none⟩), .int .i64 a1] ?_; (with_reducible refine (spec_l1Below.calls g s0_0 s0_1 s0_2 a1 t323 t324 t325 w0 _ ?side1 ?side2 A3.out).mono ?_); (case side1 => repeat (first | (with_reducible first | exact HI0.out | apply IsS102.alloc | apply IsS102.drewN | apply IsS102.drew | apply IsS102.set_1 | apply IsS102.set_2) | exact HI0.out)); (case side2 => exact (have := GeI.mk (IsS102.ge HI0.out); bw_ HB.out)); rintro e w6 ⟨rfl, hi, hb, hk⟩; refine ⟨_, rfl, ?_⟩; replace HO322 := A_ (Kd.R_mono (Kd.R_keep (IsS102.apart (show IsS102 w0 _ g s0_0 s0_1 s0_2 from by repeat (first | (with_reducible first | exact HI0.out | apply IsS102.alloc | apply IsS102.drewN | apply IsS102.drew | apply IsS102.set_1 | apply IsS102.set_2) | exact HI0.out)) (kr_ HO322.out) (by decide)) hk (fun _ h => h.2)) (fun _ h => h.1)); replace HK := A_ (KeepBut.trans d1_ hk (.inl rfl)); replace HB := A_ (hb); replace HI0 := A_ (hi); (try clear hb); (try clear hb2); (try clear hk); (try clear hi)))
 go_loopg [5, 6] k (fun kq v5 v6 w' => ∃ (x5_1 : List Int) (x6_1 : Int) (x1001_1 : Int) (x1002_1 : Int), v6 = .int .i64 x6_1 ∧ Aside0 (spec_l4Words.l0 kq x5_1 x6_1 s0_0 x1001_1 x1002_1 = some (r1, r2, r3)) ∧ Aside0 (kq ≤ k) ∧ Aside0 (Kd.R (Kd.int .i64) 3 w' w.heap.size (fun _ => True) v5 x5_1) ∧ Aside0 (IsS102 w0 w' g s0_0 x1001_1 x1002_1) ∧ Aside0 (KeepBut w w' g none) ∧ Aside0 (Below w0.heap.size w0 w'))
 case atStart => exact ⟨(y320), (t323), (t324), (t325), d3_, H', ⟨Nat.le_refl _⟩, ⟨kr_ HO322.out⟩, ⟨by repeat (first | (with_reducible first | exact HI0.out | apply IsS102.alloc | apply IsS102.drewN | apply IsS102.drew | apply IsS102.set_1 | apply IsS102.set_2) | exact HI0.out)⟩, ⟨by repeat (first | (with_reducible first | exact HK.out | apply KeepBut.set_ | apply keep_drewN | apply keep_drew | apply keep_alloc) | exact HK.out)⟩, ⟨(have := GeI.mk (IsS102.ge HI0.out); bw_ HB.out)⟩⟩
 case round =>
  clear H'
  try clear p2
  obtain ⟨x5_1, x6_1, x1001_1, x1002_1, rfl, HA, HK1, HO_5, HI0, HK, HB⟩ := hrel
  cases gk with
  | zero => exact absurd HA.out (by simp [spec_l4Words.l0])
  | succ k1 =>
   have H := HA.out
   clear HA
   simp only [spec_l4Words.l0] at H
   by_cases c7 : x6_1 > 0
   ·rw [if_pos c7] at H
    have c7b0 := decide_eq_true c7
    clear c7
    replace H := Option.bind_eq_some_iff.mp H
    obtain ⟨⟨t326, t327, t328⟩, A80, H⟩ := H
    try dsimp only at H
    have A8 := A_ A80
    clear A80
    by_cases c9 : t326 = true
    ·subst c9
     rw [if_pos rfl] at H
     replace H := Option.bind_eq_some_iff.mp H
     obtain ⟨⟨t329, t330, t331⟩, A100, H⟩ := H
     try dsimp only at H
     have A10 := A_ A100
     clear A100
     by_cases c11 : x5_1.length < 17592186044416
     ·rw [if_pos c11] at H
      have LMc11 := A_ c11
      clear c11
      obtain ⟨y332, hy332⟩ : ∃ y_ : List Int, y_ = (x5_1 ++ [t329]) := ⟨_, rfl⟩
      replace H : (spec_l4Words.l0 k1 y332 (wrap64 (x6_1 - 1)) s0_0 t330 t331) = some (r1, r2, r3) := by first | (rw [hy332]; with_reducible exact H) | (have H2_ := (Option.bind_some _ _).symm.trans H; rw [hy332]; with_reducible exact H2_) | (have H2_ := (Option.bind_some _ _).symm.trans H; with_reducible exact H2_) | with_reducible exact H | (rw [hy332]; exact H) | exact H
      have Ny332 := A_ hy332
      clear hy332
      have H' := A_ H
      clear H
      go_wp2_with (first | ((with_reducible refine gate_callee (f := 81) rfl ?_); refine gL_ (some 16) Try.func81 #[.pointer (some ⟨g, 0, none⟩), .int .i64 8] ?_; (with_reducible refine (spec_l1Once.calls g s0_0 x1001_1 x1002_1 8 true t327 t328 w0 _ ?side1 ?side2 A8.out).mono ?_); (case side1 => repeat (first | (with_reducible first | exact HI0.out | apply IsS102.alloc | apply IsS102.drewN | apply IsS102.drew | apply IsS102.set_1 | apply IsS102.set_2) | exact HI0.out)); (case side2 => exact (have := GeI.mk (IsS102.ge HI0.out); bw_ HB.out)); rintro e w12 ⟨rfl, hi, hb, hk⟩; refine ⟨_, rfl, ?_⟩; replace HO_5 := A_ (Kd.R_mono (Kd.R_keep (IsS102.apart (show IsS102 w0 _ g s0_0 x1001_1 x1002_1 from by repeat (first | (with_reducible first | exact HI0.out | apply IsS102.alloc | apply IsS102.drewN | apply IsS102.drew | apply IsS102.set_1 | apply IsS102.set_2) | exact HI0.out)) (kr_ HO_5.out) (by decide)) hk (fun _ h => h.2)) (fun _ h => h.1)); replace HK := A_ (KeepBut.trans d1_ hk (.inl rfl)); replace HB := A_ (hb); replace HI0 := A_ (hi); (try clear hb); (try clear hb2); (try clear hk); (try clear hi)) | ((with_reducible refine gate_callee (f := 85) rfl ?_); refine gL_ (some 19) Try.func85 #[.pointer (some ⟨g, 0, none⟩)] ?_; (with_reducible refine (spec_l1Word.calls g s0_0 t327 t328 t329 t330 t331 w0 _ ?side1 ?side2 A10.out).mono ?_); (case side1 => repeat (first | (with_reducible first | exact HI0.out | apply IsS102.alloc | apply IsS102.drewN | apply IsS102.drew | apply IsS102.set_1 | apply IsS102.set_2) | exact HI0.out)); (case side2 => exact (have := GeI.mk (IsS102.ge HI0.out); bw_ HB.out)); rintro e w13 ⟨rfl, hi, hb, hk⟩; refine ⟨_, rfl, ?_⟩; replace HO_5 := A_ (Kd.R_mono (Kd.R_keep (IsS102.apart (show IsS102 w0 _ g s0_0 t327 t328 from by repeat (first | (with_reducible first | exact HI0.out | apply IsS102.alloc | apply IsS102.drewN | apply IsS102.drew | apply IsS102.set_1 | apply IsS102.set_2) | exact HI0.out)) (kr_ HO_5.out) (by decide)) hk (fun _ h => h.2)) (fun _ h => h.1)); replace HK := A_ (KeepBut.trans d1_ hk (.inl rfl)); replace HB := A_ (hb); replace HI0 := A_ (hi); (try clear hb); (try clear hb2); (try clear hk); (try clear hi)) | ((with_reducible refine gate_builtin (b := .append) (xs := #[.tmp 17, .tmp 20]) rfl ?_); at_builtin; refine Kd.R_append (Kd.int .i64) w.heap.size rfl (.tmp 17) (.tmp 20) 22 3 (.int .i64 0) 8 rfl Try.underlying22 info3 rfl (by decide) (by omega) u5 x5_1 t329 [.int .i64 t329] (fun _ => True) (fun _ => False) rfl rfl ?aP (fun _ hk => hk.elim) ?aF ?aO (Below.refl _ _) ?aS ?aL ?_; (case aP => exact rfl); (case aF => exact (fun _ _ => trivial)); (case aO => exact (kr_ HO_5.out)); (case aS => exact (keep_size (w := w) (g := g) (row := none) d1_)); (case aL => have := LMc11.out; omega); intro v333 w14 ho hb hg hat; rw [← Ny332.out] at ho; have n0_ := A_ (IsS102.grown d11_ hg (IsS102.own_ne HI0.out HO_5.out (by decide))); have n1_ := A_ (below_weaken (have := GeI.mk (IsS102.ge HI0.out); bw_ HB.out) HL.out hb); have n2_ := A_ (KeepBut.trans d1_ (KeepBut.of_grown hg g) (Kd.R_base2 HO_5.out)); have n3_ := A_ (ho); clear HI0; clear HB; clear HK; clear HO_5; have HI0 := n0_; have HB := n1_; have HK := n2_; have HO334 := n3_; clear n0_ n1_ n2_ n3_; clear ho hb hg hat))
      go_roundg k1
      case measure => have := HK1.out; omega
      case rel => exact ⟨(y332), (wrap64 (x6_1 - 1)), (t330), (t331), d3_, H', ⟨by have := HK1.out; omega⟩, ⟨kr_ HO334.out⟩, ⟨by repeat (first | (with_reducible first | exact HI0.out | apply IsS102.alloc | apply IsS102.drewN | apply IsS102.drew | apply IsS102.set_1 | apply IsS102.set_2) | exact HI0.out)⟩, ⟨by repeat (first | (with_reducible first | exact HK.out | apply KeepBut.set_ | apply keep_drewN | apply keep_drew | apply keep_alloc) | exact HK.out)⟩, ⟨(have := GeI.mk (IsS102.ge HI0.out); bw_ HB.out)⟩⟩
     ·rw [if_neg c11] at H
      exact absurd H (by simp)
    ·replace c9 := Bool.eq_false_iff.mpr c9
     subst c9
     rw [if_neg (show ¬ (false = true) by decide)] at H
     replace H := Option.bind_eq_some_iff.mp H
     obtain ⟨⟨t335, t336, t337, t338, t339, t340, t341, t342, t343, t344⟩, A150, H⟩ := H
     try dsimp only at H
     have A15 := A_ A150
     clear A150
     replace H := Option.bind_eq_some_iff.mp H
     obtain ⟨t345, A160, H⟩ := H
     try dsimp only at H
     have A16 := A_ A160
     clear A160
     by_cases c17 : x5_1.length + t345.length < 17592186044416
     ·rw [if_pos c17] at H
      have LMc17 := A_ c17
      clear c17
      obtain ⟨y348, hy348⟩ : ∃ y_ : List Int, y_ = (x5_1 ++ t345) := ⟨_, rfl⟩
      replace H : (spec_l4Words.l0 k1 y348 (wrap64 (x6_1 - 1)) s0_0 t343 t344) = some (r1, r2, r3) := by first | (rw [hy348]; with_reducible exact H) | (have H2_ := (Option.bind_some _ _).symm.trans H; rw [hy348]; with_reducible exact H2_) | (have H2_ := (Option.bind_some _ _).symm.trans H; with_reducible exact H2_) | with_reducible exact H | (rw [hy348]; exact H) | exact H
      have Ny348 := A_ hy348
      clear hy348
      have H' := A_ H
      clear H
      go_wp2_with (first | ((with_reducible refine gate_callee (f := 81) rfl ?_); refine gL_ (some 16) Try.func81 #[.pointer (some ⟨g, 0, none⟩), .int .i64 8] ?_; (with_reducible refine (spec_l1Once.calls g s0_0 x1001_1 x1002_1 8 false t327 t328 w0 _ ?side1 ?side2 A8.out).mono ?_); (case side1 => repeat (first | (with_reducible first | exact HI0.out | apply IsS102.alloc | apply IsS102.drewN | apply IsS102.drew | apply IsS102.set_1 | apply IsS102.set_2) | exact HI0.out)); (case side2 => exact (have := GeI.mk (IsS102.ge HI0.out); bw_ HB.out)); rintro e w18 ⟨rfl, hi, hb, hk⟩; refine ⟨_, rfl, ?_⟩; replace HO_5 := A_ (Kd.R_mono (Kd.R_keep (IsS102.apart (show IsS102 w0 _ g s0_0 x1001_1 x1002_1 from by repeat (first | (with_reducible first | exact HI0.out | apply IsS102.alloc | apply IsS102.drewN | apply IsS102.drew | apply IsS102.set_1 | apply IsS102.set_2) | exact HI0.out)) (kr_ HO_5.out) (by decide)) hk (fun _ h => h.2)) (fun _ h => h.1)); replace HK := A_ (KeepBut.trans d1_ hk (.inl rfl)); replace HB := A_ (hb); replace HI0 := A_ (hi); (try clear hb); (try clear hb2); (try clear hk); (try clear hi)) | ((with_reducible refine gate_callee (f := 87) rfl ?_); refine gL_ (some 24) Try.func87 #[.pointer (some ⟨g, 0, none⟩)] ?_; (with_reducible refine (spec_l3Draw.calls k1 g s0_0 t327 t328 t335 t336 t337 t338 t339 t340 t341 t342 t343 t344 w0 _ ?side1 ?side2 A15.out).mono ?_); (case side1 => repeat (first | (with_reducible first | exact HI0.out | apply IsS102.alloc | apply IsS102.drewN | apply IsS102.drew | apply IsS102.set_1 | apply IsS102.set_2) | exact HI0.out)); (case side2 => exact (have := GeI.mk (IsS102.ge HI0.out); bw_ HB.out)); rintro e w19 ⟨rfl, hi, hb, hk⟩; refine ⟨_, rfl, ?_⟩; replace HO_5 := A_ (Kd.R_mono (Kd.R_keep (IsS102.apart (show IsS102 w0 _ g s0_0 t327 t328 from by repeat (first | (with_reducible first | exact HI0.out | apply IsS102.alloc | apply IsS102.drewN | apply IsS102.drew | apply IsS102.set_1 | apply IsS102.set_2) | exact HI0.out)) (kr_ HO_5.out) (by decide)) hk (fun _ h => h.2)) (fun _ h => h.1)); replace HK := A_ (KeepBut.trans d1_ hk (.inl rfl)); replace HB := A_ (hb); replace HI0 := A_ (hi); (try clear hb); (try clear hb2); (try clear hk); (try clear hi)) | ((with_reducible refine gate_callee (f := 86) rfl ?_); refine gL_ (some 25) Try.func86 #[.agg #[.int .i64 t335, .int .i64 t336, .int .i64 t337, .int .i64 t338, .int .i64 t339, .int .i64 t340, .int .i64 t341, .int .i64 t342]] ?_; (with_reducible refine (spec_Encode.calls k1 t335 t336 t337 t338 t339 t340 t341 t342 t345 _ A16.out).mono ?_); rintro e w20 ⟨v346, rfl, ho0, hb⟩; refine ⟨_, rfl, ?_⟩; have HO347 := A_ (Kd.R_lower (Kd.R_new' ho0 (Kd.R_lt (kr_ HO_5.out))) (keep_size (w := w) (g := g) (row := none) d1_)); replace HO_5 := A_ (Kd.R_elder' (kr_ HO_5.out) (Kd.R_base ho0) hb); replace HK := A_ (KeepBut.trans d1_ (KeepBut.of_below hb g none) (.inl rfl)); replace HB := A_ (below_step (have := GeI.mk (IsS102.ge HI0.out); bw_ HB.out) hb); replace HI0 := A_ (IsS102.below d11_ hb); (try clear hb); (try clear hb2); (try clear hk); (try clear hi); (try clear ho0); obtain ⟨Ao22, co22, eo22⟩ := Kd.R_slice HO347.out; subst eo22) | ((with_reducible refine gate_builtin (b := .append) (xs := #[.tmp 22, .tmp 25]) rfl ?_); at_builtin; refine Kd.R_append_rows (Kd.int .i64) w.heap.size rfl (.tmp 22) (.tmp 25) 22 3 (.int .i64 0) 8 rfl Try.underlying22 info3 rfl (by decide) (by omega) u5 x5_1 t345 _ _ _ (fun k_ => some k_ ≠ (.slice Ao22 t345.length co22 : Value).ownBlock) (fun _ => False) rfl rfl ?aO ?aR (fun _ _ h => h) (fun _ h => h.elim) ?aF (Below.refl _ _) ?aS ?aL ?_; (case aR => repeat (first | exact (Kd.R_reads' HO347.out).2.2 | (with_reducible refine Kd.C_alloc ?_ _) | (with_reducible refine Kd.C_drewN ?_ _) | (with_reducible refine Kd.C_drew ?_))); (case aF => exact (fun k_ hk => Kd.fresh' (Kd.R_lt (kr_ HO347.out)) k_ hk)); (case aO => exact (kr_ (Kd.R_mono HO_5.out (fun _ hk => hk.2)))); (case aS => exact (keep_size (w := w) (g := g) (row := none) d1_)); (case aL => have := LMc17.out; omega); intro v349 w21 ho hb hg hat; rw [← Ny348.out] at ho; have n0_ := A_ (IsS102.grown d11_ hg (IsS102.own_ne HI0.out HO_5.out (by decide))); have n1_ := A_ (Kd.R_after (ok := (fun _ => True)) (kr_ HO347.out) hg hat); have n2_ := A_ (below_weaken (have := GeI.mk (IsS102.ge HI0.out); bw_ HB.out) HL.out hb); have n3_ := A_ (KeepBut.trans d1_ (KeepBut.of_grown hg g) (Kd.R_base2 HO_5.out)); have n4_ := A_ (ho); clear HI0; clear HO347; clear HB; clear HK; clear HO_5; have HI0 := n0_; have HO347 := n1_; have HB := n2_; have HK := n3_; have HO350 := n4_; clear n0_ n1_ n2_ n3_ n4_; clear ho hb hg hat))
      go_roundg k1
      case measure => have := HK1.out; omega
      case rel => exact ⟨(y348), (wrap64 (x6_1 - 1)), (t343), (t344), d3_, H', ⟨by have := HK1.out; omega⟩, ⟨kr_ (Kd.R_mono HO350.out (fun _ hk => trivial))⟩, ⟨by repeat (first | (with_reducible first | exact HI0.out | apply IsS102.alloc | apply IsS102.drewN | apply IsS102.drew | apply IsS102.set_1 | apply IsS102.set_2) | exact HI0.out)⟩, ⟨by repeat (first | (with_reducible first | exact HK.out | apply KeepBut.set_ | apply keep_drewN | apply keep_drew | apply keep_alloc) | exact HK.out)⟩, ⟨(have := GeI.mk (IsS102.ge HI0.out); bw_ HB.out)⟩⟩
     ·rw [if_neg c17] at H
      exact absurd H (by simp)
   ·rw [if_neg c7] at H
    have c7b0 := decide_eq_false c7
    clear c7
    simp only [Option.some.injEq, Prod.mk.injEq] at H
    obtain ⟨rfl, rfl, rfl⟩ := H
    go_wp2
    go_ret
    exact ⟨_, by first | rfl | (simp [errW_none, errW_some] <;> rfl) | (simp [*, errW_none, errW_some] <;> rfl), kr_ HO_5.out, by repeat (first | (with_reducible first | exact HI0.out | apply IsS102.alloc | apply IsS102.drewN | apply IsS102.drew | apply IsS102.set_1 | apply IsS102.set_2) | exact HI0.out), (have := GeI.mk (IsS102.ge HI0.out); bw_ HB.out), by repeat (first | (with_reducible first | exact HK.out | apply KeepBut.set_ | apply keep_drewN | apply keep_drew | apply keep_alloc) | exact HK.out)⟩

/-! ### spec_DrawMachNew: function 39 -/
def spec_DrawMachNew.f (k : Nat) (l0 : List Int) : Option (List Int × Int × Int × List Int) := (spec_l1New.f k l0).bind fun bt351 => ((spec_l4Words.f k bt351.1 bt351.2.1 bt351.2.2 6).bind fun bt355 => ((spec_l1Below.f bt351.1 bt355.2.1 bt355.2.2 8).bind fun bt360 => (if bt360.1 = 0 then (if bt355.1.length < 17592186044416 then ((spec_l1Int.f bt351.1 bt360.2.1 bt360.2.2 (([0, 4, 64, 3, (-2), 510, 512] : List Int))).bind fun bt369 => ((spec_l1Int.f bt351.1 bt369.2.1 bt369.2.2 (([0, 64, 65535, 65536, (-1)] : List Int))).bind fun bt375 => ((spec_l1Int.f bt351.1 bt375.2.1 bt375.2.2 (([1, 65535, 65536] : List Int))).bind fun bt381 => (some ((bt355.1 ++ [(-1)]), bt369.1, bt375.1, (([bt381.1] : List Int))))))) else (none)) else (if bt360.1 = 1 then ((spec_l1Below.f bt351.1 bt360.2.1 bt360.2.2 4).bind fun bt387 => (if 0 ≤ (wrap64 (254 + bt387.1)) then (if (wrap64 (254 + bt387.1) : Int).toNat ≤ 35184372088832 then ((spec_l1Int.f bt351.1 bt387.2.1 bt387.2.2 (([0, 4, 64, 3, (-2), 510, 512] : List Int))).bind fun bt396 => ((spec_l1Int.f bt351.1 bt396.2.1 bt396.2.2 (([0, 64, 65535, 65536, (-1)] : List Int))).bind fun bt402 => ((spec_l1Int.f bt351.1 bt402.2.1 bt402.2.2 (([1, 65535, 65536] : List Int))).bind fun bt408 => (some ((List.replicate (wrap64 (254 + bt387.1) : Int).toNat 0), bt396.1, bt402.1, (([bt408.1] : List Int))))))) else (none)) else (none))) else ((spec_l1Int.f bt351.1 bt360.2.1 bt360.2.2 (([0, 4, 64, 3, (-2), 510, 512] : List Int))).bind fun bt417 => ((spec_l1Int.f bt351.1 bt417.2.1 bt417.2.2 (([0, 64, 65535, 65536, (-1)] : List Int))).bind fun bt423 => ((spec_l1Int.f bt351.1 bt423.2.1 bt423.2.2 (([1, 65535, 65536] : List Int))).bind fun bt429 => (some (bt355.1, bt417.1, bt423.1, (([bt429.1] : List Int)))))))))))
theorem spec_DrawMachNew.mono : ∀ a0 k, LeO (spec_DrawMachNew.f k a0) (spec_DrawMachNew.f (k + 1) a0) := by
 intro a0 k
 unfold spec_DrawMachNew.f
 repeat' first
   | (with_reducible exact spec_l1New.mono _ _)
   | (with_reducible exact spec_l4Words.mono _ _ _ _ _)
   | (with_reducible exact LeO.refl _)
   | (with_reducible exact LeO.none _)
   | (with_reducible refine LeO.ite ?_ ?_)
   | (with_reducible refine LeO.bind ?_ (fun _ => ?_))
   | exact spec_l1New.mono _ _
   | exact spec_l4Words.mono _ _ _ _ _
   | exact LeO.none _
   | refine LeO.ite ?_ ?_
   | refine LeO.bind ?_ (fun _ => ?_)
set_option maxHeartbeats 8000000 in
set_option maxRecDepth 100000 in
theorem spec_DrawMachNew.calls (k : Nat) (A0 : Option Addr) (c0 : Nat) (l0 : List Int) (r1 : List Int) (r2 : Int) (r3 : Int) (r4 : List Int) (w : World) (hr0 : Kd.C (Kd.int .u8) w A0 l0.length l0) (hc0 : l0.length ≤ c0) (h : spec_DrawMachNew.f k l0 = some (r1, r2, r3, r4)) :
  Calls Try.prog 39 #[.slice A0 l0.length c0] w fun e w' => ∃ v0_ v3_ : Value, e = .returned (.tuple #[v0_, .int .i64 r2, .int .i64 r3, v3_]) ∧ Kd.R (Kd.int .i64) 3 w' w.heap.size (fun k_ => some k_ ≠ (v3_ : Value).ownBlock) v0_ r1 ∧ Kd.R (Kd.int .i64) 3 w' w.heap.size (fun k_ => some k_ ≠ (v0_ : Value).ownBlock) v3_ r4 ∧ Below w.heap.size w w' := by
 have HR0 := A_ hr0
 have HC0 := A_ hc0
 clear hr0 hc0
 have HB := A_ (Below.refl w.heap.size w)
 have H : ((spec_l1New.f k l0).bind fun bt351 => ((spec_l4Words.f k bt351.1 bt351.2.1 bt351.2.2 6).bind fun bt355 => ((spec_l1Below.f bt351.1 bt355.2.1 bt355.2.2 8).bind fun bt360 => (if bt360.1 = 0 then (if bt355.1.length < 17592186044416 then ((spec_l1Int.f bt351.1 bt360.2.1 bt360.2.2 (([0, 4, 64, 3, (-2), 510, 512] : List Int))).bind fun bt369 => ((spec_l1Int.f bt351.1 bt369.2.1 bt369.2.2 (([0, 64, 65535, 65536, (-1)] : List Int))).bind fun bt375 => ((spec_l1Int.f bt351.1 bt375.2.1 bt375.2.2 (([1, 65535, 65536] : List Int))).bind fun bt381 => (some ((bt355.1 ++ [(-1)]), bt369.1, bt375.1, (([bt381.1] : List Int))))))) else (none)) else (if bt360.1 = 1 then ((spec_l1Below.f bt351.1 bt360.2.1 bt360.2.2 4).bind fun bt387 => (if 0 ≤ (wrap64 (254 + bt387.1)) then (if (wrap64 (254 + bt387.1) : Int).toNat ≤ 35184372088832 then ((spec_l1Int.f bt351.1 bt387.2.1 bt387.2.2 (([0, 4, 64, 3, (-2), 510, 512] : List Int))).bind fun bt396 => ((spec_l1Int.f bt351.1 bt396.2.1 bt396.2.2 (([0, 64, 65535, 65536, (-1)] : List Int))).bind fun bt402 => ((spec_l1Int.f bt351.1 bt402.2.1 bt402.2.2 (([1, 65535, 65536] : List Int))).bind fun bt408 => (some ((List.replicate (wrap64 (254 + bt387.1) : Int).toNat 0), bt396.1, bt402.1, (([bt408.1] : List Int))))))) else (none)) else (none))) else ((spec_l1Int.f bt351.1 bt360.2.1 bt360.2.2 (([0, 4, 64, 3, (-2), 510, 512] : List Int))).bind fun bt417 => ((spec_l1Int.f bt351.1 bt417.2.1 bt417.2.2 (([0, 64, 65535, 65536, (-1)] : List Int))).bind fun bt423 => ((spec_l1Int.f bt351.1 bt423.2.1 bt423.2.2 (([1, 65535, 65536] : List Int))).bind fun bt429 => (some (bt355.1, bt417.1, bt423.1, (([bt429.1] : List Int)))))))))))) = some (r1, r2, r3, r4) := h
 clear h
 replace H := Option.bind_eq_some_iff.mp H
 obtain ⟨⟨t351, t352, t353⟩, A20, H⟩ := H
 try dsimp only at H
 have A2 := A_ A20
 clear A20
 replace H := Option.bind_eq_some_iff.mp H
 obtain ⟨⟨t355, t358, t359⟩, A30, H⟩ := H
 try dsimp only at H
 have A3 := A_ A30
 clear A30
 replace H := Option.bind_eq_some_iff.mp H
 obtain ⟨⟨t360, t361, t362⟩, A40, H⟩ := H
 try dsimp only at H
 have A4 := A_ A40
 clear A40
 by_cases c5 : t360 = 0
 ·rw [if_pos c5] at H
  have c5b0 := beq_iff_eq.mpr c5
  have c5b1 := bne_eq_false_iff_eq.mpr c5
  clear c5
  by_cases c6 : t355.length < 17592186044416
  ·rw [if_pos c6] at H
   have LMc6 := A_ c6
   clear c6
   obtain ⟨y363, hy363⟩ : ∃ y_ : List Int, y_ = (t355 ++ [(-1)]) := ⟨_, rfl⟩
   replace H : ((spec_l1Int.f t351 t361 t362 (([0, 4, 64, 3, (-2), 510, 512] : List Int))).bind fun bt369 => ((spec_l1Int.f t351 bt369.2.1 bt369.2.2 (([0, 64, 65535, 65536, (-1)] : List Int))).bind fun bt375 => ((spec_l1Int.f t351 bt375.2.1 bt375.2.2 (([1, 65535, 65536] : List Int))).bind fun bt381 => (some (y363, bt369.1, bt375.1, (([bt381.1] : List Int))))))) = some (r1, r2, r3, r4) := by first | (rw [hy363]; with_reducible exact H) | (have H2_ := (Option.bind_some _ _).symm.trans H; rw [hy363]; with_reducible exact H2_) | (have H2_ := (Option.bind_some _ _).symm.trans H; with_reducible exact H2_) | with_reducible exact H | (rw [hy363]; exact H) | exact H
   have Ny363 := A_ hy363
   clear hy363
   obtain ⟨y366, hy366⟩ : ∃ y_ : List Int, y_ = (([0, 4, 64, 3, (-2), 510, 512] : List Int)) := ⟨_, rfl⟩
   replace H : ((spec_l1Int.f t351 t361 t362 y366).bind fun bt369 => ((spec_l1Int.f t351 bt369.2.1 bt369.2.2 (([0, 64, 65535, 65536, (-1)] : List Int))).bind fun bt375 => ((spec_l1Int.f t351 bt375.2.1 bt375.2.2 (([1, 65535, 65536] : List Int))).bind fun bt381 => (some (y363, bt369.1, bt375.1, (([bt381.1] : List Int))))))) = some (r1, r2, r3, r4) := by first | (rw [hy366]; with_reducible exact H) | (have H2_ := (Option.bind_some _ _).symm.trans H; rw [hy366]; with_reducible exact H2_) | (have H2_ := (Option.bind_some _ _).symm.trans H; with_reducible exact H2_) | with_reducible exact H | (rw [hy366]; exact H) | exact H
   have Ny366 := A_ hy366
   clear hy366
   replace H := Option.bind_eq_some_iff.mp H
   obtain ⟨⟨t369, t370, t371⟩, A70, H⟩ := H
   try dsimp only at H
   have A7 := A_ A70
   clear A70
   obtain ⟨y372, hy372⟩ : ∃ y_ : List Int, y_ = (([0, 64, 65535, 65536, (-1)] : List Int)) := ⟨_, rfl⟩
   replace H : ((spec_l1Int.f t351 t370 t371 y372).bind fun bt375 => ((spec_l1Int.f t351 bt375.2.1 bt375.2.2 (([1, 65535, 65536] : List Int))).bind fun bt381 => (some (y363, t369, bt375.1, (([bt381.1] : List Int)))))) = some (r1, r2, r3, r4) := by first | (rw [hy372]; with_reducible exact H) | (have H2_ := (Option.bind_some _ _).symm.trans H; rw [hy372]; with_reducible exact H2_) | (have H2_ := (Option.bind_some _ _).symm.trans H; with_reducible exact H2_) | with_reducible exact H | (rw [hy372]; exact H) | exact H
   have Ny372 := A_ hy372
   clear hy372
   replace H := Option.bind_eq_some_iff.mp H
   obtain ⟨⟨t375, t376, t377⟩, A80, H⟩ := H
   try dsimp only at H
   have A8 := A_ A80
   clear A80
   obtain ⟨y378, hy378⟩ : ∃ y_ : List Int, y_ = (([1, 65535, 65536] : List Int)) := ⟨_, rfl⟩
   replace H : ((spec_l1Int.f t351 t376 t377 y378).bind fun bt381 => (some (y363, t369, t375, (([bt381.1] : List Int))))) = some (r1, r2, r3, r4) := by first | (rw [hy378]; with_reducible exact H) | (have H2_ := (Option.bind_some _ _).symm.trans H; rw [hy378]; with_reducible exact H2_) | (have H2_ := (Option.bind_some _ _).symm.trans H; with_reducible exact H2_) | with_reducible exact H | (rw [hy378]; exact H) | exact H
   have Ny378 := A_ hy378
   clear hy378
   replace H := Option.bind_eq_some_iff.mp H
   obtain ⟨⟨t381, t382, t383⟩, A90, H⟩ := H
   try dsimp only at H
   have A9 := A_ A90
   clear A90
   obtain ⟨y384, hy384⟩ : ∃ y_ : List Int, y_ = (([t381] : List Int)) := ⟨_, rfl⟩
   replace H : (some (y363, t369, t375, y384)) = some (r1, r2, r3, r4) := by first | (rw [hy384]; with_reducible exact H) | (have H2_ := (Option.bind_some _ _).symm.trans H; rw [hy384]; with_reducible exact H2_) | (have H2_ := (Option.bind_some _ _).symm.trans H; with_reducible exact H2_) | with_reducible exact H | (rw [hy384]; exact H) | exact H
   have Ny384 := A_ hy384
   clear hy384
   simp only [Option.some.injEq, Prod.mk.injEq] at H
   obtain ⟨rfl, rfl, rfl, rfl⟩ := H
   go_enter Try.func39, Try.ntmps39
   go_wp2_with (first | ((with_reducible refine gate_callee (f := 69) rfl ?_); refine gL_ (some 9) Try.func69 #[.slice A0 l0.length c0] ?_; (with_reducible refine (spec_l1New.calls k _ _ l0 t351 t352 t353 w _ ?side1 ?side2 ?side3 A2.out).mono ?_); (case side1 => exact bw_ HB.out); (case side2 => exact HR0.out); (case side3 => exact HC0.out); rintro e w10 ⟨g354, rfl, hi, hb, hb2⟩; refine ⟨_, rfl, ?_⟩; replace HB := A_ (hb); have HI354 := A_ (hi); (try clear hb); (try clear hb2); (try clear hk); (try clear hi)) | ((with_reducible refine gate_callee (f := 70) rfl ?_); refine gL_ (some 11) Try.func70 #[.pointer (some ⟨g354, 0, none⟩), .int .i64 6] ?_; (with_reducible refine (spec_l4Words.calls k g354 t351 t352 t353 6 t355 t358 t359 w _ ?side1 ?side2 A3.out).mono ?_); (case side1 => repeat (first | (with_reducible first | exact HI354.out | apply IsS102.alloc | apply IsS102.drewN | apply IsS102.drew | apply IsS102.set_1 | apply IsS102.set_2) | exact HI354.out)); (case side2 => exact (have := GeI.mk (IsS102.ge HI354.out); bw_ HB.out)); rintro e w11 ⟨v356, rfl, ho0, hi, hb, hk⟩; refine ⟨_, rfl, ?_⟩; have HO357 := A_ (Kd.R_lower ho0 (below_size (have := GeI.mk (IsS102.ge HI354.out); bw_ HB.out))); replace HB := A_ (hb); replace HI354 := A_ (hi); (try clear hb); (try clear hb2); (try clear hk); (try clear hi); (try clear ho0)) | ((with_reducible refine gate_callee (f := 71) rfl ?_); refine gL_ (some 13) Try.func71 #[.pointer (some ⟨g354, 0, none⟩), .int .i64 8] ?_; (with_reducible refine (spec_l1Below.calls g354 t351 t358 t359 8 t360 t361 t362 w _ ?side1 ?side2 A4.out).mono ?_); (case side1 => repeat (first | (with_reducible first | exact HI354.out | apply IsS102.alloc | apply IsS102.drewN | apply IsS102.drew | apply IsS102.set_1 | apply IsS102.set_2) | exact HI354.out)); (case side2 => exact (have := GeI.mk (IsS102.ge HI354.out); bw_ HB.out)); rintro e w12 ⟨rfl, hi, hb, hk⟩; refine ⟨_, rfl, ?_⟩; replace HO357 := A_ (Kd.R_mono (Kd.R_keep (IsS102.apart (show IsS102 w _ g354 t351 t358 t359 from by repeat (first | (with_reducible first | exact HI354.out | apply IsS102.alloc | apply IsS102.drewN | apply IsS102.drew | apply IsS102.set_1 | apply IsS102.set_2) | exact HI354.out)) (kr_ HO357.out) (by decide)) hk (fun _ h => h.2)) (fun _ h => h.1)); replace HB := A_ (hb); replace HI354 := A_ (hi); (try clear hb); (try clear hb2); (try clear hk); (try clear hi)) | ((with_reducible refine gate_builtin (b := .append) (xs := #[.tmp 16, .tmp 17]) rfl ?_); at_builtin; refine Kd.R_append (Kd.int .i64) (w0 := w) w.heap.size rfl (.tmp 16) (.tmp 17) 22 3 (.int .i64 0) 8 rfl Try.underlying22 info3 rfl (by decide) (by omega) v356 t355 (-1) [.int .i64 (-1)] (fun _ => True) (fun _ => False) rfl rfl ?aP (fun _ hk => hk.elim) ?aF ?aO ?aB ?aS ?aL ?_; (case aP => exact rfl); (case aB => exact (have := GeI.mk (IsS102.ge HI354.out); bw_ HB.out)); (case aF => exact (fun _ _ => trivial)); (case aO => exact (kr_ HO357.out)); (case aS => exact (below_size (have := GeI.mk (IsS102.ge HI354.out); bw_ HB.out))); (case aL => have := LMc6.out; omega); intro v364 w13 ho hb hg hat; rw [← Ny363.out] at ho; have n0_ := A_ (IsS102.grown d7_ hg (IsS102.own_ne HI354.out HO357.out (by decide))); have n1_ := A_ (hb); have n2_ := A_ (ho); clear HI354; clear HB; clear HO357; have HI354 := n0_; have HB := n1_; have HO365 := n2_; clear n0_ n1_ n2_; clear ho hb hg hat) | ((with_reducible refine gate_dst (N := 27) rfl ?_); refine Kd.R_lit (Kd.int .i64) _ 3 ?hg (N := 27) ?hd (xs := ([0, 4, 64, 3, (-2), 510, 512] : List Int)) (inner := [.int .i64 0, .int .i64 4, .int .i64 64, .int .i64 3, .int .i64 (-2), .int .i64 510, .int .i64 512]) (ok := fun _ => True) (okp := fun _ => True) ?hr ?hp (fun _ hk => hk) trivial (Below.refl _ _) (Nat.le_refl _) (by simp) ?_; (case hd => rfl); (case hg => rfl); (case hr => first | (go_simp; done) | (go_simp; rfl)); (case hp => exact (Reps.one (show Kd.M (Kd.int .i64) _ _ _ 0 [.int .i64 0] from rfl) (Reps.one (show Kd.M (Kd.int .i64) _ _ _ 4 [.int .i64 4] from rfl) (Reps.one (show Kd.M (Kd.int .i64) _ _ _ 64 [.int .i64 64] from rfl) (Reps.one (show Kd.M (Kd.int .i64) _ _ _ 3 [.int .i64 3] from rfl) (Reps.one (show Kd.M (Kd.int .i64) _ _ _ (-2) [.int .i64 (-2)] from rfl) (Reps.one (show Kd.M (Kd.int .i64) _ _ _ 510 [.int .i64 510] from rfl) (Reps.one (show Kd.M (Kd.int .i64) _ _ _ 512 [.int .i64 512] from rfl) (Reps.none _ _))))))))); intro v367 w14 ho15 hb hg_ hnew_; clear hg_ hnew_; (first | rw [← Ny366.out] at ho15 | (simp only [Int.reduceToNat] at ho15; rw [← Ny366.out] at ho15)); have HO368 := A_ (Kd.R_lower (Kd.R_new' ho15 (Kd.R_lt (kr_ HO365.out))) (below_size (have := GeI.mk (IsS102.ge HI354.out); bw_ HB.out))); replace HO365 := A_ (Kd.R_elder' (kr_ HO365.out) (Kd.R_base ho15) hb); replace HB := A_ (below_step (have := GeI.mk (IsS102.ge HI354.out); bw_ HB.out) hb); replace HI354 := A_ (IsS102.below d7_ hb); clear hb ho15; obtain ⟨Ao16, co16, eo16⟩ := Kd.R_slice HO368.out; subst eo16) | ((with_reducible refine gate_callee (f := 72) rfl ?_); refine gL_ (some 28) Try.func72 #[.pointer (some ⟨g354, 0, none⟩), .slice Ao16 y366.length co16] ?_; (with_reducible refine (spec_l1Int.calls g354 t351 t361 t362 _ _ y366 t369 t370 t371 w _ ?side1 ?side2 ?side3 ?side4 ?side5 A7.out).mono ?_); (case side1 => repeat (first | (with_reducible first | exact HI354.out | apply IsS102.alloc | apply IsS102.drewN | apply IsS102.drew | apply IsS102.set_1 | apply IsS102.set_2) | exact HI354.out)); (case side2 => exact (have := GeI.mk (IsS102.ge HI354.out); bw_ HB.out)); (case side3 => repeat (first | exact (Kd.R_reads' HO368.out).2.2 | (with_reducible refine Kd.C_alloc ?_ _) | (with_reducible refine Kd.C_drewN ?_ _) | (with_reducible refine Kd.C_drew ?_))); (case side4 => exact (Kd.R_reads' HO368.out).2.1); (case side5 => exact far_slice (IsS102.own_ne HI354.out HO368.out (by decide))); rintro e w17 ⟨rfl, hi, hb, hk⟩; refine ⟨_, rfl, ?_⟩; replace HO365 := A_ (Kd.R_mono (Kd.R_keep (IsS102.apart (show IsS102 w _ g354 t351 t361 t362 from by repeat (first | (with_reducible first | exact HI354.out | apply IsS102.alloc | apply IsS102.drewN | apply IsS102.drew | apply IsS102.set_1 | apply IsS102.set_2) | exact HI354.out)) (kr_ HO365.out) (by decide)) hk (fun _ h => h.2)) (fun _ h => h.1)); replace HO368 := A_ (Kd.R_mono (Kd.R_keep (IsS102.apart (show IsS102 w _ g354 t351 t361 t362 from by repeat (first | (with_reducible first | exact HI354.out | apply IsS102.alloc | apply IsS102.drewN | apply IsS102.drew | apply IsS102.set_1 | apply IsS102.set_2) | exact HI354.out)) (kr_ HO368.out) (by decide)) hk (fun _ h => h.2)) (fun _ h => h.1)); replace HB := A_ (hb); replace HI354 := A_ (hi); (try clear hb); (try clear hb2); (try clear hk); (try clear hi)) | ((with_reducible refine gate_dst (N := 30) rfl ?_); refine Kd.R_lit (Kd.int .i64) _ 3 ?hg (N := 30) ?hd (xs := ([0, 64, 65535, 65536, (-1)] : List Int)) (inner := [.int .i64 0, .int .i64 64, .int .i64 65535, .int .i64 65536, .int .i64 (-1)]) (ok := fun _ => True) (okp := fun _ => True) ?hr ?hp (fun _ hk => hk) trivial (Below.refl _ _) (Nat.le_refl _) (by simp) ?_; (case hd => rfl); (case hg => rfl); (case hr => first | (go_simp; done) | (go_simp; rfl)); (case hp => exact (Reps.one (show Kd.M (Kd.int .i64) _ _ _ 0 [.int .i64 0] from rfl) (Reps.one (show Kd.M (Kd.int .i64) _ _ _ 64 [.int .i64 64] from rfl) (Reps.one (show Kd.M (Kd.int .i64) _ _ _ 65535 [.int .i64 65535] from rfl) (Reps.one (show Kd.M (Kd.int .i64) _ _ _ 65536 [.int .i64 65536] from rfl) (Reps.one (show Kd.M (Kd.int .i64) _ _ _ (-1) [.int .i64 (-1)] from rfl) (Reps.none _ _))))))); intro v373 w18 ho19 hb hg_ hnew_; clear hg_ hnew_; (first | rw [← Ny372.out] at ho19 | (simp only [Int.reduceToNat] at ho19; rw [← Ny372.out] at ho19)); have HO374 := A_ (Kd.R_lower (Kd.R_new' (Kd.R_new' ho19 (Kd.R_lt (kr_ HO365.out))) (Kd.R_lt (kr_ HO368.out))) (below_size (have := GeI.mk (IsS102.ge HI354.out); bw_ HB.out))); replace HO365 := A_ (Kd.R_elder' (kr_ HO365.out) (Kd.R_base ho19) hb); replace HO368 := A_ (Kd.R_elder' (kr_ HO368.out) (Kd.R_base ho19) hb); replace HB := A_ (below_step (have := GeI.mk (IsS102.ge HI354.out); bw_ HB.out) hb); replace HI354 := A_ (IsS102.below d7_ hb); clear hb ho19; obtain ⟨Ao20, co20, eo20⟩ := Kd.R_slice HO374.out; subst eo20) | ((with_reducible refine gate_callee (f := 72) rfl ?_); refine gL_ (some 31) Try.func72 #[.pointer (some ⟨g354, 0, none⟩), .slice Ao20 y372.length co20] ?_; (with_reducible refine (spec_l1Int.calls g354 t351 t370 t371 _ _ y372 t375 t376 t377 w _ ?side1 ?side2 ?side3 ?side4 ?side5 A8.out).mono ?_); (case side1 => repeat (first | (with_reducible first | exact HI354.out | apply IsS102.alloc | apply IsS102.drewN | apply IsS102.drew | apply IsS102.set_1 | apply IsS102.set_2) | exact HI354.out)); (case side2 => exact (have := GeI.mk (IsS102.ge HI354.out); bw_ HB.out)); (case side3 => repeat (first | exact (Kd.R_reads' HO374.out).2.2 | (with_reducible refine Kd.C_alloc ?_ _) | (with_reducible refine Kd.C_drewN ?_ _) | (with_reducible refine Kd.C_drew ?_))); (case side4 => exact (Kd.R_reads' HO374.out).2.1); (case side5 => exact far_slice (IsS102.own_ne HI354.out HO374.out (by decide))); rintro e w21 ⟨rfl, hi, hb, hk⟩; refine ⟨_, rfl, ?_⟩; replace HO365 := A_ (Kd.R_mono (Kd.R_keep (IsS102.apart (show IsS102 w _ g354 t351 t370 t371 from by repeat (first | (with_reducible first | exact HI354.out | apply IsS102.alloc | apply IsS102.drewN | apply IsS102.drew | apply IsS102.set_1 | apply IsS102.set_2) | exact HI354.out)) (kr_ HO365.out) (by decide)) hk (fun _ h => h.2)) (fun _ h => h.1)); replace HO368 := A_ (Kd.R_mono (Kd.R_keep (IsS102.apart (show IsS102 w _ g354 t351 t370 t371 from by repeat (first | (with_reducible first | exact HI354.out | apply IsS102.alloc | apply IsS102.drewN | apply IsS102.drew | apply IsS102.set_1 | apply IsS102.set_2) | exact HI354.out)) (kr_ HO368.out) (by decide)) hk (fun _ h => h.2)) (fun _ h => h.1)); replace HO374 := A_ (Kd.R_mono (Kd.R_keep (IsS102.apart (show IsS102 w _ g354 t351 t370 t371 from by repeat (first | (with_reducible first | exact HI354.out | apply IsS102.alloc | apply IsS102.drewN | apply IsS102.drew | apply IsS102.set_1 | apply IsS102.set_2) | exact HI354.out)) (kr_ HO374.out) (by decide)) hk (fun _ h => h.2)) (fun _ h => h.1)); replace HB := A_ (hb); replace HI354 := A_ (hi); (try clear hb); (try clear hb2); (try clear hk); (try clear hi)) | ((with_reducible refine gate_dst (N := 33) rfl ?_); refine Kd.R_lit (Kd.int .i64) _ 3 ?hg (N := 33) ?hd (xs := ([1, 65535, 65536] : List Int)) (inner := [.int .i64 1, .int .i64 65535, .int .i64 65536]) (ok := fun _ => True) (okp := fun _ => True) ?hr ?hp (fun _ hk => hk) trivial (Below.refl _ _) (Nat.le_refl _) (by simp) ?_; (case hd => rfl); (case hg => rfl); (case hr => first | (go_simp; done) | (go_simp; rfl)); (case hp => exact (Reps.one (show Kd.M (Kd.int .i64) _ _ _ 1 [.int .i64 1] from rfl) (Reps.one (show Kd.M (Kd.int .i64) _ _ _ 65535 [.int .i64 65535] from rfl) (Reps.one (show Kd.M (Kd.int .i64) _ _ _ 65536 [.int .i64 65536] from rfl) (Reps.none _ _))))); intro v379 w22 ho23 hb hg_ hnew_; clear hg_ hnew_; (first | rw [← Ny378.out] at ho23 | (simp only [Int.reduceToNat] at ho23; rw [← Ny378.out] at ho23)); have HO380 := A_ (Kd.R_lower (Kd.R_new' (Kd.R_new' (Kd.R_new' ho23 (Kd.R_lt (kr_ HO365.out))) (Kd.R_lt (kr_ HO368.out))) (Kd.R_lt (kr_ HO374.out))) (below_size (have := GeI.mk (IsS102.ge HI354.out); bw_ HB.out))); replace HO365 := A_ (Kd.R_elder' (kr_ HO365.out) (Kd.R_base ho23) hb); replace HO368 := A_ (Kd.R_elder' (kr_ HO368.out) (Kd.R_base ho23) hb); replace HO374 := A_ (Kd.R_elder' (kr_ HO374.out) (Kd.R_base ho23) hb); replace HB := A_ (below_step (have := GeI.mk (IsS102.ge HI354.out); bw_ HB.out) hb); replace HI354 := A_ (IsS102.below d7_ hb); clear hb ho23; obtain ⟨Ao24, co24, eo24⟩ := Kd.R_slice HO380.out; subst eo24) | ((with_reducible refine gate_callee (f := 72) rfl ?_); refine gL_ (some 34) Try.func72 #[.pointer (some ⟨g354, 0, none⟩), .slice Ao24 y378.length co24] ?_; (with_reducible refine (spec_l1Int.calls g354 t351 t376 t377 _ _ y378 t381 t382 t383 w _ ?side1 ?side2 ?side3 ?side4 ?side5 A9.out).mono ?_); (case side1 => repeat (first | (with_reducible first | exact HI354.out | apply IsS102.alloc | apply IsS102.drewN | apply IsS102.drew | apply IsS102.set_1 | apply IsS102.set_2) | exact HI354.out)); (case side2 => exact (have := GeI.mk (IsS102.ge HI354.out); bw_ HB.out)); (case side3 => repeat (first | exact (Kd.R_reads' HO380.out).2.2 | (with_reducible refine Kd.C_alloc ?_ _) | (with_reducible refine Kd.C_drewN ?_ _) | (with_reducible refine Kd.C_drew ?_))); (case side4 => exact (Kd.R_reads' HO380.out).2.1); (case side5 => exact far_slice (IsS102.own_ne HI354.out HO380.out (by decide))); rintro e w25 ⟨rfl, hi, hb, hk⟩; refine ⟨_, rfl, ?_⟩; replace HO365 := A_ (Kd.R_mono (Kd.R_keep (IsS102.apart (show IsS102 w _ g354 t351 t376 t377 from by repeat (first | (with_reducible first | exact HI354.out | apply IsS102.alloc | apply IsS102.drewN | apply IsS102.drew | apply IsS102.set_1 | apply IsS102.set_2) | exact HI354.out)) (kr_ HO365.out) (by decide)) hk (fun _ h => h.2)) (fun _ h => h.1)); replace HO368 := A_ (Kd.R_mono (Kd.R_keep (IsS102.apart (show IsS102 w _ g354 t351 t376 t377 from by repeat (first | (with_reducible first | exact HI354.out | apply IsS102.alloc | apply IsS102.drewN | apply IsS102.drew | apply IsS102.set_1 | apply IsS102.set_2) | exact HI354.out)) (kr_ HO368.out) (by decide)) hk (fun _ h => h.2)) (fun _ h => h.1)); replace HO374 := A_ (Kd.R_mono (Kd.R_keep (IsS102.apart (show IsS102 w _ g354 t351 t376 t377 from by repeat (first | (with_reducible first | exact HI354.out | apply IsS102.alloc | apply IsS102.drewN | apply IsS102.drew | apply IsS102.set_1 | apply IsS102.set_2) | exact HI354.out)) (kr_ HO374.out) (by decide)) hk (fun _ h => h.2)) (fun _ h => h.1)); replace HO380 := A_ (Kd.R_mono (Kd.R_keep (IsS102.apart (show IsS102 w _ g354 t351 t376 t377 from by repeat (first | (with_reducible first | exact HI354.out | apply IsS102.alloc | apply IsS102.drewN | apply IsS102.drew | apply IsS102.set_1 | apply IsS102.set_2) | exact HI354.out)) (kr_ HO380.out) (by decide)) hk (fun _ h => h.2)) (fun _ h => h.1)); replace HB := A_ (hb); replace HI354 := A_ (hi); (try clear hb); (try clear hb2); (try clear hk); (try clear hi)) | ((with_reducible refine gate_dst (N := 35) rfl ?_); refine Kd.R_lit (Kd.int .i64) _ 3 ?hg (N := 35) ?hd (xs := ([t381] : List Int)) (inner := [.int .i64 t381]) (ok := fun _ => True) (okp := fun _ => True) ?hr ?hp (fun _ hk => hk) trivial (Below.refl _ _) (Nat.le_refl _) (by simp) ?_; (case hd => rfl); (case hg => rfl); (case hr => first | (go_simp; done) | (go_simp; rfl)); (case hp => exact (Reps.one (show Kd.M (Kd.int .i64) _ _ _ t381 [.int .i64 t381] from rfl) (Reps.none _ _))); intro v385 w26 ho27 hb hg_ hnew_; clear hg_ hnew_; (first | rw [← Ny384.out] at ho27 | (simp only [Int.reduceToNat] at ho27; rw [← Ny384.out] at ho27)); have HO386 := A_ (Kd.R_lower (Kd.R_new' (Kd.R_new' (Kd.R_new' (Kd.R_new' ho27 (Kd.R_lt (kr_ HO365.out))) (Kd.R_lt (kr_ HO368.out))) (Kd.R_lt (kr_ HO374.out))) (Kd.R_lt (kr_ HO380.out))) (below_size (have := GeI.mk (IsS102.ge HI354.out); bw_ HB.out))); replace HO365 := A_ (Kd.R_elder' (kr_ HO365.out) (Kd.R_base ho27) hb); replace HO368 := A_ (Kd.R_elder' (kr_ HO368.out) (Kd.R_base ho27) hb); replace HO374 := A_ (Kd.R_elder' (kr_ HO374.out) (Kd.R_base ho27) hb); replace HO380 := A_ (Kd.R_elder' (kr_ HO380.out) (Kd.R_base ho27) hb); replace HB := A_ (below_step (have := GeI.mk (IsS102.ge HI354.out); bw_ HB.out) hb); replace HI354 := A_ (IsS102.below d7_ hb); clear hb ho27))
   refine bodyPost_ret (results_list (rs := [.tmp 2, .tmp 3, .tmp 4, .tmp 5]) rfl (by simp) (.tmp (.tmp (.tmp (.tmp .nil))))) rfl ?_
   exact ⟨_, _, by first | rfl | (simp [errW_none, errW_some] <;> rfl) | (simp [*, errW_none, errW_some] <;> rfl), kr_ (Kd.R_mono HO365.out (fun _ hk => hk.2)), kr_ (Kd.R_mono HO386.out (fun _ hk => hk.1.1.1.2)), (have := GeI.mk (IsS102.ge HI354.out); bw_ HB.out)⟩
  ·rw [if_neg c6] at H
   exact absurd H (by simp)
 ·rw [if_neg c5] at H
  have c5b0 := beq_eq_false_iff_ne.mpr c5
  have c5b1 := bne_iff_ne.mpr c5
  by_cases c28 : t360 = 1
  ·rw [if_pos c28] at H
   have c28b0 := beq_iff_eq.mpr c28
   have c28b1 := bne_eq_false_iff_eq.mpr c28
   clear c28
   replace H := Option.bind_eq_some_iff.mp H
   obtain ⟨⟨t387, t388, t389⟩, A290, H⟩ := H
   try dsimp only at H
   have A29 := A_ A290
   clear A290
   obtain ⟨ji30, hji30⟩ : ∃ j_ : Int, (wrap64 (254 + t387)) = j_ := ⟨_, rfl⟩
   replace H : (if 0 ≤ (ji30) then (if (ji30 : Int).toNat ≤ 35184372088832 then ((spec_l1Int.f t351 t388 t389 (([0, 4, 64, 3, (-2), 510, 512] : List Int))).bind fun bt396 => ((spec_l1Int.f t351 bt396.2.1 bt396.2.2 (([0, 64, 65535, 65536, (-1)] : List Int))).bind fun bt402 => ((spec_l1Int.f t351 bt402.2.1 bt402.2.2 (([1, 65535, 65536] : List Int))).bind fun bt408 => (some ((List.replicate (ji30 : Int).toNat 0), bt396.1, bt402.1, (([bt408.1] : List Int))))))) else (none)) else (none)) = some (r1, r2, r3, r4) := by first | (rw [hji30] at H; exact H) | (simp only [hji30] at H ⊢; exact H)
   (try rw [hji30] at A2)
   (try rw [hji30] at A3)
   (try rw [hji30] at A4)
   (try rw [hji30] at A29)
   have hji30w : (IntKind.i64.wrap (254 + t387)) = ji30 := (i64_w _).trans hji30
   by_cases c31 : 0 ≤ (ji30)
   ·rw [if_pos c31] at H
    have c31b0 := eq_true c31
    have c31b1 := decide_eq_true c31
    clear c31
    by_cases c32 : (ji30 : Int).toNat ≤ 35184372088832
    ·rw [if_pos c32] at H
     have c32b0 := eq_true c32
     have c32b1 := decide_eq_true c32
     clear c32
     obtain ⟨y390, hy390⟩ : ∃ y_ : List Int, y_ = (List.replicate (ji30 : Int).toNat 0) := ⟨_, rfl⟩
     replace H : ((spec_l1Int.f t351 t388 t389 (([0, 4, 64, 3, (-2), 510, 512] : List Int))).bind fun bt396 => ((spec_l1Int.f t351 bt396.2.1 bt396.2.2 (([0, 64, 65535, 65536, (-1)] : List Int))).bind fun bt402 => ((spec_l1Int.f t351 bt402.2.1 bt402.2.2 (([1, 65535, 65536] : List Int))).bind fun bt408 => (some (y390, bt396.1, bt402.1, (([bt408.1] : List Int))))))) = some (r1, r2, r3, r4) := by first | (rw [hy390]; with_reducible exact H) | (have H2_ := (Option.bind_some _ _).symm.trans H; rw [hy390]; with_reducible exact H2_) | (have H2_ := (Option.bind_some _ _).symm.trans H; with_reducible exact H2_) | with_reducible exact H | (rw [hy390]; exact H) | exact H
     have Ny390 := A_ hy390
     clear hy390
     obtain ⟨y393, hy393⟩ : ∃ y_ : List Int, y_ = (([0, 4, 64, 3, (-2), 510, 512] : List Int)) := ⟨_, rfl⟩
     replace H : ((spec_l1Int.f t351 t388 t389 y393).bind fun bt396 => ((spec_l1Int.f t351 bt396.2.1 bt396.2.2 (([0, 64, 65535, 65536, (-1)] : List Int))).bind fun bt402 => ((spec_l1Int.f t351 bt402.2.1 bt402.2.2 (([1, 65535, 65536] : List Int))).bind fun bt408 => (some (y390, bt396.1, bt402.1, (([bt408.1] : List Int))))))) = some (r1, r2, r3, r4) := by first | (rw [hy393]; with_reducible exact H) | (have H2_ := (Option.bind_some _ _).symm.trans H; rw [hy393]; with_reducible exact H2_) | (have H2_ := (Option.bind_some _ _).symm.trans H; with_reducible exact H2_) | with_reducible exact H | (rw [hy393]; exact H) | exact H
     have Ny393 := A_ hy393
     clear hy393
     replace H := Option.bind_eq_some_iff.mp H
     obtain ⟨⟨t396, t397, t398⟩, A330, H⟩ := H
     try dsimp only at H
     have A33 := A_ A330
     clear A330
     obtain ⟨y399, hy399⟩ : ∃ y_ : List Int, y_ = (([0, 64, 65535, 65536, (-1)] : List Int)) := ⟨_, rfl⟩
     replace H : ((spec_l1Int.f t351 t397 t398 y399).bind fun bt402 => ((spec_l1Int.f t351 bt402.2.1 bt402.2.2 (([1, 65535, 65536] : List Int))).bind fun bt408 => (some (y390, t396, bt402.1, (([bt408.1] : List Int)))))) = some (r1, r2, r3, r4) := by first | (rw [hy399]; with_reducible exact H) | (have H2_ := (Option.bind_some _ _).symm.trans H; rw [hy399]; with_reducible exact H2_) | (have H2_ := (Option.bind_some _ _).symm.trans H; with_reducible exact H2_) | with_reducible exact H | (rw [hy399]; exact H) | exact H
     have Ny399 := A_ hy399
     clear hy399
     replace H := Option.bind_eq_some_iff.mp H
     obtain ⟨⟨t402, t403, t404⟩, A340, H⟩ := H
     try dsimp only at H
     have A34 := A_ A340
     clear A340
     obtain ⟨y405, hy405⟩ : ∃ y_ : List Int, y_ = (([1, 65535, 65536] : List Int)) := ⟨_, rfl⟩
     replace H : ((spec_l1Int.f t351 t403 t404 y405).bind fun bt408 => (some (y390, t396, t402, (([bt408.1] : List Int))))) = some (r1, r2, r3, r4) := by first | (rw [hy405]; with_reducible exact H) | (have H2_ := (Option.bind_some _ _).symm.trans H; rw [hy405]; with_reducible exact H2_) | (have H2_ := (Option.bind_some _ _).symm.trans H; with_reducible exact H2_) | with_reducible exact H | (rw [hy405]; exact H) | exact H
     have Ny405 := A_ hy405
     clear hy405
     replace H := Option.bind_eq_some_iff.mp H
     obtain ⟨⟨t408, t409, t410⟩, A350, H⟩ := H
     try dsimp only at H
     have A35 := A_ A350
     clear A350
     obtain ⟨y411, hy411⟩ : ∃ y_ : List Int, y_ = (([t408] : List Int)) := ⟨_, rfl⟩
     replace H : (some (y390, t396, t402, y411)) = some (r1, r2, r3, r4) := by first | (rw [hy411]; with_reducible exact H) | (have H2_ := (Option.bind_some _ _).symm.trans H; rw [hy411]; with_reducible exact H2_) | (have H2_ := (Option.bind_some _ _).symm.trans H; with_reducible exact H2_) | with_reducible exact H | (rw [hy411]; exact H) | exact H
     have Ny411 := A_ hy411
     clear hy411
     simp only [Option.some.injEq, Prod.mk.injEq] at H
     obtain ⟨rfl, rfl, rfl, rfl⟩ := H
     go_enter Try.func39, Try.ntmps39
     go_wp2_with (first | ((with_reducible refine gate_callee (f := 69) rfl ?_); refine gL_ (some 9) Try.func69 #[.slice A0 l0.length c0] ?_; (with_reducible refine (spec_l1New.calls k _ _ l0 t351 t352 t353 w _ ?side1 ?side2 ?side3 A2.out).mono ?_); (case side1 => exact bw_ HB.out); (case side2 => exact HR0.out); (case side3 => exact HC0.out); rintro e w36 ⟨g354, rfl, hi, hb, hb2⟩; refine ⟨_, rfl, ?_⟩; replace HB := A_ (hb); have HI354 := A_ (hi); (try clear hb); (try clear hb2); (try clear hk); (try clear hi)) | ((with_reducible refine gate_callee (f := 70) rfl ?_); refine gL_ (some 11) Try.func70 #[.pointer (some ⟨g354, 0, none⟩), .int .i64 6] ?_; (with_reducible refine (spec_l4Words.calls k g354 t351 t352 t353 6 t355 t358 t359 w _ ?side1 ?side2 A3.out).mono ?_); (case side1 => repeat (first | (with_reducible first | exact HI354.out | apply IsS102.alloc | apply IsS102.drewN | apply IsS102.drew | apply IsS102.set_1 | apply IsS102.set_2) | exact HI354.out)); (case side2 => exact (have := GeI.mk (IsS102.ge HI354.out); bw_ HB.out)); rintro e w37 ⟨v356, rfl, ho0, hi, hb, hk⟩; refine ⟨_, rfl, ?_⟩; have HO357 := A_ (Kd.R_lower ho0 (below_size (have := GeI.mk (IsS102.ge HI354.out); bw_ HB.out))); replace HB := A_ (hb); replace HI354 := A_ (hi); (try clear hb); (try clear hb2); (try clear hk); (try clear hi); (try clear ho0)) | ((with_reducible refine gate_callee (f := 71) rfl ?_); refine gL_ (some 13) Try.func71 #[.pointer (some ⟨g354, 0, none⟩), .int .i64 8] ?_; (with_reducible refine (spec_l1Below.calls g354 t351 t358 t359 8 t360 t361 t362 w _ ?side1 ?side2 A4.out).mono ?_); (case side1 => repeat (first | (with_reducible first | exact HI354.out | apply IsS102.alloc | apply IsS102.drewN | apply IsS102.drew | apply IsS102.set_1 | apply IsS102.set_2) | exact HI354.out)); (case side2 => exact (have := GeI.mk (IsS102.ge HI354.out); bw_ HB.out)); rintro e w38 ⟨rfl, hi, hb, hk⟩; refine ⟨_, rfl, ?_⟩; replace HO357 := A_ (Kd.R_mono (Kd.R_keep (IsS102.apart (show IsS102 w _ g354 t351 t358 t359 from by repeat (first | (with_reducible first | exact HI354.out | apply IsS102.alloc | apply IsS102.drewN | apply IsS102.drew | apply IsS102.set_1 | apply IsS102.set_2) | exact HI354.out)) (kr_ HO357.out) (by decide)) hk (fun _ h => h.2)) (fun _ h => h.1)); replace HB := A_ (hb); replace HI354 := A_ (hi); (try clear hb); (try clear hb2); (try clear hk); (try clear hi)) | ((with_reducible refine gate_callee (f := 71) rfl ?_); refine gL_ (some 22) Try.func71 #[.pointer (some ⟨g354, 0, none⟩), .int .i64 4] ?_; (with_reducible refine (spec_l1Below.calls g354 t351 t361 t362 4 t387 t388 t389 w _ ?side1 ?side2 A29.out).mono ?_); (case side1 => repeat (first | (with_reducible first | exact HI354.out | apply IsS102.alloc | apply IsS102.drewN | apply IsS102.drew | apply IsS102.set_1 | apply IsS102.set_2) | exact HI354.out)); (case side2 => exact (have := GeI.mk (IsS102.ge HI354.out); bw_ HB.out)); rintro e w39 ⟨rfl, hi, hb, hk⟩; refine ⟨_, rfl, ?_⟩; replace HO357 := A_ (Kd.R_mono (Kd.R_keep (IsS102.apart (show IsS102 w _ g354 t351 t361 t362 from by repeat (first | (with_reducible first | exact HI354.out | apply IsS102.alloc | apply IsS102.drewN | apply IsS102.drew | apply IsS102.set_1 | apply IsS102.set_2) | exact HI354.out)) (kr_ HO357.out) (by decide)) hk (fun _ h => h.2)) (fun _ h => h.1)); replace HB := A_ (hb); replace HI354 := A_ (hi); (try clear hb); (try clear hb2); (try clear hk); (try clear hi)) | ((with_reducible refine gate_dst (N := 24) rfl ?_); refine Kd.R_make (Kd.int .i64) _ 3 rfl (N := 24) rfl 22 _ _ rfl ji30 rfl rfl Try.underlying22 (.int .i64 0) 8 info3 rfl (by decide) (by omega) 0 (ok := fun _ => True) (okp := fun _ => True) rfl (fun _ hk => hk) trivial (of_decide_eq_true d5_) (Nat.le_trans (Nat.mul_le_mul_right _ (of_decide_eq_true d5_ : ji30.toNat ≤ 35184372088832)) (by omega)) (Below.refl _ _) (Nat.le_refl _) ?_; intro v391 w40 ho41 hb hg_ hnew_; clear hg_ hnew_; (first | rw [← Ny390.out] at ho41 | (simp only [Int.reduceToNat] at ho41; rw [← Ny390.out] at ho41)); have HO392 := A_ (Kd.R_lower (Kd.R_new' ho41 (Kd.R_lt (kr_ HO357.out))) (below_size (have := GeI.mk (IsS102.ge HI354.out); bw_ HB.out))); replace HO357 := A_ (Kd.R_elder' (kr_ HO357.out) (Kd.R_base ho41) hb); replace HB := A_ (below_step (have := GeI.mk (IsS102.ge HI354.out); bw_ HB.out) hb); replace HI354 := A_ (IsS102.below d7_ hb); clear hb ho41) | ((with_reducible refine gate_dst (N := 27) rfl ?_); refine Kd.R_lit (Kd.int .i64) _ 3 ?hg (N := 27) ?hd (xs := ([0, 4, 64, 3, (-2), 510, 512] : List Int)) (inner := [.int .i64 0, .int .i64 4, .int .i64 64, .int .i64 3, .int .i64 (-2), .int .i64 510, .int .i64 512]) (ok := fun _ => True) (okp := fun _ => True) ?hr ?hp (fun _ hk => hk) trivial (Below.refl _ _) (Nat.le_refl _) (by simp) ?_; (case hd => rfl); (case hg => rfl); (case hr => first | (go_simp; done) | (go_simp; rfl)); (case hp => exact (Reps.one (show Kd.M (Kd.int .i64) _ _ _ 0 [.int .i64 0] from rfl) (Reps.one (show Kd.M (Kd.int .i64) _ _ _ 4 [.int .i64 4] from rfl) (Reps.one (show Kd.M (Kd.int .i64) _ _ _ 64 [.int .i64 64] from rfl) (Reps.one (show Kd.M (Kd.int .i64) _ _ _ 3 [.int .i64 3] from rfl) (Reps.one (show Kd.M (Kd.int .i64) _ _ _ (-2) [.int .i64 (-2)] from rfl) (Reps.one (show Kd.M (Kd.int .i64) _ _ _ 510 [.int .i64 510] from rfl) (Reps.one (show Kd.M (Kd.int .i64) _ _ _ 512 [.int .i64 512] from rfl) (Reps.none _ _))))))))); intro v394 w42 ho43 hb hg_ hnew_; clear hg_ hnew_; (first | rw [← Ny393.out] at ho43 | (simp only [Int.reduceToNat] at ho43; rw [← Ny393.out] at ho43)); have HO395 := A_ (Kd.R_lower (Kd.R_new' (Kd.R_new' ho43 (Kd.R_lt (kr_ HO357.out))) (Kd.R_lt (kr_ HO392.out))) (below_size (have := GeI.mk (IsS102.ge HI354.out); bw_ HB.out))); replace HO357 := A_ (Kd.R_elder' (kr_ HO357.out) (Kd.R_base ho43) hb); replace HO392 := A_ (Kd.R_elder' (kr_ HO392.out) (Kd.R_base ho43) hb); replace HB := A_ (below_step (have := GeI.mk (IsS102.ge HI354.out); bw_ HB.out) hb); replace HI354 := A_ (IsS102.below d7_ hb); clear hb ho43; obtain ⟨Ao44, co44, eo44⟩ := Kd.R_slice HO395.out; subst eo44) | ((with_reducible refine gate_callee (f := 72) rfl ?_); refine gL_ (some 28) Try.func72 #[.pointer (some ⟨g354, 0, none⟩), .slice Ao44 y393.length co44] ?_; (with_reducible refine (spec_l1Int.calls g354 t351 t388 t389 _ _ y393 t396 t397 t398 w _ ?side1 ?side2 ?side3 ?side4 ?side5 A33.out).mono ?_); (case side1 => repeat (first | (with_reducible first | exact HI354.out | apply IsS102.alloc | apply IsS102.drewN | apply IsS102.drew | apply IsS102.set_1 | apply IsS102.set_2) | exact HI354.out)); (case side2 => exact (have := GeI.mk (IsS102.ge HI354.out); bw_ HB.out)); (case side3 => repeat (first | exact (Kd.R_reads' HO395.out).2.2 | (with_reducible refine Kd.C_alloc ?_ _) | (with_reducible refine Kd.C_drewN ?_ _) | (with_reducible refine Kd.C_drew ?_))); (case side4 => exact (Kd.R_reads' HO395.out).2.1); (case side5 => exact far_slice (IsS102.own_ne HI354.out HO395.out (by decide))); rintro e w45 ⟨rfl, hi, hb, hk⟩; refine ⟨_, rfl, ?_⟩; replace HO357 := A_ (Kd.R_mono (Kd.R_keep (IsS102.apart (show IsS102 w _ g354 t351 t388 t389 from by repeat (first | (with_reducible first | exact HI354.out | apply IsS102.alloc | apply IsS102.drewN | apply IsS102.drew | apply IsS102.set_1 | apply IsS102.set_2) | exact HI354.out)) (kr_ HO357.out) (by decide)) hk (fun _ h => h.2)) (fun _ h => h.1)); replace HO392 := A_ (Kd.R_mono (Kd.R_keep (IsS102.apart (show IsS102 w _ g354 t351 t388 t389 from by repeat (first | (with_reducible first | exact HI354.out | apply IsS102.alloc | apply IsS102.drewN | apply IsS102.drew | apply IsS102.set_1 | apply IsS102.set_2) | exact HI354.out)) (kr_ HO392.out) (by decide)) hk (fun _ h => h.2)) (fun _ h => h.1)); replace HO395 := A_ (Kd.R_mono (Kd.R_keep (IsS102.apart (show IsS102 w _ g354 t351 t388 t389 from by repeat (first | (with_reducible first | exact HI354.out | apply IsS102.alloc | apply IsS102.drewN | apply IsS102.drew | apply IsS102.set_1 | apply IsS102.set_2) | exact HI354.out)) (kr_ HO395.out) (by decide)) hk (fun _ h => h.2)) (fun _ h => h.1)); replace HB := A_ (hb); replace HI354 := A_ (hi); (try clear hb); (try clear hb2); (try clear hk); (try clear hi)) | ((with_reducible refine gate_dst (N := 30) rfl ?_); refine Kd.R_lit (Kd.int .i64) _ 3 ?hg (N := 30) ?hd (xs := ([0, 64, 65535, 65536, (-1)] : List Int)) (inner := [.int .i64 0, .int .i64 64, .int .i64 65535, .int .i64 65536, .int .i64 (-1)]) (ok := fun _ => True) (okp := fun _ => True) ?hr ?hp (fun _ hk => hk) trivial (Below.refl _ _) (Nat.le_refl _) (by simp) ?_; (case hd => rfl); (case hg => rfl); (case hr => first | (go_simp; done) | (go_simp; rfl)); (case hp => exact (Reps.one (show Kd.M (Kd.int .i64) _ _ _ 0 [.int .i64 0] from rfl) (Reps.one (show Kd.M (Kd.int .i64) _ _ _ 64 [.int .i64 64] from rfl) (Reps.one (show Kd.M (Kd.int .i64) _ _ _ 65535 [.int .i64 65535] from rfl) (Reps.one (show Kd.M (Kd.int .i64) _ _ _ 65536 [.int .i64 65536] from rfl) (Reps.one (show Kd.M (Kd.int .i64) _ _ _ (-1) [.int .i64 (-1)] from rfl) (Reps.none _ _))))))); intro v400 w46 ho47 hb hg_ hnew_; clear hg_ hnew_; (first | rw [← Ny399.out] at ho47 | (simp only [Int.reduceToNat] at ho47; rw [← Ny399.out] at ho47)); have HO401 := A_ (Kd.R_lower (Kd.R_new' (Kd.R_new' (Kd.R_new' ho47 (Kd.R_lt (kr_ HO357.out))) (Kd.R_lt (kr_ HO392.out))) (Kd.R_lt (kr_ HO395.out))) (below_size (have := GeI.mk (IsS102.ge HI354.out); bw_ HB.out))); replace HO357 := A_ (Kd.R_elder' (kr_ HO357.out) (Kd.R_base ho47) hb); replace HO392 := A_ (Kd.R_elder' (kr_ HO392.out) (Kd.R_base ho47) hb); replace HO395 := A_ (Kd.R_elder' (kr_ HO395.out) (Kd.R_base ho47) hb); replace HB := A_ (below_step (have := GeI.mk (IsS102.ge HI354.out); bw_ HB.out) hb); replace HI354 := A_ (IsS102.below d7_ hb); clear hb ho47; obtain ⟨Ao48, co48, eo48⟩ := Kd.R_slice HO401.out; subst eo48) | ((with_reducible refine gate_callee (f := 72) rfl ?_); refine gL_ (some 31) Try.func72 #[.pointer (some ⟨g354, 0, none⟩), .slice Ao48 y399.length co48] ?_; (with_reducible refine (spec_l1Int.calls g354 t351 t397 t398 _ _ y399 t402 t403 t404 w _ ?side1 ?side2 ?side3 ?side4 ?side5 A34.out).mono ?_); (case side1 => repeat (first | (with_reducible first | exact HI354.out | apply IsS102.alloc | apply IsS102.drewN | apply IsS102.drew | apply IsS102.set_1 | apply IsS102.set_2) | exact HI354.out)); (case side2 => exact (have := GeI.mk (IsS102.ge HI354.out); bw_ HB.out)); (case side3 => repeat (first | exact (Kd.R_reads' HO401.out).2.2 | (with_reducible refine Kd.C_alloc ?_ _) | (with_reducible refine Kd.C_drewN ?_ _) | (with_reducible refine Kd.C_drew ?_))); (case side4 => exact (Kd.R_reads' HO401.out).2.1); (case side5 => exact far_slice (IsS102.own_ne HI354.out HO401.out (by decide))); rintro e w49 ⟨rfl, hi, hb, hk⟩; refine ⟨_, rfl, ?_⟩; replace HO357 := A_ (Kd.R_mono (Kd.R_keep (IsS102.apart (show IsS102 w _ g354 t351 t397 t398 from by repeat (first | (with_reducible first | exact HI354.out | apply IsS102.alloc | apply IsS102.drewN | apply IsS102.drew | apply IsS102.set_1 | apply IsS102.set_2) | exact HI354.out)) (kr_ HO357.out) (by decide)) hk (fun _ h => h.2)) (fun _ h => h.1)); replace HO392 := A_ (Kd.R_mono (Kd.R_keep (IsS102.apart (show IsS102 w _ g354 t351 t397 t398 from by repeat (first | (with_reducible first | exact HI354.out | apply IsS102.alloc | apply IsS102.drewN | apply IsS102.drew | apply IsS102.set_1 | apply IsS102.set_2) | exact HI354.out)) (kr_ HO392.out) (by decide)) hk (fun _ h => h.2)) (fun _ h => h.1)); replace HO395 := A_ (Kd.R_mono (Kd.R_keep (IsS102.apart (show IsS102 w _ g354 t351 t397 t398 from by repeat (first | (with_reducible first | exact HI354.out | apply IsS102.alloc | apply IsS102.drewN | apply IsS102.drew | apply IsS102.set_1 | apply IsS102.set_2) | exact HI354.out)) (kr_ HO395.out) (by decide)) hk (fun _ h => h.2)) (fun _ h => h.1)); replace HO401 := A_ (Kd.R_mono (Kd.R_keep (IsS102.apart (show IsS102 w _ g354 t351 t397 t398 from by repeat (first | (with_reducible first | exact HI354.out | apply IsS102.alloc | apply IsS102.drewN | apply IsS102.drew | apply IsS102.set_1 | apply IsS102.set_2) | exact HI354.out)) (kr_ HO401.out) (by decide)) hk (fun _ h => h.2)) (fun _ h => h.1)); replace HB := A_ (hb); replace HI354 := A_ (hi); (try clear hb); (try clear hb2); (try clear hk); (try clear hi)) | ((with_reducible refine gate_dst (N := 33) rfl ?_); refine Kd.R_lit (Kd.int .i64) _ 3 ?hg (N := 33) ?hd (xs := ([1, 65535, 65536] : List Int)) (inner := [.int .i64 1, .int .i64 65535, .int .i64 65536]) (ok := fun _ => True) (okp := fun _ => True) ?hr ?hp (fun _ hk => hk) trivial (Below.refl _ _) (Nat.le_refl _) (by simp) ?_; (case hd => rfl); (case hg => rfl); (case hr => first | (go_simp; done) | (go_simp; rfl)); (case hp => exact (Reps.one (show Kd.M (Kd.int .i64) _ _ _ 1 [.int .i64 1] from rfl) (Reps.one (show Kd.M (Kd.int .i64) _ _ _ 65535 [.int .i64 65535] from rfl) (Reps.one (show Kd.M (Kd.int .i64) _ _ _ 65536 [.int .i64 65536] from rfl) (Reps.none _ _))))); intro v406 w50 ho51 hb hg_ hnew_; clear hg_ hnew_; (first | rw [← Ny405.out] at ho51 | (simp only [Int.reduceToNat] at ho51; rw [← Ny405.out] at ho51)); have HO407 := A_ (Kd.R_lower (Kd.R_new' (Kd.R_new' (Kd.R_new' (Kd.R_new' ho51 (Kd.R_lt (kr_ HO357.out))) (Kd.R_lt (kr_ HO392.out))) (Kd.R_lt (kr_ HO395.out))) (Kd.R_lt (kr_ HO401.out))) (below_size (have := GeI.mk (IsS102.ge HI354.out); bw_ HB.out))); replace HO357 := A_ (Kd.R_elder' (kr_ HO357.out) (Kd.R_base ho51) hb); replace HO392 := A_ (Kd.R_elder' (kr_ HO392.out) (Kd.R_base ho51) hb); replace HO395 := A_ (Kd.R_elder' (kr_ HO395.out) (Kd.R_base ho51) hb); replace HO401 := A_ (Kd.R_elder' (kr_ HO401.out) (Kd.R_base ho51) hb); replace HB := A_ (below_step (have := GeI.mk (IsS102.ge HI354.out); bw_ HB.out) hb); replace HI354 := A_ (IsS102.below d7_ hb); clear hb ho51; obtain ⟨Ao52, co52, eo52⟩ := Kd.R_slice HO407.out; subst eo52) | ((with_reducible refine gate_callee (f := 72) rfl ?_); refine gL_ (some 34) Try.func72 #[.pointer (some ⟨g354, 0, none⟩), .slice Ao52 y405.length co52] ?_; (with_reducible refine (spec_l1Int.calls g354 t351 t403 t404 _ _ y405 t408 t409 t410 w _ ?side1 ?side2 ?side3 ?side4 ?side5 A35.out).mono ?_); (case side1 => repeat (first | (with_reducible first | exact HI354.out | apply IsS102.alloc | apply IsS102.drewN | apply IsS102.drew | apply IsS102.set_1 | apply IsS102.set_2) | exact HI354.out)); (case side2 => exact (have := GeI.mk (IsS102.ge HI354.out); bw_ HB.out)); (case side3 => repeat (first | exact (Kd.R_reads' HO407.out).2.2 | (with_reducible refine Kd.C_alloc ?_ _) | (with_reducible refine Kd.C_drewN ?_ _) | (with_reducible refine Kd.C_drew ?_))); (case side4 => exact (Kd.R_reads' HO407.out).2.1); (case side5 => exact far_slice (IsS102.own_ne HI354.out HO407.out (by decide))); rintro e w53 ⟨rfl, hi, hb, hk⟩; refine ⟨_, rfl, ?_⟩; replace HO357 := A_ (Kd.R_mono (Kd.R_keep (IsS102.apart (show IsS102 w _ g354 t351 t403 t404 from by repeat (first | (with_reducible first | exact HI354.out | apply IsS102.alloc | apply IsS102.drewN | apply IsS102.drew | apply IsS102.set_1 | apply IsS102.set_2) | exact HI354.out)) (kr_ HO357.out) (by decide)) hk (fun _ h => h.2)) (fun _ h => h.1)); replace HO392 := A_ (Kd.R_mono (Kd.R_keep (IsS102.apart (show IsS102 w _ g354 t351 t403 t404 from by repeat (first | (with_reducible first | exact HI354.out | apply IsS102.alloc | apply IsS102.drewN | apply IsS102.drew | apply IsS102.set_1 | apply IsS102.set_2) | exact HI354.out)) (kr_ HO392.out) (by decide)) hk (fun _ h => h.2)) (fun _ h => h.1)); replace HO395 := A_ (Kd.R_mono (Kd.R_keep (IsS102.apart (show IsS102 w _ g354 t351 t403 t404 from by repeat (first | (with_reducible first | exact HI354.out | apply IsS102.alloc | apply IsS102.drewN | apply IsS102.drew | apply IsS102.set_1 | apply IsS102.set_2) | exact HI354.out)) (kr_ HO395.out) (by decide)) hk (fun _ h => h.2)) (fun _ h => h.1)); replace HO401 := A_ (Kd.R_mono (Kd.R_keep (IsS102.apart (show IsS102 w _ g354 t351 t403 t404 from by repeat (first | (with_reducible first | exact HI354.out | apply IsS102.alloc | apply IsS102.drewN | apply IsS102.drew | apply IsS102.set_1 | apply IsS102.set_2) | exact HI354.out)) (kr_ HO401.out) (by decide)) hk (fun _ h => h.2)) (fun _ h => h.1)); replace HO407 := A_ (Kd.R_mono (Kd.R_keep (IsS102.apart (show IsS102 w _ g354 t351 t403 t404 from by repeat (first | (with_reducible first | exact HI354.out | apply IsS102.alloc | apply IsS102.drewN | apply IsS102.drew | apply IsS102.set_1 | apply IsS102.set_2) | exact HI354.out)) (kr_ HO407.out) (by decide)) hk (fun _ h => h.2)) (fun _ h => h.1)); replace HB := A_ (hb); replace HI354 := A_ (hi); (try clear hb); (try clear hb2); (try clear hk); (try clear hi)) | ((with_reducible refine gate_dst (N := 35) rfl ?_); refine Kd.R_lit (Kd.int .i64) _ 3 ?hg (N := 35) ?hd (xs := ([t408] : List Int)) (inner := [.int .i64 t408]) (ok := fun _ => True) (okp := fun _ => True) ?hr ?hp (fun _ hk => hk) trivial (Below.refl _ _) (Nat.le_refl _) (by simp) ?_; (case hd => rfl); (case hg => rfl); (case hr => first | (go_simp; done) | (go_simp; rfl)); (case hp => exact (Reps.one (show Kd.M (Kd.int .i64) _ _ _ t408 [.int .i64 t408] from rfl) (Reps.none _ _))); intro v412 w54 ho55 hb hg_ hnew_; clear hg_ hnew_; (first | rw [← Ny411.out] at ho55 | (simp only [Int.reduceToNat] at ho55; rw [← Ny411.out] at ho55)); have HO413 := A_ (Kd.R_lower (Kd.R_new' (Kd.R_new' (Kd.R_new' (Kd.R_new' (Kd.R_new' ho55 (Kd.R_lt (kr_ HO357.out))) (Kd.R_lt (kr_ HO392.out))) (Kd.R_lt (kr_ HO395.out))) (Kd.R_lt (kr_ HO401.out))) (Kd.R_lt (kr_ HO407.out))) (below_size (have := GeI.mk (IsS102.ge HI354.out); bw_ HB.out))); replace HO357 := A_ (Kd.R_elder' (kr_ HO357.out) (Kd.R_base ho55) hb); replace HO392 := A_ (Kd.R_elder' (kr_ HO392.out) (Kd.R_base ho55) hb); replace HO395 := A_ (Kd.R_elder' (kr_ HO395.out) (Kd.R_base ho55) hb); replace HO401 := A_ (Kd.R_elder' (kr_ HO401.out) (Kd.R_base ho55) hb); replace HO407 := A_ (Kd.R_elder' (kr_ HO407.out) (Kd.R_base ho55) hb); replace HB := A_ (below_step (have := GeI.mk (IsS102.ge HI354.out); bw_ HB.out) hb); replace HI354 := A_ (IsS102.below d7_ hb); clear hb ho55))
     refine bodyPost_ret (results_list (rs := [.tmp 2, .tmp 3, .tmp 4, .tmp 5]) rfl (by simp) (.tmp (.tmp (.tmp (.tmp .nil))))) rfl ?_
     exact ⟨_, _, by first | rfl | (simp [errW_none, errW_some] <;> rfl) | (simp only [← hji30]; first | rfl | (simp [errW_none, errW_some] <;> rfl)) | (simp [*, errW_none, errW_some] <;> rfl), kr_ (Kd.R_mono HO392.out (fun _ hk => hk.2)), kr_ (Kd.R_mono HO413.out (fun _ hk => hk.1.1.1.2)), (have := GeI.mk (IsS102.ge HI354.out); bw_ HB.out)⟩
    ·rw [if_neg c32] at H
     exact absurd H (by simp)
   ·rw [if_neg c31] at H
    exact absurd H (by simp)
  ·rw [if_neg c28] at H
   have c28b0 := beq_eq_false_iff_ne.mpr c28
   have c28b1 := bne_iff_ne.mpr c28
   obtain ⟨y414, hy414⟩ : ∃ y_ : List Int, y_ = (([0, 4, 64, 3, (-2), 510, 512] : List Int)) := ⟨_, rfl⟩
   replace H : ((spec_l1Int.f t351 t361 t362 y414).bind fun bt417 => ((spec_l1Int.f t351 bt417.2.1 bt417.2.2 (([0, 64, 65535, 65536, (-1)] : List Int))).bind fun bt423 => ((spec_l1Int.f t351 bt423.2.1 bt423.2.2 (([1, 65535, 65536] : List Int))).bind fun bt429 => (some (t355, bt417.1, bt423.1, (([bt429.1] : List Int))))))) = some (r1, r2, r3, r4) := by first | (rw [hy414]; with_reducible exact H) | (have H2_ := (Option.bind_some _ _).symm.trans H; rw [hy414]; with_reducible exact H2_) | (have H2_ := (Option.bind_some _ _).symm.trans H; with_reducible exact H2_) | with_reducible exact H | (rw [hy414]; exact H) | exact H
   have Ny414 := A_ hy414
   clear hy414
   replace H := Option.bind_eq_some_iff.mp H
   obtain ⟨⟨t417, t418, t419⟩, A560, H⟩ := H
   try dsimp only at H
   have A56 := A_ A560
   clear A560
   obtain ⟨y420, hy420⟩ : ∃ y_ : List Int, y_ = (([0, 64, 65535, 65536, (-1)] : List Int)) := ⟨_, rfl⟩
   replace H : ((spec_l1Int.f t351 t418 t419 y420).bind fun bt423 => ((spec_l1Int.f t351 bt423.2.1 bt423.2.2 (([1, 65535, 65536] : List Int))).bind fun bt429 => (some (t355, t417, bt423.1, (([bt429.1] : List Int)))))) = some (r1, r2, r3, r4) := by first | (rw [hy420]; with_reducible exact H) | (have H2_ := (Option.bind_some _ _).symm.trans H; rw [hy420]; with_reducible exact H2_) | (have H2_ := (Option.bind_some _ _).symm.trans H; with_reducible exact H2_) | with_reducible exact H | (rw [hy420]; exact H) | exact H
   have Ny420 := A_ hy420
   clear hy420
   replace H := Option.bind_eq_some_iff.mp H
   obtain ⟨⟨t423, t424, t425⟩, A570, H⟩ := H
   try dsimp only at H
   have A57 := A_ A570
   clear A570
   obtain ⟨y426, hy426⟩ : ∃ y_ : List Int, y_ = (([1, 65535, 65536] : List Int)) := ⟨_, rfl⟩
   replace H : ((spec_l1Int.f t351 t424 t425 y426).bind fun bt429 => (some (t355, t417, t423, (([bt429.1] : List Int))))) = some (r1, r2, r3, r4) := by first | (rw [hy426]; with_reducible exact H) | (have H2_ := (Option.bind_some _ _).symm.trans H; rw [hy426]; with_reducible exact H2_) | (have H2_ := (Option.bind_some _ _).symm.trans H; with_reducible exact H2_) | with_reducible exact H | (rw [hy426]; exact H) | exact H
   have Ny426 := A_ hy426
   clear hy426
   replace H := Option.bind_eq_some_iff.mp H
   obtain ⟨⟨t429, t430, t431⟩, A580, H⟩ := H
   try dsimp only at H
   have A58 := A_ A580
   clear A580
   obtain ⟨y432, hy432⟩ : ∃ y_ : List Int, y_ = (([t429] : List Int)) := ⟨_, rfl⟩
   replace H : (some (t355, t417, t423, y432)) = some (r1, r2, r3, r4) := by first | (rw [hy432]; with_reducible exact H) | (have H2_ := (Option.bind_some _ _).symm.trans H; rw [hy432]; with_reducible exact H2_) | (have H2_ := (Option.bind_some _ _).symm.trans H; with_reducible exact H2_) | with_reducible exact H | (rw [hy432]; exact H) | exact H
   have Ny432 := A_ hy432
   clear hy432
   simp only [Option.some.injEq, Prod.mk.injEq] at H
   obtain ⟨rfl, rfl, rfl, rfl⟩ := H
   go_enter Try.func39, Try.ntmps39
   go_wp2_with (first | ((with_reducible refine gate_callee (f := 69) rfl ?_); refine gL_ (some 9) Try.func69 #[.slice A0 l0.length c0] ?_; (with_reducible refine (spec_l1New.calls k _ _ l0 t351 t352 t353 w _ ?side1 ?side2 ?side3 A2.out).mono ?_); (case side1 => exact bw_ HB.out); (case side2 => exact HR0.out); (case side3 => exact HC0.out); rintro e w59 ⟨g354, rfl, hi, hb, hb2⟩; refine ⟨_, rfl, ?_⟩; replace HB := A_ (hb); have HI354 := A_ (hi); (try clear hb); (try clear hb2); (try clear hk); (try clear hi)) | ((with_reducible refine gate_callee (f := 70) rfl ?_); refine gL_ (some 11) Try.func70 #[.pointer (some ⟨g354, 0, none⟩), .int .i64 6] ?_; (with_reducible refine (spec_l4Words.calls k g354 t351 t352 t353 6 t355 t358 t359 w _ ?side1 ?side2 A3.out).mono ?_); (case side1 => repeat (first | (with_reducible first | exact HI354.out | apply IsS102.alloc | apply IsS102.drewN | apply IsS102.drew | apply IsS102.set_1 | apply IsS102.set_2) | exact HI354.out)); (case side2 => exact (have := GeI.mk (IsS102.ge HI354.out); bw_ HB.out)); rintro e w60 ⟨v356, rfl, ho0, hi, hb, hk⟩; refine ⟨_, rfl, ?_⟩; have HO357 := A_ (Kd.R_lower ho0 (below_size (have := GeI.mk (IsS102.ge HI354.out); bw_ HB.out))); replace HB := A_ (hb); replace HI354 := A_ (hi); (try clear hb); (try clear hb2); (try clear hk); (try clear hi); (try clear ho0)) | ((with_reducible refine gate_callee (f := 71) rfl ?_); refine gL_ (some 13) Try.func71 #[.pointer (some ⟨g354, 0, none⟩), .int .i64 8] ?_; (with_reducible refine (spec_l1Below.calls g354 t351 t358 t359 8 t360 t361 t362 w _ ?side1 ?side2 A4.out).mono ?_); (case side1 => repeat (first | (with_reducible first | exact HI354.out | apply IsS102.alloc | apply IsS102.drewN | apply IsS102.drew | apply IsS102.set_1 | apply IsS102.set_2) | exact HI354.out)); (case side2 => exact (have := GeI.mk (IsS102.ge HI354.out); bw_ HB.out)); rintro e w61 ⟨rfl, hi, hb, hk⟩; refine ⟨_, rfl, ?_⟩; replace HO357 := A_ (Kd.R_mono (Kd.R_keep (IsS102.apart (show IsS102 w _ g354 t351 t358 t359 from by repeat (first | (with_reducible first | exact HI354.out | apply IsS102.alloc | apply IsS102.drewN | apply IsS102.drew | apply IsS102.set_1 | apply IsS102.set_2) | exact HI354.out)) (kr_ HO357.out) (by decide)) hk (fun _ h => h.2)) (fun _ h => h.1)); replace HB := A_ (hb); replace HI354 := A_ (hi); (try clear hb); (try clear hb2); (try clear hk); (try clear hi)) | ((with_reducible refine gate_dst (N := 27) rfl ?_); refine Kd.R_lit (Kd.int .i64) _ 3 ?hg (N := 27) ?hd (xs := ([0, 4, 64, 3, (-2), 510, 512] : List Int)) (inner := [.int .i64 0, .int .i64 4, .int .i64 64, .int .i64 3, .int .i64 (-2), .int .i64 510, .int .i64 512]) (ok := fun _ => True) (okp := fun _ => True) ?hr ?hp (fun _ hk => hk) trivial (Below.refl _ _) (Nat.le_refl _) (by simp) ?_; (case hd => rfl); (case hg => rfl); (case hr => first | (go_simp; done) | (go_simp; rfl)); (case hp => exact (Reps.one (show Kd.M (Kd.int .i64) _ _ _ 0 [.int .i64 0] from rfl) (Reps.one (show Kd.M (Kd.int .i64) _ _ _ 4 [.int .i64 4] from rfl) (Reps.one (show Kd.M (Kd.int .i64) _ _ _ 64 [.int .i64 64] from rfl) (Reps.one (show Kd.M (Kd.int .i64) _ _ _ 3 [.int .i64 3] from rfl) (Reps.one (show Kd.M (Kd.int .i64) _ _ _ (-2) [.int .i64 (-2)] from rfl) (Reps.one (show Kd.M (Kd.int .i64) _ _ _ 510 [.int .i64 510] from rfl) (Reps.one (show Kd.M (Kd.int .i64) _ _ _ 512 [.int .i64 512] from rfl) (Reps.none _ _))))))))); intro v415 w62 ho63 hb hg_ hnew_; clear hg_ hnew_; (first | rw [← Ny414.out] at ho63 | (simp only [Int.reduceToNat] at ho63; rw [← Ny414.out] at ho63)); have HO416 := A_ (Kd.R_lower (Kd.R_new' ho63 (Kd.R_lt (kr_ HO357.out))) (below_size (have := GeI.mk (IsS102.ge HI354.out); bw_ HB.out))); replace HO357 := A_ (Kd.R_elder' (kr_ HO357.out) (Kd.R_base ho63) hb); replace HB := A_ (below_step (have := GeI.mk (IsS102.ge HI354.out); bw_ HB.out) hb); replace HI354 := A_ (IsS102.below d7_ hb); clear hb ho63; obtain ⟨Ao64, co64, eo64⟩ := Kd.R_slice HO416.out; subst eo64) | ((with_reducible refine gate_callee (f := 72) rfl ?_); refine gL_ (some 28) Try.func72 #[.pointer (some ⟨g354, 0, none⟩), .slice Ao64 y414.length co64] ?_; (with_reducible refine (spec_l1Int.calls g354 t351 t361 t362 _ _ y414 t417 t418 t419 w _ ?side1 ?side2 ?side3 ?side4 ?side5 A56.out).mono ?_); (case side1 => repeat (first | (with_reducible first | exact HI354.out | apply IsS102.alloc | apply IsS102.drewN | apply IsS102.drew | apply IsS102.set_1 | apply IsS102.set_2) | exact HI354.out)); (case side2 => exact (have := GeI.mk (IsS102.ge HI354.out); bw_ HB.out)); (case side3 => repeat (first | exact (Kd.R_reads' HO416.out).2.2 | (with_reducible refine Kd.C_alloc ?_ _) | (with_reducible refine Kd.C_drewN ?_ _) | (with_reducible refine Kd.C_drew ?_))); (case side4 => exact (Kd.R_reads' HO416.out).2.1); (case side5 => exact far_slice (IsS102.own_ne HI354.out HO416.out (by decide))); rintro e w65 ⟨rfl, hi, hb, hk⟩; refine ⟨_, rfl, ?_⟩; replace HO357 := A_ (Kd.R_mono (Kd.R_keep (IsS102.apart (show IsS102 w _ g354 t351 t361 t362 from by repeat (first | (with_reducible first | exact HI354.out | apply IsS102.alloc | apply IsS102.drewN | apply IsS102.drew | apply IsS102.set_1 | apply IsS102.set_2) | exact HI354.out)) (kr_ HO357.out) (by decide)) hk (fun _ h => h.2)) (fun _ h => h.1)); replace HO416 := A_ (Kd.R_mono (Kd.R_keep (IsS102.apart (show IsS102 w _ g354 t351 t361 t362 from by repeat (first | (with_reducible first | exact HI354.out | apply IsS102.alloc | apply IsS102.drewN | apply IsS102.drew | apply IsS102.set_1 | apply IsS102.set_2) | exact HI354.out)) (kr_ HO416.out) (by decide)) hk (fun _ h => h.2)) (fun _ h => h.1)); replace HB := A_ (hb); replace HI354 := A_ (hi); (try clear hb); (try clear hb2); (try clear hk); (try clear hi)) | ((with_reducible refine gate_dst (N := 30) rfl ?_); refine Kd.R_lit (Kd.int .i64) _ 3 ?hg (N := 30) ?hd (xs := ([0, 64, 65535, 65536, (-1)] : List Int)) (inner := [.int .i64 0, .int .i64 64, .int .i64 65535, .int .i64 65536, .int .i64 (-1)]) (ok := fun _ => True) (okp := fun _ => True) ?hr ?hp (fun _ hk => hk) trivial (Below.refl _ _) (Nat.le_refl _) (by simp) ?_; (case hd => rfl); (case hg => rfl); (case hr => first | (go_simp; done) | (go_simp; rfl)); (case hp => exact (Reps.one (show Kd.M (Kd.int .i64) _ _ _ 0 [.int .i64 0] from rfl) (Reps.one (show Kd.M (Kd.int .i64) _ _ _ 64 [.int .i64 64] from rfl) (Reps.one (show Kd.M (Kd.int .i64) _ _ _ 65535 [.int .i64 65535] from rfl) (Reps.one (show Kd.M (Kd.int .i64) _ _ _ 65536 [.int .i64 65536] from rfl) (Reps.one (show Kd.M (Kd.int .i64) _ _ _ (-1) [.int .i64 (-1)] from rfl) (Reps.none _ _))))))); intro v421 w66 ho67 hb hg_ hnew_; clear hg_ hnew_; (first | rw [← Ny420.out] at ho67 | (simp only [Int.reduceToNat] at ho67; rw [← Ny420.out] at ho67)); have HO422 := A_ (Kd.R_lower (Kd.R_new' (Kd.R_new' ho67 (Kd.R_lt (kr_ HO357.out))) (Kd.R_lt (kr_ HO416.out))) (below_size (have := GeI.mk (IsS102.ge HI354.out); bw_ HB.out))); replace HO357 := A_ (Kd.R_elder' (kr_ HO357.out) (Kd.R_base ho67) hb); replace HO416 := A_ (Kd.R_elder' (kr_ HO416.out) (Kd.R_base ho67) hb); replace HB := A_ (below_step (have := GeI.mk (IsS102.ge HI354.out); bw_ HB.out) hb); replace HI354 := A_ (IsS102.below d7_ hb); clear hb ho67; obtain ⟨Ao68, co68, eo68⟩ := Kd.R_slice HO422.out; subst eo68) | ((with_reducible refine gate_callee (f := 72) rfl ?_); refine gL_ (some 31) Try.func72 #[.pointer (some ⟨g354, 0, none⟩), .slice Ao68 y420.length co68] ?_; (with_reducible refine (spec_l1Int.calls g354 t351 t418 t419 _ _ y420 t423 t424 t425 w _ ?side1 ?side2 ?side3 ?side4 ?side5 A57.out).mono ?_); (case side1 => repeat (first | (with_reducible first | exact HI354.out | apply IsS102.alloc | apply IsS102.drewN | apply IsS102.drew | apply IsS102.set_1 | apply IsS102.set_2) | exact HI354.out)); (case side2 => exact (have := GeI.mk (IsS102.ge HI354.out); bw_ HB.out)); (case side3 => repeat (first | exact (Kd.R_reads' HO422.out).2.2 | (with_reducible refine Kd.C_alloc ?_ _) | (with_reducible refine Kd.C_drewN ?_ _) | (with_reducible refine Kd.C_drew ?_))); (case side4 => exact (Kd.R_reads' HO422.out).2.1); (case side5 => exact far_slice (IsS102.own_ne HI354.out HO422.out (by decide))); rintro e w69 ⟨rfl, hi, hb, hk⟩; refine ⟨_, rfl, ?_⟩; replace HO357 := A_ (Kd.R_mono (Kd.R_keep (IsS102.apart (show IsS102 w _ g354 t351 t418 t419 from by repeat (first | (with_reducible first | exact HI354.out | apply IsS102.alloc | apply IsS102.drewN | apply IsS102.drew | apply IsS102.set_1 | apply IsS102.set_2) | exact HI354.out)) (kr_ HO357.out) (by decide)) hk (fun _ h => h.2)) (fun _ h => h.1)); replace HO416 := A_ (Kd.R_mono (Kd.R_keep (IsS102.apart (show IsS102 w _ g354 t351 t418 t419 from by repeat (first | (with_reducible first | exact HI354.out | apply IsS102.alloc | apply IsS102.drewN | apply IsS102.drew | apply IsS102.set_1 | apply IsS102.set_2) | exact HI354.out)) (kr_ HO416.out) (by decide)) hk (fun _ h => h.2)) (fun _ h => h.1)); replace HO422 := A_ (Kd.R_mono (Kd.R_keep (IsS102.apart (show IsS102 w _ g354 t351 t418 t419 from by repeat (first | (with_reducible first | exact HI354.out | apply IsS102.alloc | apply IsS102.drewN | apply IsS102.drew | apply IsS102.set_1 | apply IsS102.set_2) | exact HI354.out)) (kr_ HO422.out) (by decide)) hk (fun _ h => h.2)) (fun _ h => h.1)); replace HB := A_ (hb); replace HI354 := A_ (hi); (try clear hb); (try clear hb2); (try clear hk); (try clear hi)) | ((with_reducible refine gate_dst (N := 33) rfl ?_); refine Kd.R_lit (Kd.int .i64) _ 3 ?hg (N := 33) ?hd (xs := ([1, 65535, 65536] : List Int)) (inner := [.int .i64 1, .int .i64 65535, .int .i64 65536]) (ok := fun _ => True) (okp := fun _ => True) ?hr ?hp (fun _ hk => hk) trivial (Below.refl _ _) (Nat.le_refl _) (by simp) ?_; (case hd => rfl); (case hg => rfl); (case hr => first | (go_simp; done) | (go_simp; rfl)); (case hp => exact (Reps.one (show Kd.M (Kd.int .i64) _ _ _ 1 [.int .i64 1] from rfl) (Reps.one (show Kd.M (Kd.int .i64) _ _ _ 65535 [.int .i64 65535] from rfl) (Reps.one (show Kd.M (Kd.int .i64) _ _ _ 65536 [.int .i64 65536] from rfl) (Reps.none _ _))))); intro v427 w70 ho71 hb hg_ hnew_; clear hg_ hnew_; (first | rw [← Ny426.out] at ho71 | (simp only [Int.reduceToNat] at ho71; rw [← Ny426.out] at ho71)); have HO428 := A_ (Kd.R_lower (Kd.R_new' (Kd.R_new' (Kd.R_new' ho71 (Kd.R_lt (kr_ HO357.out))) (Kd.R_lt (kr_ HO416.out))) (Kd.R_lt (kr_ HO422.out))) (below_size (have := GeI.mk (IsS102.ge HI354.out); bw_ HB.out))); replace HO357 := A_ (Kd.R_elder' (kr_ HO357.out) (Kd.R_base ho71) hb); replace HO416 := A_ (Kd.R_elder' (kr_ HO416.out) (Kd.R_base ho71) hb); replace HO422 := A_ (Kd.R_elder' (kr_ HO422.out) (Kd.R_base ho71) hb); replace HB := A_ (below_step (have := GeI.mk (IsS102.ge HI354.out); bw_ HB.out) hb); replace HI354 := A_ (IsS102.below d7_ hb); clear hb ho71; obtain ⟨Ao72, co72, eo72⟩ := Kd.R_slice HO428.out; subst eo72) | ((with_reducible refine gate_callee (f := 72) rfl ?_); refine gL_ (some 34) Try.func72 #[.pointer (some ⟨g354, 0, none⟩), .slice Ao72 y426.length co72] ?_; (with_reducible refine (spec_l1Int.calls g354 t351 t424 t425 _ _ y426 t429 t430 t431 w _ ?side1 ?side2 ?side3 ?side4 ?side5 A58.out).mono ?_); (case side1 => repeat (first | (with_reducible first | exact HI354.out | apply IsS102.alloc | apply IsS102.drewN | apply IsS102.drew | apply IsS102.set_1 | apply IsS102.set_2) | exact HI354.out)); (case side2 => exact (have := GeI.mk (IsS102.ge HI354.out); bw_ HB.out)); (case side3 => repeat (first | exact (Kd.R_reads' HO428.out).2.2 | (with_reducible refine Kd.C_alloc ?_ _) | (with_reducible refine Kd.C_drewN ?_ _) | (with_reducible refine Kd.C_drew ?_))); (case side4 => exact (Kd.R_reads' HO428.out).2.1); (case side5 => exact far_slice (IsS102.own_ne HI354.out HO428.out (by decide))); rintro e w73 ⟨rfl, hi, hb, hk⟩; refine ⟨_, rfl, ?_⟩; replace HO357 := A_ (Kd.R_mono (Kd.R_keep (IsS102.apart (show IsS102 w _ g354 t351 t424 t425 from by repeat (first | (with_reducible first | exact HI354.out | apply IsS102.alloc | apply IsS102.drewN | apply IsS102.drew | apply IsS102.set_1 | apply IsS102.set_2) | exact HI354.out)) (kr_ HO357.out) (by decide)) hk (fun _ h => h.2)) (fun _ h => h.1)); replace HO416 := A_ (Kd.R_mono (Kd.R_keep (IsS102.apart (show IsS102 w _ g354 t351 t424 t425 from by repeat (first | (with_reducible first | exact HI354.out | apply IsS102.alloc | apply IsS102.drewN | apply IsS102.drew | apply IsS102.set_1 | apply IsS102.set_2) | exact HI354.out)) (kr_ HO416.out) (by decide)) hk (fun _ h => h.2)) (fun _ h => h.1)); replace HO422 := A_ (Kd.R_mono (Kd.R_keep (IsS102.apart (show IsS102 w _ g354 t351 t424 t425 from by repeat (first | (with_reducible first | exact HI354.out | apply IsS102.alloc | apply IsS102.drewN | apply IsS102.drew | apply IsS102.set_1 | apply IsS102.set_2) | exact HI354.out)) (kr_ HO422.out) (by decide)) hk (fun _ h => h.2)) (fun _ h => h.1)); replace HO428 := A_ (Kd.R_mono (Kd.R_keep (IsS102.apart (show IsS102 w _ g354 t351 t424 t425 from by repeat (first | (with_reducible first | exact HI354.out | apply IsS102.alloc | apply IsS102.drewN | apply IsS102.drew | apply IsS102.set_1 | apply IsS102.set_2) | exact HI354.out)) (kr_ HO428.out) (by decide)) hk (fun _ h => h.2)) (fun _ h => h.1)); replace HB := A_ (hb); replace HI354 := A_ (hi); (try clear hb); (try clear hb2); (try clear hk); (try clear hi)) | ((with_reducible refine gate_dst (N := 35) rfl ?_); refine Kd.R_lit (Kd.int .i64) _ 3 ?hg (N := 35) ?hd (xs := ([t429] : List Int)) (inner := [.int .i64 t429]) (ok := fun _ => True) (okp := fun _ => True) ?hr ?hp (fun _ hk => hk) trivial (Below.refl _ _) (Nat.le_refl _) (by simp) ?_; (case hd => rfl); (case hg => rfl); (case hr => first | (go_simp; done) | (go_simp; rfl)); (case hp => exact (Reps.one (show Kd.M (Kd.int .i64) _ _ _ t429 [.int .i64 t429] from rfl) (Reps.none _ _))); intro v433 w74 ho75 hb hg_ hnew_; clear hg_ hnew_; (first | rw [← Ny432.out] at ho75 | (simp only [Int.reduceToNat] at ho75; rw [← Ny432.out] at ho75)); have HO434 := A_ (Kd.R_lower (Kd.R_new' (Kd.R_new' (Kd.R_new' (Kd.R_new' ho75 (Kd.R_lt (kr_ HO357.out))) (Kd.R_lt (kr_ HO416.out))) (Kd.R_lt (kr_ HO422.out))) (Kd.R_lt (kr_ HO428.out))) (below_size (have := GeI.mk (IsS102.ge HI354.out); bw_ HB.out))); replace HO357 := A_ (Kd.R_elder' (kr_ HO357.out) (Kd.R_base ho75) hb); replace HO416 := A_ (Kd.R_elder' (kr_ HO416.out) (Kd.R_base ho75) hb); replace HO422 := A_ (Kd.R_elder' (kr_ HO422.out) (Kd.R_base ho75) hb); replace HO428 := A_ (Kd.R_elder' (kr_ HO428.out) (Kd.R_base ho75) hb); replace HB := A_ (below_step (have := GeI.mk (IsS102.ge HI354.out); bw_ HB.out) hb); replace HI354 := A_ (IsS102.below d7_ hb); clear hb ho75))
   refine bodyPost_ret (results_list (rs := [.tmp 2, .tmp 3, .tmp 4, .tmp 5]) rfl (by simp) (.tmp (.tmp (.tmp (.tmp .nil))))) rfl ?_
   exact ⟨_, _, by first | rfl | (simp [errW_none, errW_some] <;> rfl) | (simp [*, errW_none, errW_some] <;> rfl), kr_ (Kd.R_mono HO357.out (fun _ hk => hk.2)), kr_ (Kd.R_mono HO434.out (fun _ hk => hk.1.1.1.2)), (have := GeI.mk (IsS102.ge HI354.out); bw_ HB.out)⟩

end Go.Proofs.Ytiagbfilffbljaa.PFnMachs
