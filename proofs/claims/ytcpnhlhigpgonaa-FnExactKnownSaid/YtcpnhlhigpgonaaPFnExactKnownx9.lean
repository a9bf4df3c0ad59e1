-- Laid by a program of this session (a changed copy of the kit's printer); Lean checks every line.
import Derived.Test.YtcpnhlhigpgonaaPFnExactKnownx0
import Derived.Test.YtcpnhlhigpgonaaPFnExactKnownx8
namespace Go.Proofs.Ytcpnhlhigpgonaa.PFnExactKnown
open Go.RowKit Go.Proofs.YtcpnhlhigpgonaaW.PrintWords Go.Proofs.YtcpnhlhigpgonaaW.PrintLast Go.Proofs.YtcpnhlhigpgonaaW.PrintMore
attribute [local go_sem] max2_int min2_int max_two min_two max_three min_three max_four min_four   -- for this text's walks alone
set_option linter.unusedVariables false
set_option linter.unusedSimpArgs false

/-! ### impl_ExprOk: function 18 -/
def impl_ExprOk.f (k : Nat) (a0_0 : Int) (a0_1 : Int) (a0_2 : ByteArray) (l0_3 : List (S29)) : Option (Bool) := (impl_termOk.f k a0_0 a0_1 a0_2 l0_3 6 false).bind fun t368 => (some t368)
theorem impl_ExprOk.mono : ∀ a0 a1 a2 a3 k, LeO (impl_ExprOk.f k a0 a1 a2 a3) (impl_ExprOk.f (k + 1) a0 a1 a2 a3) := by
 intro a0 a1 a2 a3 k
 unfold impl_ExprOk.f
 repeat' first
   | (with_reducible exact impl_termOk.mono _ _ _ _ _ _ _)
   | (with_reducible exact LeO.refl _)
   | (with_reducible exact LeO.none _)
   | (with_reducible refine LeO.ite ?_ ?_)
   | (with_reducible refine LeO.bind ?_ (fun _ => ?_))
   | exact impl_termOk.mono _ _ _ _ _ _ _
   | exact LeO.none _
   | refine LeO.ite ?_ ?_
   | refine LeO.bind ?_ (fun _ => ?_)
set_option maxHeartbeats 8000000 in
set_option maxRecDepth 100000 in
theorem impl_ExprOk.calls (k : Nat) (a0_0 : Int) (a0_1 : Int) (a0_2 : ByteArray) (A0_3 : Option Addr) (c0_3 : Nat) (l0_3 : List (S29)) (r : Bool) (w : World) (hr0_3 : Kd.C k29 w A0_3 l0_3.length l0_3) (hc0_3 : l0_3.length ≤ c0_3) (h : impl_ExprOk.f k a0_0 a0_1 a0_2 l0_3 = some r) :
  Calls Try.prog 18 #[.agg #[.int .i64 a0_0, .int .i64 a0_1, .string a0_2, .slice A0_3 l0_3.length c0_3]] w fun e w' => e = .returned (.bool r) ∧ Below w.heap.size w w' := by
 have hu29 := Try.underlying29
 have HR0_3 := A_ hr0_3
 have HC0_3 := A_ hc0_3
 clear hr0_3 hc0_3
 have HB := A_ (Below.refl w.heap.size w)
 have H : ((impl_termOk.f k a0_0 a0_1 a0_2 l0_3 6 false).bind fun t368 => (some t368)) = some r := h
 clear h
 replace H := Option.bind_eq_some_iff.mp H
 obtain ⟨t368, A20, H⟩ := H
 try dsimp only at H
 have A2 := A_ A20
 clear A20
 obtain rfl := Option.some.inj H
 go_enter Try.func18, Try.ntmps18
 go_wp2_with (first | ((with_reducible refine gate_dst (N := 1) rfl ?_); refine box_event ?hg (N := 1) ?hd (cs := #[.int .i64 a0_0, .int .i64 a0_1, .string a0_2, .slice A0_3 l0_3.length c0_3]) (t := 29) ?hr ?_; (case hd => rfl); (case hg => rfl); (case hr => first | (go_simp; done) | (go_simp; rfl)); intro gb367 hg w3 hbox hb; have n0_ := A_ (below_step (bw_ HB.out) hb); have n1_ := A_ (hbox); have n2_ := A_ ((by rw [hg]; exact (below_size (bw_ HB.out)) : w.heap.size ≤ gb367)); have n3_ := n2_; clear HB; have HB := n0_; have BK367 := n1_; have GW367 := n2_; have GE367 := n3_; have GI367 := GeI.mk GE367.out; clear n0_ n1_ n2_ n3_; clear hb hbox hg; have y4_0 : w3.cell? ⟨gb367, 0, none⟩ = some (.int .i64 a0_0) := (blk_cell BK367.out 0).trans rfl; have y4_1 : w3.cell? ⟨gb367, 1, none⟩ = some (.int .i64 a0_1) := (blk_cell BK367.out 1).trans rfl; have y4_2 : w3.cell? ⟨gb367, 2, none⟩ = some (.string a0_2) := (blk_cell BK367.out 2).trans rfl; have y4_3 : w3.cell? ⟨gb367, 3, none⟩ = some (.slice A0_3 l0_3.length c0_3) := (blk_cell BK367.out 3).trans rfl; have z4_0 := blk_frozen BK367.out 0; have z4_1 := blk_frozen BK367.out 1; have z4_2 := blk_frozen BK367.out 2; have z4_3 := blk_frozen BK367.out 3) | ((with_reducible refine gate_callee (f := 47) rfl ?_); refine gL_ (some 4) Try.func47 #[.agg #[.int .i64 a0_0, .int .i64 a0_1, .string a0_2, .slice A0_3 l0_3.length c0_3], .int .i64 6, .bool false] ?_; (with_reducible refine (impl_termOk.calls k a0_0 a0_1 a0_2 _ _ l0_3 6 false t368 _ ?side1 ?side2 A2.out).mono ?_); (case side1 => repeat (first | exact (Kd.C_below HR0_3.out HB.out) | (with_reducible refine Kd.C_alloc ?_ _) | (with_reducible refine Kd.C_drewN ?_ _) | (with_reducible refine Kd.C_drew ?_))); (case side2 => exact HC0_3.out); rintro e w5 ⟨rfl, hb⟩; refine ⟨_, rfl, ?_⟩; have n0_ := A_ (blk_below (bk_ BK367.out) hb); have n1_ := A_ (below_step (bw_ HB.out) hb); clear BK367; clear HB; have BK367 := n0_; have HB := n1_; clear n0_ n1_; (try clear hb); (try clear hb2); (try clear hk); (try clear hi)))
 go_ret
 exact rt_ (bw_ HB.out)

/-! ### impl_copyExpr: function 59 -/
mutual
def impl_copyExpr.l0 : Nat → List (S29) → Int → Int → Int → Int → ByteArray → List (S29) → Option (Int × Int × ByteArray × (List (S29)))
 | 0, _, _, _, _, _, _, _ => none
 | k + 1, x14, x15, x16, x372000, x372001, x372002, x372003 => if x16 < x15 then (if 0 ≤ x16 then (if x16 < (x14.length : Int) then ((impl_copyExpr.f k ((rd_T29 x14 x16).f0) ((rd_T29 x14 x16).f1) ((rd_T29 x14 x16).f2) ((rd_T29 x14 x16).f3)).bind fun bt374 => (if x372003.length < 2513169434916 then (impl_copyExpr.l0 k x14 x15 (wrap64 (x16 + 1)) x372000 x372001 x372002 (x372003 ++ [(⟨bt374.1, bt374.2.1, bt374.2.2.1, bt374.2.2.2⟩ : S29)])) else (none))) else (none)) else (none)) else (some (x372000, x372001, x372002, x372003))
def impl_copyExpr.f : Nat → Int → Int → ByteArray → List (S29) → Option (Int × Int × ByteArray × (List (S29)))
 | 0, _, _, _, _ => none
 | k + 1, a0_0, a0_1, a0_2, l0_3 => impl_copyExpr.l0 k l0_3 (l0_3.length : Int) 0 a0_0 a0_1 a0_2 ([] : List (S29))
end
theorem impl_copyExpr.mono_l : ∀ k, (∀ y0 y1 y2 y3, LeO (impl_copyExpr.f k y0 y1 y2 y3) (impl_copyExpr.f (k + 1) y0 y1 y2 y3)) ∧ (∀ y0 y1 y2 y3 y4 y5 y6, LeO (impl_copyExpr.l0 k y0 y1 y2 y3 y4 y5 y6) (impl_copyExpr.l0 (k + 1) y0 y1 y2 y3 y4 y5 y6))
 | 0 => ⟨fun _ _ _ _ r h => by simp [impl_copyExpr.f] at h, fun _ _ _ _ _ _ _ r h => by simp [impl_copyExpr.l0] at h⟩
 | k + 1 => by
  obtain ⟨ih0, ih1⟩ := impl_copyExpr.mono_l k
  refine ⟨?_, ?_⟩
  ·intro y0 y1 y2 y3
   unfold impl_copyExpr.f
   repeat' first
   | (with_reducible exact ih0 _ _ _ _)
   | (with_reducible exact ih1 _ _ _ _ _ _ _)
   | (with_reducible exact LeO.refl _)
   | (with_reducible exact LeO.none _)
   | (with_reducible refine LeO.ite ?_ ?_)
   | (with_reducible refine LeO.bind ?_ (fun _ => ?_))
   | exact ih0 _ _ _ _
   | exact ih1 _ _ _ _ _ _ _
   | exact LeO.none _
   | refine LeO.ite ?_ ?_
   | refine LeO.bind ?_ (fun _ => ?_)
  ·intro y0 y1 y2 y3 y4 y5 y6
   unfold impl_copyExpr.l0
   repeat' first
   | (with_reducible exact ih0 _ _ _ _)
   | (with_reducible exact ih1 _ _ _ _ _ _ _)
   | (with_reducible exact LeO.refl _)
   | (with_reducible exact LeO.none _)
   | (with_reducible refine LeO.ite ?_ ?_)
   | (with_reducible refine LeO.bind ?_ (fun _ => ?_))
   | exact ih0 _ _ _ _
   | exact ih1 _ _ _ _ _ _ _
   | exact LeO.none _
   | refine LeO.ite ?_ ?_
   | refine LeO.bind ?_ (fun _ => ?_)
theorem impl_copyExpr.mono : ∀ a0 a1 a2 a3 k, LeO (impl_copyExpr.f k a0 a1 a2 a3) (impl_copyExpr.f (k + 1) a0 a1 a2 a3) := by
 intro a0 a1 a2 a3 k
 obtain ⟨ih0, ih1⟩ := impl_copyExpr.mono_l k
 exact ih0 a0 a1 a2 a3
def impl_copyExpr.T5 : Bool × List (List Nat × List Nat) := (true, [([], []), ([0], [0]), ([], []), ([2], [2]), ([3], [3]), ([1, 4, 3], [1, 4]), ([0, 1, 2, 3, 4, 5], []), ([6, 5, 5, 0, 1, 2, 3, 4, 5], [5, 6])])
def impl_copyExpr.B5 : List Nat := [0, 1, 0, 4, 12, 31, 63, 127]
theorem impl_copyExpr.tab5 : rtab .any (opsOf Try.f59 5) = impl_copyExpr.T5 := by kernel_rfl
theorem impl_copyExpr.bits5 : waitsOk impl_copyExpr.T5.2 impl_copyExpr.B5 = true := by kernel_rfl
set_option maxHeartbeats 8000000 in
set_option maxRecDepth 100000 in
theorem impl_copyExpr.calls (k : Nat) : ∀ (a0_0 : Int) (a0_1 : Int) (a0_2 : ByteArray) (A0_3 : Option Addr) (c0_3 : Nat) (l0_3 : List (S29)) (r1 : Int) (r2 : Int) (r3 : ByteArray) (r4 : List (S29)) (w : World) (hr0_3 : Kd.C k29 w A0_3 l0_3.length l0_3) (hc0_3 : l0_3.length ≤ c0_3) (h : impl_copyExpr.f k a0_0 a0_1 a0_2 l0_3 = some (r1, r2, r3, r4)),
  Calls Try.prog 59 #[.agg #[.int .i64 a0_0, .int .i64 a0_1, .string a0_2, .slice A0_3 l0_3.length c0_3]] w fun e w' => ∃ v3_ : Value, e = .returned (.agg #[.int .i64 r1, .int .i64 r2, .string r3, v3_]) ∧ Kd.R k29 29 w' w.heap.size (fun _ => True) v3_ r4 ∧ Below w.heap.size w w' := by
 induction k using Nat.strongRecOn with
 | _ k ih =>
 intro a0_0 a0_1 a0_2 A0_3 c0_3 l0_3 r1 r2 r3 r4 w hr0_3 hc0_3 h
 cases k with
 | zero => exact absurd h (by simp [impl_copyExpr.f])
 | succ k =>
 simp only [impl_copyExpr.f] at h
 have hu29 := Try.underlying29
 have HR0_3 := A_ hr0_3
 have HC0_3 := A_ hc0_3
 clear hr0_3 hc0_3
 have HB := A_ (Below.refl w.heap.size w)
 have H : (impl_copyExpr.l0 k l0_3 (l0_3.length : Int) 0 a0_0 a0_1 a0_2 ([] : List (S29))) = some (r1, r2, r3, r4) := h
 clear h
 have H' := A_ H
 clear H
 go_enter Try.func59, Try.ntmps59
 go_wp2_with (first | ((with_reducible refine gate_dst (N := 1) rfl ?_); refine box_event ?hg (N := 1) ?hd (cs := #[.int .i64 a0_0, .int .i64 a0_1, .string a0_2, .slice A0_3 l0_3.length c0_3]) (t := 29) ?hr ?_; (case hd => rfl); (case hg => rfl); (case hr => first | (go_simp; done) | (go_simp; rfl)); intro gb369 hg w2 hbox hb; have n0_ := A_ (below_step (bw_ HB.out) hb); have n1_ := A_ (hbox); have n2_ := A_ ((by rw [hg]; exact (below_size (bw_ HB.out)) : w.heap.size ≤ gb369)); have n3_ := n2_; clear HB; have HB := n0_; have BK369 := n1_; have GW369 := n2_; have GE369 := n3_; have GI369 := GeI.mk GE369.out; clear n0_ n1_ n2_ n3_; clear hb hbox hg) | ((with_reducible refine gate_dst (N := 2) rfl ?_); refine box_event ?hg (N := 2) ?hd (cs := #[.int .i64 0, .int .i64 0, .string (⟨#[]⟩ : ByteArray), .slice none 0 0]) (t := 29) ?hr ?_; (case hd => rfl); (case hg => rfl); (case hr => first | (go_simp; done) | (go_simp; rfl)); intro gb370 hg w3 hbox hb; have n0_ := A_ (blk_below (bk_ BK369.out) hb); have n1_ := A_ (below_step (bw_ HB.out) hb); have n2_ := A_ (hbox); have n3_ := A_ ((by rw [hg]; exact (below_size (bw_ HB.out)) : w.heap.size ≤ gb370)); have n4_ := n3_; have n5_ := A_ ((by rw [hg]; exact Nat.ne_of_lt (blk_lt (bk_ BK369.out)) : gb369 ≠ gb370)); have n6_ := A_ n5_.out.symm; clear BK369; clear HB; have BK369 := n0_; have HB := n1_; have BK370 := n2_; have GW370 := n3_; have GE370 := n4_; have GI370 := GeI.mk GE370.out; have NB369_370 := n5_; have NB370_369 := n6_; clear n0_ n1_ n2_ n3_ n4_ n5_ n6_; clear hb hbox hg; have hnb4 := NB369_370.out; have hnc4 := NB370_369.out; have y5_0 : w3.cell? ⟨gb369, 0, none⟩ = some (.int .i64 a0_0) := (blk_cell BK369.out 0).trans rfl; have y5_1 : w3.cell? ⟨gb369, 1, none⟩ = some (.int .i64 a0_1) := (blk_cell BK369.out 1).trans rfl; have y5_2 : w3.cell? ⟨gb369, 2, none⟩ = some (.string a0_2) := (blk_cell BK369.out 2).trans rfl; have y5_3 : w3.cell? ⟨gb369, 3, none⟩ = some (.slice A0_3 l0_3.length c0_3) := (blk_cell BK369.out 3).trans rfl; have z5_0 := blk_frozen BK369.out 0; have z5_1 := blk_frozen BK369.out 1; have z5_2 := blk_frozen BK369.out 2; have z5_3 := blk_frozen BK369.out 3) | ((with_reducible refine gate_dst (N := 3) rfl ?_); refine box_event ?hg (N := 3) ?hd (cs := #[.int .i64 0, .int .i64 0, .string (⟨#[]⟩ : ByteArray), .slice none 0 0]) (t := 29) ?hr ?_; (case hd => rfl); (case hg => rfl); (case hr => first | (go_simp; done) | (go_simp; rfl)); intro gb371 hg w6 hbox hb; have n0_ := A_ (blk_below (bk_ BK369.out) hb); have n1_ := A_ (blk_below (bk_ BK370.out) hb); have n2_ := A_ (below_step (bw_ HB.out) hb); have n3_ := A_ (hbox); have n4_ := A_ ((by rw [hg]; exact (below_size (bw_ HB.out)) : w.heap.size ≤ gb371)); have n5_ := n4_; have n6_ := A_ ((by rw [hg]; exact Nat.ne_of_lt (blk_lt (bk_ BK369.out)) : gb369 ≠ gb371)); have n7_ := A_ n6_.out.symm; have n8_ := A_ ((by rw [hg]; exact Nat.ne_of_lt (blk_lt (bk_ BK370.out)) : gb370 ≠ gb371)); have n9_ := A_ n8_.out.symm; clear BK369; clear BK370; clear HB; have BK369 := n0_; have BK370 := n1_; have HB := n2_; have BK371 := n3_; have GW371 := n4_; have GE371 := n5_; have GI371 := GeI.mk GE371.out; have NB369_371 := n6_; have NB371_369 := n7_; have NB370_371 := n8_; have NB371_370 := n9_; clear n0_ n1_ n2_ n3_ n4_ n5_ n6_ n7_ n8_ n9_; clear hb hbox hg; have hnb7 := NB371_369.out; have hnc7 := NB369_371.out; have hnb8 := NB371_370.out; have hnc8 := NB370_371.out; have y9_0 : w6.cell? ⟨gb371, 0, none⟩ = some (.int .i64 0) := (blk_cell BK371.out 0).trans rfl; have y9_1 : w6.cell? ⟨gb371, 1, none⟩ = some (.int .i64 0) := (blk_cell BK371.out 1).trans rfl; have y9_2 : w6.cell? ⟨gb371, 2, none⟩ = some (.string (⟨#[]⟩ : ByteArray)) := (blk_cell BK371.out 2).trans rfl; have y9_3 : w6.cell? ⟨gb371, 3, none⟩ = some (.slice none 0 0) := (blk_cell BK371.out 3).trans rfl; have z9_0 := blk_frozen BK371.out 0; have z9_1 := blk_frozen BK371.out 1; have z9_2 := blk_frozen BK371.out 2; have z9_3 := blk_frozen BK371.out 3; have y10_0 : w6.cell? ⟨gb369, 0, none⟩ = some (.int .i64 a0_0) := (blk_cell BK369.out 0).trans rfl; have y10_1 : w6.cell? ⟨gb369, 1, none⟩ = some (.int .i64 a0_1) := (blk_cell BK369.out 1).trans rfl; have y10_2 : w6.cell? ⟨gb369, 2, none⟩ = some (.string a0_2) := (blk_cell BK369.out 2).trans rfl; have y10_3 : w6.cell? ⟨gb369, 3, none⟩ = some (.slice A0_3 l0_3.length c0_3) := (blk_cell BK369.out 3).trans rfl; have z10_0 := blk_frozen BK369.out 0; have z10_1 := blk_frozen BK369.out 1; have z10_2 := blk_frozen BK369.out 2; have z10_3 := blk_frozen BK369.out 3))
 go_loopg [16] k (fun kq v16 w' => ∃ (x16_1 : Int) (x372003_1 : List (S29)) (u372003 : Value), v16 = .int .i64 x16_1 ∧ Aside0 (impl_copyExpr.l0 kq l0_3 (l0_3.length : Int) x16_1 a0_0 a0_1 a0_2 x372003_1 = some (r1, r2, r3, r4)) ∧ Aside0 (kq ≤ k) ∧ Aside0 (Kd.R k29 29 w' w.heap.size (fun k_ => k_ ≠ gb369 ∧ k_ ≠ gb370 ∧ k_ ≠ gb371) u372003 x372003_1) ∧ Aside0 (w'.heap[gb369]? = some (.cells #[.int .i64 a0_0, .int .i64 a0_1, .string a0_2, (.slice A0_3 l0_3.length c0_3)] 29 (0, 0))) ∧ Aside0 (w'.heap[gb370]? = some (.cells #[.int .i64 0, .int .i64 0, .string (⟨#[]⟩ : ByteArray), (.slice none 0 0)] 29 (0, 0))) ∧ Aside0 (w'.heap[gb371]? = some (.cells #[.int .i64 a0_0, .int .i64 a0_1, .string a0_2, u372003] 29 (0, 0))) ∧ Aside0 (Below w.heap.size w w'))
 case atStart => exact ⟨(0), (([] : List (S29))), (.slice none 0 0), (by first | rfl | (simp; done) | (simp [*]; done) | (simp [wrap64]; done)), H', ⟨Nat.le_refl _⟩, ⟨by first | exact Kd.R_nil _ _ _ _ _ | exact Kd.N_nil _ _ _ _ _ | exact Kd.V_nil _ _ _ _ _ | exact Kd.Q_nil _ _ _ _ _ | exact Kd.S_nil _ _ _ _ _⟩, ⟨by refine bk_ ?_; refine blk_far ?_ NB369_371.out _; refine bk_ ?_; refine blk_far ?_ NB369_371.out _; refine bk_ ?_; refine blk_far ?_ NB369_371.out _; refine bk_ ?_; refine blk_far ?_ NB369_371.out _; refine bk_ ?_; exact BK369.out⟩, ⟨by refine bk_ ?_; refine blk_far ?_ NB370_371.out _; refine bk_ ?_; refine blk_far ?_ NB370_371.out _; refine bk_ ?_; refine blk_far ?_ NB370_371.out _; refine bk_ ?_; refine blk_far ?_ NB370_371.out _; refine bk_ ?_; exact BK370.out⟩, ⟨by refine bk_ ?_; refine blk_put (cs := #[.int .i64 a0_0, .int .i64 a0_1, .string a0_2, .slice none 0 0]) ?_ 3 _ rfl; refine bk_ ?_; refine blk_put (cs := #[.int .i64 a0_0, .int .i64 a0_1, .string (⟨#[]⟩ : ByteArray), .slice none 0 0]) ?_ 2 _ rfl; refine bk_ ?_; refine blk_put (cs := #[.int .i64 a0_0, .int .i64 0, .string (⟨#[]⟩ : ByteArray), .slice none 0 0]) ?_ 1 _ rfl; refine bk_ ?_; refine blk_put (cs := #[.int .i64 0, .int .i64 0, .string (⟨#[]⟩ : ByteArray), .slice none 0 0]) ?_ 0 _ rfl; refine bk_ ?_; exact BK371.out⟩, ⟨bw_ HB.out⟩⟩
 case round =>
  clear H'
  try clear p2
  try clear c4
  try clear c5
  try clear c7
  try clear c8
  try clear y10_0 y10_1 y10_2 y10_3 z10_0 z10_1 z10_2 z10_3
  try clear y5_0 y5_1 y5_2 y5_3 z5_0 z5_1 z5_2 z5_3
  try clear y9_0 y9_1 y9_2 y9_3 z9_0 z9_1 z9_2 z9_3
  obtain ⟨x16_1, x372003_1, u372003, rfl, HA, HK1, HO_372003, BK369, BK370, BK371, HB⟩ := hrel
  cases gk with
  | zero => exact absurd HA.out (by simp [impl_copyExpr.l0])
  | succ k1 =>
   have H := HA.out
   clear HA
   simp only [impl_copyExpr.l0] at H
   by_cases c11 : x16_1 < (l0_3.length : Int)
   ·rw [if_pos c11] at H
    have c11b0 := decide_eq_true c11
    clear c11
    by_cases c12 : 0 ≤ x16_1
    ·rw [if_pos c12] at H
     have c12b0 := decide_eq_true c12
     clear c12
     by_cases c13 : x16_1 < (l0_3.length : Int)
     ·rw [if_pos c13] at H
      have c13b0 := decide_eq_true c13
      clear c13
      replace H := Option.bind_eq_some_iff.mp H
      obtain ⟨⟨t374, t375, t376, t377⟩, A140, H⟩ := H
      try dsimp only at H
      have A14 := A_ A140
      clear A140
      by_cases c15 : x372003_1.length < 2513169434916
      ·rw [if_pos c15] at H
       have LMc15 := A_ c15
       clear c15
       obtain ⟨y380, hy380⟩ : ∃ y_ : List (S29), y_ = (x372003_1 ++ [(⟨t374, t375, t376, t377⟩ : S29)]) := ⟨_, rfl⟩
       replace H : (impl_copyExpr.l0 k1 l0_3 (l0_3.length : Int) (wrap64 (x16_1 + 1)) a0_0 a0_1 a0_2 y380) = some (r1, r2, r3, r4) := by first | (rw [hy380]; with_reducible exact H) | (have H2_ := (Option.bind_some _ _).symm.trans H; rw [hy380]; with_reducible exact H2_) | (have H2_ := (Option.bind_some _ _).symm.trans H; with_reducible exact H2_) | with_reducible exact H | (rw [hy380]; exact H) | exact H
       have Ny380 := A_ hy380
       clear hy380
       have H' := A_ H
       clear H
       have p372 : 0 ≤ (x16_1 : Int) := of_decide_eq_true (by first | (with_reducible assumption) | assumption)
       have q372 : x16_1 < (l0_3.length : Int) := of_decide_eq_true (by first | (with_reducible assumption) | assumption)
       obtain ⟨ad372, A372_3, c372_3, e372, hx372_0, hx372_1, hx372_2, hx372_3, hl372_3, hi372_3⟩ := at_T29 HR0_3.out x16_1 p372 q372
       cases e372
       replace hx372_0 := (HB.out.cell (World.block_lt_of_cell? w _ hx372_0)).trans hx372_0
       replace hx372_1 := (HB.out.cell (World.block_lt_of_cell? w _ hx372_1)).trans hx372_1
       replace hx372_2 := (HB.out.cell (World.block_lt_of_cell? w _ hx372_2)).trans hx372_2
       replace hx372_3 := (HB.out.cell (World.block_lt_of_cell? w _ hx372_3)).trans hx372_3
       have HR372_3 := A_ hi372_3
       have HC372_3 := A_ hl372_3
       clear hi372_3 hl372_3
       replace p372 := eq_true p372
       replace q372 := eq_true q372
       try go_wp2_with (first | ((with_reducible refine gate_dst (N := 5) rfl ?_); refine box_event ?hg (N := 5) ?hd (cs := #[.int .i64 0, .int .i64 0, .string (⟨#[]⟩ : ByteArray), .slice none 0 0]) (t := 29) ?hr ?_; (case hd => rfl); (case hg => rfl); (case hr => first | (go_simp; done) | (go_simp; rfl)); intro gb373 hg w16 hbox hb; have n0_ := A_ (Kd.R_below (Kd.R_elderB (by (with_reducible repeat (first | apply Kd.R_alloc | apply Kd.R_drewN | apply Kd.R_drew)); exact HO_372003.out) gb373 (Nat.le_of_eq hg.symm)) hb); have n1_ := A_ (blk_below (bk_ BK369.out) hb); have n2_ := A_ (blk_below (bk_ BK370.out) hb); have n3_ := A_ (blk_below (bk_ BK371.out) hb); have n4_ := A_ (below_step (bw_ HB.out) hb); have n5_ := A_ (hbox); have n6_ := A_ ((by rw [hg]; exact (below_size (bw_ HB.out)) : w.heap.size ≤ gb373)); have n7_ := n6_; have n8_ := A_ ((by rw [hg]; exact Nat.ne_of_lt (blk_lt (bk_ BK369.out)) : gb369 ≠ gb373)); have n9_ := A_ n8_.out.symm; have n10_ := A_ ((by rw [hg]; exact Nat.ne_of_lt (blk_lt (bk_ BK370.out)) : gb370 ≠ gb373)); have n11_ := A_ n10_.out.symm; have n12_ := A_ ((by rw [hg]; exact Nat.ne_of_lt (blk_lt (bk_ BK371.out)) : gb371 ≠ gb373)); have n13_ := A_ n12_.out.symm; clear HO_372003; clear BK369; clear BK370; clear BK371; clear HB; have HO_372003 := n0_; have BK369 := n1_; have BK370 := n2_; have BK371 := n3_; have HB := n4_; have BK373 := n5_; have GW373 := n6_; have GE373 := n7_; have GI373 := GeI.mk GE373.out; have NB369_373 := n8_; have NB373_369 := n9_; have NB370_373 := n10_; have NB373_370 := n11_; have NB371_373 := n12_; have NB373_371 := n13_; clear n0_ n1_ n2_ n3_ n4_ n5_ n6_ n7_ n8_ n9_ n10_ n11_ n12_ n13_; clear hb hbox hg; have hnb17 := NB373_369.out; have hnc17 := NB369_373.out; have hnb18 := NB373_370.out; have hnc18 := NB370_373.out; have hnb19 := NB373_371.out; have hnc19 := NB371_373.out; have y20_0 : w16.cell? ⟨gb373, 0, none⟩ = some (.int .i64 0) := (blk_cell BK373.out 0).trans rfl; have y20_1 : w16.cell? ⟨gb373, 1, none⟩ = some (.int .i64 0) := (blk_cell BK373.out 1).trans rfl; have y20_2 : w16.cell? ⟨gb373, 2, none⟩ = some (.string (⟨#[]⟩ : ByteArray)) := (blk_cell BK373.out 2).trans rfl; have y20_3 : w16.cell? ⟨gb373, 3, none⟩ = some (.slice none 0 0) := (blk_cell BK373.out 3).trans rfl; have z20_0 := blk_frozen BK373.out 0; have z20_1 := blk_frozen BK373.out 1; have z20_2 := blk_frozen BK373.out 2; have z20_3 := blk_frozen BK373.out 3))
       have n0_ : Aside0 (Kd.R k29 29 ((((w16.setCell ⟨gb373, 0, none⟩ (.int .i64 ((rd_T29 l0_3 x16_1).f0))).setCell ⟨gb373, 1, none⟩ (.int .i64 ((rd_T29 l0_3 x16_1).f1))).setCell ⟨gb373, 2, none⟩ (.string ((rd_T29 l0_3 x16_1).f2))).setCell ⟨gb373, 3, none⟩ (.slice A372_3 ((rd_T29 l0_3 x16_1).f3).length c372_3)) w.heap.size (fun k_ => k_ ≠ gb369 ∧ k_ ≠ gb370 ∧ k_ ≠ gb371 ∧ k_ ≠ gb373) u372003 x372003_1) := ⟨by (with_reducible repeat (first | apply Kd.R_alloc | apply Kd.R_drewN | apply Kd.R_drew)); exact Kd.R_mono (Kd.R_far (p := ⟨gb373, 3, none⟩) (Kd.R_far (p := ⟨gb373, 2, none⟩) (Kd.R_far (p := ⟨gb373, 1, none⟩) (Kd.R_far (p := ⟨gb373, 0, none⟩) (Kd.R_mono HO_372003.out (fun k_ hk => (⟨hk, hk.2⟩ : _ ∧ k_ ≠ gb373))) (fun _ hk => hk.2) (.int .i64 ((rd_T29 l0_3 x16_1).f0))) (fun _ hk => hk.2) (.int .i64 ((rd_T29 l0_3 x16_1).f1))) (fun _ hk => hk.2) (.string ((rd_T29 l0_3 x16_1).f2))) (fun _ hk => hk.2) (.slice A372_3 ((rd_T29 l0_3 x16_1).f3).length c372_3)) (fun _ hk => ⟨hk.1.1.1, ⟨hk.1.1.2.1, ⟨hk.1.1.2.2, hk.1.2⟩⟩⟩)⟩
       have n1_ : Aside0 (((((w16.setCell ⟨gb373, 0, none⟩ (.int .i64 ((rd_T29 l0_3 x16_1).f0))).setCell ⟨gb373, 1, none⟩ (.int .i64 ((rd_T29 l0_3 x16_1).f1))).setCell ⟨gb373, 2, none⟩ (.string ((rd_T29 l0_3 x16_1).f2))).setCell ⟨gb373, 3, none⟩ (.slice A372_3 ((rd_T29 l0_3 x16_1).f3).length c372_3)).heap[gb369]? = some (.cells #[.int .i64 a0_0, .int .i64 a0_1, .string a0_2, .slice (some ad372) l0_3.length c0_3] 29 (0, 0))) := ⟨by refine bk_ ?_; refine blk_far ?_ NB369_373.out _; refine bk_ ?_; refine blk_far ?_ NB369_373.out _; refine bk_ ?_; refine blk_far ?_ NB369_373.out _; refine bk_ ?_; refine blk_far ?_ NB369_373.out _; refine bk_ ?_; exact BK369.out⟩
       have n2_ : Aside0 (((((w16.setCell ⟨gb373, 0, none⟩ (.int .i64 ((rd_T29 l0_3 x16_1).f0))).setCell ⟨gb373, 1, none⟩ (.int .i64 ((rd_T29 l0_3 x16_1).f1))).setCell ⟨gb373, 2, none⟩ (.string ((rd_T29 l0_3 x16_1).f2))).setCell ⟨gb373, 3, none⟩ (.slice A372_3 ((rd_T29 l0_3 x16_1).f3).length c372_3)).heap[gb370]? = some (.cells #[.int .i64 0, .int .i64 0, .string (⟨#[]⟩ : ByteArray), .slice none 0 0] 29 (0, 0))) := ⟨by refine bk_ ?_; refine blk_far ?_ NB370_373.out _; refine bk_ ?_; refine blk_far ?_ NB370_373.out _; refine bk_ ?_; refine blk_far ?_ NB370_373.out _; refine bk_ ?_; refine blk_far ?_ NB370_373.out _; refine bk_ ?_; exact BK370.out⟩
       have n3_ : Aside0 (((((w16.setCell ⟨gb373, 0, none⟩ (.int .i64 ((rd_T29 l0_3 x16_1).f0))).setCell ⟨gb373, 1, none⟩ (.int .i64 ((rd_T29 l0_3 x16_1).f1))).setCell ⟨gb373, 2, none⟩ (.string ((rd_T29 l0_3 x16_1).f2))).setCell ⟨gb373, 3, none⟩ (.slice A372_3 ((rd_T29 l0_3 x16_1).f3).length c372_3)).heap[gb371]? = some (.cells #[.int .i64 a0_0, .int .i64 a0_1, .string a0_2, u372003] 29 (0, 0))) := ⟨by refine bk_ ?_; refine blk_far ?_ NB371_373.out _; refine bk_ ?_; refine blk_far ?_ NB371_373.out _; refine bk_ ?_; refine blk_far ?_ NB371_373.out _; refine bk_ ?_; refine blk_far ?_ NB371_373.out _; refine bk_ ?_; exact BK371.out⟩
       have n4_ : Aside0 (((((w16.setCell ⟨gb373, 0, none⟩ (.int .i64 ((rd_T29 l0_3 x16_1).f0))).setCell ⟨gb373, 1, none⟩ (.int .i64 ((rd_T29 l0_3 x16_1).f1))).setCell ⟨gb373, 2, none⟩ (.string ((rd_T29 l0_3 x16_1).f2))).setCell ⟨gb373, 3, none⟩ (.slice A372_3 ((rd_T29 l0_3 x16_1).f3).length c372_3)).heap[gb373]? = some (.cells #[.int .i64 ((rd_T29 l0_3 x16_1).f0), .int .i64 ((rd_T29 l0_3 x16_1).f1), .string ((rd_T29 l0_3 x16_1).f2), .slice A372_3 ((rd_T29 l0_3 x16_1).f3).length c372_3] 29 (0, 0))) := ⟨by refine bk_ ?_; refine blk_put (cs := #[.int .i64 ((rd_T29 l0_3 x16_1).f0), .int .i64 ((rd_T29 l0_3 x16_1).f1), .string ((rd_T29 l0_3 x16_1).f2), .slice none 0 0]) ?_ 3 _ rfl; refine bk_ ?_; refine blk_put (cs := #[.int .i64 ((rd_T29 l0_3 x16_1).f0), .int .i64 ((rd_T29 l0_3 x16_1).f1), .string (⟨#[]⟩ : ByteArray), .slice none 0 0]) ?_ 2 _ rfl; refine bk_ ?_; refine blk_put (cs := #[.int .i64 ((rd_T29 l0_3 x16_1).f0), .int .i64 0, .string (⟨#[]⟩ : ByteArray), .slice none 0 0]) ?_ 1 _ rfl; refine bk_ ?_; refine blk_put (cs := #[.int .i64 0, .int .i64 0, .string (⟨#[]⟩ : ByteArray), .slice none 0 0]) ?_ 0 _ rfl; refine bk_ ?_; exact BK373.out⟩
       have n5_ : Aside0 (Below w.heap.size w ((((w16.setCell ⟨gb373, 0, none⟩ (.int .i64 ((rd_T29 l0_3 x16_1).f0))).setCell ⟨gb373, 1, none⟩ (.int .i64 ((rd_T29 l0_3 x16_1).f1))).setCell ⟨gb373, 2, none⟩ (.string ((rd_T29 l0_3 x16_1).f2))).setCell ⟨gb373, 3, none⟩ (.slice A372_3 ((rd_T29 l0_3 x16_1).f3).length c372_3))) := ⟨bw_ HB.out⟩
       (try clear HO_372003)
       (try clear BK369)
       (try clear BK370)
       (try clear BK371)
       (try clear BK373)
       (try clear HB)
       generalize ((((w16.setCell ⟨gb373, 0, none⟩ (.int .i64 ((rd_T29 l0_3 x16_1).f0))).setCell ⟨gb373, 1, none⟩ (.int .i64 ((rd_T29 l0_3 x16_1).f1))).setCell ⟨gb373, 2, none⟩ (.string ((rd_T29 l0_3 x16_1).f2))).setCell ⟨gb373, 3, none⟩ (.slice A372_3 ((rd_T29 l0_3 x16_1).f3).length c372_3)) = w21 at n0_ n1_ n2_ n3_ n4_ n5_ ⊢
       have HO_372003 := n0_
       have BK369 := n1_
       have BK370 := n2_
       have BK371 := n3_
       have BK373 := n4_
       have HB := n5_
       clear n0_ n1_ n2_ n3_ n4_ n5_
       have n0_ := A_ (Kd.R_drew HO_372003.out)
       have n1_ := A_ (blk_drew BK369.out)
       have n2_ := A_ (blk_drew BK370.out)
       have n3_ := A_ (blk_drew BK371.out)
       have n4_ := A_ (blk_drew BK373.out)
       have n5_ := A_ (below_drew1 HB.out)
       clear HO_372003
       clear BK369
       clear BK370
       clear BK371
       clear BK373
       clear HB
       have HO_372003 := n0_
       have BK369 := n1_
       have BK370 := n2_
       have BK371 := n3_
       have BK373 := n4_
       have HB := n5_
       clear n0_ n1_ n2_ n3_ n4_ n5_
       refine start_ (n := 8) (S := fun w' => w'.cell? ⟨gb371, 0, none⟩ = some (.int .i64 a0_0) ∧ w'.cell? ⟨gb371, 1, none⟩ = some (.int .i64 a0_1) ∧ w'.cell? ⟨gb371, 2, none⟩ = some (.string a0_2) ∧ w'.cell? ⟨gb371, 3, none⟩ = some (u372003) ∧ w'.cell? ⟨gb373, 0, none⟩ = some (.int .i64 ((rd_T29 l0_3 x16_1).f0)) ∧ w'.cell? ⟨gb373, 1, none⟩ = some (.int .i64 ((rd_T29 l0_3 x16_1).f1)) ∧ w'.cell? ⟨gb373, 2, none⟩ = some (.string ((rd_T29 l0_3 x16_1).f2)) ∧ w'.cell? ⟨gb373, 3, none⟩ = some (.slice A372_3 ((rd_T29 l0_3 x16_1).f3).length c372_3)) (ds := [7]) #[false, false, false, false, false, false, false, false] (by kernel_rfl) rfl rfl ⟨(blk_cell BK371.out 0).trans rfl, (blk_cell BK371.out 1).trans rfl, (blk_cell BK371.out 2).trans rfl, (blk_cell BK371.out 3).trans rfl, (blk_cell BK373.out 0).trans rfl, (blk_cell BK373.out 1).trans rfl, (blk_cell BK373.out 2).trans rfl, (blk_cell BK373.out 3).trans rfl⟩ (fun hHeld => ?_); refine with_tabW impl_copyExpr.tab5 impl_copyExpr.bits5 (fun HT_ HW_ => ?_)
       generalize w21.drew = w22 at HO_372003 BK369 BK370 BK371 BK373 HB hHeld ⊢
       refine pure_ (i := 0) (N := some 20) (v := ?_) (a' := ?_) #[true, false, false, false, false, false, false, false] rfl rfl (any_of HT_.out (by kernel_rfl)) (fun _ _ _ h => h) (Or.inl ⟨by rfl, ?_⟩) ?_ ?_
       rotate_left
       ·intro w'
        go_simp
        with_reducible rfl
       rotate_left
       ·simp only [Act.put, List.setIfInBounds_toArray, List.set_cons_zero, List.set_cons_succ, i64_w, i32_w]
        rfl
       refine take_ (i := 1) (N := some 21) (v := ?_) (a' := ?_) #[true, true, false, false, false, false, false, false] rfl rfl (take_ofW HT_.out HW_.out (by kernel_rfl)) (fun _ _ _ h => h) (Or.inl ⟨by rfl, ?_⟩) hHeld ?_ ?_
       rotate_left
       ·rintro w' ⟨s0, s1, s2, s3, s4, s5, s6, s7⟩
        go_simp
        with_reducible rfl
       rotate_left
       ·simp only [Act.put, List.setIfInBounds_toArray, List.set_cons_zero, List.set_cons_succ, i64_w, i32_w]
        rfl
       refine take_ (i := 2) (N := some 22) (v := ?_) (a' := ?_) #[true, true, true, false, false, false, false, false] rfl rfl (take_ofW HT_.out HW_.out (by kernel_rfl)) (fun _ _ _ h => h) (Or.inl ⟨by rfl, ?_⟩) hHeld ?_ ?_
       rotate_left
       ·rintro w' ⟨s0, s1, s2, s3, s4, s5, s6, s7⟩
        go_simp
        with_reducible rfl
       rotate_left
       ·simp only [Act.put, List.setIfInBounds_toArray, List.set_cons_zero, List.set_cons_succ, i64_w, i32_w]
        rfl
       refine one_ (i := 3) (N := some 23) #[true, true, true, true, false, false, false, false] rfl rfl (one_of HT_.out (by kernel_rfl)) (by decide) (fun K hK => ?_)
       refine goes_ Try.func59 (by kernel_rfl) rfl #[.agg #[.int .i64 ((rd_T29 l0_3 x16_1).f0), .int .i64 ((rd_T29 l0_3 x16_1).f1), .string ((rd_T29 l0_3 x16_1).f2), .slice A372_3 ((rd_T29 l0_3 x16_1).f3).length c372_3]] (by rfl) rfl rfl (by (try simp only [List.map_toArray, List.map_cons, List.map_nil]); first | done | rfl | (simp only [List.length_drop, List.length_take]; rfl)) ?_
       with_reducible refine (ih k1 (by have := HK1.out; omega) ((rd_T29 l0_3 x16_1).f0) ((rd_T29 l0_3 x16_1).f1) ((rd_T29 l0_3 x16_1).f2) _ _ ((rd_T29 l0_3 x16_1).f3) t374 t375 t376 t377 _ ?side1 ?side2 A14.out).mono ?_
       (case side1 => repeat (first | exact (Kd.C_below HR372_3.out HB.out) | (with_reducible refine Kd.C_alloc ?_ _) | (with_reducible refine Kd.C_drewN ?_ _) | (with_reducible refine Kd.C_drew ?_)))
       (case side2 => exact HC372_3.out)
       rintro e w23 ⟨v378, rfl, ho0, hb⟩
       refine ⟨_, rfl, ?_⟩
       have n0_ := A_ (Kd.R_elder' (by (with_reducible repeat (first | apply Kd.R_alloc | apply Kd.R_drewN | apply Kd.R_drew)); exact HO_372003.out) (Kd.R_base ho0) hb)
       have n1_ := A_ (Kd.R_lower (Kd.R_newB (Kd.R_newB (Kd.R_newB (Kd.R_newB (Kd.R_new' ho0 (Kd.R_lt (by (with_reducible repeat (first | apply Kd.R_alloc | apply Kd.R_drewN | apply Kd.R_drew)); exact HO_372003.out))) (bk_ BK369.out)) (bk_ BK370.out)) (bk_ BK371.out)) (bk_ BK373.out)) (below_size (bw_ HB.out)))
       have n2_ := A_ (blk_below (bk_ BK369.out) hb)
       have n3_ := A_ (blk_below (bk_ BK370.out) hb)
       have n4_ := A_ (blk_below (bk_ BK371.out) hb)
       have n5_ := A_ (blk_below (bk_ BK373.out) hb)
       have n6_ := A_ (below_step (bw_ HB.out) hb)
       clear HO_372003
       clear BK369
       clear BK370
       clear BK371
       clear BK373
       clear HB
       have HO_372003 := n0_
       have HO379 := n1_
       have BK369 := n2_
       have BK370 := n3_
       have BK371 := n4_
       have BK373 := n5_
       have HB := n6_
       clear n0_ n1_ n2_ n3_ n4_ n5_ n6_
       (try clear hb)
       (try clear hb2)
       (try clear hk)
       (try clear hi)
       (try clear ho0)
       obtain ⟨Ao25, co25, eo25⟩ := Kd.R_slice HO379.out
       (first | subst eo25 | (injection eo25 with f1_ f2_ f3_; have f4_ := f1_.symm; have f5_ := f3_.symm; clear f1_ f2_ f3_; subst f4_; subst f5_))
       refine hK.out _ _ ⟨(blk_cell BK371.out 0).trans rfl, (blk_cell BK371.out 1).trans rfl, (blk_cell BK371.out 2).trans rfl, (blk_cell BK371.out 3).trans rfl, (blk_cell BK373.out 0).trans rfl, (blk_cell BK373.out 1).trans rfl, (blk_cell BK373.out 2).trans rfl, (blk_cell BK373.out 3).trans rfl⟩ (fun hHeld => ?_)
       clear hK K
       refine norm_ (a' := ?_) ?_ ?_
       rotate_left
       ·show Act.put _ (some 23) _ = _
        simp only [Act.put, List.setIfInBounds_toArray, List.set_cons_zero, List.set_cons_succ, i64_w, i32_w]
        rfl
       refine one_ (i := 4) (N := some 24) #[true, true, true, true, true, false, false, false] rfl rfl (one_of HT_.out (by kernel_rfl)) (by decide) (fun K hK => ?_)
       refine value_ (w1 := ?_) (v := ?_) (by rfl) rfl ?_ ?_
       rotate_left 2
       ·go_simp
        constructor
        ·rfl
        ·rfl
       refine hK.out _ _ ⟨(blk_cell (blk_alloc BK371.out _) 0).trans rfl, (blk_cell (blk_alloc BK371.out _) 1).trans rfl, (blk_cell (blk_alloc BK371.out _) 2).trans rfl, (blk_cell (blk_alloc BK371.out _) 3).trans rfl, (blk_cell (blk_alloc BK373.out _) 0).trans rfl, (blk_cell (blk_alloc BK373.out _) 1).trans rfl, (blk_cell (blk_alloc BK373.out _) 2).trans rfl, (blk_cell (blk_alloc BK373.out _) 3).trans rfl⟩ (fun hHeld => ?_)
       clear hK K
       refine norm_ (a' := ?_) ?_ ?_
       rotate_left
       ·show Act.put _ (some 24) _ = _
        simp only [Act.put, List.setIfInBounds_toArray, List.set_cons_zero, List.set_cons_succ, i64_w, i32_w]
        rfl
       refine one_ (i := 5) (N := some 25) #[true, true, true, true, true, true, false, false] rfl rfl (one_of HT_.out (by kernel_rfl)) (by decide) (fun K hK => ?_)
       refine Kd.R_append_step k29 (w0 := w) w.heap.size (by rfl) (.tmp 21) (.tmp 24) 27 29 (.agg #[(.int .i64 0), (.int .i64 0), (.string ⟨#[]⟩), (.slice none 0 0)]) 56 rfl Try.underlying27 info29 rfl (by decide) (by omega) u372003 x372003_1 (⟨t374, t375, t376, t377⟩ : S29) [.int .i64 t374, .int .i64 t375, .string t376, .slice Ao25 t377.length co25] (fun k_ => k_ ≠ gb369 ∧ k_ ≠ gb370 ∧ k_ ≠ gb371 ∧ k_ ≠ gb373) (fun k_ => ((fun k_ => k_ ≠ gb369 ∧ k_ ≠ gb370 ∧ k_ ≠ gb371 ∧ k_ ≠ gb373)) k_ ∧ some k_ ≠ (u372003 : Value).ownBlock) rfl rfl ?aP (fun _ hk => hk) ?aF ?aO ?aB ?aS ?aL ?_
       (case aP => exact k29_mkM _ _ _ (⟨t374, t375, t376, t377⟩ : S29) (Kd.R_mono (HO379.out) (fun k_ hk => ⟨⟨hk.1.1.1.2, ⟨hk.1.1.2, ⟨hk.1.2, hk.2⟩⟩⟩, hk.1.1.1.1.2⟩)))
       (case aB => exact (bw_ HB.out))
       (case aF => exact (fun k_ hk => ⟨Kd.freshB (bk_ BK369.out) k_ hk, Kd.freshB (bk_ BK370.out) k_ hk, Kd.freshB (bk_ BK371.out) k_ hk, Kd.freshB (bk_ BK373.out) k_ hk⟩))
       (case aO => exact (by (with_reducible repeat (first | apply Kd.R_alloc | apply Kd.R_drewN | apply Kd.R_drew)); exact Kd.R_mono HO_372003.out (fun _ hk => ⟨hk.1.1, ⟨hk.1.2.1, ⟨hk.1.2.2.1, hk.1.2.2.2⟩⟩⟩)))
       (case aS => exact (below_size (bw_ HB.out)))
       (case aL => have := LMc15.out; omega)
       intro v381 w24 ho hb hg hat
       rw [← Ny380.out] at ho
       have n0_ := A_ (blk_grown (bk_ BK369.out) hg (Kd.R_away HO_372003.out (fun _ hk => hk.1.1)))
       have n1_ := A_ (blk_grown (bk_ BK370.out) hg (Kd.R_away HO_372003.out (fun _ hk => hk.1.2.1)))
       have n2_ := A_ (blk_grown (bk_ BK371.out) hg (Kd.R_away HO_372003.out (fun _ hk => hk.1.2.2.1)))
       have n3_ := A_ (blk_grown (bk_ BK373.out) hg (Kd.R_away HO_372003.out (fun _ hk => hk.1.2.2.2)))
       have n4_ := A_ (hb)
       have n5_ := A_ (ho)
       clear BK369
       clear BK370
       clear BK371
       clear BK373
       clear HB
       clear HO_372003
       clear HO379
       have BK369 := n0_
       have BK370 := n1_
       have BK371 := n2_
       have BK373 := n3_
       have HB := n4_
       have HO382 := n5_
       clear n0_ n1_ n2_ n3_ n4_ n5_
       clear ho hb hg hat
       obtain ⟨Ao26, co26, eo26⟩ := Kd.R_slice HO382.out
       (first | subst eo26 | (injection eo26 with f1_ f2_ f3_; have f4_ := f1_.symm; have f5_ := f3_.symm; clear f1_ f2_ f3_; subst f4_; subst f5_))
       refine hK.out _ _ ⟨(blk_cell BK371.out 0).trans rfl, (blk_cell BK371.out 1).trans rfl, (blk_cell BK371.out 2).trans rfl, (blk_cell BK371.out 3).trans rfl, (blk_cell BK373.out 0).trans rfl, (blk_cell BK373.out 1).trans rfl, (blk_cell BK373.out 2).trans rfl, (blk_cell BK373.out 3).trans rfl⟩ (fun hHeld => ?_)
       clear hK K
       refine norm_ (a' := ?_) ?_ ?_
       rotate_left
       ·show Act.put _ (some 25) _ = _
        simp only [Act.put, List.setIfInBounds_toArray, List.set_cons_zero, List.set_cons_succ, i64_w, i32_w]
        rfl
       refine pure_ (i := 6) (N := some 26) (v := ?_) (a' := ?_) #[true, true, true, true, true, true, true, false] rfl rfl (any_of HT_.out (by kernel_rfl)) (fun _ _ _ h => h) (Or.inl ⟨by rfl, ?_⟩) ?_ ?_
       rotate_left
       ·intro w'
        go_simp
        with_reducible rfl
       rotate_left
       ·simp only [Act.put, List.setIfInBounds_toArray, List.set_cons_zero, List.set_cons_succ, i64_w, i32_w]
        rfl
       refine last_ (i := 7) (N := none) #[true, true, true, true, true, true, true, true] rfl rfl (one_of HT_.out (by kernel_rfl)) (by decide) (fun K hK => ?_)
       have hs27 : w24.cell? ⟨gb371, 3, none⟩ = some (u372003) := (blk_cell BK371.out 3).trans rfl
       have hfs27 := blk_frozen BK371.out 3
       have hns27_0 := NB369_371.out
       have hns27_1 := NB370_371.out
       have hns27_3 := NB373_371.out
       have hms27_0 := NB371_369.out
       have hms27_1 := NB371_370.out
       have hms27_3 := NB371_373.out
       refine skip_ (w1 := ?_) (by rfl) rfl ?_ ?_
       rotate_left
       ·go_simp
        rfl
       refine hK.out _ _ ?_
       clear hK K
       refine done_ (done_of HT_.out (by kernel_rfl)) ?_
       try go_wp2
       go_roundg k1
       case measure => have := HK1.out; omega
       case rel => exact ⟨(wrap64 (x16_1 + 1)), (y380), (.slice Ao26 y380.length co26), (by first | rfl | (simp; done) | (simp [*]; done) | (simp [wrap64]; done)), H', ⟨by have := HK1.out; omega⟩, ⟨by (with_reducible repeat (first | apply Kd.R_alloc | apply Kd.R_drewN | apply Kd.R_drew)); exact Kd.R_mono (Kd.R_far (p := ⟨gb371, 3, none⟩) (Kd.R_mono HO382.out (fun k_ hk => (⟨hk, hk.2.2.1⟩ : _ ∧ k_ ≠ gb371))) (fun _ hk => hk.2) (.slice Ao26 y380.length co26)) (fun _ hk => ⟨hk.1.1, ⟨hk.1.2.1, hk.1.2.2.1⟩⟩)⟩, ⟨by refine bk_ ?_; refine blk_far ?_ NB369_371.out _; refine bk_ ?_; exact BK369.out⟩, ⟨by refine bk_ ?_; refine blk_far ?_ NB370_371.out _; refine bk_ ?_; exact BK370.out⟩, ⟨by refine bk_ ?_; refine blk_put (cs := #[.int .i64 a0_0, .int .i64 a0_1, .string a0_2, u372003]) ?_ 3 _ rfl; refine bk_ ?_; exact BK371.out⟩, ⟨bw_ HB.out⟩⟩
      ·rw [if_neg c15] at H
       exact absurd H (by simp)
     ·rw [if_neg c13] at H
      exact absurd H (by simp)
    ·rw [if_neg c12] at H
     exact absurd H (by simp)
   ·rw [if_neg c11] at H
    have c11b0 := decide_eq_false c11
    clear c11
    simp only [Option.some.injEq, Prod.mk.injEq] at H
    obtain ⟨rfl, rfl, rfl, rfl⟩ := H
    have hnb28 := NB371_369.out
    have hnc28 := NB369_371.out
    have hnb29 := NB371_370.out
    have hnc29 := NB370_371.out
    obtain ⟨y30_0, y30_1, y30_2, y30_3, z30_0, z30_1, z30_2, z30_3⟩ := cz4_ BK371.out
    have hnb31 := NB370_369.out
    have hnc31 := NB369_370.out
    obtain ⟨y32_0, y32_1, y32_2, y32_3, z32_0, z32_1, z32_2, z32_3⟩ := cz4_ BK370.out
    obtain ⟨Ao33, co33, eo33⟩ := Kd.R_slice HO_372003.out
    subst eo33
    go_wp2
    refine bodyPost_ret (results_cell_row rfl _ _ gb370 29 #[.int .i64 a0_0, .int .i64 a0_1, .string a0_2, .slice Ao33 x372003_1.length co33] (0, 0) _ rfl ?hb_ Try.underlying29 rfl (by kernel_rfl)) rfl ?_
    (case hb_ => refine bk_ ?_; refine blk_put (cs := #[.int .i64 a0_0, .int .i64 a0_1, .string a0_2, .slice none 0 0]) ?_ 3 _ rfl; refine bk_ ?_; refine blk_put (cs := #[.int .i64 a0_0, .int .i64 a0_1, .string (⟨#[]⟩ : ByteArray), .slice none 0 0]) ?_ 2 _ rfl; refine bk_ ?_; refine blk_put (cs := #[.int .i64 a0_0, .int .i64 0, .string (⟨#[]⟩ : ByteArray), .slice none 0 0]) ?_ 1 _ rfl; refine bk_ ?_; refine blk_put (cs := #[.int .i64 0, .int .i64 0, .string (⟨#[]⟩ : ByteArray), .slice none 0 0]) ?_ 0 _ rfl; refine bk_ ?_; exact BK370.out)
    exact ⟨_, by first | rfl | (simp [errW_none, errW_some] <;> rfl) | (simp [*, errW_none, errW_some] <;> rfl), by (with_reducible repeat (first | apply Kd.R_alloc | apply Kd.R_drewN | apply Kd.R_drew)); exact Kd.R_mono (Kd.R_far (p := ⟨gb370, 3, none⟩) (Kd.R_far (p := ⟨gb370, 2, none⟩) (Kd.R_far (p := ⟨gb370, 1, none⟩) (Kd.R_far (p := ⟨gb370, 0, none⟩) (Kd.R_mono HO_372003.out (fun k_ hk => (⟨hk, hk.2.1⟩ : _ ∧ k_ ≠ gb370))) (fun _ hk => hk.2) (.int .i64 a0_0)) (fun _ hk => hk.2) (.int .i64 a0_1)) (fun _ hk => hk.2) (.string a0_2)) (fun _ hk => hk.2) (.slice Ao33 x372003_1.length co33)) (fun _ hk => trivial), bw_ HB.out⟩

/-! ### impl_Wrap: function 76 -/
def impl_Wrap.f (a0 : Int) : Option (Int) := some (Go.bits .and .i64 a0 65535)
set_option maxHeartbeats 8000000 in
set_option maxRecDepth 100000 in
theorem impl_Wrap.calls (a0 : Int) (r : Int) (w : World) (h : impl_Wrap.f a0 = some r) :
  Calls Try.prog 76 #[.int .i64 a0] w fun e w' => e = .returned (.int .i64 r) ∧ Drawn0 w w' := by
 have H : (some (Go.bits .and .i64 a0 65535)) = some r := h
 clear h
 obtain rfl := Option.some.inj H
 go_enter Try.func76, Try.ntmps76
 go_wp2
 go_ret
 exact ⟨by first | rfl | (simp; done) | (simp [*]; done), by repeat (first | exact Drawn0.refl _ | apply Drawn0.step)⟩

/-! ### impl_number: function 82 -/
def impl_number.f (a0 : Int) : Option (Int × Int × ByteArray × (List (S29))) := (impl_Wrap.f a0).bind fun t384 => (some (1, t384, (⟨#[]⟩ : ByteArray), ([] : List (S29))))
set_option maxHeartbeats 8000000 in
set_option maxRecDepth 100000 in
theorem impl_number.calls (a0 : Int) (r1 : Int) (r2 : Int) (r3 : ByteArray) (r4 : List (S29)) (w : World) (h : impl_number.f a0 = some (r1, r2, r3, r4)) :
  Calls Try.prog 82 #[.int .i64 a0] w fun e w' => ∃ v3_ : Value, e = .returned (.agg #[.int .i64 r1, .int .i64 r2, .string r3, v3_]) ∧ Kd.R k29 29 w' w.heap.size (fun _ => True) v3_ r4 ∧ Below w.heap.size w w' := by
 have hu29 := Try.underlying29
 have HB := A_ (Below.refl w.heap.size w)
 have H : ((impl_Wrap.f a0).bind fun t384 => (some (1, t384, (⟨#[]⟩ : ByteArray), ([] : List (S29))))) = some (r1, r2, r3, r4) := h
 clear h
 replace H := Option.bind_eq_some_iff.mp H
 obtain ⟨t384, A20, H⟩ := H
 try dsimp only at H
 have A2 := A_ A20
 clear A20
 simp only [Option.some.injEq, Prod.mk.injEq] at H
 obtain ⟨rfl, rfl, rfl, rfl⟩ := H
 go_enter Try.func82, Try.ntmps82
 go_wp2_with (first | ((with_reducible refine gate_dst (N := 2) rfl ?_); refine box_event ?hg (N := 2) ?hd (cs := #[.int .i64 0, .int .i64 0, .string (⟨#[]⟩ : ByteArray), .slice none 0 0]) (t := 29) ?hr ?_; (case hd => rfl); (case hg => rfl); (case hr => first | (go_simp; done) | (go_simp; rfl)); intro gb383 hg w3 hbox hb; have n0_ := A_ (below_step (bw_ HB.out) hb); have n1_ := A_ (hbox); have n2_ := A_ ((by rw [hg]; exact (below_size (bw_ HB.out)) : w.heap.size ≤ gb383)); have n3_ := n2_; clear HB; have HB := n0_; have BK383 := n1_; have GW383 := n2_; have GE383 := n3_; have GI383 := GeI.mk GE383.out; clear n0_ n1_ n2_ n3_; clear hb hbox hg) | ((with_reducible refine gate_callee (f := 76) rfl ?_); refine gL_ (some 4) Try.func76 #[.int .i64 a0] ?_; (with_reducible refine (impl_Wrap.calls a0 t384 _ A2.out).mono ?_); rintro e w' ⟨rfl, ⟨nd, rfl⟩⟩; refine ⟨_, rfl, ?_⟩; (try (rw [drewN_self w3]; generalize hq_ : World.drewN w3 _ = w3; have n0_ : Aside0 (w3.heap[gb383]? = some (.cells #[.int .i64 0, .int .i64 0, .string (⟨#[]⟩ : ByteArray), .slice none 0 0] 29 (0, 0))) := ⟨by rw [← hq_]; exact (bk_ BK383.out)⟩; have n1_ : Aside0 (Below w.heap.size w w3) := ⟨by rw [← hq_]; exact (bw_ HB.out)⟩; clear BK383 HB hq_; have BK383 := n0_; have HB := n1_; clear n0_ n1_)); have y4_0 : w3.cell? ⟨gb383, 0, none⟩ = some (.int .i64 0) := (blk_cell BK383.out 0).trans rfl; have y4_1 : w3.cell? ⟨gb383, 1, none⟩ = some (.int .i64 0) := (blk_cell BK383.out 1).trans rfl; have y4_2 : w3.cell? ⟨gb383, 2, none⟩ = some (.string (⟨#[]⟩ : ByteArray)) := (blk_cell BK383.out 2).trans rfl; have y4_3 : w3.cell? ⟨gb383, 3, none⟩ = some (.slice none 0 0) := (blk_cell BK383.out 3).trans rfl; have z4_0 := blk_frozen BK383.out 0; have z4_1 := blk_frozen BK383.out 1; have z4_2 := blk_frozen BK383.out 2; have z4_3 := blk_frozen BK383.out 3))
 refine bodyPost_ret (results_cell_row rfl _ _ gb383 29 #[.int .i64 1, .int .i64 t384, .string (⟨#[]⟩ : ByteArray), .slice none 0 0] (0, 0) _ rfl ?hb_ Try.underlying29 rfl (by kernel_rfl)) rfl ?_
 (case hb_ => refine bk_ ?_; refine blk_put (cs := #[.int .i64 1, .int .i64 t384, .string (⟨#[]⟩ : ByteArray), .slice none 0 0]) ?_ 3 _ rfl; refine bk_ ?_; refine blk_put (cs := #[.int .i64 1, .int .i64 t384, .string (⟨#[]⟩ : ByteArray), .slice none 0 0]) ?_ 2 _ rfl; refine bk_ ?_; refine blk_put (cs := #[.int .i64 1, .int .i64 0, .string (⟨#[]⟩ : ByteArray), .slice none 0 0]) ?_ 1 _ rfl; refine bk_ ?_; refine blk_put (cs := #[.int .i64 0, .int .i64 0, .string (⟨#[]⟩ : ByteArray), .slice none 0 0]) ?_ 0 _ rfl; refine bk_ ?_; exact BK383.out)
 exact ⟨_, by first | rfl | (simp [errW_none, errW_some] <;> rfl) | (simp [*, errW_none, errW_some] <;> rfl), by first | exact Kd.R_nil _ _ _ _ _ | exact Kd.N_nil _ _ _ _ _ | exact Kd.V_nil _ _ _ _ _ | exact Kd.Q_nil _ _ _ _ _ | exact Kd.S_nil _ _ _ _ _, bw_ HB.out⟩

/-! ### impl_compute: function 78 -/
def impl_compute.f (a0 : Int) (a1 : Int) (a2 : Int) : Option (Int × Bool) := if a0 = 5 then ((impl_Wrap.f (wrap64 (a1 + a2))).bind fun t385 => (some (t385, true))) else (if a0 = 6 then ((impl_Wrap.f (wrap64 (a1 - a2))).bind fun t386 => (some (t386, true))) else (if a0 = 7 then ((impl_Wrap.f (wrap64 (a1 * a2))).bind fun t387 => (some (t387, true))) else (if a0 = 9 then (some (Go.bits .and .i64 a1 a2, true)) else (if a0 = 10 then (some (Go.bits .or .i64 a1 a2, true)) else (if a2 = 0 then (some (0, false)) else (some (wrap64 (Int.tdiv a1 a2), true)))))))
set_option maxHeartbeats 8000000 in
set_option maxRecDepth 100000 in
theorem impl_compute.calls (a0 : Int) (a1 : Int) (a2 : Int) (r1 : Int) (r2 : Bool) (w : World) (h : impl_compute.f a0 a1 a2 = some (r1, r2)) :
  Calls Try.prog 78 #[.int .i64 a0, .int .i64 a1, .int .i64 a2] w fun e w' => e = .returned (.tuple #[.int .i64 r1, .bool r2]) ∧ Drawn0 w w' := by
 have H : (if a0 = 5 then ((impl_Wrap.f (wrap64 (a1 + a2))).bind fun t385 => (some (t385, true))) else (if a0 = 6 then ((impl_Wrap.f (wrap64 (a1 - a2))).bind fun t386 => (some (t386, true))) else (if a0 = 7 then ((impl_Wrap.f (wrap64 (a1 * a2))).bind fun t387 => (some (t387, true))) else (if a0 = 9 then (some (Go.bits .and .i64 a1 a2, true)) else (if a0 = 10 then (some (Go.bits .or .i64 a1 a2, true)) else (if a2 = 0 then (some (0, false)) else (some (wrap64 (Int.tdiv a1 a2), true)))))))) = some (r1, r2) := h
 clear h
 by_cases c4 : a0 = 5
 ·rw [if_pos c4] at H
  have c4b0 := beq_iff_eq.mpr c4
  have c4b1 := bne_eq_false_iff_eq.mpr c4
  clear c4
  replace H := Option.bind_eq_some_iff.mp H
  obtain ⟨t385, A50, H⟩ := H
  try dsimp only at H
  have A5 := A_ A50
  clear A50
  simp only [Option.some.injEq, Prod.mk.injEq] at H
  obtain ⟨rfl, rfl⟩ := H
  go_enter Try.func78, Try.ntmps78
  go_wp2_with (first | ((with_reducible refine gate_callee (f := 76) rfl ?_); refine gL_ (some 14) Try.func76 #[.int .i64 (wrap64 (a1 + a2))] ?_; (with_reducible refine (impl_Wrap.calls (wrap64 (a1 + a2)) t385 _ A5.out).mono ?_); rintro e w' ⟨rfl, ⟨nd, rfl⟩⟩; refine ⟨_, rfl, ?_⟩))
  go_ret2
  exact ⟨by first | rfl | (simp; done) | (simp [*]; done), by repeat (first | exact Drawn0.refl _ | apply Drawn0.step)⟩
 ·rw [if_neg c4] at H
  have c4b0 := beq_eq_false_iff_ne.mpr c4
  have c4b1 := bne_iff_ne.mpr c4
  by_cases c6 : a0 = 6
  ·rw [if_pos c6] at H
   have c6b0 := beq_iff_eq.mpr c6
   have c6b1 := bne_eq_false_iff_eq.mpr c6
   clear c6
   replace H := Option.bind_eq_some_iff.mp H
   obtain ⟨t386, A70, H⟩ := H
   try dsimp only at H
   have A7 := A_ A70
   clear A70
   simp only [Option.some.injEq, Prod.mk.injEq] at H
   obtain ⟨rfl, rfl⟩ := H
   go_enter Try.func78, Try.ntmps78
   go_wp2_with (first | ((with_reducible refine gate_callee (f := 76) rfl ?_); refine gL_ (some 20) Try.func76 #[.int .i64 (wrap64 (a1 - a2))] ?_; (with_reducible refine (impl_Wrap.calls (wrap64 (a1 - a2)) t386 _ A7.out).mono ?_); rintro e w' ⟨rfl, ⟨nd, rfl⟩⟩; refine ⟨_, rfl, ?_⟩))
   go_ret2
   exact ⟨by first | rfl | (simp; done) | (simp [*]; done), by repeat (first | exact Drawn0.refl _ | apply Drawn0.step)⟩
  ·rw [if_neg c6] at H
   have c6b0 := beq_eq_false_iff_ne.mpr c6
   have c6b1 := bne_iff_ne.mpr c6
   by_cases c8 : a0 = 7
   ·rw [if_pos c8] at H
    have c8b0 := beq_iff_eq.mpr c8
    have c8b1 := bne_eq_false_iff_eq.mpr c8
    clear c8
    replace H := Option.bind_eq_some_iff.mp H
    obtain ⟨t387, A90, H⟩ := H
    try dsimp only at H
    have A9 := A_ A90
    clear A90
    simp only [Option.some.injEq, Prod.mk.injEq] at H
    obtain ⟨rfl, rfl⟩ := H
    go_enter Try.func78, Try.ntmps78
    go_wp2_with (first | ((with_reducible refine gate_callee (f := 76) rfl ?_); refine gL_ (some 26) Try.func76 #[.int .i64 (wrap64 (a1 * a2))] ?_; (with_reducible refine (impl_Wrap.calls (wrap64 (a1 * a2)) t387 _ A9.out).mono ?_); rintro e w' ⟨rfl, ⟨nd, rfl⟩⟩; refine ⟨_, rfl, ?_⟩))
    go_ret2
    exact ⟨by first | rfl | (simp; done) | (simp [*]; done), by repeat (first | exact Drawn0.refl _ | apply Drawn0.step)⟩
   ·rw [if_neg c8] at H
    have c8b0 := beq_eq_false_iff_ne.mpr c8
    have c8b1 := bne_iff_ne.mpr c8
    by_cases c10 : a0 = 9
    ·rw [if_pos c10] at H
     have c10b0 := beq_iff_eq.mpr c10
     have c10b1 := bne_eq_false_iff_eq.mpr c10
     clear c10
     simp only [Option.some.injEq, Prod.mk.injEq] at H
     obtain ⟨rfl, rfl⟩ := H
     go_enter Try.func78, Try.ntmps78
     go_wp2
     go_ret2
     exact ⟨by first | rfl | (simp; done) | (simp [*]; done), by repeat (first | exact Drawn0.refl _ | apply Drawn0.step)⟩
    ·rw [if_neg c10] at H
     have c10b0 := beq_eq_false_iff_ne.mpr c10
     have c10b1 := bne_iff_ne.mpr c10
     by_cases c11 : a0 = 10
     ·rw [if_pos c11] at H
      have c11b0 := beq_iff_eq.mpr c11
      have c11b1 := bne_eq_false_iff_eq.mpr c11
      clear c11
      simp only [Option.some.injEq, Prod.mk.injEq] at H
      obtain ⟨rfl, rfl⟩ := H
      go_enter Try.func78, Try.ntmps78
      go_wp2
      go_ret2
      exact ⟨by first | rfl | (simp; done) | (simp [*]; done), by repeat (first | exact Drawn0.refl _ | apply Drawn0.step)⟩
     ·rw [if_neg c11] at H
      have c11b0 := beq_eq_false_iff_ne.mpr c11
      have c11b1 := bne_iff_ne.mpr c11
      by_cases c12 : a2 = 0
      ·rw [if_pos c12] at H
       have c12b0 := beq_iff_eq.mpr c12
       have c12b1 := bne_eq_false_iff_eq.mpr c12
       clear c12
       simp only [Option.some.injEq, Prod.mk.injEq] at H
       obtain ⟨rfl, rfl⟩ := H
       go_enter Try.func78, Try.ntmps78
       go_wp2
       go_ret2
       exact ⟨by first | rfl | (simp; done) | (simp [*]; done), by repeat (first | exact Drawn0.refl _ | apply Drawn0.step)⟩
      ·rw [if_neg c12] at H
       have c12b0 := beq_eq_false_iff_ne.mpr c12
       have c12b1 := bne_iff_ne.mpr c12
       simp only [Option.some.injEq, Prod.mk.injEq] at H
       obtain ⟨rfl, rfl⟩ := H
       go_enter Try.func78, Try.ntmps78
       go_wp2
       go_ret2
       exact ⟨by first | rfl | (simp; done) | (simp [*]; done), by repeat (first | exact Drawn0.refl _ | apply Drawn0.step)⟩

/-! ### impl_two: function 92 -/
def impl_two.f (a0 : Int) (a1_0 : Int) (a1_1 : Int) (a1_2 : ByteArray) (l1_3 : List (S29)) (a2_0 : Int) (a2_1 : Int) (a2_2 : ByteArray) (l2_3 : List (S29)) : Option (Int × Int × ByteArray × (List (S29))) := some (a0, 0, (⟨#[]⟩ : ByteArray), (([(⟨a1_0, a1_1, a1_2, l1_3⟩ : S29), (⟨a2_0, a2_1, a2_2, l2_3⟩ : S29)] : List (S29))))
set_option maxHeartbeats 8000000 in
set_option maxRecDepth 100000 in
theorem impl_two.calls (a0 : Int) (a1_0 : Int) (a1_1 : Int) (a1_2 : ByteArray) (P1_3_ : Nat → Prop) (A1_3 : Option Addr) (c1_3 : Nat) (l1_3 : List (S29)) (a2_0 : Int) (a2_1 : Int) (a2_2 : ByteArray) (P2_3_ : Nat → Prop) (A2_3 : Option Addr) (c2_3 : Nat) (l2_3 : List (S29)) (r1 : Int) (r2 : Int) (r3 : ByteArray) (r4 : List (S29)) (w : World) (hs1_3 : Kd.V k29 29 w w.heap.size (fun k_ => P1_3_ k_) (.slice A1_3 l1_3.length c1_3) l1_3) (hs2_3 : Kd.V k29 29 w w.heap.size (fun k_ => P2_3_ k_) (.slice A2_3 l2_3.length c2_3) l2_3) (h : impl_two.f a0 a1_0 a1_1 a1_2 l1_3 a2_0 a2_1 a2_2 l2_3 = some (r1, r2, r3, r4)) :
  Calls Try.prog 92 #[.int .i64 a0, .agg #[.int .i64 a1_0, .int .i64 a1_1, .string a1_2, .slice A1_3 l1_3.length c1_3], .agg #[.int .i64 a2_0, .int .i64 a2_1, .string a2_2, .slice A2_3 l2_3.length c2_3]] w fun e w' => ∃ v3_ : Value, e = .returned (.agg #[.int .i64 r1, .int .i64 r2, .string r3, v3_]) ∧ Kd.N k29 29 w' w.heap.size (fun k_ => ((P1_3_ k_ ∨ P2_3_ k_) ∨ w.heap.size ≤ k_)) v3_ r4 ∧ Below w.heap.size w w' := by
 have hu29 := Try.underlying29
 have HO1_3 := A_ (show Kd.V k29 29 w w.heap.size (fun k_ => ((P1_3_ k_ ∨ P2_3_ k_) ∨ w.heap.size ≤ k_)) (.slice A1_3 l1_3.length c1_3) l1_3 from Kd.V_mono hs1_3 (fun k_ hk => .inl (.inl hk)))
 have HO2_3 := A_ (show Kd.V k29 29 w w.heap.size (fun k_ => ((P1_3_ k_ ∨ P2_3_ k_) ∨ w.heap.size ≤ k_)) (.slice A2_3 l2_3.length c2_3) l2_3 from Kd.V_mono hs2_3 (fun k_ hk => .inl (.inr hk)))
 have HB := A_ (Below.refl w.heap.size w)
 have H : (some (a0, 0, (⟨#[]⟩ : ByteArray), (([(⟨a1_0, a1_1, a1_2, l1_3⟩ : S29), (⟨a2_0, a2_1, a2_2, l2_3⟩ : S29)] : List (S29))))) = some (r1, r2, r3, r4) := h
 clear h
 obtain ⟨y391, hy391⟩ : ∃ y_ : List (S29), y_ = (([(⟨a1_0, a1_1, a1_2, l1_3⟩ : S29), (⟨a2_0, a2_1, a2_2, l2_3⟩ : S29)] : List (S29))) := ⟨_, rfl⟩
 replace H : (some (a0, 0, (⟨#[]⟩ : ByteArray), y391)) = some (r1, r2, r3, r4) := by first | (rw [hy391]; with_reducible exact H) | (have H2_ := (Option.bind_some _ _).symm.trans H; rw [hy391]; with_reducible exact H2_) | (have H2_ := (Option.bind_some _ _).symm.trans H; with_reducible exact H2_) | with_reducible exact H | (rw [hy391]; exact H) | exact H
 have Ny391 := A_ hy391
 clear hy391
 simp only [Option.some.injEq, Prod.mk.injEq] at H
 obtain ⟨rfl, rfl, rfl, rfl⟩ := H
 go_enter Try.func92, Try.ntmps92
 go_wp2_with (first | ((with_reducible refine gate_dst (N := 4) rfl ?_); refine box_event ?hg (N := 4) ?hd (cs := #[.int .i64 a1_0, .int .i64 a1_1, .string a1_2, .slice A1_3 l1_3.length c1_3]) (t := 29) ?hr ?_; (case hd => rfl); (case hg => rfl); (case hr => first | (go_simp; done) | (go_simp; rfl)); intro gb388 hg w4 hbox hb; have n0_ := A_ (Kd.V_below (Kd.V_elderB (kv_ HO1_3.out) gb388 (Nat.le_of_eq hg.symm)) hb); have n1_ := A_ (Kd.V_below (Kd.V_elderB (kv_ HO2_3.out) gb388 (Nat.le_of_eq hg.symm)) hb); have n2_ := A_ (below_step (bw_ HB.out) hb); have n3_ := A_ (hbox); have n4_ := A_ ((by rw [hg]; exact (below_size (bw_ HB.out)) : w.heap.size ≤ gb388)); have n5_ := n4_; clear HO1_3; clear HO2_3; clear HB; have HO1_3 := n0_; have HO2_3 := n1_; have HB := n2_; have BK388 := n3_; have GW388 := n4_; have GE388 := n5_; have GI388 := GeI.mk GE388.out; clear n0_ n1_ n2_ n3_ n4_ n5_; clear hb hbox hg) | ((with_reducible refine gate_dst (N := 5) rfl ?_); refine box_event ?hg (N := 5) ?hd (cs := #[.int .i64 a2_0, .int .i64 a2_1, .string a2_2, .slice A2_3 l2_3.length c2_3]) (t := 29) ?hr ?_; (case hd => rfl); (case hg => rfl); (case hr => first | (go_simp; done) | (go_simp; rfl)); intro gb389 hg w5 hbox hb; have n0_ := A_ (Kd.V_below (Kd.V_elderB (kv_ HO1_3.out) gb389 (Nat.le_of_eq hg.symm)) hb); have n1_ := A_ (Kd.V_below (Kd.V_elderB (kv_ HO2_3.out) gb389 (Nat.le_of_eq hg.symm)) hb); have n2_ := A_ (blk_below (bk_ BK388.out) hb); have n3_ := A_ (below_step (bw_ HB.out) hb); have n4_ := A_ (hbox); have n5_ := A_ ((by rw [hg]; exact (below_size (bw_ HB.out)) : w.heap.size ≤ gb389)); have n6_ := n5_; have n7_ := A_ ((by rw [hg]; exact Nat.ne_of_lt (blk_lt (bk_ BK388.out)) : gb388 ≠ gb389)); have n8_ := A_ n7_.out.symm; clear HO1_3; clear HO2_3; clear BK388; clear HB; have HO1_3 := n0_; have HO2_3 := n1_; have BK388 := n2_; have HB := n3_; have BK389 := n4_; have GW389 := n5_; have GE389 := n6_; have GI389 := GeI.mk GE389.out; have NB388_389 := n7_; have NB389_388 := n8_; clear n0_ n1_ n2_ n3_ n4_ n5_ n6_ n7_ n8_; clear hb hbox hg) | ((with_reducible refine gate_dst (N := 6) rfl ?_); refine box_event ?hg (N := 6) ?hd (cs := #[.int .i64 0, .int .i64 0, .string (⟨#[]⟩ : ByteArray), .slice none 0 0]) (t := 29) ?hr ?_; (case hd => rfl); (case hg => rfl); (case hr => first | (go_simp; done) | (go_simp; rfl)); intro gb390 hg w6 hbox hb; have n0_ := A_ (Kd.V_below (Kd.V_elderB (kv_ HO1_3.out) gb390 (Nat.le_of_eq hg.symm)) hb); have n1_ := A_ (Kd.V_below (Kd.V_elderB (kv_ HO2_3.out) gb390 (Nat.le_of_eq hg.symm)) hb); have n2_ := A_ (blk_below (bk_ BK388.out) hb); have n3_ := A_ (blk_below (bk_ BK389.out) hb); have n4_ := A_ (below_step (bw_ HB.out) hb); have n5_ := A_ (hbox); have n6_ := A_ ((by rw [hg]; exact (below_size (bw_ HB.out)) : w.heap.size ≤ gb390)); have n7_ := n6_; have n8_ := A_ ((by rw [hg]; exact Nat.ne_of_lt (blk_lt (bk_ BK388.out)) : gb388 ≠ gb390)); have n9_ := A_ n8_.out.symm; have n10_ := A_ ((by rw [hg]; exact Nat.ne_of_lt (blk_lt (bk_ BK389.out)) : gb389 ≠ gb390)); have n11_ := A_ n10_.out.symm; clear HO1_3; clear HO2_3; clear BK388; clear BK389; clear HB; have HO1_3 := n0_; have HO2_3 := n1_; have BK388 := n2_; have BK389 := n3_; have HB := n4_; have BK390 := n5_; have GW390 := n6_; have GE390 := n7_; have GI390 := GeI.mk GE390.out; have NB388_390 := n8_; have NB390_388 := n9_; have NB389_390 := n10_; have NB390_389 := n11_; clear n0_ n1_ n2_ n3_ n4_ n5_ n6_ n7_ n8_ n9_ n10_ n11_; clear hb hbox hg; have hnb7 := NB388_389.out; have hnc7 := NB389_388.out; have hnb8 := NB388_390.out; have hnc8 := NB390_388.out; have y9_0 : w6.cell? ⟨gb388, 0, none⟩ = some (.int .i64 a1_0) := (blk_cell BK388.out 0).trans rfl; have y9_1 : w6.cell? ⟨gb388, 1, none⟩ = some (.int .i64 a1_1) := (blk_cell BK388.out 1).trans rfl; have y9_2 : w6.cell? ⟨gb388, 2, none⟩ = some (.string a1_2) := (blk_cell BK388.out 2).trans rfl; have y9_3 : w6.cell? ⟨gb388, 3, none⟩ = some (.slice A1_3 l1_3.length c1_3) := (blk_cell BK388.out 3).trans rfl; have z9_0 := blk_frozen BK388.out 0; have z9_1 := blk_frozen BK388.out 1; have z9_2 := blk_frozen BK388.out 2; have z9_3 := blk_frozen BK388.out 3; have hnb10 := NB389_390.out; have hnc10 := NB390_389.out; have y11_0 : w6.cell? ⟨gb389, 0, none⟩ = some (.int .i64 a2_0) := (blk_cell BK389.out 0).trans rfl; have y11_1 : w6.cell? ⟨gb389, 1, none⟩ = some (.int .i64 a2_1) := (blk_cell BK389.out 1).trans rfl; have y11_2 : w6.cell? ⟨gb389, 2, none⟩ = some (.string a2_2) := (blk_cell BK389.out 2).trans rfl; have y11_3 : w6.cell? ⟨gb389, 3, none⟩ = some (.slice A2_3 l2_3.length c2_3) := (blk_cell BK389.out 3).trans rfl; have z11_0 := blk_frozen BK389.out 0; have z11_1 := blk_frozen BK389.out 1; have z11_2 := blk_frozen BK389.out 2; have z11_3 := blk_frozen BK389.out 3) | ((with_reducible refine gate_dst (N := 10) rfl ?_); refine Kd.N_lit k29 _ 29 ?hg (N' := 10) ?hd (xs := ([(⟨a1_0, a1_1, a1_2, l1_3⟩ : S29), (⟨a2_0, a2_1, a2_2, l2_3⟩ : S29)] : List (S29))) (inner := [.int .i64 a1_0, .int .i64 a1_1, .string a1_2, .slice A1_3 l1_3.length c1_3, .int .i64 a2_0, .int .i64 a2_1, .string a2_2, .slice A2_3 l2_3.length c2_3]) (ok := (fun k_ => ((P1_3_ k_ ∨ P2_3_ k_) ∨ w.heap.size ≤ k_) ∧ k_ ≠ gb388 ∧ k_ ≠ gb389 ∧ k_ ≠ gb390)) (okp := (fun k_ => ((P1_3_ k_ ∨ P2_3_ k_) ∨ w.heap.size ≤ k_) ∧ k_ ≠ gb388 ∧ k_ ≠ gb389 ∧ k_ ≠ gb390)) ?hr ?hp (fun _ hk => hk) ((show ∀ k_, w6.heap.size ≤ k_ → (fun k_ => ((P1_3_ k_ ∨ P2_3_ k_) ∨ w.heap.size ≤ k_) ∧ k_ ≠ gb388 ∧ k_ ≠ gb389 ∧ k_ ≠ gb390) k_ from fun k_ hk => ⟨(.inr (Nat.le_trans (below_size (bw_ HB.out)) hk)), Kd.freshB (bk_ BK388.out) k_ hk, Kd.freshB (bk_ BK389.out) k_ hk, Kd.freshB (bk_ BK390.out) k_ hk⟩) _ (Nat.le_refl _)) (Below.refl _ _) (Nat.le_refl _) (by simp) ?_; (case hd => rfl); (case hg => rfl); (case hr => first | (go_simp; done) | (go_simp; rfl)); (case hp => exact (Reps.c4 (show Kd.FK k29 _ _ (⟨a1_0, a1_1, a1_2, l1_3⟩ : S29) [.int .i64 a1_0, .int .i64 a1_1, .string a1_2, .slice A1_3 l1_3.length c1_3] from (k29_mkF _ _ (⟨a1_0, a1_1, a1_2, l1_3⟩ : S29) (Kd.V_reads' (Kd.V_mono (ok' := (fun k_ => ((P1_3_ k_ ∨ P2_3_ k_) ∨ w.heap.size ≤ k_) ∧ k_ ≠ gb388 ∧ k_ ≠ gb389 ∧ k_ ≠ gb390)) (HO1_3.out) (fun k_ hk => ⟨hk.1.1.1, ⟨hk.1.1.2, ⟨hk.1.2, hk.2⟩⟩⟩))).2.1 (Kd.V_F (Kd.V_mono (ok' := (fun k_ => ((P1_3_ k_ ∨ P2_3_ k_) ∨ w.heap.size ≤ k_) ∧ k_ ≠ gb388 ∧ k_ ≠ gb389 ∧ k_ ≠ gb390)) (HO1_3.out) (fun k_ hk => ⟨hk.1.1.1, ⟨hk.1.1.2, ⟨hk.1.2, hk.2⟩⟩⟩))))) (Reps.c4 (show Kd.FK k29 _ _ (⟨a2_0, a2_1, a2_2, l2_3⟩ : S29) [.int .i64 a2_0, .int .i64 a2_1, .string a2_2, .slice A2_3 l2_3.length c2_3] from (k29_mkF _ _ (⟨a2_0, a2_1, a2_2, l2_3⟩ : S29) (Kd.V_reads' (Kd.V_mono (ok' := (fun k_ => ((P1_3_ k_ ∨ P2_3_ k_) ∨ w.heap.size ≤ k_) ∧ k_ ≠ gb388 ∧ k_ ≠ gb389 ∧ k_ ≠ gb390)) (HO2_3.out) (fun k_ hk => ⟨hk.1.1.1, ⟨hk.1.1.2, ⟨hk.1.2, hk.2⟩⟩⟩))).2.1 (Kd.V_F (Kd.V_mono (ok' := (fun k_ => ((P1_3_ k_ ∨ P2_3_ k_) ∨ w.heap.size ≤ k_) ∧ k_ ≠ gb388 ∧ k_ ≠ gb389 ∧ k_ ≠ gb390)) (HO2_3.out) (fun k_ hk => ⟨hk.1.1.1, ⟨hk.1.1.2, ⟨hk.1.2, hk.2⟩⟩⟩))))) (Reps.none _ _)))); intro v392 w12 ho13 hb hg_ hnew_; clear hg_ hnew_; (first | rw [← Ny391.out] at ho13 | (simp only [Int.reduceToNat] at ho13; rw [← Ny391.out] at ho13)); have n0_ := A_ (Kd.V_elder' (kv_ HO1_3.out) (Kd.N_base ho13) hb); have n1_ := A_ (Kd.V_elder' (kv_ HO2_3.out) (Kd.N_base ho13) hb); have n2_ := A_ (Kd.N_lower ho13 (below_size (bw_ HB.out))); have n3_ := A_ (blk_below (bk_ BK388.out) hb); have n4_ := A_ (blk_below (bk_ BK389.out) hb); have n5_ := A_ (blk_below (bk_ BK390.out) hb); have n6_ := A_ (below_step (bw_ HB.out) hb); clear HO1_3; clear HO2_3; clear BK388; clear BK389; clear BK390; clear HB; have HO1_3 := n0_; have HO2_3 := n1_; have HO393 := n2_; have BK388 := n3_; have BK389 := n4_; have BK390 := n5_; have HB := n6_; clear n0_ n1_ n2_ n3_ n4_ n5_ n6_; clear hb ho13; obtain ⟨Ao14, co14, eo14⟩ := Kd.N_slice HO393.out; subst eo14; have y15_0 : w12.cell? ⟨gb390, 0, none⟩ = some (.int .i64 0) := (blk_cell BK390.out 0).trans rfl; have y15_1 : w12.cell? ⟨gb390, 1, none⟩ = some (.int .i64 0) := (blk_cell BK390.out 1).trans rfl; have y15_2 : w12.cell? ⟨gb390, 2, none⟩ = some (.string (⟨#[]⟩ : ByteArray)) := (blk_cell BK390.out 2).trans rfl; have y15_3 : w12.cell? ⟨gb390, 3, none⟩ = some (.slice none 0 0) := (blk_cell BK390.out 3).trans rfl; have z15_0 := blk_frozen BK390.out 0; have z15_1 := blk_frozen BK390.out 1; have z15_2 := blk_frozen BK390.out 2; have z15_3 := blk_frozen BK390.out 3))
 refine bodyPost_ret (results_cell_row rfl _ _ gb390 29 #[.int .i64 a0, .int .i64 0, .string (⟨#[]⟩ : ByteArray), .slice Ao14 y391.length co14] (0, 0) _ rfl ?hb_ Try.underlying29 rfl (by kernel_rfl)) rfl ?_
 (case hb_ => refine bk_ ?_; refine blk_put (cs := #[.int .i64 a0, .int .i64 0, .string (⟨#[]⟩ : ByteArray), .slice none 0 0]) ?_ 3 _ rfl; refine bk_ ?_; refine blk_put (cs := #[.int .i64 a0, .int .i64 0, .string (⟨#[]⟩ : ByteArray), .slice none 0 0]) ?_ 2 _ rfl; refine bk_ ?_; refine blk_put (cs := #[.int .i64 a0, .int .i64 0, .string (⟨#[]⟩ : ByteArray), .slice none 0 0]) ?_ 1 _ rfl; refine bk_ ?_; refine blk_put (cs := #[.int .i64 0, .int .i64 0, .string (⟨#[]⟩ : ByteArray), .slice none 0 0]) ?_ 0 _ rfl; refine bk_ ?_; exact BK390.out)
 exact ⟨_, by first | rfl | (simp [errW_none, errW_some] <;> rfl) | (simp [*, errW_none, errW_some] <;> rfl), by (with_reducible repeat (first | apply Kd.N_alloc | apply Kd.N_drewN | apply Kd.N_drew)); exact Kd.N_mono (Kd.N_far (p := ⟨gb390, 3, none⟩) (Kd.N_far (p := ⟨gb390, 2, none⟩) (Kd.N_far (p := ⟨gb390, 1, none⟩) (Kd.N_far (p := ⟨gb390, 0, none⟩) (Kd.N_mono HO393.out (fun k_ hk => (⟨hk, hk.2.2.2⟩ : _ ∧ k_ ≠ gb390))) (fun _ hk => hk.2) (.int .i64 a0)) (fun _ hk => hk.2) (.int .i64 0)) (fun _ hk => hk.2) (.string (⟨#[]⟩ : ByteArray))) (fun _ hk => hk.2) (.slice Ao14 y391.length co14)) (fun _ hk => hk.1.1), bw_ HB.out⟩

end Go.Proofs.Ytcpnhlhigpgonaa.PFnExactKnown
