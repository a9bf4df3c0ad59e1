-- Laid by a program of this session (a changed copy of the kit's printer); Lean checks every line.
import Derived.Test.YtcpnhlhigpgonaaPFnExactKnownx0
import Derived.Test.YtcpnhlhigpgonaaPFnExactKnownx9
namespace Go.Proofs.Ytcpnhlhigpgonaa.PFnExactKnown
open Go.RowKit Go.Proofs.YtcpnhlhigpgonaaW.PrintWords Go.Proofs.YtcpnhlhigpgonaaW.PrintLast Go.Proofs.YtcpnhlhigpgonaaW.PrintMore
attribute [local go_sem] max2_int min2_int max_two min_two max_three min_three max_four min_four   -- for this text's walks alone
set_option linter.unusedVariables false
set_option linter.unusedSimpArgs false

/-! ### impl_added: function 93 -/
mutual
def impl_added.j0 : Nat → Int → Bool → Int → Int → ByteArray → List (S29) → Option (Int × Int × ByteArray × (List (S29)))
 | 0, _, _, _, _, _, _ => none
 | k + 1, x1, x15, x395000, x395001, x395002, x395003 => if x15 = true then (if 0 < (x395003.length : Int) then (if 1 < (x395003.length : Int) then ((impl_Wrap.f (wrap64 (((rd_T29 x395003 1).f1) + x1))).bind fun t399 => ((impl_added.f k ((rd_T29 x395003 0).f0) ((rd_T29 x395003 0).f1) ((rd_T29 x395003 0).f2) ((rd_T29 x395003 0).f3) t399).bind fun bt400 => (some (bt400.1, bt400.2.1, bt400.2.2.1, bt400.2.2.2)))) else (none)) else (none)) else (if x1 = 0 then (some (x395000, x395001, x395002, x395003)) else ((impl_number.f x1).bind fun bt406 => ((impl_two.f 5 x395000 x395001 x395002 x395003 bt406.1 bt406.2.1 bt406.2.2.1 bt406.2.2.2).bind fun bt412 => (some (bt412.1, bt412.2.1, bt412.2.2.1, bt412.2.2.2)))))
def impl_added.f : Nat → Int → Int → ByteArray → List (S29) → Int → Option (Int × Int × ByteArray × (List (S29)))
 | 0, _, _, _, _, _ => none
 | k + 1, a0_0, a0_1, a0_2, l0_3, a1 => if a0_0 = 5 then (if 1 < (l0_3.length : Int) then (impl_added.j0 k a1 (((rd_T29 l0_3 1).f0) == 1) a0_0 a0_1 a0_2 l0_3) else (none)) else (impl_added.j0 k a1 false a0_0 a0_1 a0_2 l0_3)
end
theorem impl_added.mono_l : ∀ k, (∀ y0 y1 y2 y3 y4, LeO (impl_added.f k y0 y1 y2 y3 y4) (impl_added.f (k + 1) y0 y1 y2 y3 y4)) ∧ (∀ y0 y1 y2 y3 y4 y5, LeO (impl_added.j0 k y0 y1 y2 y3 y4 y5) (impl_added.j0 (k + 1) y0 y1 y2 y3 y4 y5))
 | 0 => ⟨fun _ _ _ _ _ r h => by simp [impl_added.f] at h, fun _ _ _ _ _ _ r h => by simp [impl_added.j0] at h⟩
 | k + 1 => by
  obtain ⟨ih0, ih1⟩ := impl_added.mono_l k
  refine ⟨?_, ?_⟩
  ·intro y0 y1 y2 y3 y4
   unfold impl_added.f
   repeat' first
   | (with_reducible exact ih0 _ _ _ _ _)
   | (with_reducible exact ih1 _ _ _ _ _ _)
   | (with_reducible exact LeO.refl _)
   | (with_reducible exact LeO.none _)
   | (with_reducible refine LeO.ite ?_ ?_)
   | (with_reducible refine LeO.bind ?_ (fun _ => ?_))
   | exact ih0 _ _ _ _ _
   | exact ih1 _ _ _ _ _ _
   | exact LeO.none _
   | refine LeO.ite ?_ ?_
   | refine LeO.bind ?_ (fun _ => ?_)
  ·intro y0 y1 y2 y3 y4 y5
   unfold impl_added.j0
   repeat' first
   | (with_reducible exact ih0 _ _ _ _ _)
   | (with_reducible exact ih1 _ _ _ _ _ _)
   | (with_reducible exact LeO.refl _)
   | (with_reducible exact LeO.none _)
   | (with_reducible refine LeO.ite ?_ ?_)
   | (with_reducible refine LeO.bind ?_ (fun _ => ?_))
   | exact ih0 _ _ _ _ _
   | exact ih1 _ _ _ _ _ _
   | exact LeO.none _
   | refine LeO.ite ?_ ?_
   | refine LeO.bind ?_ (fun _ => ?_)
theorem impl_added.mono : ∀ a0 a1 a2 a3 a4 k, LeO (impl_added.f k a0 a1 a2 a3 a4) (impl_added.f (k + 1) a0 a1 a2 a3 a4) := by
 intro a0 a1 a2 a3 a4 k
 obtain ⟨ih0, ih1⟩ := impl_added.mono_l k
 exact ih0 a0 a1 a2 a3 a4
def impl_added.T2 : Bool × List (List Nat × List Nat) := (true, [([], []), ([0], [0]), ([1], [1]), ([2], [2]), ([], []), ([4], [4]), ([5], [5]), ([6], [6]), ([7], [7]), ([], []), ([8, 9], [8, 9]), ([10], [10]), ([3, 11, 11], [3, 11]), ([12, 12, 0, 1, 2, 3, 4, 5, 6, 7, 8, 9, 10, 11, 12], [12])])
def impl_added.B2 : List Nat := [0, 1, 3, 7, 0, 16, 48, 112, 240, 0, 1008, 2032, 4095, 8191]
theorem impl_added.tab2 : rtab .any (opsOf Try.f93 2) = impl_added.T2 := by kernel_rfl
theorem impl_added.bits2 : waitsOk impl_added.T2.2 impl_added.B2 = true := by kernel_rfl
set_option maxHeartbeats 8000000 in
set_option maxRecDepth 100000 in
theorem impl_added.calls (k : Nat) : ∀ (a0_0 : Int) (a0_1 : Int) (a0_2 : ByteArray) (P0_3_ : Nat → Prop) (A0_3 : Option Addr) (c0_3 : Nat) (l0_3 : List (S29)) (a1 : Int) (r1 : Int) (r2 : Int) (r3 : ByteArray) (r4 : List (S29)) (w : World) (hs0_3 : Kd.V k29 29 w w.heap.size (fun k_ => P0_3_ k_) (.slice A0_3 l0_3.length c0_3) l0_3) (h : impl_added.f k a0_0 a0_1 a0_2 l0_3 a1 = some (r1, r2, r3, r4)),
  Calls Try.prog 93 #[.agg #[.int .i64 a0_0, .int .i64 a0_1, .string a0_2, .slice A0_3 l0_3.length c0_3], .int .i64 a1] w fun e w' => ∃ v3_ : Value, e = .returned (.agg #[.int .i64 r1, .int .i64 r2, .string r3, v3_]) ∧ Kd.V k29 29 w' w.heap.size (fun k_ => (P0_3_ k_ ∨ w.heap.size ≤ k_)) v3_ r4 ∧ Below w.heap.size w w' := by
 induction k using Nat.strongRecOn with
 | _ k ih =>
 intro a0_0 a0_1 a0_2 P0_3_ A0_3 c0_3 l0_3 a1 r1 r2 r3 r4 w hs0_3 h
 cases k with
 | zero => exact absurd h (by simp [impl_added.f])
 | succ k =>
 simp only [impl_added.f] at h
 have hu29 := Try.underlying29
 have HO0_3 := A_ (show Kd.V k29 29 w w.heap.size (fun k_ => (P0_3_ k_ ∨ w.heap.size ≤ k_)) (.slice A0_3 l0_3.length c0_3) l0_3 from Kd.V_mono hs0_3 (fun k_ hk => .inl hk))
 have HB := A_ (Below.refl w.heap.size w)
 have H : (if a0_0 = 5 then (if 1 < (l0_3.length : Int) then (impl_added.j0 k a1 (((rd_T29 l0_3 1).f0) == 1) a0_0 a0_1 a0_2 l0_3) else (none)) else (impl_added.j0 k a1 false a0_0 a0_1 a0_2 l0_3)) = some (r1, r2, r3, r4) := h
 clear h
 have HC3 := A_ H
 clear H
 go_enter Try.func93, Try.ntmps93
 go_upto_region 1 with (first | ((with_reducible refine gate_dst (N := 2) rfl ?_); refine box_event ?hg (N := 2) ?hd (cs := #[.int .i64 a0_0, .int .i64 a0_1, .string a0_2, .slice A0_3 l0_3.length c0_3]) (t := 29) ?hr ?_; (case hd => rfl); (case hg => rfl); (case hr => first | (go_simp; done) | (go_simp; rfl)); intro gb394 hg w4 hbox hb; have n0_ := A_ (Kd.V_below (Kd.V_elderB (kv_ HO0_3.out) gb394 (Nat.le_of_eq hg.symm)) hb); have n1_ := A_ (below_step (bw_ HB.out) hb); have n2_ := A_ (hbox); have n3_ := A_ ((by rw [hg]; exact (below_size (bw_ HB.out)) : w.heap.size ≤ gb394)); have n4_ := n3_; clear HO0_3; clear HB; have HO0_3 := n0_; have HB := n1_; have BK394 := n2_; have GW394 := n3_; have GE394 := n4_; have GI394 := GeI.mk GE394.out; clear n0_ n1_ n2_ n3_ n4_; clear hb hbox hg) | ((with_reducible refine gate_dst (N := 4) rfl ?_); refine box_event ?hg (N := 4) ?hd (cs := #[.int .i64 0, .int .i64 0, .string (⟨#[]⟩ : ByteArray), .slice none 0 0]) (t := 29) ?hr ?_; (case hd => rfl); (case hg => rfl); (case hr => first | (go_simp; done) | (go_simp; rfl)); intro gb395 hg w5 hbox hb; have n0_ := A_ (Kd.V_below (Kd.V_elderB (kv_ HO0_3.out) gb395 (Nat.le_of_eq hg.symm)) hb); have n1_ := A_ (blk_below (bk_ BK394.out) hb); have n2_ := A_ (below_step (bw_ HB.out) hb); have n3_ := A_ (hbox); have n4_ := A_ ((by rw [hg]; exact (below_size (bw_ HB.out)) : w.heap.size ≤ gb395)); have n5_ := n4_; have n6_ := A_ ((by rw [hg]; exact Nat.ne_of_lt (blk_lt (bk_ BK394.out)) : gb394 ≠ gb395)); have n7_ := A_ n6_.out.symm; clear HO0_3; clear BK394; clear HB; have HO0_3 := n0_; have BK394 := n1_; have HB := n2_; have BK395 := n3_; have GW395 := n4_; have GE395 := n5_; have GI395 := GeI.mk GE395.out; have NB394_395 := n6_; have NB395_394 := n7_; clear n0_ n1_ n2_ n3_ n4_ n5_ n6_ n7_; clear hb hbox hg))
 (try simp only [Act.put, List.setIfInBounds_toArray, List.set_cons_zero, List.set_cons_succ])
 go_cut [15] (fun v15 wc => ∃ (kq : Nat) (x15_2 : Bool), v15 = .bool x15_2 ∧ Aside0 (impl_added.j0 kq a1 x15_2 a0_0 a0_1 a0_2 l0_3 = some (r1, r2, r3, r4)) ∧ Aside0 (kq ≤ k) ∧ Aside0 (Kd.V k29 29 wc w.heap.size (fun k_ => (P0_3_ k_ ∨ w.heap.size ≤ k_) ∧ k_ ≠ gb394 ∧ k_ ≠ gb395) (.slice A0_3 l0_3.length c0_3) l0_3) ∧ Aside0 (wc.heap[gb394]? = some (.cells #[.int .i64 a0_0, .int .i64 a0_1, .string a0_2, (.slice A0_3 l0_3.length c0_3)] 29 (0, 0))) ∧ Aside0 (wc.heap[gb395]? = some (.cells #[.int .i64 0, .int .i64 0, .string (⟨#[]⟩ : ByteArray), (.slice none 0 0)] 29 (0, 0))) ∧ Aside0 (Below w.heap.size w wc))
 case first =>
  have H := HC3.out
  clear HC3
  by_cases c6 : a0_0 = 5
  ·rw [if_pos c6] at H
   have c6b0 := beq_iff_eq.mpr c6
   have c6b1 := bne_eq_false_iff_eq.mpr c6
   clear c6
   (first | rw [c6b0] | (simp only [i64_w, i32_w]; rw [c6b0]) | skip)
   by_cases c7 : 1 < (l0_3.length : Int)
   ·rw [if_pos c7] at H
    have c7b0 := decide_eq_true c7
    have c7b1 : decide (1 < l0_3.length) = true := decide_eq_true (by omega)
    clear c7
    have H' := A_ H
    clear H
    have hnb8 := NB394_395.out
    have hnc8 := NB395_394.out
    obtain ⟨y9_0, y9_1, y9_2, y9_3, z9_0, z9_1, z9_2, z9_3⟩ := cz4_ BK394.out
    have p396 : 0 ≤ (1 : Int) := (by omega)
    have q396 : 1 < (l0_3.length : Int) := of_decide_eq_true (by first | (with_reducible assumption) | assumption)
    obtain ⟨ad396, A396_3, c396_3, e396, hx396_0, hx396_1, hx396_2, hx396_3, hl396_3, hi396_3⟩ := at_T29 (Kd.V_reads' HO0_3.out).2.2 1 p396 q396
    cases e396
    obtain ⟨ce396, hce396, hMe396, hcc396⟩ := Kd.V_get HO0_3.out z29 1 p396 (by first | exact q396 | exact of_decide_eq_true (by first | (with_reducible assumption) | assumption) | (have e_ := (Kd.V_reads' HO0_3.out).1; omega))
    obtain ⟨ua396_3, uc396_3, rfl, ul396_3, ge396_3⟩ := k29_openF hMe396
    have hv396_3 := hcc396 3 _ rfl
    rw [add_field _ _ 3 (by omega)] at hv396_3
    replace hv396_3 := Option.some.inj (hv396_3.symm.trans hx396_3)
    injection hv396_3 with hva_ hvn_ hvc_
    rw [hva_] at ge396_3
    rw [hvc_] at ul396_3
    have HL396_3 := A_ (show Kd.V k29 29 _ w.heap.size _ _ ((rd_T29 l0_3 1).f3) from Kd.V_mk ul396_3 ge396_3)
    clear hva_ hvn_ hvc_ ge396_3 ul396_3
    clear hcc396 hce396
    (try simp only [show (1 : Int).toNat = 1 from rfl, Nat.reduceMul, Nat.reduceEqDiff, Go.Addr.add, ↓reduceIte] at hx396_0)
    (try simp only [show (1 : Int).toNat = 1 from rfl, Nat.reduceMul, Nat.reduceEqDiff, Go.Addr.add, ↓reduceIte] at hx396_1)
    (try simp only [show (1 : Int).toNat = 1 from rfl, Nat.reduceMul, Nat.reduceEqDiff, Go.Addr.add, ↓reduceIte] at hx396_2)
    (try simp only [show (1 : Int).toNat = 1 from rfl, Nat.reduceMul, Nat.reduceEqDiff, Go.Addr.add, ↓reduceIte] at hx396_3)
    have qi396 : (1 < l0_3.length) = True := eq_true (by omega)
    (try rw [show ((1 : Int)).toNat = 1 from rfl] at hx396_0)
    (try rw [show 1 * 4 = 4 from rfl] at hx396_0)
    (try rw [show ((1 : Int)).toNat = 1 from rfl] at hx396_1)
    (try rw [show 1 * 4 = 4 from rfl] at hx396_1)
    (try rw [show ((1 : Int)).toNat = 1 from rfl] at hx396_2)
    (try rw [show 1 * 4 = 4 from rfl] at hx396_2)
    (try rw [show ((1 : Int)).toNat = 1 from rfl] at hx396_3)
    (try rw [show 1 * 4 = 4 from rfl] at hx396_3)
    have HR396_3 := A_ hi396_3
    have HC396_3 := A_ hl396_3
    clear hi396_3 hl396_3
    replace p396 := eq_true p396
    replace q396 := eq_true q396
    go_wp2
    go_meet
    case rel => exact ⟨_, ((((rd_T29 l0_3 1).f0) == 1)), (by first | rfl | (simp; done) | (simp [*]; done) | (simp [wrap64]; done)), H', ⟨by first | omega | exact Nat.le_refl _⟩, ⟨by (with_reducible repeat (first | apply Kd.V_alloc | apply Kd.V_drewN | apply Kd.V_drew)); exact Kd.V_mono HO0_3.out (fun _ hk => ⟨hk.1.1, ⟨hk.1.2, hk.2⟩⟩)⟩, ⟨by refine bk_ ?_; exact BK394.out⟩, ⟨by refine bk_ ?_; exact BK395.out⟩, ⟨bw_ HB.out⟩⟩
   ·rw [if_neg c7] at H
    exact absurd H (by simp)
  ·rw [if_neg c6] at H
   have c6b0 := beq_eq_false_iff_ne.mpr c6
   have c6b1 := bne_iff_ne.mpr c6
   (first | rw [c6b0] | (simp only [i64_w, i32_w]; rw [c6b0]) | skip)
   have H' := A_ H
   clear H
   have hnb10 := NB394_395.out
   have hnc10 := NB395_394.out
   obtain ⟨y11_0, y11_1, y11_2, y11_3, z11_0, z11_1, z11_2, z11_3⟩ := cz4_ BK394.out
   go_wp2
   go_meet
   case rel => exact ⟨_, (false), (by first | rfl | (simp; done) | (simp [*]; done) | (simp [wrap64]; done)), H', ⟨by first | omega | exact Nat.le_refl _⟩, ⟨by (with_reducible repeat (first | apply Kd.V_alloc | apply Kd.V_drewN | apply Kd.V_drew)); exact Kd.V_mono HO0_3.out (fun _ hk => ⟨hk.1.1, ⟨hk.1.2, hk.2⟩⟩)⟩, ⟨by refine bk_ ?_; exact BK394.out⟩, ⟨by refine bk_ ?_; exact BK395.out⟩, ⟨bw_ HB.out⟩⟩
 case rest =>
  clear HC3
  try clear c1
  try clear p2
  try clear c3
  try clear p3
  try clear q3
  try clear hx3
  try clear qi3
  try clear c6
  try clear c6b0
  try clear c6b1
  try clear c7
  try clear c7b0
  try clear c7b1
  try clear c8
  try clear c9
  try clear c10
  try clear y11_0 y11_1 y11_2 y11_3 z11_0 z11_1 z11_2 z11_3
  try clear y9_0 y9_1 y9_2 y9_3 z9_0 z9_1 z9_2 z9_3
  try clear hx396_0 hx396_1 hx396_2 hx396_3
  try clear p396
  try clear q396
  obtain ⟨kq, x15_2, rfl, HA, HJ2, HO_395003, BK394, BK395, HB⟩ := hcut
  cases kq with
  | zero => exact absurd HA.out (by simp [impl_added.j0])
  | succ kj2 =>
   have H := HA.out
   clear HA
   simp only [impl_added.j0] at H
   by_cases c12 : x15_2 = true
   ·subst c12
    rw [if_pos rfl] at H
    by_cases c13 : 0 < (l0_3.length : Int)
    ·rw [if_pos c13] at H
     have c13b0 := decide_eq_true c13
     have c13b1 : decide (0 < l0_3.length) = true := decide_eq_true (by omega)
     clear c13
     by_cases c14 : 1 < (l0_3.length : Int)
     ·rw [if_pos c14] at H
      have c14b0 := decide_eq_true c14
      have c14b1 : decide (1 < l0_3.length) = true := decide_eq_true (by omega)
      clear c14
      replace H := Option.bind_eq_some_iff.mp H
      obtain ⟨t399, A150, H⟩ := H
      try dsimp only at H
      have A15 := A_ A150
      clear A150
      replace H := Option.bind_eq_some_iff.mp H
      obtain ⟨⟨t400, t401, t402, t403⟩, A160, H⟩ := H
      try dsimp only at H
      have A16 := A_ A160
      clear A160
      simp only [Option.some.injEq, Prod.mk.injEq] at H
      obtain ⟨rfl, rfl, rfl, rfl⟩ := H
      try go_wp2
      have n0_ := A_ (Kd.V_drew HO_395003.out)
      have n1_ := A_ (blk_drew BK394.out)
      have n2_ := A_ (blk_drew BK395.out)
      have n3_ := A_ (below_drew1 HB.out)
      clear HO_395003
      clear BK394
      clear BK395
      clear HB
      have HO_395003 := n0_
      have BK394 := n1_
      have BK395 := n2_
      have HB := n3_
      clear n0_ n1_ n2_ n3_
      have p397 : 0 ≤ (0 : Int) := (by omega)
      have q397 : 0 < (l0_3.length : Int) := of_decide_eq_true (by first | (with_reducible assumption) | assumption)
      obtain ⟨ad397, A397_3, c397_3, e397, hx397_0, hx397_1, hx397_2, hx397_3, hl397_3, hi397_3⟩ := at_T29 (Kd.V_reads' HO_395003.out).2.2 0 p397 q397
      cases e397
      obtain ⟨ce397, hce397, hMe397, hcc397⟩ := Kd.V_get HO_395003.out z29 0 p397 (by first | exact q397 | exact of_decide_eq_true (by first | (with_reducible assumption) | assumption) | (have e_ := (Kd.V_reads' HO_395003.out).1; omega))
      obtain ⟨ua397_3, uc397_3, rfl, ul397_3, ge397_3⟩ := k29_openF hMe397
      have hv397_3 := hcc397 3 _ rfl
      rw [add_field _ _ 3 (by omega)] at hv397_3
      replace hv397_3 := Option.some.inj (hv397_3.symm.trans hx397_3)
      injection hv397_3 with hva_ hvn_ hvc_
      rw [hva_] at ge397_3
      rw [hvc_] at ul397_3
      have HL397_3 := A_ (show Kd.V k29 29 _ w.heap.size _ _ ((rd_T29 l0_3 0).f3) from Kd.V_mk ul397_3 ge397_3)
      clear hva_ hvn_ hvc_ ge397_3 ul397_3
      clear hcc397 hce397
      have qi397 : (0 < l0_3.length) = True := eq_true (by omega)
      (try rw [show ((0 : Int)).toNat = 0 from rfl] at hx397_0)
      (try rw [show 0 * 4 = 0 from rfl] at hx397_0)
      (try rw [Addr.add_zero'] at hx397_0)
      (try rw [show ((0 : Int)).toNat = 0 from rfl] at hx397_1)
      (try rw [show 0 * 4 = 0 from rfl] at hx397_1)
      (try rw [Addr.add_zero'] at hx397_1)
      (try rw [show ((0 : Int)).toNat = 0 from rfl] at hx397_2)
      (try rw [show 0 * 4 = 0 from rfl] at hx397_2)
      (try rw [Addr.add_zero'] at hx397_2)
      (try rw [show ((0 : Int)).toNat = 0 from rfl] at hx397_3)
      (try rw [show 0 * 4 = 0 from rfl] at hx397_3)
      (try rw [Addr.add_zero'] at hx397_3)
      have HR397_3 := A_ hi397_3
      have HC397_3 := A_ hl397_3
      clear hi397_3 hl397_3
      replace p397 := eq_true p397
      replace q397 := eq_true q397
      have p398 : 0 ≤ (1 : Int) := (by omega)
      have q398 : 1 < (l0_3.length : Int) := of_decide_eq_true (by first | (with_reducible assumption) | assumption)
      obtain ⟨ad398, A398_3, c398_3, e398, hx398_0, hx398_1, hx398_2, hx398_3, hl398_3, hi398_3⟩ := at_T29 (Kd.V_reads' HO_395003.out).2.2 1 p398 q398
      obtain rfl : ad397 = ad398 := (by injection e398)
      obtain ⟨ce398, hce398, hMe398, hcc398⟩ := Kd.V_get HO_395003.out z29 1 p398 (by first | exact q398 | exact of_decide_eq_true (by first | (with_reducible assumption) | assumption) | (have e_ := (Kd.V_reads' HO_395003.out).1; omega))
      obtain ⟨ua398_3, uc398_3, rfl, ul398_3, ge398_3⟩ := k29_openF hMe398
      have hv398_3 := hcc398 3 _ rfl
      rw [add_field _ _ 3 (by omega)] at hv398_3
      replace hv398_3 := Option.some.inj (hv398_3.symm.trans hx398_3)
      injection hv398_3 with hva_ hvn_ hvc_
      rw [hva_] at ge398_3
      rw [hvc_] at ul398_3
      have HL398_3 := A_ (show Kd.V k29 29 _ w.heap.size _ _ ((rd_T29 l0_3 1).f3) from Kd.V_mk ul398_3 ge398_3)
      clear hva_ hvn_ hvc_ ge398_3 ul398_3
      clear hcc398 hce398
      (try simp only [show (1 : Int).toNat = 1 from rfl, Nat.reduceMul, Nat.reduceEqDiff, Go.Addr.add, ↓reduceIte] at hx398_0)
      (try simp only [show (1 : Int).toNat = 1 from rfl, Nat.reduceMul, Nat.reduceEqDiff, Go.Addr.add, ↓reduceIte] at hx398_1)
      (try simp only [show (1 : Int).toNat = 1 from rfl, Nat.reduceMul, Nat.reduceEqDiff, Go.Addr.add, ↓reduceIte] at hx398_2)
      (try simp only [show (1 : Int).toNat = 1 from rfl, Nat.reduceMul, Nat.reduceEqDiff, Go.Addr.add, ↓reduceIte] at hx398_3)
      have qi398 : (1 < l0_3.length) = True := eq_true (by omega)
      (try rw [show ((1 : Int)).toNat = 1 from rfl] at hx398_0)
      (try rw [show 1 * 4 = 4 from rfl] at hx398_0)
      (try rw [show ((1 : Int)).toNat = 1 from rfl] at hx398_1)
      (try rw [show 1 * 4 = 4 from rfl] at hx398_1)
      (try rw [show ((1 : Int)).toNat = 1 from rfl] at hx398_2)
      (try rw [show 1 * 4 = 4 from rfl] at hx398_2)
      (try rw [show ((1 : Int)).toNat = 1 from rfl] at hx398_3)
      (try rw [show 1 * 4 = 4 from rfl] at hx398_3)
      have HR398_3 := A_ hi398_3
      have HC398_3 := A_ hl398_3
      clear hi398_3 hl398_3
      replace p398 := eq_true p398
      replace q398 := eq_true q398
      refine start_ (n := 14) (S := fun w' => w'.cell? ⟨gb394, 0, none⟩ = some (.int .i64 a0_0) ∧ w'.cell? ⟨gb394, 1, none⟩ = some (.int .i64 a0_1) ∧ w'.cell? ⟨gb394, 2, none⟩ = some (.string a0_2) ∧ w'.cell? ⟨gb394, 3, none⟩ = some (.slice (some ad397) l0_3.length c0_3) ∧ w'.cell? ad397 = some (.int .i64 ((rd_T29 l0_3 0).f0)) ∧ w'.cell? ⟨ad397.block, ad397.off + 1, none⟩ = some (.int .i64 ((rd_T29 l0_3 0).f1)) ∧ w'.cell? ⟨ad397.block, ad397.off + 2, none⟩ = some (.string ((rd_T29 l0_3 0).f2)) ∧ w'.cell? ⟨ad397.block, ad397.off + 3, none⟩ = some (.slice A397_3 ((rd_T29 l0_3 0).f3).length c397_3) ∧ w'.cell? ⟨ad397.block, ad397.off + 4, none⟩ = some (.int .i64 ((rd_T29 l0_3 1).f0)) ∧ w'.cell? ⟨ad397.block, ad397.off + 4 + 1, none⟩ = some (.int .i64 ((rd_T29 l0_3 1).f1)) ∧ w'.cell? ⟨ad397.block, ad397.off + 4 + 2, none⟩ = some (.string ((rd_T29 l0_3 1).f2)) ∧ w'.cell? ⟨ad397.block, ad397.off + 4 + 3, none⟩ = some (.slice A398_3 ((rd_T29 l0_3 1).f3).length c398_3)) (ds := []) #[false, false, false, false, false, false, false, false, false, false, false, false, false, false] (by kernel_rfl) rfl rfl ⟨(blk_cell BK394.out 0).trans rfl, (blk_cell BK394.out 1).trans rfl, (blk_cell BK394.out 2).trans rfl, (blk_cell BK394.out 3).trans rfl, hx397_0, hx397_1, hx397_2, hx397_3, hx398_0, hx398_1, hx398_2, hx398_3⟩ (fun hHeld => ?_); refine with_tabW impl_added.tab2 impl_added.bits2 (fun HT_ HW_ => ?_)
      generalize wc.drew = w17 at HO_395003 BK394 BK395 HB HL397_3 HL398_3 HR397_3 HR398_3 hx397_0 hx397_1 hx397_2 hx397_3 hx398_0 hx398_1 hx398_2 hx398_3 hHeld ⊢
      refine pure_ (i := 0) (N := some 16) (v := ?_) (a' := ?_) #[true, false, false, false, false, false, false, false, false, false, false, false, false, false] rfl rfl (any_of HT_.out (by kernel_rfl)) (fun _ _ _ h => h) (Or.inl ⟨by rfl, ?_⟩) ?_ ?_
      rotate_left
      ·intro w'
       go_simp
       with_reducible rfl
      rotate_left
      ·simp only [Act.put, List.setIfInBounds_toArray, List.set_cons_zero, List.set_cons_succ, i64_w, i32_w]
       rfl
      refine pure_ (i := 4) (N := some 20) (v := ?_) (a' := ?_) #[true, false, false, false, true, false, false, false, false, false, false, false, false, false] rfl rfl (any_of HT_.out (by kernel_rfl)) (fun _ _ _ h => h) (Or.inl ⟨by rfl, ?_⟩) ?_ ?_
      rotate_left
      ·intro w'
       go_simp
       with_reducible rfl
      rotate_left
      ·simp only [Act.put, List.setIfInBounds_toArray, List.set_cons_zero, List.set_cons_succ, i64_w, i32_w]
       rfl
      refine pure_ (i := 9) (N := some 25) (v := ?_) (a' := ?_) #[true, false, false, false, true, false, false, false, false, true, false, false, false, false] rfl rfl (any_of HT_.out (by kernel_rfl)) (fun _ _ _ h => h) (Or.inl ⟨by rfl, ?_⟩) ?_ ?_
      rotate_left
      ·intro w'
       go_simp
       with_reducible rfl
      rotate_left
      ·simp only [Act.put, List.setIfInBounds_toArray, List.set_cons_zero, List.set_cons_succ, i64_w, i32_w]
       rfl
      refine take_ (i := 1) (N := some 17) (v := ?_) (a' := ?_) #[true, true, false, false, true, false, false, false, false, true, false, false, false, false] rfl rfl (take_ofW HT_.out HW_.out (by kernel_rfl)) (fun _ _ _ h => h) (Or.inl ⟨by rfl, ?_⟩) hHeld ?_ ?_
      rotate_left
      ·rintro w' ⟨s0, s1, s2, s3, s4, s5, s6, s7, s8, s9, s10, s11⟩
       go_simp
       with_reducible rfl
      rotate_left
      ·simp only [Act.put, List.setIfInBounds_toArray, List.set_cons_zero, List.set_cons_succ, i64_w, i32_w]
       rfl
      refine pure_ (i := 2) (N := some 18) (v := ?_) (a' := ?_) #[true, true, true, false, true, false, false, false, false, true, false, false, false, false] rfl rfl (any_of HT_.out (by kernel_rfl)) (fun _ _ _ h => h) (Or.inl ⟨by rfl, ?_⟩) ?_ ?_
      rotate_left
      ·intro w'
       go_simp
       with_reducible rfl
      rotate_left
      ·simp only [Act.put, List.setIfInBounds_toArray, List.set_cons_zero, List.set_cons_succ, i64_w, i32_w]
       rfl
      refine take_ (i := 3) (N := some 19) (v := ?_) (a' := ?_) #[true, true, true, true, true, false, false, false, false, true, false, false, false, false] rfl rfl (take_ofW HT_.out HW_.out (by kernel_rfl)) (fun _ _ _ h => h) (Or.inl ⟨by rfl, ?_⟩) hHeld ?_ ?_
      rotate_left
      ·rintro w' ⟨s0, s1, s2, s3, s4, s5, s6, s7, s8, s9, s10, s11⟩
       go_simp
       with_reducible rfl
      rotate_left
      ·simp only [Act.put, List.setIfInBounds_toArray, List.set_cons_zero, List.set_cons_succ, i64_w, i32_w]
       rfl
      refine take_ (i := 5) (N := some 21) (v := ?_) (a' := ?_) #[true, true, true, true, true, true, false, false, false, true, false, false, false, false] rfl rfl (take_ofW HT_.out HW_.out (by kernel_rfl)) (fun _ _ _ h => h) (Or.inl ⟨by rfl, ?_⟩) hHeld ?_ ?_
      rotate_left
      ·rintro w' ⟨s0, s1, s2, s3, s4, s5, s6, s7, s8, s9, s10, s11⟩
       go_simp
       with_reducible rfl
      rotate_left
      ·simp only [Act.put, List.setIfInBounds_toArray, List.set_cons_zero, List.set_cons_succ, i64_w, i32_w]
       rfl
      refine pure_ (i := 6) (N := some 22) (v := ?_) (a' := ?_) #[true, true, true, true, true, true, true, false, false, true, false, false, false, false] rfl rfl (any_of HT_.out (by kernel_rfl)) (fun _ _ _ h => h) (Or.inl ⟨by rfl, ?_⟩) ?_ ?_
      rotate_left
      ·intro w'
       go_simp
       with_reducible rfl
      rotate_left
      ·simp only [Act.put, List.setIfInBounds_toArray, List.set_cons_zero, List.set_cons_succ, i64_w, i32_w]
       rfl
      refine pure_ (i := 7) (N := some 23) (v := ?_) (a' := ?_) #[true, true, true, true, true, true, true, true, false, true, false, false, false, false] rfl rfl (any_of HT_.out (by kernel_rfl)) (fun _ _ _ h => h) (Or.inl ⟨by rfl, ?_⟩) ?_ ?_
      rotate_left
      ·intro w'
       go_simp
       with_reducible rfl
      rotate_left
      ·simp only [Act.put, List.setIfInBounds_toArray, List.set_cons_zero, List.set_cons_succ, i64_w, i32_w]
       rfl
      refine take_ (i := 8) (N := some 24) (v := ?_) (a' := ?_) #[true, true, true, true, true, true, true, true, true, true, false, false, false, false] rfl rfl (take_ofW HT_.out HW_.out (by kernel_rfl)) (fun _ _ _ h => h) (Or.inl ⟨by rfl, ?_⟩) hHeld ?_ ?_
      rotate_left
      ·rintro w' ⟨s0, s1, s2, s3, s4, s5, s6, s7, s8, s9, s10, s11⟩
       go_simp
       with_reducible rfl
      rotate_left
      ·simp only [Act.put, List.setIfInBounds_toArray, List.set_cons_zero, List.set_cons_succ, i64_w, i32_w]
       rfl
      refine pure_ (i := 10) (N := some 26) (v := ?_) (a' := ?_) #[true, true, true, true, true, true, true, true, true, true, true, false, false, false] rfl rfl (any_of HT_.out (by kernel_rfl)) (fun _ _ _ h => h) (Or.inl ⟨by rfl, ?_⟩) ?_ ?_
      rotate_left
      ·intro w'
       go_simp
       with_reducible rfl
      rotate_left
      ·simp only [Act.put, List.setIfInBounds_toArray, List.set_cons_zero, List.set_cons_succ, i64_w, i32_w]
       rfl
      refine one_ (i := 11) (N := some 27) #[true, true, true, true, true, true, true, true, true, true, true, true, false, false] rfl rfl (one_of HT_.out (by kernel_rfl)) (by decide) (fun K hK => ?_)
      refine goes_ Try.func76 (by kernel_rfl) rfl #[.int .i64 (wrap64 (((rd_T29 l0_3 1).f1) + a1))] (by rfl) rfl rfl (by (try simp only [List.map_toArray, List.map_cons, List.map_nil]); first | done | rfl | (simp only [List.length_drop, List.length_take]; rfl)) ?_
      with_reducible refine (impl_Wrap.calls (wrap64 (((rd_T29 l0_3 1).f1) + a1)) t399 _ A15.out).mono ?_
      rintro e w' ⟨rfl, ⟨nd, rfl⟩⟩
      refine ⟨_, rfl, ?_⟩
      refine hK.out _ _ ⟨(blk_cell BK394.out 0).trans rfl, (blk_cell BK394.out 1).trans rfl, (blk_cell BK394.out 2).trans rfl, (blk_cell BK394.out 3).trans rfl, hHeld.2.2.2.2.1, hHeld.2.2.2.2.2.1, hHeld.2.2.2.2.2.2.1, hHeld.2.2.2.2.2.2.2.1, hHeld.2.2.2.2.2.2.2.2.1, hHeld.2.2.2.2.2.2.2.2.2.1, hHeld.2.2.2.2.2.2.2.2.2.2.1, hHeld.2.2.2.2.2.2.2.2.2.2.2⟩ (fun hHeld => ?_)
      clear hK K
      refine norm_ (a' := ?_) ?_ ?_
      rotate_left
      ·show Act.put _ (some 27) _ = _
       simp only [Act.put, List.setIfInBounds_toArray, List.set_cons_zero, List.set_cons_succ, i64_w, i32_w]
       rfl
      refine one_ (i := 12) (N := some 28) #[true, true, true, true, true, true, true, true, true, true, true, true, true, false] rfl rfl (one_of HT_.out (by kernel_rfl)) (by decide) (fun K hK => ?_)
      refine goes_ Try.func93 (by kernel_rfl) rfl #[.agg #[.int .i64 ((rd_T29 l0_3 0).f0), .int .i64 ((rd_T29 l0_3 0).f1), .string ((rd_T29 l0_3 0).f2), .slice A397_3 ((rd_T29 l0_3 0).f3).length c397_3], .int .i64 t399] (by rfl) rfl rfl (by (try simp only [List.map_toArray, List.map_cons, List.map_nil]); first | done | rfl | (simp only [List.length_drop, List.length_take]; rfl)) ?_
      with_reducible refine (ih kj2 (by have := HJ2.out; omega) ((rd_T29 l0_3 0).f0) ((rd_T29 l0_3 0).f1) ((rd_T29 l0_3 0).f2) (fun k_ => ((P0_3_ k_ ∨ w.heap.size ≤ k_) ∧ (k_ ≠ gb394 ∧ k_ ≠ gb395))) _ _ ((rd_T29 l0_3 0).f3) t399 t400 t401 t402 t403 _ ?side1 A16.out).mono ?_
      (case side1 => exact HL397_3.out)
      rintro e w18 ⟨v404, rfl, ho0, hb⟩
      have HS4_ := (hb.cell (World.block_lt_of_cell? _ _ (hHeld.2.2.2.2.1))).trans (hHeld.2.2.2.2.1)
      have HS5_ := (hb.cell (World.block_lt_of_cell? _ _ (hHeld.2.2.2.2.2.1))).trans (hHeld.2.2.2.2.2.1)
      have HS6_ := (hb.cell (World.block_lt_of_cell? _ _ (hHeld.2.2.2.2.2.2.1))).trans (hHeld.2.2.2.2.2.2.1)
      have HS7_ := (hb.cell (World.block_lt_of_cell? _ _ (hHeld.2.2.2.2.2.2.2.1))).trans (hHeld.2.2.2.2.2.2.2.1)
      have HS8_ := (hb.cell (World.block_lt_of_cell? _ _ (hHeld.2.2.2.2.2.2.2.2.1))).trans (hHeld.2.2.2.2.2.2.2.2.1)
      have HS9_ := (hb.cell (World.block_lt_of_cell? _ _ (hHeld.2.2.2.2.2.2.2.2.2.1))).trans (hHeld.2.2.2.2.2.2.2.2.2.1)
      have HS10_ := (hb.cell (World.block_lt_of_cell? _ _ (hHeld.2.2.2.2.2.2.2.2.2.2.1))).trans (hHeld.2.2.2.2.2.2.2.2.2.2.1)
      have HS11_ := (hb.cell (World.block_lt_of_cell? _ _ (hHeld.2.2.2.2.2.2.2.2.2.2.2))).trans (hHeld.2.2.2.2.2.2.2.2.2.2.2)
      refine ⟨_, rfl, ?_⟩
      have n0_ := A_ (Kd.V_below (kv_ HO_395003.out) hb)
      have n1_ := A_ (Kd.V_below (by (with_reducible repeat (first | apply Kd.V_alloc | apply Kd.V_drewN | apply Kd.V_drew)); exact HL397_3.out) hb)
      have n2_ := A_ (Kd.V_below (by (with_reducible repeat (first | apply Kd.V_alloc | apply Kd.V_drewN | apply Kd.V_drew)); exact HL398_3.out) hb)
      have n3_ := A_ (Kd.V_lower (Kd.V_mono (ok' := fun k_ => (P0_3_ k_ ∨ w.heap.size ≤ k_) ∧ k_ ≠ gb394 ∧ k_ ≠ gb395) ho0 (fun k_ hk_ => ⟨Or.elim hk_ (fun hs_ => hs_.1) (fun hn_ => (.inr (Nat.le_trans (below_size (bw_ HB.out)) hn_))), Or.elim hk_ (fun hs_ => hs_.2.1) (fun hn_ => (Kd.freshB (bk_ BK394.out) k_ hn_)), Or.elim hk_ (fun hs_ => hs_.2.2) (fun hn_ => (Kd.freshB (bk_ BK395.out) k_ hn_))⟩)) (below_size (bw_ HB.out)))
      have n4_ := A_ (blk_below (bk_ BK394.out) hb)
      have n5_ := A_ (blk_below (bk_ BK395.out) hb)
      have n6_ := A_ (Kd.C_below (Kd.C_below HR397_3.out (bw_ (Below.refl _ _))) hb)
      have n7_ := A_ (Kd.C_below (Kd.C_below HR398_3.out (bw_ (Below.refl _ _))) hb)
      have n8_ := A_ (below_step (bw_ HB.out) hb)
      clear HO_395003
      clear HL397_3
      clear HL398_3
      clear BK394
      clear BK395
      clear HR397_3
      clear HR398_3
      clear HB
      have HO_395003 := n0_
      have HL397_3 := n1_
      have HL398_3 := n2_
      have HO405 := n3_
      have BK394 := n4_
      have BK395 := n5_
      have HR397_3 := n6_
      have HR398_3 := n7_
      have HB := n8_
      clear n0_ n1_ n2_ n3_ n4_ n5_ n6_ n7_ n8_
      (try clear hb)
      (try clear hb2)
      (try clear hk)
      (try clear hi)
      (try clear ho0)
      obtain ⟨Ao22, co22, eo22⟩ := Kd.V_slice HO405.out
      (first | subst eo22 | (injection eo22 with f1_ f2_ f3_; have f4_ := f1_.symm; have f5_ := f3_.symm; clear f1_ f2_ f3_; subst f4_; subst f5_))
      refine hK.out _ _ ⟨(blk_cell BK394.out 0).trans rfl, (blk_cell BK394.out 1).trans rfl, (blk_cell BK394.out 2).trans rfl, (blk_cell BK394.out 3).trans rfl, HS4_, HS5_, HS6_, HS7_, HS8_, HS9_, HS10_, HS11_⟩ (fun hHeld => ?_)
      clear hK K
      refine norm_ (a' := ?_) ?_ ?_
      rotate_left
      ·show Act.put _ (some 28) _ = _
       simp only [Act.put, List.setIfInBounds_toArray, List.set_cons_zero, List.set_cons_succ, i64_w, i32_w]
       rfl
      refine one_ (i := 13) (N := none) #[true, true, true, true, true, true, true, true, true, true, true, true, true, true] rfl rfl (one_of HT_.out (by kernel_rfl)) (by decide) (fun K hK => ?_)
      have hs19 : w18.cell? ⟨gb395, 0, none⟩ = some (.int .i64 0) := (blk_cell BK395.out 0).trans rfl
      have hfs19 := blk_frozen BK395.out 0
      have hns19_0 := NB394_395.out
      have hms19_0 := NB395_394.out
      have hs20 : w18.cell? ⟨gb395, 1, none⟩ = some (.int .i64 0) := (blk_cell BK395.out 1).trans rfl
      have hfs20 := blk_frozen BK395.out 1
      have hns20_0 := NB394_395.out
      have hms20_0 := NB395_394.out
      have hs21 : w18.cell? ⟨gb395, 2, none⟩ = some (.string (⟨#[]⟩ : ByteArray)) := (blk_cell BK395.out 2).trans rfl
      have hfs21 := blk_frozen BK395.out 2
      have hns21_0 := NB394_395.out
      have hms21_0 := NB395_394.out
      have hs23 : w18.cell? ⟨gb395, 3, none⟩ = some (.slice none 0 0) := (blk_cell BK395.out 3).trans rfl
      have hfs23 := blk_frozen BK395.out 3
      have hns23_0 := NB394_395.out
      have hms23_0 := NB395_394.out
      refine skip_ (w1 := ?_) (by rfl) rfl ?_ ?_
      rotate_left
      ·go_simp
       rfl
      refine hK.out _ _ ⟨((cell_far (p := ⟨gb395, _, none⟩) NB394_395.out _).trans (((cell_far (p := ⟨gb395, _, none⟩) NB394_395.out _).trans (((cell_far (p := ⟨gb395, _, none⟩) NB394_395.out _).trans (((cell_far (p := ⟨gb395, _, none⟩) NB394_395.out _).trans (hHeld.1)))))))), ((cell_far (p := ⟨gb395, _, none⟩) NB394_395.out _).trans (((cell_far (p := ⟨gb395, _, none⟩) NB394_395.out _).trans (((cell_far (p := ⟨gb395, _, none⟩) NB394_395.out _).trans (((cell_far (p := ⟨gb395, _, none⟩) NB394_395.out _).trans (hHeld.2.1)))))))), ((cell_far (p := ⟨gb395, _, none⟩) NB394_395.out _).trans (((cell_far (p := ⟨gb395, _, none⟩) NB394_395.out _).trans (((cell_far (p := ⟨gb395, _, none⟩) NB394_395.out _).trans (((cell_far (p := ⟨gb395, _, none⟩) NB394_395.out _).trans (hHeld.2.2.1)))))))), ((cell_far (p := ⟨gb395, _, none⟩) NB394_395.out _).trans (((cell_far (p := ⟨gb395, _, none⟩) NB394_395.out _).trans (((cell_far (p := ⟨gb395, _, none⟩) NB394_395.out _).trans (((cell_far (p := ⟨gb395, _, none⟩) NB394_395.out _).trans (hHeld.2.2.2.1)))))))), ((cell_far (p := ⟨gb395, _, none⟩) (by have h_ := awy_ HO_395003.out (fun _ hk => hk.2.2); first | exact h_.1 | exact h_.2 _) _).trans (((cell_far (p := ⟨gb395, _, none⟩) (by have h_ := awy_ HO_395003.out (fun _ hk => hk.2.2); first | exact h_.1 | exact h_.2 _) _).trans (((cell_far (p := ⟨gb395, _, none⟩) (by have h_ := awy_ HO_395003.out (fun _ hk => hk.2.2); first | exact h_.1 | exact h_.2 _) _).trans (((cell_far (p := ⟨gb395, _, none⟩) (by have h_ := awy_ HO_395003.out (fun _ hk => hk.2.2); first | exact h_.1 | exact h_.2 _) _).trans (hHeld.2.2.2.2.1)))))))), ((cell_far (p := ⟨gb395, _, none⟩) (by have h_ := awy_ HO_395003.out (fun _ hk => hk.2.2); first | exact h_.1 | exact h_.2 _) _).trans (((cell_far (p := ⟨gb395, _, none⟩) (by have h_ := awy_ HO_395003.out (fun _ hk => hk.2.2); first | exact h_.1 | exact h_.2 _) _).trans (((cell_far (p := ⟨gb395, _, none⟩) (by have h_ := awy_ HO_395003.out (fun _ hk => hk.2.2); first | exact h_.1 | exact h_.2 _) _).trans (((cell_far (p := ⟨gb395, _, none⟩) (by have h_ := awy_ HO_395003.out (fun _ hk => hk.2.2); first | exact h_.1 | exact h_.2 _) _).trans (hHeld.2.2.2.2.2.1)))))))), ((cell_far (p := ⟨gb395, _, none⟩) (by have h_ := awy_ HO_395003.out (fun _ hk => hk.2.2); first | exact h_.1 | exact h_.2 _) _).trans (((cell_far (p := ⟨gb395, _, none⟩) (by have h_ := awy_ HO_395003.out (fun _ hk => hk.2.2); first | exact h_.1 | exact h_.2 _) _).trans (((cell_far (p := ⟨gb395, _, none⟩) (by have h_ := awy_ HO_395003.out (fun _ hk => hk.2.2); first | exact h_.1 | exact h_.2 _) _).trans (((cell_far (p := ⟨gb395, _, none⟩) (by have h_ := awy_ HO_395003.out (fun _ hk => hk.2.2); first | exact h_.1 | exact h_.2 _) _).trans (hHeld.2.2.2.2.2.2.1)))))))), ((cell_far (p := ⟨gb395, _, none⟩) (by have h_ := awy_ HO_395003.out (fun _ hk => hk.2.2); first | exact h_.1 | exact h_.2 _) _).trans (((cell_far (p := ⟨gb395, _, none⟩) (by have h_ := awy_ HO_395003.out (fun _ hk => hk.2.2); first | exact h_.1 | exact h_.2 _) _).trans (((cell_far (p := ⟨gb395, _, none⟩) (by have h_ := awy_ HO_395003.out (fun _ hk => hk.2.2); first | exact h_.1 | exact h_.2 _) _).trans (((cell_far (p := ⟨gb395, _, none⟩) (by have h_ := awy_ HO_395003.out (fun _ hk => hk.2.2); first | exact h_.1 | exact h_.2 _) _).trans (hHeld.2.2.2.2.2.2.2.1)))))))), ((cell_far (p := ⟨gb395, _, none⟩) (by have h_ := awy_ HO_395003.out (fun _ hk => hk.2.2); first | exact h_.1 | exact h_.2 _) _).trans (((cell_far (p := ⟨gb395, _, none⟩) (by have h_ := awy_ HO_395003.out (fun _ hk => hk.2.2); first | exact h_.1 | exact h_.2 _) _).trans (((cell_far (p := ⟨gb395, _, none⟩) (by have h_ := awy_ HO_395003.out (fun _ hk => hk.2.2); first | exact h_.1 | exact h_.2 _) _).trans (((cell_far (p := ⟨gb395, _, none⟩) (by have h_ := awy_ HO_395003.out (fun _ hk => hk.2.2); first | exact h_.1 | exact h_.2 _) _).trans (hHeld.2.2.2.2.2.2.2.2.1)))))))), ((cell_far (p := ⟨gb395, _, none⟩) (by have h_ := awy_ HO_395003.out (fun _ hk => hk.2.2); first | exact h_.1 | exact h_.2 _) _).trans (((cell_far (p := ⟨gb395, _, none⟩) (by have h_ := awy_ HO_395003.out (fun _ hk => hk.2.2); first | exact h_.1 | exact h_.2 _) _).trans (((cell_far (p := ⟨gb395, _, none⟩) (by have h_ := awy_ HO_395003.out (fun _ hk => hk.2.2); first | exact h_.1 | exact h_.2 _) _).trans (((cell_far (p := ⟨gb395, _, none⟩) (by have h_ := awy_ HO_395003.out (fun _ hk => hk.2.2); first | exact h_.1 | exact h_.2 _) _).trans (hHeld.2.2.2.2.2.2.2.2.2.1)))))))), ((cell_far (p := ⟨gb395, _, none⟩) (by have h_ := awy_ HO_395003.out (fun _ hk => hk.2.2); first | exact h_.1 | exact h_.2 _) _).trans (((cell_far (p := ⟨gb395, _, none⟩) (by have h_ := awy_ HO_395003.out (fun _ hk => hk.2.2); first | exact h_.1 | exact h_.2 _) _).trans (((cell_far (p := ⟨gb395, _, none⟩) (by have h_ := awy_ HO_395003.out (fun _ hk => hk.2.2); first | exact h_.1 | exact h_.2 _) _).trans (((cell_far (p := ⟨gb395, _, none⟩) (by have h_ := awy_ HO_395003.out (fun _ hk => hk.2.2); first | exact h_.1 | exact h_.2 _) _).trans (hHeld.2.2.2.2.2.2.2.2.2.2.1)))))))), ((cell_far (p := ⟨gb395, _, none⟩) (by have h_ := awy_ HO_395003.out (fun _ hk => hk.2.2); first | exact h_.1 | exact h_.2 _) _).trans (((cell_far (p := ⟨gb395, _, none⟩) (by have h_ := awy_ HO_395003.out (fun _ hk => hk.2.2); first | exact h_.1 | exact h_.2 _) _).trans (((cell_far (p := ⟨gb395, _, none⟩) (by have h_ := awy_ HO_395003.out (fun _ hk => hk.2.2); first | exact h_.1 | exact h_.2 _) _).trans (((cell_far (p := ⟨gb395, _, none⟩) (by have h_ := awy_ HO_395003.out (fun _ hk => hk.2.2); first | exact h_.1 | exact h_.2 _) _).trans (hHeld.2.2.2.2.2.2.2.2.2.2.2))))))))⟩ (fun hHeld => ?_)
      clear hK K
      refine done_ (done_of HT_.out (by kernel_rfl)) ?_
      try go_wp2
      refine bodyPost_ret (results_cell_row rfl _ _ gb395 29 #[.int .i64 t400, .int .i64 t401, .string t402, .slice Ao22 t403.length co22] (0, 0) _ rfl ?hb_ Try.underlying29 rfl (by kernel_rfl)) rfl ?_
      (case hb_ => refine bk_ ?_; refine blk_put (cs := #[.int .i64 t400, .int .i64 t401, .string t402, .slice none 0 0]) ?_ 3 _ rfl; refine bk_ ?_; refine blk_put (cs := #[.int .i64 t400, .int .i64 t401, .string (⟨#[]⟩ : ByteArray), .slice none 0 0]) ?_ 2 _ rfl; refine bk_ ?_; refine blk_put (cs := #[.int .i64 t400, .int .i64 0, .string (⟨#[]⟩ : ByteArray), .slice none 0 0]) ?_ 1 _ rfl; refine bk_ ?_; refine blk_put (cs := #[.int .i64 0, .int .i64 0, .string (⟨#[]⟩ : ByteArray), .slice none 0 0]) ?_ 0 _ rfl; refine bk_ ?_; exact BK395.out)
      exact ⟨_, by first | rfl | (simp [errW_none, errW_some] <;> rfl) | (simp [*, errW_none, errW_some] <;> rfl), by (with_reducible repeat (first | apply Kd.V_alloc | apply Kd.V_drewN | apply Kd.V_drew)); exact Kd.V_mono (Kd.V_far (p := ⟨gb395, 3, none⟩) (Kd.V_far (p := ⟨gb395, 2, none⟩) (Kd.V_far (p := ⟨gb395, 1, none⟩) (Kd.V_far (p := ⟨gb395, 0, none⟩) (Kd.V_mono HO405.out (fun k_ hk => (⟨hk, hk.2.2⟩ : _ ∧ k_ ≠ gb395))) (fun _ hk => hk.2) (.int .i64 t400)) (fun _ hk => hk.2) (.int .i64 t401)) (fun _ hk => hk.2) (.string t402)) (fun _ hk => hk.2) (.slice Ao22 t403.length co22)) (fun _ hk => hk.1.1), bw_ HB.out⟩
     ·rw [if_neg c14] at H
      exact absurd H (by simp)
    ·rw [if_neg c13] at H
     exact absurd H (by simp)
   ·replace c12 := Bool.eq_false_iff.mpr c12
    subst c12
    rw [if_neg (show ¬ (false = true) by decide)] at H
    by_cases c24 : a1 = 0
    ·rw [if_pos c24] at H
     have c24b0 := beq_iff_eq.mpr c24
     have c24b1 := bne_eq_false_iff_eq.mpr c24
     clear c24
     simp only [Option.some.injEq, Prod.mk.injEq] at H
     obtain ⟨rfl, rfl, rfl, rfl⟩ := H
     have hnb25 := NB394_395.out
     have hnc25 := NB395_394.out
     obtain ⟨y26_0, y26_1, y26_2, y26_3, z26_0, z26_1, z26_2, z26_3⟩ := cz4_ BK394.out
     obtain ⟨y27_0, y27_1, y27_2, y27_3, z27_0, z27_1, z27_2, z27_3⟩ := cz4_ BK395.out
     go_wp2
     refine bodyPost_ret (results_cell_row rfl _ _ gb395 29 #[.int .i64 a0_0, .int .i64 a0_1, .string a0_2, .slice A0_3 l0_3.length c0_3] (0, 0) _ rfl ?hb_ Try.underlying29 rfl (by kernel_rfl)) rfl ?_
     (case hb_ => refine bk_ ?_; refine blk_put (cs := #[.int .i64 a0_0, .int .i64 a0_1, .string a0_2, .slice none 0 0]) ?_ 3 _ rfl; refine bk_ ?_; refine blk_put (cs := #[.int .i64 a0_0, .int .i64 a0_1, .string (⟨#[]⟩ : ByteArray), .slice none 0 0]) ?_ 2 _ rfl; refine bk_ ?_; refine blk_put (cs := #[.int .i64 a0_0, .int .i64 0, .string (⟨#[]⟩ : ByteArray), .slice none 0 0]) ?_ 1 _ rfl; refine bk_ ?_; refine blk_put (cs := #[.int .i64 0, .int .i64 0, .string (⟨#[]⟩ : ByteArray), .slice none 0 0]) ?_ 0 _ rfl; refine bk_ ?_; exact BK395.out)
     exact ⟨_, by first | rfl | (simp [errW_none, errW_some] <;> rfl) | (simp [*, errW_none, errW_some] <;> rfl), by (with_reducible repeat (first | apply Kd.V_alloc | apply Kd.V_drewN | apply Kd.V_drew)); exact Kd.V_mono (Kd.V_far (p := ⟨gb395, 3, none⟩) (Kd.V_far (p := ⟨gb395, 2, none⟩) (Kd.V_far (p := ⟨gb395, 1, none⟩) (Kd.V_far (p := ⟨gb395, 0, none⟩) (Kd.V_mono HO_395003.out (fun k_ hk => (⟨hk, hk.2.2⟩ : _ ∧ k_ ≠ gb395))) (fun _ hk => hk.2) (.int .i64 a0_0)) (fun _ hk => hk.2) (.int .i64 a0_1)) (fun _ hk => hk.2) (.string a0_2)) (fun _ hk => hk.2) (.slice A0_3 l0_3.length c0_3)) (fun _ hk => hk.1.1), bw_ HB.out⟩
    ·rw [if_neg c24] at H
     have c24b0 := beq_eq_false_iff_ne.mpr c24
     have c24b1 := bne_iff_ne.mpr c24
     replace H := Option.bind_eq_some_iff.mp H
     obtain ⟨⟨t406, t407, t408, t409⟩, A280, H⟩ := H
     try dsimp only at H
     have A28 := A_ A280
     clear A280
     replace H := Option.bind_eq_some_iff.mp H
     obtain ⟨⟨t412, t413, t414, t415⟩, A290, H⟩ := H
     try dsimp only at H
     have A29 := A_ A290
     clear A290
     simp only [Option.some.injEq, Prod.mk.injEq] at H
     obtain ⟨rfl, rfl, rfl, rfl⟩ := H
     try go_wp2
     have n0_ := A_ (Kd.V_drew HO_395003.out)
     have n1_ := A_ (blk_drew BK394.out)
     have n2_ := A_ (blk_drew BK395.out)
     have n3_ := A_ (below_drew1 HB.out)
     clear HO_395003
     clear BK394
     clear BK395
     clear HB
     have HO_395003 := n0_
     have BK394 := n1_
     have BK395 := n2_
     have HB := n3_
     clear n0_ n1_ n2_ n3_
     refine start_ (n := 5) (S := fun w' => w'.cell? ⟨gb394, 0, none⟩ = some (.int .i64 a0_0) ∧ w'.cell? ⟨gb394, 1, none⟩ = some (.int .i64 a0_1) ∧ w'.cell? ⟨gb394, 2, none⟩ = some (.string a0_2) ∧ w'.cell? ⟨gb394, 3, none⟩ = some (.slice A0_3 l0_3.length c0_3)) (ds := []) #[false, false, false, false, false] (by kernel_rfl) rfl rfl ⟨(blk_cell BK394.out 0).trans rfl, (blk_cell BK394.out 1).trans rfl, (blk_cell BK394.out 2).trans rfl, (blk_cell BK394.out 3).trans rfl⟩ (fun hHeld => ?_)
     generalize wc.drew = w30 at HO_395003 BK394 BK395 HB hHeld ⊢
     refine pure_ (i := 1) (N := some 33) (v := ?_) (a' := ?_) #[false, true, false, false, false] rfl rfl (by kernel_rfl) (fun _ _ _ h => h) (Or.inl ⟨by rfl, ?_⟩) ?_ ?_
     rotate_left
     ·intro w'
      go_simp
      with_reducible rfl
     rotate_left
     ·simp only [Act.put, List.setIfInBounds_toArray, List.set_cons_zero, List.set_cons_succ, i64_w, i32_w]
      rfl
     refine take_ (i := 0) (N := some 32) (v := ?_) (a' := ?_) #[true, true, false, false, false] rfl rfl (by kernel_rfl) (fun _ _ _ h => h) (Or.inl ⟨by rfl, ?_⟩) hHeld ?_ ?_
     rotate_left
     ·rintro w' ⟨s0, s1, s2, s3⟩
      go_simp
      with_reducible rfl
     rotate_left
     ·simp only [Act.put, List.setIfInBounds_toArray, List.set_cons_zero, List.set_cons_succ, i64_w, i32_w]
      rfl
     refine one_ (i := 2) (N := some 34) #[true, true, true, false, false] rfl rfl (by kernel_rfl) (by decide) (fun K hK => ?_)
     refine goes_ Try.func82 (by kernel_rfl) rfl #[.int .i64 a1] (by rfl) rfl rfl (by (try simp only [List.map_toArray, List.map_cons, List.map_nil]); first | done | rfl | (simp only [List.length_drop, List.length_take]; rfl)) ?_
     with_reducible refine (impl_number.calls a1 t406 t407 t408 t409 _ A28.out).mono ?_
     rintro e w31 ⟨v410, rfl, ho0, hb⟩
     refine ⟨_, rfl, ?_⟩
     have n0_ := A_ (Kd.V_elder' (kv_ HO_395003.out) (by first | exact Kd.N_base ho0 | exact Kd.R_base ho0) hb)
     have n1_ := A_ (Kd.N_lower (Kd.N_mono (ok' := fun k_ => (P0_3_ k_ ∨ w.heap.size ≤ k_) ∧ k_ ≠ gb394 ∧ k_ ≠ gb395) (Kd.R_N (Kd.R_bound ho0)) (fun k_ hk_ => ⟨(.inr (Nat.le_trans (below_size (bw_ HB.out)) hk_.2.1)), (Kd.freshB (bk_ BK394.out) k_ hk_.2.1), (Kd.freshB (bk_ BK395.out) k_ hk_.2.1)⟩)) (below_size (bw_ HB.out)))
     have n2_ := A_ (blk_below (bk_ BK394.out) hb)
     have n3_ := A_ (blk_below (bk_ BK395.out) hb)
     have n4_ := A_ (below_step (bw_ HB.out) hb)
     clear HO_395003
     clear BK394
     clear BK395
     clear HB
     have HO_395003 := n0_
     have HO411 := n1_
     have BK394 := n2_
     have BK395 := n3_
     have HB := n4_
     clear n0_ n1_ n2_ n3_ n4_
     (try clear hb)
     (try clear hb2)
     (try clear hk)
     (try clear hi)
     (try clear ho0)
     obtain ⟨Ao32, co32, eo32⟩ := Kd.N_slice HO411.out
     (first | subst eo32 | (injection eo32 with f1_ f2_ f3_; have f4_ := f1_.symm; have f5_ := f3_.symm; clear f1_ f2_ f3_; subst f4_; subst f5_))
     refine hK.out _ _ ⟨(blk_cell BK394.out 0).trans rfl, (blk_cell BK394.out 1).trans rfl, (blk_cell BK394.out 2).trans rfl, (blk_cell BK394.out 3).trans rfl⟩ (fun hHeld => ?_)
     clear hK K
     refine norm_ (a' := ?_) ?_ ?_
     rotate_left
     ·show Act.put _ (some 34) _ = _
      simp only [Act.put, List.setIfInBounds_toArray, List.set_cons_zero, List.set_cons_succ, i64_w, i32_w]
      rfl
     refine one_ (i := 3) (N := some 35) #[true, true, true, true, false] rfl rfl (by kernel_rfl) (by decide) (fun K hK => ?_)
     refine goes_ Try.func92 (by kernel_rfl) rfl #[.int .i64 5, .agg #[.int .i64 a0_0, .int .i64 a0_1, .string a0_2, .slice A0_3 l0_3.length c0_3], .agg #[.int .i64 t406, .int .i64 t407, .string t408, .slice Ao32 t409.length co32]] (by rfl) rfl rfl (by (try simp only [List.map_toArray, List.map_cons, List.map_nil]); first | done | rfl | (simp only [List.length_drop, List.length_take]; rfl)) ?_
     with_reducible refine (impl_two.calls 5 a0_0 a0_1 a0_2 (fun k_ => (((P0_3_ k_ ∨ w.heap.size ≤ k_) ∧ (k_ ≠ gb394 ∧ k_ ≠ gb395)) ∧ some k_ ≠ (.slice Ao32 t409.length co32 : Value).ownBlock)) _ _ l0_3 t406 t407 t408 (fun k_ => ((P0_3_ k_ ∨ w.heap.size ≤ k_) ∧ (k_ ≠ gb394 ∧ k_ ≠ gb395))) _ _ t409 t412 t413 t414 t415 _ ?side1 ?side2 A29.out).mono ?_
     (case side1 => exact HO_395003.out)
     (case side2 => exact Kd.N_V (HO411.out))
     rintro e w33 ⟨v416, rfl, ho0, hb⟩
     refine ⟨_, rfl, ?_⟩
     have n0_ := A_ (Kd.V_elder' (kv_ HO_395003.out) (by first | exact Kd.N_base ho0 | exact Kd.R_base ho0) hb)
     have n1_ := A_ (Kd.N_elder' (by (with_reducible repeat (first | apply Kd.N_alloc | apply Kd.N_drewN | apply Kd.N_drew)); exact HO411.out) (by first | exact Kd.N_base ho0 | exact Kd.R_base ho0) hb)
     have n2_ := A_ (Kd.N_lower (Kd.N_mono (ok' := fun k_ => (P0_3_ k_ ∨ w.heap.size ≤ k_) ∧ k_ ≠ gb394 ∧ k_ ≠ gb395) ho0 (fun k_ hk_ => ⟨Or.elim hk_ (fun hs_ => Or.elim hs_ (fun hs_ => hs_.1.1) (fun hs_ => hs_.1)) (fun hn_ => (.inr (Nat.le_trans (below_size (bw_ HB.out)) hn_))), Or.elim hk_ (fun hs_ => Or.elim hs_ (fun hs_ => hs_.1.2.1) (fun hs_ => hs_.2.1)) (fun hn_ => (Kd.freshB (bk_ BK394.out) k_ hn_)), Or.elim hk_ (fun hs_ => Or.elim hs_ (fun hs_ => hs_.1.2.2) (fun hs_ => hs_.2.2)) (fun hn_ => (Kd.freshB (bk_ BK395.out) k_ hn_))⟩)) (below_size (bw_ HB.out)))
     have n3_ := A_ (blk_below (bk_ BK394.out) hb)
     have n4_ := A_ (blk_below (bk_ BK395.out) hb)
     have n5_ := A_ (below_step (bw_ HB.out) hb)
     clear HO_395003
     clear HO411
     clear BK394
     clear BK395
     clear HB
     have HO_395003 := n0_
     have HO411 := n1_
     have HO417 := n2_
     have BK394 := n3_
     have BK395 := n4_
     have HB := n5_
     clear n0_ n1_ n2_ n3_ n4_ n5_
     (try clear hb)
     (try clear hb2)
     (try clear hk)
     (try clear hi)
     (try clear ho0)
     obtain ⟨Ao37, co37, eo37⟩ := Kd.N_slice HO417.out
     (first | subst eo37 | (injection eo37 with f1_ f2_ f3_; have f4_ := f1_.symm; have f5_ := f3_.symm; clear f1_ f2_ f3_; subst f4_; subst f5_))
     refine hK.out _ _ ⟨(blk_cell BK394.out 0).trans rfl, (blk_cell BK394.out 1).trans rfl, (blk_cell BK394.out 2).trans rfl, (blk_cell BK394.out 3).trans rfl⟩ (fun hHeld => ?_)
     clear hK K
     refine norm_ (a' := ?_) ?_ ?_
     rotate_left
     ·show Act.put _ (some 35) _ = _
      simp only [Act.put, List.setIfInBounds_toArray, List.set_cons_zero, List.set_cons_succ, i64_w, i32_w]
      rfl
     refine one_ (i := 4) (N := none) #[true, true, true, true, true] rfl rfl (by kernel_rfl) (by decide) (fun K hK => ?_)
     have hs34 : w33.cell? ⟨gb395, 0, none⟩ = some (.int .i64 0) := (blk_cell BK395.out 0).trans rfl
     have hfs34 := blk_frozen BK395.out 0
     have hns34_0 := NB394_395.out
     have hms34_0 := NB395_394.out
     have hs35 : w33.cell? ⟨gb395, 1, none⟩ = some (.int .i64 0) := (blk_cell BK395.out 1).trans rfl
     have hfs35 := blk_frozen BK395.out 1
     have hns35_0 := NB394_395.out
     have hms35_0 := NB395_394.out
     have hs36 : w33.cell? ⟨gb395, 2, none⟩ = some (.string (⟨#[]⟩ : ByteArray)) := (blk_cell BK395.out 2).trans rfl
     have hfs36 := blk_frozen BK395.out 2
     have hns36_0 := NB394_395.out
     have hms36_0 := NB395_394.out
     have hs38 : w33.cell? ⟨gb395, 3, none⟩ = some (.slice none 0 0) := (blk_cell BK395.out 3).trans rfl
     have hfs38 := blk_frozen BK395.out 3
     have hns38_0 := NB394_395.out
     have hms38_0 := NB395_394.out
     refine skip_ (w1 := ?_) (by rfl) rfl ?_ ?_
     rotate_left
     ·go_simp
      rfl
     refine hK.out _ _ ⟨((cell_far (p := ⟨gb395, _, none⟩) NB394_395.out _).trans (((cell_far (p := ⟨gb395, _, none⟩) NB394_395.out _).trans (((cell_far (p := ⟨gb395, _, none⟩) NB394_395.out _).trans (((cell_far (p := ⟨gb395, _, none⟩) NB394_395.out _).trans (hHeld.1)))))))), ((cell_far (p := ⟨gb395, _, none⟩) NB394_395.out _).trans (((cell_far (p := ⟨gb395, _, none⟩) NB394_395.out _).trans (((cell_far (p := ⟨gb395, _, none⟩) NB394_395.out _).trans (((cell_far (p := ⟨gb395, _, none⟩) NB394_395.out _).trans (hHeld.2.1)))))))), ((cell_far (p := ⟨gb395, _, none⟩) NB394_395.out _).trans (((cell_far (p := ⟨gb395, _, none⟩) NB394_395.out _).trans (((cell_far (p := ⟨gb395, _, none⟩) NB394_395.out _).trans (((cell_far (p := ⟨gb395, _, none⟩) NB394_395.out _).trans (hHeld.2.2.1)))))))), ((cell_far (p := ⟨gb395, _, none⟩) NB394_395.out _).trans (((cell_far (p := ⟨gb395, _, none⟩) NB394_395.out _).trans (((cell_far (p := ⟨gb395, _, none⟩) NB394_395.out _).trans (((cell_far (p := ⟨gb395, _, none⟩) NB394_395.out _).trans (hHeld.2.2.2))))))))⟩ (fun hHeld => ?_)
     clear hK K
     refine done_ (by kernel_rfl) ?_
     try go_wp2
     refine bodyPost_ret (results_cell_row rfl _ _ gb395 29 #[.int .i64 t412, .int .i64 t413, .string t414, .slice Ao37 t415.length co37] (0, 0) _ rfl ?hb_ Try.underlying29 rfl (by kernel_rfl)) rfl ?_
     (case hb_ => refine bk_ ?_; refine blk_put (cs := #[.int .i64 t412, .int .i64 t413, .string t414, .slice none 0 0]) ?_ 3 _ rfl; refine bk_ ?_; refine blk_put (cs := #[.int .i64 t412, .int .i64 t413, .string (⟨#[]⟩ : ByteArray), .slice none 0 0]) ?_ 2 _ rfl; refine bk_ ?_; refine blk_put (cs := #[.int .i64 t412, .int .i64 0, .string (⟨#[]⟩ : ByteArray), .slice none 0 0]) ?_ 1 _ rfl; refine bk_ ?_; refine blk_put (cs := #[.int .i64 0, .int .i64 0, .string (⟨#[]⟩ : ByteArray), .slice none 0 0]) ?_ 0 _ rfl; refine bk_ ?_; exact BK395.out)
     exact ⟨_, by first | rfl | (simp [errW_none, errW_some] <;> rfl) | (simp [*, errW_none, errW_some] <;> rfl), Kd.N_V (by (with_reducible repeat (first | apply Kd.N_alloc | apply Kd.N_drewN | apply Kd.N_drew)); exact Kd.N_mono (Kd.N_far (p := ⟨gb395, 3, none⟩) (Kd.N_far (p := ⟨gb395, 2, none⟩) (Kd.N_far (p := ⟨gb395, 1, none⟩) (Kd.N_far (p := ⟨gb395, 0, none⟩) (Kd.N_mono HO417.out (fun k_ hk => (⟨hk, hk.2.2⟩ : _ ∧ k_ ≠ gb395))) (fun _ hk => hk.2) (.int .i64 t412)) (fun _ hk => hk.2) (.int .i64 t413)) (fun _ hk => hk.2) (.string t414)) (fun _ hk => hk.2) (.slice Ao37 t415.length co37)) (fun _ hk => hk.1.1)), bw_ HB.out⟩

/-! ### impl_inSect: function 94 -/
def impl_inSect.f (a0_0 : Int) (a0_1 : Int) (a0_2 : ByteArray) (l0_3 : List (S29)) : Option (Int × Int × Bool) := if a0_0 = 11 then (some (a0_1, 0, true)) else (if a0_0 = 5 then (if 0 < (l0_3.length : Int) then (if ((rd_T29 l0_3 0).f0) = 11 then (if 1 < (l0_3.length : Int) then (if ((rd_T29 l0_3 1).f0) = 1 then (some ((rd_T29 l0_3 0).f1, (rd_T29 l0_3 1).f1, true)) else (some (0, 0, false))) else (none)) else (some (0, 0, false))) else (none)) else (some (0, 0, false)))
set_option maxHeartbeats 8000000 in
set_option maxRecDepth 100000 in
theorem impl_inSect.calls (a0_0 : Int) (a0_1 : Int) (a0_2 : ByteArray) (A0_3 : Option Addr) (c0_3 : Nat) (l0_3 : List (S29)) (r1 : Int) (r2 : Int) (r3 : Bool) (w : World) (hr0_3 : Kd.C k29 w A0_3 l0_3.length l0_3) (hc0_3 : l0_3.length ≤ c0_3) (h : impl_inSect.f a0_0 a0_1 a0_2 l0_3 = some (r1, r2, r3)) :
  Calls Try.prog 94 #[.agg #[.int .i64 a0_0, .int .i64 a0_1, .string a0_2, .slice A0_3 l0_3.length c0_3]] w fun e w' => e = .returned (.tuple #[.int .i64 r1, .int .i64 r2, .bool r3]) ∧ Below w.heap.size w w' := by
 have hu29 := Try.underlying29
 have HR0_3 := A_ hr0_3
 have HC0_3 := A_ hc0_3
 clear hr0_3 hc0_3
 have HB := A_ (Below.refl w.heap.size w)
 have H : (if a0_0 = 11 then (some (a0_1, 0, true)) else (if a0_0 = 5 then (if 0 < (l0_3.length : Int) then (if ((rd_T29 l0_3 0).f0) = 11 then (if 1 < (l0_3.length : Int) then (if ((rd_T29 l0_3 1).f0) = 1 then (some ((rd_T29 l0_3 0).f1, (rd_T29 l0_3 1).f1, true)) else (some (0, 0, false))) else (none)) else (some (0, 0, false))) else (none)) else (some (0, 0, false)))) = some (r1, r2, r3) := h
 clear h
 by_cases c2 : a0_0 = 11
 ·rw [if_pos c2] at H
  have c2b0 := beq_iff_eq.mpr c2
  have c2b1 := bne_eq_false_iff_eq.mpr c2
  clear c2
  simp only [Option.some.injEq, Prod.mk.injEq] at H
  obtain ⟨rfl, rfl, rfl⟩ := H
  go_enter Try.func94, Try.ntmps94
  go_wp2_with (first | ((with_reducible refine gate_dst (N := 1) rfl ?_); refine box_event ?hg (N := 1) ?hd (cs := #[.int .i64 a0_0, .int .i64 a0_1, .string a0_2, .slice A0_3 l0_3.length c0_3]) (t := 29) ?hr ?_; (case hd => rfl); (case hg => rfl); (case hr => first | (go_simp; done) | (go_simp; rfl)); intro gb418 hg w3 hbox hb; have n0_ := A_ (below_step (bw_ HB.out) hb); have n1_ := A_ (hbox); have n2_ := A_ ((by rw [hg]; exact (below_size (bw_ HB.out)) : w.heap.size ≤ gb418)); have n3_ := n2_; clear HB; have HB := n0_; have BK418 := n1_; have GW418 := n2_; have GE418 := n3_; have GI418 := GeI.mk GE418.out; clear n0_ n1_ n2_ n3_; clear hb hbox hg; have y4_0 : w3.cell? ⟨gb418, 0, none⟩ = some (.int .i64 a0_0) := (blk_cell BK418.out 0).trans rfl; have y4_1 : w3.cell? ⟨gb418, 1, none⟩ = some (.int .i64 a0_1) := (blk_cell BK418.out 1).trans rfl; have y4_2 : w3.cell? ⟨gb418, 2, none⟩ = some (.string a0_2) := (blk_cell BK418.out 2).trans rfl; have y4_3 : w3.cell? ⟨gb418, 3, none⟩ = some (.slice A0_3 l0_3.length c0_3) := (blk_cell BK418.out 3).trans rfl; have z4_0 := blk_frozen BK418.out 0; have z4_1 := blk_frozen BK418.out 1; have z4_2 := blk_frozen BK418.out 2; have z4_3 := blk_frozen BK418.out 3))
  repeat (go_quiet (first | ((with_reducible refine gate_dst (N := 1) rfl ?_); refine box_event ?hg (N := 1) ?hd (cs := #[.int .i64 a0_0, .int .i64 a0_1, .string a0_2, .slice A0_3 l0_3.length c0_3]) (t := 29) ?hr ?_; (case hd => rfl); (case hg => rfl); (case hr => first | (go_simp; done) | (go_simp; rfl)); intro gb418 hg w3 hbox hb; have n0_ := A_ (below_step (bw_ HB.out) hb); have n1_ := A_ (hbox); have n2_ := A_ ((by rw [hg]; exact (below_size (bw_ HB.out)) : w.heap.size ≤ gb418)); have n3_ := n2_; clear HB; have HB := n0_; have BK418 := n1_; have GW418 := n2_; have GE418 := n3_; have GI418 := GeI.mk GE418.out; clear n0_ n1_ n2_ n3_; clear hb hbox hg; have y4_0 : w3.cell? ⟨gb418, 0, none⟩ = some (.int .i64 a0_0) := (blk_cell BK418.out 0).trans rfl; have y4_1 : w3.cell? ⟨gb418, 1, none⟩ = some (.int .i64 a0_1) := (blk_cell BK418.out 1).trans rfl; have y4_2 : w3.cell? ⟨gb418, 2, none⟩ = some (.string a0_2) := (blk_cell BK418.out 2).trans rfl; have y4_3 : w3.cell? ⟨gb418, 3, none⟩ = some (.slice A0_3 l0_3.length c0_3) := (blk_cell BK418.out 3).trans rfl; have z4_0 := blk_frozen BK418.out 0; have z4_1 := blk_frozen BK418.out 1; have z4_2 := blk_frozen BK418.out 2; have z4_3 := blk_frozen BK418.out 3)); try go_wp2_with (first | ((with_reducible refine gate_dst (N := 1) rfl ?_); refine box_event ?hg (N := 1) ?hd (cs := #[.int .i64 a0_0, .int .i64 a0_1, .string a0_2, .slice A0_3 l0_3.length c0_3]) (t := 29) ?hr ?_; (case hd => rfl); (case hg => rfl); (case hr => first | (go_simp; done) | (go_simp; rfl)); intro gb418 hg w3 hbox hb; have n0_ := A_ (below_step (bw_ HB.out) hb); have n1_ := A_ (hbox); have n2_ := A_ ((by rw [hg]; exact (below_size (bw_ HB.out)) : w.heap.size ≤ gb418)); have n3_ := n2_; clear HB; have HB := n0_; have BK418 := n1_; have GW418 := n2_; have GE418 := n3_; have GI418 := GeI.mk GE418.out; clear n0_ n1_ n2_ n3_; clear hb hbox hg; have y4_0 : w3.cell? ⟨gb418, 0, none⟩ = some (.int .i64 a0_0) := (blk_cell BK418.out 0).trans rfl; have y4_1 : w3.cell? ⟨gb418, 1, none⟩ = some (.int .i64 a0_1) := (blk_cell BK418.out 1).trans rfl; have y4_2 : w3.cell? ⟨gb418, 2, none⟩ = some (.string a0_2) := (blk_cell BK418.out 2).trans rfl; have y4_3 : w3.cell? ⟨gb418, 3, none⟩ = some (.slice A0_3 l0_3.length c0_3) := (blk_cell BK418.out 3).trans rfl; have z4_0 := blk_frozen BK418.out 0; have z4_1 := blk_frozen BK418.out 1; have z4_2 := blk_frozen BK418.out 2; have z4_3 := blk_frozen BK418.out 3)))
  go_ret3
  exact rt_ (bw_ HB.out)
 ·rw [if_neg c2] at H
  have c2b0 := beq_eq_false_iff_ne.mpr c2
  have c2b1 := bne_iff_ne.mpr c2
  by_cases c5 : a0_0 = 5
  ·rw [if_pos c5] at H
   have c5b0 := beq_iff_eq.mpr c5
   have c5b1 := bne_eq_false_iff_eq.mpr c5
   clear c5
   by_cases c6 : 0 < (l0_3.length : Int)
   ·rw [if_pos c6] at H
    have c6b0 := decide_eq_true c6
    have c6b1 : decide (0 < l0_3.length) = true := decide_eq_true (by omega)
    clear c6
    by_cases c7 : ((rd_T29 l0_3 0).f0) = 11
    ·rw [if_pos c7] at H
     have c7b0 := beq_iff_eq.mpr c7
     have c7b1 := bne_eq_false_iff_eq.mpr c7
     clear c7
     by_cases c8 : 1 < (l0_3.length : Int)
     ·rw [if_pos c8] at H
      have c8b0 := decide_eq_true c8
      have c8b1 : decide (1 < l0_3.length) = true := decide_eq_true (by omega)
      clear c8
      by_cases c9 : ((rd_T29 l0_3 1).f0) = 1
      ·rw [if_pos c9] at H
       have c9b0 := beq_iff_eq.mpr c9
       have c9b1 := bne_eq_false_iff_eq.mpr c9
       clear c9
       simp only [Option.some.injEq, Prod.mk.injEq] at H
       obtain ⟨rfl, rfl, rfl⟩ := H
       go_enter Try.func94, Try.ntmps94
       go_wp2_with (first | ((with_reducible refine gate_dst (N := 1) rfl ?_); refine box_event ?hg (N := 1) ?hd (cs := #[.int .i64 a0_0, .int .i64 a0_1, .string a0_2, .slice A0_3 l0_3.length c0_3]) (t := 29) ?hr ?_; (case hd => rfl); (case hg => rfl); (case hr => first | (go_simp; done) | (go_simp; rfl)); intro gb418 hg w10 hbox hb; have n0_ := A_ (below_step (bw_ HB.out) hb); have n1_ := A_ (hbox); have n2_ := A_ ((by rw [hg]; exact (below_size (bw_ HB.out)) : w.heap.size ≤ gb418)); have n3_ := n2_; clear HB; have HB := n0_; have BK418 := n1_; have GW418 := n2_; have GE418 := n3_; have GI418 := GeI.mk GE418.out; clear n0_ n1_ n2_ n3_; clear hb hbox hg; have y11_0 : w10.cell? ⟨gb418, 0, none⟩ = some (.int .i64 a0_0) := (blk_cell BK418.out 0).trans rfl; have y11_1 : w10.cell? ⟨gb418, 1, none⟩ = some (.int .i64 a0_1) := (blk_cell BK418.out 1).trans rfl; have y11_2 : w10.cell? ⟨gb418, 2, none⟩ = some (.string a0_2) := (blk_cell BK418.out 2).trans rfl; have y11_3 : w10.cell? ⟨gb418, 3, none⟩ = some (.slice A0_3 l0_3.length c0_3) := (blk_cell BK418.out 3).trans rfl; have z11_0 := blk_frozen BK418.out 0; have z11_1 := blk_frozen BK418.out 1; have z11_2 := blk_frozen BK418.out 2; have z11_3 := blk_frozen BK418.out 3; have p419 : 0 ≤ (0 : Int) := (by omega); have q419 : 0 < (l0_3.length : Int) := of_decide_eq_true (by first | (with_reducible assumption) | assumption); obtain ⟨ad419, A419_3, c419_3, e419, hx419_0, hx419_1, hx419_2, hx419_3, hl419_3, hi419_3⟩ := at_T29 HR0_3.out 0 p419 q419; cases e419; have qi419 : (0 < l0_3.length) = True := eq_true (by omega); (try rw [show ((0 : Int)).toNat = 0 from rfl] at hx419_0); (try rw [show 0 * 4 = 0 from rfl] at hx419_0); (try rw [Addr.add_zero'] at hx419_0); (try rw [show ((0 : Int)).toNat = 0 from rfl] at hx419_1); (try rw [show 0 * 4 = 0 from rfl] at hx419_1); (try rw [Addr.add_zero'] at hx419_1); (try rw [show ((0 : Int)).toNat = 0 from rfl] at hx419_2); (try rw [show 0 * 4 = 0 from rfl] at hx419_2); (try rw [Addr.add_zero'] at hx419_2); (try rw [show ((0 : Int)).toNat = 0 from rfl] at hx419_3); (try rw [show 0 * 4 = 0 from rfl] at hx419_3); (try rw [Addr.add_zero'] at hx419_3); replace hx419_0 := (HB.out.cell (World.block_lt_of_cell? w _ hx419_0)).trans hx419_0; replace hx419_1 := (HB.out.cell (World.block_lt_of_cell? w _ hx419_1)).trans hx419_1; replace hx419_2 := (HB.out.cell (World.block_lt_of_cell? w _ hx419_2)).trans hx419_2; replace hx419_3 := (HB.out.cell (World.block_lt_of_cell? w _ hx419_3)).trans hx419_3; have HR419_3 := A_ hi419_3; have HC419_3 := A_ hl419_3; clear hi419_3 hl419_3; replace p419 := eq_true p419; replace q419 := eq_true q419; have p420 : 0 ≤ (1 : Int) := (by omega); have q420 : 1 < (l0_3.length : Int) := of_decide_eq_true (by first | (with_reducible assumption) | assumption); obtain ⟨ad420, A420_3, c420_3, e420, hx420_0, hx420_1, hx420_2, hx420_3, hl420_3, hi420_3⟩ := at_T29 HR0_3.out 1 p420 q420; obtain rfl : ad419 = ad420 := (by injection e420); (try simp only [show (1 : Int).toNat = 1 from rfl, Nat.reduceMul, Nat.reduceEqDiff, Go.Addr.add, ↓reduceIte] at hx420_0); (try simp only [show (1 : Int).toNat = 1 from rfl, Nat.reduceMul, Nat.reduceEqDiff, Go.Addr.add, ↓reduceIte] at hx420_1); (try simp only [show (1 : Int).toNat = 1 from rfl, Nat.reduceMul, Nat.reduceEqDiff, Go.Addr.add, ↓reduceIte] at hx420_2); (try simp only [show (1 : Int).toNat = 1 from rfl, Nat.reduceMul, Nat.reduceEqDiff, Go.Addr.add, ↓reduceIte] at hx420_3); have qi420 : (1 < l0_3.length) = True := eq_true (by omega); (try rw [show ((1 : Int)).toNat = 1 from rfl] at hx420_0); (try rw [show 1 * 4 = 4 from rfl] at hx420_0); (try rw [show ((1 : Int)).toNat = 1 from rfl] at hx420_1); (try rw [show 1 * 4 = 4 from rfl] at hx420_1); (try rw [show ((1 : Int)).toNat = 1 from rfl] at hx420_2); (try rw [show 1 * 4 = 4 from rfl] at hx420_2); (try rw [show ((1 : Int)).toNat = 1 from rfl] at hx420_3); (try rw [show 1 * 4 = 4 from rfl] at hx420_3); replace hx420_0 := (HB.out.cell (World.block_lt_of_cell? w _ hx420_0)).trans hx420_0; replace hx420_1 := (HB.out.cell (World.block_lt_of_cell? w _ hx420_1)).trans hx420_1; replace hx420_2 := (HB.out.cell (World.block_lt_of_cell? w _ hx420_2)).trans hx420_2; replace hx420_3 := (HB.out.cell (World.block_lt_of_cell? w _ hx420_3)).trans hx420_3; have HR420_3 := A_ hi420_3; have HC420_3 := A_ hl420_3; clear hi420_3 hl420_3; replace p420 := eq_true p420; replace q420 := eq_true q420; have p421 : 0 ≤ (0 : Int) := (by omega); have q421 : 0 < (l0_3.length : Int) := of_decide_eq_true (by first | (with_reducible assumption) | assumption); obtain ⟨ad421, A421_3, c421_3, e421, hx421_0, hx421_1, hx421_2, hx421_3, hl421_3, hi421_3⟩ := at_T29 HR0_3.out 0 p421 q421; obtain rfl : ad419 = ad421 := (by injection e421); have qi421 : (0 < l0_3.length) = True := eq_true (by omega); (try rw [show ((0 : Int)).toNat = 0 from rfl] at hx421_0); (try rw [show 0 * 4 = 0 from rfl] at hx421_0); (try rw [Addr.add_zero'] at hx421_0); (try rw [show ((0 : Int)).toNat = 0 from rfl] at hx421_1); (try rw [show 0 * 4 = 0 from rfl] at hx421_1); (try rw [Addr.add_zero'] at hx421_1); (try rw [show ((0 : Int)).toNat = 0 from rfl] at hx421_2); (try rw [show 0 * 4 = 0 from rfl] at hx421_2); (try rw [Addr.add_zero'] at hx421_2); (try rw [show ((0 : Int)).toNat = 0 from rfl] at hx421_3); (try rw [show 0 * 4 = 0 from rfl] at hx421_3); (try rw [Addr.add_zero'] at hx421_3); replace hx421_0 := (HB.out.cell (World.block_lt_of_cell? w _ hx421_0)).trans hx421_0; replace hx421_1 := (HB.out.cell (World.block_lt_of_cell? w _ hx421_1)).trans hx421_1; replace hx421_2 := (HB.out.cell (World.block_lt_of_cell? w _ hx421_2)).trans hx421_2; replace hx421_3 := (HB.out.cell (World.block_lt_of_cell? w _ hx421_3)).trans hx421_3; have HR421_3 := A_ hi421_3; have HC421_3 := A_ hl421_3; clear hi421_3 hl421_3; replace p421 := eq_true p421; replace q421 := eq_true q421; have ea_ := Option.some.inj (hx419_3.symm.trans hx421_3); injection ea_ with ea_ en_ ec_; subst ea_; subst ec_; clear en_; have p422 : 0 ≤ (1 : Int) := (by omega); have q422 : 1 < (l0_3.length : Int) := of_decide_eq_true (by first | (with_reducible assumption) | assumption); obtain ⟨ad422, A422_3, c422_3, e422, hx422_0, hx422_1, hx422_2, hx422_3, hl422_3, hi422_3⟩ := at_T29 HR0_3.out 1 p422 q422; obtain rfl : ad419 = ad422 := (by injection e422); (try simp only [show (1 : Int).toNat = 1 from rfl, Nat.reduceMul, Nat.reduceEqDiff, Go.Addr.add, ↓reduceIte] at hx422_0); (try simp only [show (1 : Int).toNat = 1 from rfl, Nat.reduceMul, Nat.reduceEqDiff, Go.Addr.add, ↓reduceIte] at hx422_1); (try simp only [show (1 : Int).toNat = 1 from rfl, Nat.reduceMul, Nat.reduceEqDiff, Go.Addr.add, ↓reduceIte] at hx422_2); (try simp only [show (1 : Int).toNat = 1 from rfl, Nat.reduceMul, Nat.reduceEqDiff, Go.Addr.add, ↓reduceIte] at hx422_3); have qi422 : (1 < l0_3.length) = True := eq_true (by omega); (try rw [show ((1 : Int)).toNat = 1 from rfl] at hx422_0); (try rw [show 1 * 4 = 4 from rfl] at hx422_0); (try rw [show ((1 : Int)).toNat = 1 from rfl] at hx422_1); (try rw [show 1 * 4 = 4 from rfl] at hx422_1); (try rw [show ((1 : Int)).toNat = 1 from rfl] at hx422_2); (try rw [show 1 * 4 = 4 from rfl] at hx422_2); (try rw [show ((1 : Int)).toNat = 1 from rfl] at hx422_3); (try rw [show 1 * 4 = 4 from rfl] at hx422_3); replace hx422_0 := (HB.out.cell (World.block_lt_of_cell? w _ hx422_0)).trans hx422_0; replace hx422_1 := (HB.out.cell (World.block_lt_of_cell? w _ hx422_1)).trans hx422_1; replace hx422_2 := (HB.out.cell (World.block_lt_of_cell? w _ hx422_2)).trans hx422_2; replace hx422_3 := (HB.out.cell (World.block_lt_of_cell? w _ hx422_3)).trans hx422_3; have HR422_3 := A_ hi422_3; have HC422_3 := A_ hl422_3; clear hi422_3 hl422_3; replace p422 := eq_true p422; replace q422 := eq_true q422; have ea_ := Option.some.inj (hx420_3.symm.trans hx422_3); injection ea_ with ea_ en_ ec_; subst ea_; subst ec_; clear en_))
       repeat (go_quiet (first | ((with_reducible refine gate_dst (N := 1) rfl ?_); refine box_event ?hg (N := 1) ?hd (cs := #[.int .i64 a0_0, .int .i64 a0_1, .string a0_2, .slice A0_3 l0_3.length c0_3]) (t := 29) ?hr ?_; (case hd => rfl); (case hg => rfl); (case hr => first | (go_simp; done) | (go_simp; rfl)); intro gb418 hg w10 hbox hb; have n0_ := A_ (below_step (bw_ HB.out) hb); have n1_ := A_ (hbox); have n2_ := A_ ((by rw [hg]; exact (below_size (bw_ HB.out)) : w.heap.size ≤ gb418)); have n3_ := n2_; clear HB; have HB := n0_; have BK418 := n1_; have GW418 := n2_; have GE418 := n3_; have GI418 := GeI.mk GE418.out; clear n0_ n1_ n2_ n3_; clear hb hbox hg; have y11_0 : w10.cell? ⟨gb418, 0, none⟩ = some (.int .i64 a0_0) := (blk_cell BK418.out 0).trans rfl; have y11_1 : w10.cell? ⟨gb418, 1, none⟩ = some (.int .i64 a0_1) := (blk_cell BK418.out 1).trans rfl; have y11_2 : w10.cell? ⟨gb418, 2, none⟩ = some (.string a0_2) := (blk_cell BK418.out 2).trans rfl; have y11_3 : w10.cell? ⟨gb418, 3, none⟩ = some (.slice A0_3 l0_3.length c0_3) := (blk_cell BK418.out 3).trans rfl; have z11_0 := blk_frozen BK418.out 0; have z11_1 := blk_frozen BK418.out 1; have z11_2 := blk_frozen BK418.out 2; have z11_3 := blk_frozen BK418.out 3; have p419 : 0 ≤ (0 : Int) := (by omega); have q419 : 0 < (l0_3.length : Int) := of_decide_eq_true (by first | (with_reducible assumption) | assumption); obtain ⟨ad419, A419_3, c419_3, e419, hx419_0, hx419_1, hx419_2, hx419_3, hl419_3, hi419_3⟩ := at_T29 HR0_3.out 0 p419 q419; cases e419; have qi419 : (0 < l0_3.length) = True := eq_true (by omega); (try rw [show ((0 : Int)).toNat = 0 from rfl] at hx419_0); (try rw [show 0 * 4 = 0 from rfl] at hx419_0); (try rw [Addr.add_zero'] at hx419_0); (try rw [show ((0 : Int)).toNat = 0 from rfl] at hx419_1); (try rw [show 0 * 4 = 0 from rfl] at hx419_1); (try rw [Addr.add_zero'] at hx419_1); (try rw [show ((0 : Int)).toNat = 0 from rfl] at hx419_2); (try rw [show 0 * 4 = 0 from rfl] at hx419_2); (try rw [Addr.add_zero'] at hx419_2); (try rw [show ((0 : Int)).toNat = 0 from rfl] at hx419_3); (try rw [show 0 * 4 = 0 from rfl] at hx419_3); (try rw [Addr.add_zero'] at hx419_3); replace hx419_0 := (HB.out.cell (World.block_lt_of_cell? w _ hx419_0)).trans hx419_0; replace hx419_1 := (HB.out.cell (World.block_lt_of_cell? w _ hx419_1)).trans hx419_1; replace hx419_2 := (HB.out.cell (World.block_lt_of_cell? w _ hx419_2)).trans hx419_2; replace hx419_3 := (HB.out.cell (World.block_lt_of_cell? w _ hx419_3)).trans hx419_3; have HR419_3 := A_ hi419_3; have HC419_3 := A_ hl419_3; clear hi419_3 hl419_3; replace p419 := eq_true p419; replace q419 := eq_true q419; have p420 : 0 ≤ (1 : Int) := (by omega); have q420 : 1 < (l0_3.length : Int) := of_decide_eq_true (by first | (with_reducible assumption) | assumption); obtain ⟨ad420, A420_3, c420_3, e420, hx420_0, hx420_1, hx420_2, hx420_3, hl420_3, hi420_3⟩ := at_T29 HR0_3.out 1 p420 q420; obtain rfl : ad419 = ad420 := (by injection e420); (try simp only [show (1 : Int).toNat = 1 from rfl, Nat.reduceMul, Nat.reduceEqDiff, Go.Addr.add, ↓reduceIte] at hx420_0); (try simp only [show (1 : Int).toNat = 1 from rfl, Nat.reduceMul, Nat.reduceEqDiff, Go.Addr.add, ↓reduceIte] at hx420_1); (try simp only [show (1 : Int).toNat = 1 from rfl, Nat.reduceMul, Nat.reduceEqDiff, Go.Addr.add, ↓reduceIte] at hx420_2); (try simp only [show (1 : Int).toNat = 1 from rfl, Nat.reduceMul, Nat.reduceEqDiff, Go.Addr.add, ↓reduceIte] at hx420_3); have qi420 : (1 < l0_3.length) = True := eq_true (by omega); (try rw [show ((1 : Int)).toNat = 1 from rfl] at hx420_0); (try rw [show 1 * 4 = 4 from rfl] at hx420_0); (try rw [show ((1 : Int)).toNat = 1 from rfl] at hx420_1); (try rw [show 1 * 4 = 4 from rfl] at hx420_1); (try rw [show ((1 : Int)).toNat = 1 from rfl] at hx420_2); (try rw [show 1 * 4 = 4 from rfl] at hx420_2); (try rw [show ((1 : Int)).toNat = 1 from rfl] at hx420_3); (try rw [show 1 * 4 = 4 from rfl] at hx420_3); replace hx420_0 := (HB.out.cell (World.block_lt_of_cell? w _ hx420_0)).trans hx420_0; replace hx420_1 := (HB.out.cell (World.block_lt_of_cell? w _ hx420_1)).trans hx420_1; replace hx420_2 := (HB.out.cell (World.block_lt_of_cell? w _ hx420_2)).trans hx420_2; replace hx420_3 := (HB.out.cell (World.block_lt_of_cell? w _ hx420_3)).trans hx420_3; have HR420_3 := A_ hi420_3; have HC420_3 := A_ hl420_3; clear hi420_3 hl420_3; replace p420 := eq_true p420; replace q420 := eq_true q420; have p421 : 0 ≤ (0 : Int) := (by omega); have q421 : 0 < (l0_3.length : Int) := of_decide_eq_true (by first | (with_reducible assumption) | assumption); obtain ⟨ad421, A421_3, c421_3, e421, hx421_0, hx421_1, hx421_2, hx421_3, hl421_3, hi421_3⟩ := at_T29 HR0_3.out 0 p421 q421; obtain rfl : ad419 = ad421 := (by injection e421); have qi421 : (0 < l0_3.length) = True := eq_true (by omega); (try rw [show ((0 : Int)).toNat = 0 from rfl] at hx421_0); (try rw [show 0 * 4 = 0 from rfl] at hx421_0); (try rw [Addr.add_zero'] at hx421_0); (try rw [show ((0 : Int)).toNat = 0 from rfl] at hx421_1); (try rw [show 0 * 4 = 0 from rfl] at hx421_1); (try rw [Addr.add_zero'] at hx421_1); (try rw [show ((0 : Int)).toNat = 0 from rfl] at hx421_2); (try rw [show 0 * 4 = 0 from rfl] at hx421_2); (try rw [Addr.add_zero'] at hx421_2); (try rw [show ((0 : Int)).toNat = 0 from rfl] at hx421_3); (try rw [show 0 * 4 = 0 from rfl] at hx421_3); (try rw [Addr.add_zero'] at hx421_3); replace hx421_0 := (HB.out.cell (World.block_lt_of_cell? w _ hx421_0)).trans hx421_0; replace hx421_1 := (HB.out.cell (World.block_lt_of_cell? w _ hx421_1)).trans hx421_1; replace hx421_2 := (HB.out.cell (World.block_lt_of_cell? w _ hx421_2)).trans hx421_2; replace hx421_3 := (HB.out.cell (World.block_lt_of_cell? w _ hx421_3)).trans hx421_3; have HR421_3 := A_ hi421_3; have HC421_3 := A_ hl421_3; clear hi421_3 hl421_3; replace p421 := eq_true p421; replace q421 := eq_true q421; have ea_ := Option.some.inj (hx419_3.symm.trans hx421_3); injection ea_ with ea_ en_ ec_; subst ea_; subst ec_; clear en_; have p422 : 0 ≤ (1 : Int) := (by omega); have q422 : 1 < (l0_3.length : Int) := of_decide_eq_true (by first | (with_reducible assumption) | assumption); obtain ⟨ad422, A422_3, c422_3, e422, hx422_0, hx422_1, hx422_2, hx422_3, hl422_3, hi422_3⟩ := at_T29 HR0_3.out 1 p422 q422; obtain rfl : ad419 = ad422 := (by injection e422); (try simp only [show (1 : Int).toNat = 1 from rfl, Nat.reduceMul, Nat.reduceEqDiff, Go.Addr.add, ↓reduceIte] at hx422_0); (try simp only [show (1 : Int).toNat = 1 from rfl, Nat.reduceMul, Nat.reduceEqDiff, Go.Addr.add, ↓reduceIte] at hx422_1); (try simp only [show (1 : Int).toNat = 1 from rfl, Nat.reduceMul, Nat.reduceEqDiff, Go.Addr.add, ↓reduceIte] at hx422_2); (try simp only [show (1 : Int).toNat = 1 from rfl, Nat.reduceMul, Nat.reduceEqDiff, Go.Addr.add, ↓reduceIte] at hx422_3); have qi422 : (1 < l0_3.length) = True := eq_true (by omega); (try rw [show ((1 : Int)).toNat = 1 from rfl] at hx422_0); (try rw [show 1 * 4 = 4 from rfl] at hx422_0); (try rw [show ((1 : Int)).toNat = 1 from rfl] at hx422_1); (try rw [show 1 * 4 = 4 from rfl] at hx422_1); (try rw [show ((1 : Int)).toNat = 1 from rfl] at hx422_2); (try rw [show 1 * 4 = 4 from rfl] at hx422_2); (try rw [show ((1 : Int)).toNat = 1 from rfl] at hx422_3); (try rw [show 1 * 4 = 4 from rfl] at hx422_3); replace hx422_0 := (HB.out.cell (World.block_lt_of_cell? w _ hx422_0)).trans hx422_0; replace hx422_1 := (HB.out.cell (World.block_lt_of_cell? w _ hx422_1)).trans hx422_1; replace hx422_2 := (HB.out.cell (World.block_lt_of_cell? w _ hx422_2)).trans hx422_2; replace hx422_3 := (HB.out.cell (World.block_lt_of_cell? w _ hx422_3)).trans hx422_3; have HR422_3 := A_ hi422_3; have HC422_3 := A_ hl422_3; clear hi422_3 hl422_3; replace p422 := eq_true p422; replace q422 := eq_true q422; have ea_ := Option.some.inj (hx420_3.symm.trans hx422_3); injection ea_ with ea_ en_ ec_; subst ea_; subst ec_; clear en_)); try go_wp2_with (first | ((with_reducible refine gate_dst (N := 1) rfl ?_); refine box_event ?hg (N := 1) ?hd (cs := #[.int .i64 a0_0, .int .i64 a0_1, .string a0_2, .slice A0_3 l0_3.length c0_3]) (t := 29) ?hr ?_; (case hd => rfl); (case hg => rfl); (case hr => first | (go_simp; done) | (go_simp; rfl)); intro gb418 hg w10 hbox hb; have n0_ := A_ (below_step (bw_ HB.out) hb); have n1_ := A_ (hbox); have n2_ := A_ ((by rw [hg]; exact (below_size (bw_ HB.out)) : w.heap.size ≤ gb418)); have n3_ := n2_; clear HB; have HB := n0_; have BK418 := n1_; have GW418 := n2_; have GE418 := n3_; have GI418 := GeI.mk GE418.out; clear n0_ n1_ n2_ n3_; clear hb hbox hg; have y11_0 : w10.cell? ⟨gb418, 0, none⟩ = some (.int .i64 a0_0) := (blk_cell BK418.out 0).trans rfl; have y11_1 : w10.cell? ⟨gb418, 1, none⟩ = some (.int .i64 a0_1) := (blk_cell BK418.out 1).trans rfl; have y11_2 : w10.cell? ⟨gb418, 2, none⟩ = some (.string a0_2) := (blk_cell BK418.out 2).trans rfl; have y11_3 : w10.cell? ⟨gb418, 3, none⟩ = some (.slice A0_3 l0_3.length c0_3) := (blk_cell BK418.out 3).trans rfl; have z11_0 := blk_frozen BK418.out 0; have z11_1 := blk_frozen BK418.out 1; have z11_2 := blk_frozen BK418.out 2; have z11_3 := blk_frozen BK418.out 3; have p419 : 0 ≤ (0 : Int) := (by omega); have q419 : 0 < (l0_3.length : Int) := of_decide_eq_true (by first | (with_reducible assumption) | assumption); obtain ⟨ad419, A419_3, c419_3, e419, hx419_0, hx419_1, hx419_2, hx419_3, hl419_3, hi419_3⟩ := at_T29 HR0_3.out 0 p419 q419; cases e419; have qi419 : (0 < l0_3.length) = True := eq_true (by omega); (try rw [show ((0 : Int)).toNat = 0 from rfl] at hx419_0); (try rw [show 0 * 4 = 0 from rfl] at hx419_0); (try rw [Addr.add_zero'] at hx419_0); (try rw [show ((0 : Int)).toNat = 0 from rfl] at hx419_1); (try rw [show 0 * 4 = 0 from rfl] at hx419_1); (try rw [Addr.add_zero'] at hx419_1); (try rw [show ((0 : Int)).toNat = 0 from rfl] at hx419_2); (try rw [show 0 * 4 = 0 from rfl] at hx419_2); (try rw [Addr.add_zero'] at hx419_2); (try rw [show ((0 : Int)).toNat = 0 from rfl] at hx419_3); (try rw [show 0 * 4 = 0 from rfl] at hx419_3); (try rw [Addr.add_zero'] at hx419_3); replace hx419_0 := (HB.out.cell (World.block_lt_of_cell? w _ hx419_0)).trans hx419_0; replace hx419_1 := (HB.out.cell (World.block_lt_of_cell? w _ hx419_1)).trans hx419_1; replace hx419_2 := (HB.out.cell (World.block_lt_of_cell? w _ hx419_2)).trans hx419_2; replace hx419_3 := (HB.out.cell (World.block_lt_of_cell? w _ hx419_3)).trans hx419_3; have HR419_3 := A_ hi419_3; have HC419_3 := A_ hl419_3; clear hi419_3 hl419_3; replace p419 := eq_true p419; replace q419 := eq_true q419; have p420 : 0 ≤ (1 : Int) := (by omega); have q420 : 1 < (l0_3.length : Int) := of_decide_eq_true (by first | (with_reducible assumption) | assumption); obtain ⟨ad420, A420_3, c420_3, e420, hx420_0, hx420_1, hx420_2, hx420_3, hl420_3, hi420_3⟩ := at_T29 HR0_3.out 1 p420 q420; obtain rfl : ad419 = ad420 := (by injection e420); (try simp only [show (1 : Int).toNat = 1 from rfl, Nat.reduceMul, Nat.reduceEqDiff, Go.Addr.add, ↓reduceIte] at hx420_0); (try simp only [show (1 : Int).toNat = 1 from rfl, Nat.reduceMul, Nat.reduceEqDiff, Go.Addr.add, ↓reduceIte] at hx420_1); (try simp only [show (1 : Int).toNat = 1 from rfl, Nat.reduceMul, Nat.reduceEqDiff, Go.Addr.add, ↓reduceIte] at hx420_2); (try simp only [show (1 : Int).toNat = 1 from rfl, Nat.reduceMul, Nat.reduceEqDiff, Go.Addr.add, ↓reduceIte] at hx420_3); have qi420 : (1 < l0_3.length) = True := eq_true (by omega); (try rw [show ((1 : Int)).toNat = 1 from rfl] at hx420_0); (try rw [show 1 * 4 = 4 from rfl] at hx420_0); (try rw [show ((1 : Int)).toNat = 1 from rfl] at hx420_1); (try rw [show 1 * 4 = 4 from rfl] at hx420_1); (try rw [show ((1 : Int)).toNat = 1 from rfl] at hx420_2); (try rw [show 1 * 4 = 4 from rfl] at hx420_2); (try rw [show ((1 : Int)).toNat = 1 from rfl] at hx420_3); (try rw [show 1 * 4 = 4 from rfl] at hx420_3); replace hx420_0 := (HB.out.cell (World.block_lt_of_cell? w _ hx420_0)).trans hx420_0; replace hx420_1 := (HB.out.cell (World.block_lt_of_cell? w _ hx420_1)).trans hx420_1; replace hx420_2 := (HB.out.cell (World.block_lt_of_cell? w _ hx420_2)).trans hx420_2; replace hx420_3 := (HB.out.cell (World.block_lt_of_cell? w _ hx420_3)).trans hx420_3; have HR420_3 := A_ hi420_3; have HC420_3 := A_ hl420_3; clear hi420_3 hl420_3; replace p420 := eq_true p420; replace q420 := eq_true q420; have p421 : 0 ≤ (0 : Int) := (by omega); have q421 : 0 < (l0_3.length : Int) := of_decide_eq_true (by first | (with_reducible assumption) | assumption); obtain ⟨ad421, A421_3, c421_3, e421, hx421_0, hx421_1, hx421_2, hx421_3, hl421_3, hi421_3⟩ := at_T29 HR0_3.out 0 p421 q421; obtain rfl : ad419 = ad421 := (by injection e421); have qi421 : (0 < l0_3.length) = True := eq_true (by omega); (try rw [show ((0 : Int)).toNat = 0 from rfl] at hx421_0); (try rw [show 0 * 4 = 0 from rfl] at hx421_0); (try rw [Addr.add_zero'] at hx421_0); (try rw [show ((0 : Int)).toNat = 0 from rfl] at hx421_1); (try rw [show 0 * 4 = 0 from rfl] at hx421_1); (try rw [Addr.add_zero'] at hx421_1); (try rw [show ((0 : Int)).toNat = 0 from rfl] at hx421_2); (try rw [show 0 * 4 = 0 from rfl] at hx421_2); (try rw [Addr.add_zero'] at hx421_2); (try rw [show ((0 : Int)).toNat = 0 from rfl] at hx421_3); (try rw [show 0 * 4 = 0 from rfl] at hx421_3); (try rw [Addr.add_zero'] at hx421_3); replace hx421_0 := (HB.out.cell (World.block_lt_of_cell? w _ hx421_0)).trans hx421_0; replace hx421_1 := (HB.out.cell (World.block_lt_of_cell? w _ hx421_1)).trans hx421_1; replace hx421_2 := (HB.out.cell (World.block_lt_of_cell? w _ hx421_2)).trans hx421_2; replace hx421_3 := (HB.out.cell (World.block_lt_of_cell? w _ hx421_3)).trans hx421_3; have HR421_3 := A_ hi421_3; have HC421_3 := A_ hl421_3; clear hi421_3 hl421_3; replace p421 := eq_true p421; replace q421 := eq_true q421; have ea_ := Option.some.inj (hx419_3.symm.trans hx421_3); injection ea_ with ea_ en_ ec_; subst ea_; subst ec_; clear en_; have p422 : 0 ≤ (1 : Int) := (by omega); have q422 : 1 < (l0_3.length : Int) := of_decide_eq_true (by first | (with_reducible assumption) | assumption); obtain ⟨ad422, A422_3, c422_3, e422, hx422_0, hx422_1, hx422_2, hx422_3, hl422_3, hi422_3⟩ := at_T29 HR0_3.out 1 p422 q422; obtain rfl : ad419 = ad422 := (by injection e422); (try simp only [show (1 : Int).toNat = 1 from rfl, Nat.reduceMul, Nat.reduceEqDiff, Go.Addr.add, ↓reduceIte] at hx422_0); (try simp only [show (1 : Int).toNat = 1 from rfl, Nat.reduceMul, Nat.reduceEqDiff, Go.Addr.add, ↓reduceIte] at hx422_1); (try simp only [show (1 : Int).toNat = 1 from rfl, Nat.reduceMul, Nat.reduceEqDiff, Go.Addr.add, ↓reduceIte] at hx422_2); (try simp only [show (1 : Int).toNat = 1 from rfl, Nat.reduceMul, Nat.reduceEqDiff, Go.Addr.add, ↓reduceIte] at hx422_3); have qi422 : (1 < l0_3.length) = True := eq_true (by omega); (try rw [show ((1 : Int)).toNat = 1 from rfl] at hx422_0); (try rw [show 1 * 4 = 4 from rfl] at hx422_0); (try rw [show ((1 : Int)).toNat = 1 from rfl] at hx422_1); (try rw [show 1 * 4 = 4 from rfl] at hx422_1); (try rw [show ((1 : Int)).toNat = 1 from rfl] at hx422_2); (try rw [show 1 * 4 = 4 from rfl] at hx422_2); (try rw [show ((1 : Int)).toNat = 1 from rfl] at hx422_3); (try rw [show 1 * 4 = 4 from rfl] at hx422_3); replace hx422_0 := (HB.out.cell (World.block_lt_of_cell? w _ hx422_0)).trans hx422_0; replace hx422_1 := (HB.out.cell (World.block_lt_of_cell? w _ hx422_1)).trans hx422_1; replace hx422_2 := (HB.out.cell (World.block_lt_of_cell? w _ hx422_2)).trans hx422_2; replace hx422_3 := (HB.out.cell (World.block_lt_of_cell? w _ hx422_3)).trans hx422_3; have HR422_3 := A_ hi422_3; have HC422_3 := A_ hl422_3; clear hi422_3 hl422_3; replace p422 := eq_true p422; replace q422 := eq_true q422; have ea_ := Option.some.inj (hx420_3.symm.trans hx422_3); injection ea_ with ea_ en_ ec_; subst ea_; subst ec_; clear en_)))
       go_ret3
       exact rt_ (bw_ HB.out)
      ·rw [if_neg c9] at H
       have c9b0 := beq_eq_false_iff_ne.mpr c9
       have c9b1 := bne_iff_ne.mpr c9
       simp only [Option.some.injEq, Prod.mk.injEq] at H
       obtain ⟨rfl, rfl, rfl⟩ := H
       go_enter Try.func94, Try.ntmps94
       go_wp2_with (first | ((with_reducible refine gate_dst (N := 1) rfl ?_); refine box_event ?hg (N := 1) ?hd (cs := #[.int .i64 a0_0, .int .i64 a0_1, .string a0_2, .slice A0_3 l0_3.length c0_3]) (t := 29) ?hr ?_; (case hd => rfl); (case hg => rfl); (case hr => first | (go_simp; done) | (go_simp; rfl)); intro gb418 hg w12 hbox hb; have n0_ := A_ (below_step (bw_ HB.out) hb); have n1_ := A_ (hbox); have n2_ := A_ ((by rw [hg]; exact (below_size (bw_ HB.out)) : w.heap.size ≤ gb418)); have n3_ := n2_; clear HB; have HB := n0_; have BK418 := n1_; have GW418 := n2_; have GE418 := n3_; have GI418 := GeI.mk GE418.out; clear n0_ n1_ n2_ n3_; clear hb hbox hg; have y13_0 : w12.cell? ⟨gb418, 0, none⟩ = some (.int .i64 a0_0) := (blk_cell BK418.out 0).trans rfl; have y13_1 : w12.cell? ⟨gb418, 1, none⟩ = some (.int .i64 a0_1) := (blk_cell BK418.out 1).trans rfl; have y13_2 : w12.cell? ⟨gb418, 2, none⟩ = some (.string a0_2) := (blk_cell BK418.out 2).trans rfl; have y13_3 : w12.cell? ⟨gb418, 3, none⟩ = some (.slice A0_3 l0_3.length c0_3) := (blk_cell BK418.out 3).trans rfl; have z13_0 := blk_frozen BK418.out 0; have z13_1 := blk_frozen BK418.out 1; have z13_2 := blk_frozen BK418.out 2; have z13_3 := blk_frozen BK418.out 3; have p419 : 0 ≤ (0 : Int) := (by omega); have q419 : 0 < (l0_3.length : Int) := of_decide_eq_true (by first | (with_reducible assumption) | assumption); obtain ⟨ad419, A419_3, c419_3, e419, hx419_0, hx419_1, hx419_2, hx419_3, hl419_3, hi419_3⟩ := at_T29 HR0_3.out 0 p419 q419; cases e419; have qi419 : (0 < l0_3.length) = True := eq_true (by omega); (try rw [show ((0 : Int)).toNat = 0 from rfl] at hx419_0); (try rw [show 0 * 4 = 0 from rfl] at hx419_0); (try rw [Addr.add_zero'] at hx419_0); (try rw [show ((0 : Int)).toNat = 0 from rfl] at hx419_1); (try rw [show 0 * 4 = 0 from rfl] at hx419_1); (try rw [Addr.add_zero'] at hx419_1); (try rw [show ((0 : Int)).toNat = 0 from rfl] at hx419_2); (try rw [show 0 * 4 = 0 from rfl] at hx419_2); (try rw [Addr.add_zero'] at hx419_2); (try rw [show ((0 : Int)).toNat = 0 from rfl] at hx419_3); (try rw [show 0 * 4 = 0 from rfl] at hx419_3); (try rw [Addr.add_zero'] at hx419_3); replace hx419_0 := (HB.out.cell (World.block_lt_of_cell? w _ hx419_0)).trans hx419_0; replace hx419_1 := (HB.out.cell (World.block_lt_of_cell? w _ hx419_1)).trans hx419_1; replace hx419_2 := (HB.out.cell (World.block_lt_of_cell? w _ hx419_2)).trans hx419_2; replace hx419_3 := (HB.out.cell (World.block_lt_of_cell? w _ hx419_3)).trans hx419_3; have HR419_3 := A_ hi419_3; have HC419_3 := A_ hl419_3; clear hi419_3 hl419_3; replace p419 := eq_true p419; replace q419 := eq_true q419; have p420 : 0 ≤ (1 : Int) := (by omega); have q420 : 1 < (l0_3.length : Int) := of_decide_eq_true (by first | (with_reducible assumption) | assumption); obtain ⟨ad420, A420_3, c420_3, e420, hx420_0, hx420_1, hx420_2, hx420_3, hl420_3, hi420_3⟩ := at_T29 HR0_3.out 1 p420 q420; obtain rfl : ad419 = ad420 := (by injection e420); (try simp only [show (1 : Int).toNat = 1 from rfl, Nat.reduceMul, Nat.reduceEqDiff, Go.Addr.add, ↓reduceIte] at hx420_0); (try simp only [show (1 : Int).toNat = 1 from rfl, Nat.reduceMul, Nat.reduceEqDiff, Go.Addr.add, ↓reduceIte] at hx420_1); (try simp only [show (1 : Int).toNat = 1 from rfl, Nat.reduceMul, Nat.reduceEqDiff, Go.Addr.add, ↓reduceIte] at hx420_2); (try simp only [show (1 : Int).toNat = 1 from rfl, Nat.reduceMul, Nat.reduceEqDiff, Go.Addr.add, ↓reduceIte] at hx420_3); have qi420 : (1 < l0_3.length) = True := eq_true (by omega); (try rw [show ((1 : Int)).toNat = 1 from rfl] at hx420_0); (try rw [show 1 * 4 = 4 from rfl] at hx420_0); (try rw [show ((1 : Int)).toNat = 1 from rfl] at hx420_1); (try rw [show 1 * 4 = 4 from rfl] at hx420_1); (try rw [show ((1 : Int)).toNat = 1 from rfl] at hx420_2); (try rw [show 1 * 4 = 4 from rfl] at hx420_2); (try rw [show ((1 : Int)).toNat = 1 from rfl] at hx420_3); (try rw [show 1 * 4 = 4 from rfl] at hx420_3); replace hx420_0 := (HB.out.cell (World.block_lt_of_cell? w _ hx420_0)).trans hx420_0; replace hx420_1 := (HB.out.cell (World.block_lt_of_cell? w _ hx420_1)).trans hx420_1; replace hx420_2 := (HB.out.cell (World.block_lt_of_cell? w _ hx420_2)).trans hx420_2; replace hx420_3 := (HB.out.cell (World.block_lt_of_cell? w _ hx420_3)).trans hx420_3; have HR420_3 := A_ hi420_3; have HC420_3 := A_ hl420_3; clear hi420_3 hl420_3; replace p420 := eq_true p420; replace q420 := eq_true q420))
       repeat (go_quiet (first | ((with_reducible refine gate_dst (N := 1) rfl ?_); refine box_event ?hg (N := 1) ?hd (cs := #[.int .i64 a0_0, .int .i64 a0_1, .string a0_2, .slice A0_3 l0_3.length c0_3]) (t := 29) ?hr ?_; (case hd => rfl); (case hg => rfl); (case hr => first | (go_simp; done) | (go_simp; rfl)); intro gb418 hg w12 hbox hb; have n0_ := A_ (below_step (bw_ HB.out) hb); have n1_ := A_ (hbox); have n2_ := A_ ((by rw [hg]; exact (below_size (bw_ HB.out)) : w.heap.size ≤ gb418)); have n3_ := n2_; clear HB; have HB := n0_; have BK418 := n1_; have GW418 := n2_; have GE418 := n3_; have GI418 := GeI.mk GE418.out; clear n0_ n1_ n2_ n3_; clear hb hbox hg; have y13_0 : w12.cell? ⟨gb418, 0, none⟩ = some (.int .i64 a0_0) := (blk_cell BK418.out 0).trans rfl; have y13_1 : w12.cell? ⟨gb418, 1, none⟩ = some (.int .i64 a0_1) := (blk_cell BK418.out 1).trans rfl; have y13_2 : w12.cell? ⟨gb418, 2, none⟩ = some (.string a0_2) := (blk_cell BK418.out 2).trans rfl; have y13_3 : w12.cell? ⟨gb418, 3, none⟩ = some (.slice A0_3 l0_3.length c0_3) := (blk_cell BK418.out 3).trans rfl; have z13_0 := blk_frozen BK418.out 0; have z13_1 := blk_frozen BK418.out 1; have z13_2 := blk_frozen BK418.out 2; have z13_3 := blk_frozen BK418.out 3; have p419 : 0 ≤ (0 : Int) := (by omega); have q419 : 0 < (l0_3.length : Int) := of_decide_eq_true (by first | (with_reducible assumption) | assumption); obtain ⟨ad419, A419_3, c419_3, e419, hx419_0, hx419_1, hx419_2, hx419_3, hl419_3, hi419_3⟩ := at_T29 HR0_3.out 0 p419 q419; cases e419; have qi419 : (0 < l0_3.length) = True := eq_true (by omega); (try rw [show ((0 : Int)).toNat = 0 from rfl] at hx419_0); (try rw [show 0 * 4 = 0 from rfl] at hx419_0); (try rw [Addr.add_zero'] at hx419_0); (try rw [show ((0 : Int)).toNat = 0 from rfl] at hx419_1); (try rw [show 0 * 4 = 0 from rfl] at hx419_1); (try rw [Addr.add_zero'] at hx419_1); (try rw [show ((0 : Int)).toNat = 0 from rfl] at hx419_2); (try rw [show 0 * 4 = 0 from rfl] at hx419_2); (try rw [Addr.add_zero'] at hx419_2); (try rw [show ((0 : Int)).toNat = 0 from rfl] at hx419_3); (try rw [show 0 * 4 = 0 from rfl] at hx419_3); (try rw [Addr.add_zero'] at hx419_3); replace hx419_0 := (HB.out.cell (World.block_lt_of_cell? w _ hx419_0)).trans hx419_0; replace hx419_1 := (HB.out.cell (World.block_lt_of_cell? w _ hx419_1)).trans hx419_1; replace hx419_2 := (HB.out.cell (World.block_lt_of_cell? w _ hx419_2)).trans hx419_2; replace hx419_3 := (HB.out.cell (World.block_lt_of_cell? w _ hx419_3)).trans hx419_3; have HR419_3 := A_ hi419_3; have HC419_3 := A_ hl419_3; clear hi419_3 hl419_3; replace p419 := eq_true p419; replace q419 := eq_true q419; have p420 : 0 ≤ (1 : Int) := (by omega); have q420 : 1 < (l0_3.length : Int) := of_decide_eq_true (by first | (with_reducible assumption) | assumption); obtain ⟨ad420, A420_3, c420_3, e420, hx420_0, hx420_1, hx420_2, hx420_3, hl420_3, hi420_3⟩ := at_T29 HR0_3.out 1 p420 q420; obtain rfl : ad419 = ad420 := (by injection e420); (try simp only [show (1 : Int).toNat = 1 from rfl, Nat.reduceMul, Nat.reduceEqDiff, Go.Addr.add, ↓reduceIte] at hx420_0); (try simp only [show (1 : Int).toNat = 1 from rfl, Nat.reduceMul, Nat.reduceEqDiff, Go.Addr.add, ↓reduceIte] at hx420_1); (try simp only [show (1 : Int).toNat = 1 from rfl, Nat.reduceMul, Nat.reduceEqDiff, Go.Addr.add, ↓reduceIte] at hx420_2); (try simp only [show (1 : Int).toNat = 1 from rfl, Nat.reduceMul, Nat.reduceEqDiff, Go.Addr.add, ↓reduceIte] at hx420_3); have qi420 : (1 < l0_3.length) = True := eq_true (by omega); (try rw [show ((1 : Int)).toNat = 1 from rfl] at hx420_0); (try rw [show 1 * 4 = 4 from rfl] at hx420_0); (try rw [show ((1 : Int)).toNat = 1 from rfl] at hx420_1); (try rw [show 1 * 4 = 4 from rfl] at hx420_1); (try rw [show ((1 : Int)).toNat = 1 from rfl] at hx420_2); (try rw [show 1 * 4 = 4 from rfl] at hx420_2); (try rw [show ((1 : Int)).toNat = 1 from rfl] at hx420_3); (try rw [show 1 * 4 = 4 from rfl] at hx420_3); replace hx420_0 := (HB.out.cell (World.block_lt_of_cell? w _ hx420_0)).trans hx420_0; replace hx420_1 := (HB.out.cell (World.block_lt_of_cell? w _ hx420_1)).trans hx420_1; replace hx420_2 := (HB.out.cell (World.block_lt_of_cell? w _ hx420_2)).trans hx420_2; replace hx420_3 := (HB.out.cell (World.block_lt_of_cell? w _ hx420_3)).trans hx420_3; have HR420_3 := A_ hi420_3; have HC420_3 := A_ hl420_3; clear hi420_3 hl420_3; replace p420 := eq_true p420; replace q420 := eq_true q420)); try go_wp2_with (first | ((with_reducible refine gate_dst (N := 1) rfl ?_); refine box_event ?hg (N := 1) ?hd (cs := #[.int .i64 a0_0, .int .i64 a0_1, .string a0_2, .slice A0_3 l0_3.length c0_3]) (t := 29) ?hr ?_; (case hd => rfl); (case hg => rfl); (case hr => first | (go_simp; done) | (go_simp; rfl)); intro gb418 hg w12 hbox hb; have n0_ := A_ (below_step (bw_ HB.out) hb); have n1_ := A_ (hbox); have n2_ := A_ ((by rw [hg]; exact (below_size (bw_ HB.out)) : w.heap.size ≤ gb418)); have n3_ := n2_; clear HB; have HB := n0_; have BK418 := n1_; have GW418 := n2_; have GE418 := n3_; have GI418 := GeI.mk GE418.out; clear n0_ n1_ n2_ n3_; clear hb hbox hg; have y13_0 : w12.cell? ⟨gb418, 0, none⟩ = some (.int .i64 a0_0) := (blk_cell BK418.out 0).trans rfl; have y13_1 : w12.cell? ⟨gb418, 1, none⟩ = some (.int .i64 a0_1) := (blk_cell BK418.out 1).trans rfl; have y13_2 : w12.cell? ⟨gb418, 2, none⟩ = some (.string a0_2) := (blk_cell BK418.out 2).trans rfl; have y13_3 : w12.cell? ⟨gb418, 3, none⟩ = some (.slice A0_3 l0_3.length c0_3) := (blk_cell BK418.out 3).trans rfl; have z13_0 := blk_frozen BK418.out 0; have z13_1 := blk_frozen BK418.out 1; have z13_2 := blk_frozen BK418.out 2; have z13_3 := blk_frozen BK418.out 3; have p419 : 0 ≤ (0 : Int) := (by omega); have q419 : 0 < (l0_3.length : Int) := of_decide_eq_true (by first | (with_reducible assumption) | assumption); obtain ⟨ad419, A419_3, c419_3, e419, hx419_0, hx419_1, hx419_2, hx419_3, hl419_3, hi419_3⟩ := at_T29 HR0_3.out 0 p419 q419; cases e419; have qi419 : (0 < l0_3.length) = True := eq_true (by omega); (try rw [show ((0 : Int)).toNat = 0 from rfl] at hx419_0); (try rw [show 0 * 4 = 0 from rfl] at hx419_0); (try rw [Addr.add_zero'] at hx419_0); (try rw [show ((0 : Int)).toNat = 0 from rfl] at hx419_1); (try rw [show 0 * 4 = 0 from rfl] at hx419_1); (try rw [Addr.add_zero'] at hx419_1); (try rw [show ((0 : Int)).toNat = 0 from rfl] at hx419_2); (try rw [show 0 * 4 = 0 from rfl] at hx419_2); (try rw [Addr.add_zero'] at hx419_2); (try rw [show ((0 : Int)).toNat = 0 from rfl] at hx419_3); (try rw [show 0 * 4 = 0 from rfl] at hx419_3); (try rw [Addr.add_zero'] at hx419_3); replace hx419_0 := (HB.out.cell (World.block_lt_of_cell? w _ hx419_0)).trans hx419_0; replace hx419_1 := (HB.out.cell (World.block_lt_of_cell? w _ hx419_1)).trans hx419_1; replace hx419_2 := (HB.out.cell (World.block_lt_of_cell? w _ hx419_2)).trans hx419_2; replace hx419_3 := (HB.out.cell (World.block_lt_of_cell? w _ hx419_3)).trans hx419_3; have HR419_3 := A_ hi419_3; have HC419_3 := A_ hl419_3; clear hi419_3 hl419_3; replace p419 := eq_true p419; replace q419 := eq_true q419; have p420 : 0 ≤ (1 : Int) := (by omega); have q420 : 1 < (l0_3.length : Int) := of_decide_eq_true (by first | (with_reducible assumption) | assumption); obtain ⟨ad420, A420_3, c420_3, e420, hx420_0, hx420_1, hx420_2, hx420_3, hl420_3, hi420_3⟩ := at_T29 HR0_3.out 1 p420 q420; obtain rfl : ad419 = ad420 := (by injection e420); (try simp only [show (1 : Int).toNat = 1 from rfl, Nat.reduceMul, Nat.reduceEqDiff, Go.Addr.add, ↓reduceIte] at hx420_0); (try simp only [show (1 : Int).toNat = 1 from rfl, Nat.reduceMul, Nat.reduceEqDiff, Go.Addr.add, ↓reduceIte] at hx420_1); (try simp only [show (1 : Int).toNat = 1 from rfl, Nat.reduceMul, Nat.reduceEqDiff, Go.Addr.add, ↓reduceIte] at hx420_2); (try simp only [show (1 : Int).toNat = 1 from rfl, Nat.reduceMul, Nat.reduceEqDiff, Go.Addr.add, ↓reduceIte] at hx420_3); have qi420 : (1 < l0_3.length) = True := eq_true (by omega); (try rw [show ((1 : Int)).toNat = 1 from rfl] at hx420_0); (try rw [show 1 * 4 = 4 from rfl] at hx420_0); (try rw [show ((1 : Int)).toNat = 1 from rfl] at hx420_1); (try rw [show 1 * 4 = 4 from rfl] at hx420_1); (try rw [show ((1 : Int)).toNat = 1 from rfl] at hx420_2); (try rw [show 1 * 4 = 4 from rfl] at hx420_2); (try rw [show ((1 : Int)).toNat = 1 from rfl] at hx420_3); (try rw [show 1 * 4 = 4 from rfl] at hx420_3); replace hx420_0 := (HB.out.cell (World.block_lt_of_cell? w _ hx420_0)).trans hx420_0; replace hx420_1 := (HB.out.cell (World.block_lt_of_cell? w _ hx420_1)).trans hx420_1; replace hx420_2 := (HB.out.cell (World.block_lt_of_cell? w _ hx420_2)).trans hx420_2; replace hx420_3 := (HB.out.cell (World.block_lt_of_cell? w _ hx420_3)).trans hx420_3; have HR420_3 := A_ hi420_3; have HC420_3 := A_ hl420_3; clear hi420_3 hl420_3; replace p420 := eq_true p420; replace q420 := eq_true q420)))
       go_ret3
       exact rt_ (bw_ HB.out)
     ·rw [if_neg c8] at H
      exact absurd H (by simp)
    ·rw [if_neg c7] at H
     have c7b0 := beq_eq_false_iff_ne.mpr c7
     have c7b1 := bne_iff_ne.mpr c7
     simp only [Option.some.injEq, Prod.mk.injEq] at H
     obtain ⟨rfl, rfl, rfl⟩ := H
     go_enter Try.func94, Try.ntmps94
     go_wp2_with (first | ((with_reducible refine gate_dst (N := 1) rfl ?_); refine box_event ?hg (N := 1) ?hd (cs := #[.int .i64 a0_0, .int .i64 a0_1, .string a0_2, .slice A0_3 l0_3.length c0_3]) (t := 29) ?hr ?_; (case hd => rfl); (case hg => rfl); (case hr => first | (go_simp; done) | (go_simp; rfl)); intro gb418 hg w14 hbox hb; have n0_ := A_ (below_step (bw_ HB.out) hb); have n1_ := A_ (hbox); have n2_ := A_ ((by rw [hg]; exact (below_size (bw_ HB.out)) : w.heap.size ≤ gb418)); have n3_ := n2_; clear HB; have HB := n0_; have BK418 := n1_; have GW418 := n2_; have GE418 := n3_; have GI418 := GeI.mk GE418.out; clear n0_ n1_ n2_ n3_; clear hb hbox hg; have y15_0 : w14.cell? ⟨gb418, 0, none⟩ = some (.int .i64 a0_0) := (blk_cell BK418.out 0).trans rfl; have y15_1 : w14.cell? ⟨gb418, 1, none⟩ = some (.int .i64 a0_1) := (blk_cell BK418.out 1).trans rfl; have y15_2 : w14.cell? ⟨gb418, 2, none⟩ = some (.string a0_2) := (blk_cell BK418.out 2).trans rfl; have y15_3 : w14.cell? ⟨gb418, 3, none⟩ = some (.slice A0_3 l0_3.length c0_3) := (blk_cell BK418.out 3).trans rfl; have z15_0 := blk_frozen BK418.out 0; have z15_1 := blk_frozen BK418.out 1; have z15_2 := blk_frozen BK418.out 2; have z15_3 := blk_frozen BK418.out 3; have p419 : 0 ≤ (0 : Int) := (by omega); have q419 : 0 < (l0_3.length : Int) := of_decide_eq_true (by first | (with_reducible assumption) | assumption); obtain ⟨ad419, A419_3, c419_3, e419, hx419_0, hx419_1, hx419_2, hx419_3, hl419_3, hi419_3⟩ := at_T29 HR0_3.out 0 p419 q419; cases e419; have qi419 : (0 < l0_3.length) = True := eq_true (by omega); (try rw [show ((0 : Int)).toNat = 0 from rfl] at hx419_0); (try rw [show 0 * 4 = 0 from rfl] at hx419_0); (try rw [Addr.add_zero'] at hx419_0); (try rw [show ((0 : Int)).toNat = 0 from rfl] at hx419_1); (try rw [show 0 * 4 = 0 from rfl] at hx419_1); (try rw [Addr.add_zero'] at hx419_1); (try rw [show ((0 : Int)).toNat = 0 from rfl] at hx419_2); (try rw [show 0 * 4 = 0 from rfl] at hx419_2); (try rw [Addr.add_zero'] at hx419_2); (try rw [show ((0 : Int)).toNat = 0 from rfl] at hx419_3); (try rw [show 0 * 4 = 0 from rfl] at hx419_3); (try rw [Addr.add_zero'] at hx419_3); replace hx419_0 := (HB.out.cell (World.block_lt_of_cell? w _ hx419_0)).trans hx419_0; replace hx419_1 := (HB.out.cell (World.block_lt_of_cell? w _ hx419_1)).trans hx419_1; replace hx419_2 := (HB.out.cell (World.block_lt_of_cell? w _ hx419_2)).trans hx419_2; replace hx419_3 := (HB.out.cell (World.block_lt_of_cell? w _ hx419_3)).trans hx419_3; have HR419_3 := A_ hi419_3; have HC419_3 := A_ hl419_3; clear hi419_3 hl419_3; replace p419 := eq_true p419; replace q419 := eq_true q419))
     repeat (go_quiet (first | ((with_reducible refine gate_dst (N := 1) rfl ?_); refine box_event ?hg (N := 1) ?hd (cs := #[.int .i64 a0_0, .int .i64 a0_1, .string a0_2, .slice A0_3 l0_3.length c0_3]) (t := 29) ?hr ?_; (case hd => rfl); (case hg => rfl); (case hr => first | (go_simp; done) | (go_simp; rfl)); intro gb418 hg w14 hbox hb; have n0_ := A_ (below_step (bw_ HB.out) hb); have n1_ := A_ (hbox); have n2_ := A_ ((by rw [hg]; exact (below_size (bw_ HB.out)) : w.heap.size ≤ gb418)); have n3_ := n2_; clear HB; have HB := n0_; have BK418 := n1_; have GW418 := n2_; have GE418 := n3_; have GI418 := GeI.mk GE418.out; clear n0_ n1_ n2_ n3_; clear hb hbox hg; have y15_0 : w14.cell? ⟨gb418, 0, none⟩ = some (.int .i64 a0_0) := (blk_cell BK418.out 0).trans rfl; have y15_1 : w14.cell? ⟨gb418, 1, none⟩ = some (.int .i64 a0_1) := (blk_cell BK418.out 1).trans rfl; have y15_2 : w14.cell? ⟨gb418, 2, none⟩ = some (.string a0_2) := (blk_cell BK418.out 2).trans rfl; have y15_3 : w14.cell? ⟨gb418, 3, none⟩ = some (.slice A0_3 l0_3.length c0_3) := (blk_cell BK418.out 3).trans rfl; have z15_0 := blk_frozen BK418.out 0; have z15_1 := blk_frozen BK418.out 1; have z15_2 := blk_frozen BK418.out 2; have z15_3 := blk_frozen BK418.out 3; have p419 : 0 ≤ (0 : Int) := (by omega); have q419 : 0 < (l0_3.length : Int) := of_decide_eq_true (by first | (with_reducible assumption) | assumption); obtain ⟨ad419, A419_3, c419_3, e419, hx419_0, hx419_1, hx419_2, hx419_3, hl419_3, hi419_3⟩ := at_T29 HR0_3.out 0 p419 q419; cases e419; have qi419 : (0 < l0_3.length) = True := eq_true (by omega); (try rw [show ((0 : Int)).toNat = 0 from rfl] at hx419_0); (try rw [show 0 * 4 = 0 from rfl] at hx419_0); (try rw [Addr.add_zero'] at hx419_0); (try rw [show ((0 : Int)).toNat = 0 from rfl] at hx419_1); (try rw [show 0 * 4 = 0 from rfl] at hx419_1); (try rw [Addr.add_zero'] at hx419_1); (try rw [show ((0 : Int)).toNat = 0 from rfl] at hx419_2); (try rw [show 0 * 4 = 0 from rfl] at hx419_2); (try rw [Addr.add_zero'] at hx419_2); (try rw [show ((0 : Int)).toNat = 0 from rfl] at hx419_3); (try rw [show 0 * 4 = 0 from rfl] at hx419_3); (try rw [Addr.add_zero'] at hx419_3); replace hx419_0 := (HB.out.cell (World.block_lt_of_cell? w _ hx419_0)).trans hx419_0; replace hx419_1 := (HB.out.cell (World.block_lt_of_cell? w _ hx419_1)).trans hx419_1; replace hx419_2 := (HB.out.cell (World.block_lt_of_cell? w _ hx419_2)).trans hx419_2; replace hx419_3 := (HB.out.cell (World.block_lt_of_cell? w _ hx419_3)).trans hx419_3; have HR419_3 := A_ hi419_3; have HC419_3 := A_ hl419_3; clear hi419_3 hl419_3; replace p419 := eq_true p419; replace q419 := eq_true q419)); try go_wp2_with (first | ((with_reducible refine gate_dst (N := 1) rfl ?_); refine box_event ?hg (N := 1) ?hd (cs := #[.int .i64 a0_0, .int .i64 a0_1, .string a0_2, .slice A0_3 l0_3.length c0_3]) (t := 29) ?hr ?_; (case hd => rfl); (case hg => rfl); (case hr => first | (go_simp; done) | (go_simp; rfl)); intro gb418 hg w14 hbox hb; have n0_ := A_ (below_step (bw_ HB.out) hb); have n1_ := A_ (hbox); have n2_ := A_ ((by rw [hg]; exact (below_size (bw_ HB.out)) : w.heap.size ≤ gb418)); have n3_ := n2_; clear HB; have HB := n0_; have BK418 := n1_; have GW418 := n2_; have GE418 := n3_; have GI418 := GeI.mk GE418.out; clear n0_ n1_ n2_ n3_; clear hb hbox hg; have y15_0 : w14.cell? ⟨gb418, 0, none⟩ = some (.int .i64 a0_0) := (blk_cell BK418.out 0).trans rfl; have y15_1 : w14.cell? ⟨gb418, 1, none⟩ = some (.int .i64 a0_1) := (blk_cell BK418.out 1).trans rfl; have y15_2 : w14.cell? ⟨gb418, 2, none⟩ = some (.string a0_2) := (blk_cell BK418.out 2).trans rfl; have y15_3 : w14.cell? ⟨gb418, 3, none⟩ = some (.slice A0_3 l0_3.length c0_3) := (blk_cell BK418.out 3).trans rfl; have z15_0 := blk_frozen BK418.out 0; have z15_1 := blk_frozen BK418.out 1; have z15_2 := blk_frozen BK418.out 2; have z15_3 := blk_frozen BK418.out 3; have p419 : 0 ≤ (0 : Int) := (by omega); have q419 : 0 < (l0_3.length : Int) := of_decide_eq_true (by first | (with_reducible assumption) | assumption); obtain ⟨ad419, A419_3, c419_3, e419, hx419_0, hx419_1, hx419_2, hx419_3, hl419_3, hi419_3⟩ := at_T29 HR0_3.out 0 p419 q419; cases e419; have qi419 : (0 < l0_3.length) = True := eq_true (by omega); (try rw [show ((0 : Int)).toNat = 0 from rfl] at hx419_0); (try rw [show 0 * 4 = 0 from rfl] at hx419_0); (try rw [Addr.add_zero'] at hx419_0); (try rw [show ((0 : Int)).toNat = 0 from rfl] at hx419_1); (try rw [show 0 * 4 = 0 from rfl] at hx419_1); (try rw [Addr.add_zero'] at hx419_1); (try rw [show ((0 : Int)).toNat = 0 from rfl] at hx419_2); (try rw [show 0 * 4 = 0 from rfl] at hx419_2); (try rw [Addr.add_zero'] at hx419_2); (try rw [show ((0 : Int)).toNat = 0 from rfl] at hx419_3); (try rw [show 0 * 4 = 0 from rfl] at hx419_3); (try rw [Addr.add_zero'] at hx419_3); replace hx419_0 := (HB.out.cell (World.block_lt_of_cell? w _ hx419_0)).trans hx419_0; replace hx419_1 := (HB.out.cell (World.block_lt_of_cell? w _ hx419_1)).trans hx419_1; replace hx419_2 := (HB.out.cell (World.block_lt_of_cell? w _ hx419_2)).trans hx419_2; replace hx419_3 := (HB.out.cell (World.block_lt_of_cell? w _ hx419_3)).trans hx419_3; have HR419_3 := A_ hi419_3; have HC419_3 := A_ hl419_3; clear hi419_3 hl419_3; replace p419 := eq_true p419; replace q419 := eq_true q419)))
     go_ret3
     exact rt_ (bw_ HB.out)
   ·rw [if_neg c6] at H
    exact absurd H (by simp)
  ·rw [if_neg c5] at H
   have c5b0 := beq_eq_false_iff_ne.mpr c5
   have c5b1 := bne_iff_ne.mpr c5
   simp only [Option.some.injEq, Prod.mk.injEq] at H
   obtain ⟨rfl, rfl, rfl⟩ := H
   go_enter Try.func94, Try.ntmps94
   go_wp2_with (first | ((with_reducible refine gate_dst (N := 1) rfl ?_); refine box_event ?hg (N := 1) ?hd (cs := #[.int .i64 a0_0, .int .i64 a0_1, .string a0_2, .slice A0_3 l0_3.length c0_3]) (t := 29) ?hr ?_; (case hd => rfl); (case hg => rfl); (case hr => first | (go_simp; done) | (go_simp; rfl)); intro gb418 hg w16 hbox hb; have n0_ := A_ (below_step (bw_ HB.out) hb); have n1_ := A_ (hbox); have n2_ := A_ ((by rw [hg]; exact (below_size (bw_ HB.out)) : w.heap.size ≤ gb418)); have n3_ := n2_; clear HB; have HB := n0_; have BK418 := n1_; have GW418 := n2_; have GE418 := n3_; have GI418 := GeI.mk GE418.out; clear n0_ n1_ n2_ n3_; clear hb hbox hg; have y17_0 : w16.cell? ⟨gb418, 0, none⟩ = some (.int .i64 a0_0) := (blk_cell BK418.out 0).trans rfl; have y17_1 : w16.cell? ⟨gb418, 1, none⟩ = some (.int .i64 a0_1) := (blk_cell BK418.out 1).trans rfl; have y17_2 : w16.cell? ⟨gb418, 2, none⟩ = some (.string a0_2) := (blk_cell BK418.out 2).trans rfl; have y17_3 : w16.cell? ⟨gb418, 3, none⟩ = some (.slice A0_3 l0_3.length c0_3) := (blk_cell BK418.out 3).trans rfl; have z17_0 := blk_frozen BK418.out 0; have z17_1 := blk_frozen BK418.out 1; have z17_2 := blk_frozen BK418.out 2; have z17_3 := blk_frozen BK418.out 3))
   repeat (go_quiet (first | ((with_reducible refine gate_dst (N := 1) rfl ?_); refine box_event ?hg (N := 1) ?hd (cs := #[.int .i64 a0_0, .int .i64 a0_1, .string a0_2, .slice A0_3 l0_3.length c0_3]) (t := 29) ?hr ?_; (case hd => rfl); (case hg => rfl); (case hr => first | (go_simp; done) | (go_simp; rfl)); intro gb418 hg w16 hbox hb; have n0_ := A_ (below_step (bw_ HB.out) hb); have n1_ := A_ (hbox); have n2_ := A_ ((by rw [hg]; exact (below_size (bw_ HB.out)) : w.heap.size ≤ gb418)); have n3_ := n2_; clear HB; have HB := n0_; have BK418 := n1_; have GW418 := n2_; have GE418 := n3_; have GI418 := GeI.mk GE418.out; clear n0_ n1_ n2_ n3_; clear hb hbox hg; have y17_0 : w16.cell? ⟨gb418, 0, none⟩ = some (.int .i64 a0_0) := (blk_cell BK418.out 0).trans rfl; have y17_1 : w16.cell? ⟨gb418, 1, none⟩ = some (.int .i64 a0_1) := (blk_cell BK418.out 1).trans rfl; have y17_2 : w16.cell? ⟨gb418, 2, none⟩ = some (.string a0_2) := (blk_cell BK418.out 2).trans rfl; have y17_3 : w16.cell? ⟨gb418, 3, none⟩ = some (.slice A0_3 l0_3.length c0_3) := (blk_cell BK418.out 3).trans rfl; have z17_0 := blk_frozen BK418.out 0; have z17_1 := blk_frozen BK418.out 1; have z17_2 := blk_frozen BK418.out 2; have z17_3 := blk_frozen BK418.out 3)); try go_wp2_with (first | ((with_reducible refine gate_dst (N := 1) rfl ?_); refine box_event ?hg (N := 1) ?hd (cs := #[.int .i64 a0_0, .int .i64 a0_1, .string a0_2, .slice A0_3 l0_3.length c0_3]) (t := 29) ?hr ?_; (case hd => rfl); (case hg => rfl); (case hr => first | (go_simp; done) | (go_simp; rfl)); intro gb418 hg w16 hbox hb; have n0_ := A_ (below_step (bw_ HB.out) hb); have n1_ := A_ (hbox); have n2_ := A_ ((by rw [hg]; exact (below_size (bw_ HB.out)) : w.heap.size ≤ gb418)); have n3_ := n2_; clear HB; have HB := n0_; have BK418 := n1_; have GW418 := n2_; have GE418 := n3_; have GI418 := GeI.mk GE418.out; clear n0_ n1_ n2_ n3_; clear hb hbox hg; have y17_0 : w16.cell? ⟨gb418, 0, none⟩ = some (.int .i64 a0_0) := (blk_cell BK418.out 0).trans rfl; have y17_1 : w16.cell? ⟨gb418, 1, none⟩ = some (.int .i64 a0_1) := (blk_cell BK418.out 1).trans rfl; have y17_2 : w16.cell? ⟨gb418, 2, none⟩ = some (.string a0_2) := (blk_cell BK418.out 2).trans rfl; have y17_3 : w16.cell? ⟨gb418, 3, none⟩ = some (.slice A0_3 l0_3.length c0_3) := (blk_cell BK418.out 3).trans rfl; have z17_0 := blk_frozen BK418.out 0; have z17_1 := blk_frozen BK418.out 1; have z17_2 := blk_frozen BK418.out 2; have z17_3 := blk_frozen BK418.out 3)))
   go_ret3
   exact rt_ (bw_ HB.out)

end Go.Proofs.Ytcpnhlhigpgonaa.PFnExactKnown
