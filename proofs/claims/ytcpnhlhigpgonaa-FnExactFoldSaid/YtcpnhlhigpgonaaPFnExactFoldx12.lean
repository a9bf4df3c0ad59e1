-- Laid by a program of this session (a changed copy of the kit's printer); Lean checks every line.
import Derived.Test.YtcpnhlhigpgonaaPFnExactFoldx0
import Derived.Test.YtcpnhlhigpgonaaPFnExactFoldx11
namespace Go.Proofs.Ytcpnhlhigpgonaa.PFnExactFold
open Go.RowKit Go.Proofs.YtcpnhlhigpgonaaW.PrintWords Go.Proofs.YtcpnhlhigpgonaaW.PrintLast Go.Proofs.YtcpnhlhigpgonaaW.PrintMore
attribute [local go_sem] max2_int min2_int max_two min_two max_three min_three max_four min_four   -- for this text's walks alone
set_option linter.unusedVariables false
set_option linter.unusedSimpArgs false

/-! ### impl_added: function 93 -/
mutual
def impl_added.j0 : Nat → Int → Bool → Int → Int → ByteArray → List (S29) → Option (Int × Int × ByteArray × (List (S29)))
 | 0, _, _, _, _, _, _ => none
 | k + 1, x1, x15, x398000, x398001, x398002, x398003 => if x15 = true then (if 0 < (x398003.length : Int) then (if 1 < (x398003.length : Int) then ((impl_Wrap.f (wrap64 (((rd_T29 x398003 1).f1) + x1))).bind fun t402 => ((impl_added.f k ((rd_T29 x398003 0).f0) ((rd_T29 x398003 0).f1) ((rd_T29 x398003 0).f2) ((rd_T29 x398003 0).f3) t402).bind fun bt403 => (some (bt403.1, bt403.2.1, bt403.2.2.1, bt403.2.2.2)))) else (none)) else (none)) else (if x1 = 0 then (some (x398000, x398001, x398002, x398003)) else ((impl_number.f x1).bind fun bt409 => ((impl_two.f 5 x398000 x398001 x398002 x398003 bt409.1 bt409.2.1 bt409.2.2.1 bt409.2.2.2).bind fun bt415 => (some (bt415.1, bt415.2.1, bt415.2.2.1, bt415.2.2.2)))))
def impl_added.f : Nat → Int → Int → ByteArray → List (S29) → Int → Option (Int × Int × ByteArray × (List (S29)))
 | 0, _, _, _, _, _ => none
 | k + 1, a0_0, a0_1, a0_2, l0_3, a1 => if a0_0 = 5 then (if 1 < (l0_3.length : Int) then (impl_added.j0 k a1 (((rd_T29 l0_3 1).f0) == 1) a0_0 a0_1 a0_2 l0_3) else (none)) else (impl_added.j0 k a1 false a0_0 a0_1 a0_2 l0_3)
end
theorem impl_added.mono_l : ∀ k, (∀ y0 y1 y2 y3 y4, LeO (impl_added.f k y0 y1 y2 y3 y4) (impl_added.f (k + 1) y0 y1 y2 y3 y4)) ∧ (∀ y0 y1 y2 y3 y4 y5, LeO (impl_added.j0 k y0 y1 y2 y3 y4 y5) (impl_added.j0 (k + 1) y0 y1 y2 y3 y4 y5))
 | 0 => ⟨fun _ _ _ _ _ r h => by simp [impl_added.f] at h, fun _ _ _ _ _ _ r h => by simp [impl_added.j0] at h⟩
 | k + 1 => by
  obtain ⟨ih0, ih1⟩ := impl_added.mono_l k
  refine ⟨?_, ?_⟩
  ·intro y0 y1 y2 y3 y4
   unfold impl_added.f
   repeat' first
   | (with_reducible exact ih0 _ _ _ _ _)
   | (with_reducible exact ih1 _ _ _ _ _ _)
   | (with_reducible exact LeO.refl _)
   | (with_reducible exact LeO.none _)
   | (with_reducible refine LeO.ite ?_ ?_)
   | (with_reducible refine LeO.bind ?_ (fun _ => ?_))
   | exact ih0 _ _ _ _ _
   | exact ih1 _ _ _ _ _ _
   | exact LeO.none _
   | refine LeO.ite ?_ ?_
   | refine LeO.bind ?_ (fun _ => ?_)
  ·intro y0 y1 y2 y3 y4 y5
   unfold impl_added.j0
   repeat' first
   | (with_reducible exact ih0 _ _ _ _ _)
   | (with_reducible exact ih1 _ _ _ _ _ _)
   | (with_reducible exact LeO.refl _)
   | (with_reducible exact LeO.none _)
   | (with_reducible refine LeO.ite ?_ ?_)
   | (with_reducible refine LeO.bind ?_ (fun _ => ?_))
   | exact ih0 _ _ _ _ _
   | exact ih1 _ _ _ _ _ _
   | exact LeO.none _
   | refine LeO.ite ?_ ?_
   | refine LeO.bind ?_ (fun _ => ?_)
theorem impl_added.mono : ∀ a0 a1 a2 a3 a4 k, LeO (impl_added.f k a0 a1 a2 a3 a4) (impl_added.f (k + 1) a0 a1 a2 a3 a4) := by
 intro a0 a1 a2 a3 a4 k
 obtain ⟨ih0, ih1⟩ := impl_added.mono_l k
 exact ih0 a0 a1 a2 a3 a4
def impl_added.T2 : Bool × List (List Nat × List Nat) := (true, [([], []), ([0], [0]), ([1], [1]), ([2], [2]), ([], []), ([4], [4]), ([5], [5]), ([6], [6]), ([7], [7]), ([], []), ([8, 9], [8, 9]), ([10], [10]), ([3, 11, 11], [3, 11]), ([12, 12, 0, 1, 2, 3, 4, 5, 6, 7, 8, 9, 10, 11, 12], [12])])
def impl_added.B2 : List Nat := [0, 1, 3, 7, 0, 16, 48, 112, 240, 0, 1008, 2032, 4095, 8191]
theorem impl_added.tab2 : rtab .any (opsOf Try.f93 2) = impl_added.T2 := by kernel_rfl
theorem impl_added.bits2 : waitsOk impl_added.T2.2 impl_added.B2 = true := by kernel_rfl
set_option maxHeartbeats 8000000 in
set_option maxRecDepth 100000 in
theorem impl_added.calls (k : Nat) : ∀ (b0 : Nat) (a0_0 : Int) (a0_1 : Int) (a0_2 : ByteArray) (P0_3_ : Nat → Prop) (A0_3 : Option Addr) (c0_3 : Nat) (l0_3 : List (S29)) (a1 : Int) (r1 : Int) (r2 : Int) (r3 : ByteArray) (r4 : List (S29)) (w : World) (hb0 : b0 ≤ w.heap.size) (hs0_3 : Kd.S q29 29 w b0 (fun k_ => P0_3_ k_) (.slice A0_3 l0_3.length c0_3) l0_3) (h : impl_added.f k a0_0 a0_1 a0_2 l0_3 a1 = some (r1, r2, r3, r4)),
  Calls Try.prog 93 #[.agg #[.int .i64 a0_0, .int .i64 a0_1, .string a0_2, .slice A0_3 l0_3.length c0_3], .int .i64 a1] w fun e w' => ∃ v3_ : Value, e = .returned (.agg #[.int .i64 r1, .int .i64 r2, .string r3, v3_]) ∧ Kd.S q29 29 w' b0 (fun k_ => (P0_3_ k_ ∨ w.heap.size ≤ k_)) v3_ r4 ∧ Below w.heap.size w w' := by
 induction k using Nat.strongRecOn with
 | _ k ih =>
 intro b0 a0_0 a0_1 a0_2 P0_3_ A0_3 c0_3 l0_3 a1 r1 r2 r3 r4 w hb0 hs0_3 h
 cases k with
 | zero => exact absurd h (by simp [impl_added.f])
 | succ k =>
 simp only [impl_added.f] at h
 have hu29 := Try.underlying29
 have HO0_3 := A_ (show Kd.S q29 29 w b0 (fun k_ => (P0_3_ k_ ∨ w.heap.size ≤ k_)) (.slice A0_3 l0_3.length c0_3) l0_3 from Kd.S_mono hs0_3 (fun k_ hk => .inl hk))
 have HB := A_ (Below.refl w.heap.size w)
 have H : (if a0_0 = 5 then (if 1 < (l0_3.length : Int) then (impl_added.j0 k a1 (((rd_T29 l0_3 1).f0) == 1) a0_0 a0_1 a0_2 l0_3) else (none)) else (impl_added.j0 k a1 false a0_0 a0_1 a0_2 l0_3)) = some (r1, r2, r3, r4) := h
 clear h
 have HC3 := A_ H
 clear H
 go_enter Try.func93, Try.ntmps93
 go_upto_region 1 with (first | ((with_reducible refine gate_dst (N := 2) rfl ?_); refine bx_ 2 #[.int .i64 a0_0, .int .i64 a0_1, .string a0_2, .slice A0_3 l0_3.length c0_3] 29 ?_; intro gb397 hg w4 hbox hb; have n0_ := A_ (Kd.S_below (Kd.S_elderB (kz_ HO0_3.out) gb397 (Nat.le_of_eq hg.symm)) hb); have n1_ := A_ (below_step (bw_ HB.out) hb); have n2_ := A_ (hbox); have n3_ := A_ ((d3_ : w.heap.size ≤ gb397)); have n4_ := n3_; clear HO0_3; clear HB; have HO0_3 := n0_; have HB := n1_; have BK397 := n2_; have GW397 := n3_; have GE397 := n4_; have GI397 := GeI.mk GE397.out; clear n0_ n1_ n2_ n3_ n4_; clear hb hbox hg) | ((with_reducible refine gate_dst (N := 4) rfl ?_); refine bx_ 4 #[.int .i64 0, .int .i64 0, .string (⟨#[]⟩ : ByteArray), .slice none 0 0] 29 ?_; intro gb398 hg w5 hbox hb; have n0_ := A_ (Kd.S_below (Kd.S_elderB (kz_ HO0_3.out) gb398 (Nat.le_of_eq hg.symm)) hb); have n1_ := A_ (blk_below (bk_ BK397.out) hb); have n2_ := A_ (below_step (bw_ HB.out) hb); have n3_ := A_ (hbox); have n4_ := A_ ((d3_ : w.heap.size ≤ gb398)); have n5_ := n4_; have n6_ := A_ ((by rw [hg]; exact Nat.ne_of_lt (blk_lt (bk_ BK397.out)) : gb397 ≠ gb398)); have n7_ := A_ n6_.out.symm; clear HO0_3; clear BK397; clear HB; have HO0_3 := n0_; have BK397 := n1_; have HB := n2_; have BK398 := n3_; have GW398 := n4_; have GE398 := n5_; have GI398 := GeI.mk GE398.out; have NB397_398 := n6_; have NB398_397 := n7_; clear n0_ n1_ n2_ n3_ n4_ n5_ n6_ n7_; clear hb hbox hg))
 (try simp only [Act.put, List.setIfInBounds_toArray, List.set_cons_zero, List.set_cons_succ])
 go_cut [15] (fun v15 wc => ∃ (kq : Nat) (x15_2 : Bool), v15 = .bool x15_2 ∧ Aside0 (impl_added.j0 kq a1 x15_2 a0_0 a0_1 a0_2 l0_3 = some (r1, r2, r3, r4)) ∧ Aside0 (kq ≤ k) ∧ Aside0 (Kd.S q29 29 wc b0 (fun k_ => (P0_3_ k_ ∨ w.heap.size ≤ k_) ∧ k_ ≠ gb397 ∧ k_ ≠ gb398) (.slice A0_3 l0_3.length c0_3) l0_3) ∧ Aside0 (wc.heap[gb397]? = some (.cells #[.int .i64 a0_0, .int .i64 a0_1, .string a0_2, (.slice A0_3 l0_3.length c0_3)] 29 (0, 0))) ∧ Aside0 (wc.heap[gb398]? = some (.cells #[.int .i64 0, .int .i64 0, .string (⟨#[]⟩ : ByteArray), (.slice none 0 0)] 29 (0, 0))) ∧ Aside0 (Below w.heap.size w wc))
 case first =>
  have H := HC3.out
  clear HC3
  by_cases c6 : a0_0 = 5
  ·rw [if_pos c6] at H
   have c6b0 := beq_iff_eq.mpr c6
   have c6b1 := bne_eq_false_iff_eq.mpr c6
   clear c6
   (first | rw [c6b0] | (simp only [i64_w, i32_w]; rw [c6b0]) | skip)
   by_cases c7 : 1 < (l0_3.length : Int)
   ·rw [if_pos c7] at H
    have c7b0 := decide_eq_true c7
    have c7b1 : decide (1 < l0_3.length) = true := decide_eq_true (by omega)
    clear c7
    have H' := A_ H
    clear H
    have hnb8 := NB397_398.out
    have hnc8 := NB398_397.out
    obtain ⟨y9_0, y9_1, y9_2, y9_3, z9_0, z9_1, z9_2, z9_3⟩ := cz4_ BK397.out
    have p399 : 0 ≤ (1 : Int) := (by omega)
    have q399 : 1 < (l0_3.length : Int) := of_decide_eq_true d1_
    obtain ⟨ad399, A399_3, c399_3, e399, hx399_0, hx399_1, hx399_2, hx399_3, hl399_3, hi399_3⟩ := at_T29 (q29_C (Kd.S_reads' HO0_3.out).2.2) 1 p399 q399
    cases e399
    obtain ⟨ce399, hce399, hMe399, hcc399⟩ := Kd.S_get HO0_3.out z29 1 p399 (by first | exact q399 | exact of_decide_eq_true d1_ | (have e_ := (Kd.S_reads' HO0_3.out).1; omega))
    obtain ⟨ua399_3, rfl, ge399_3⟩ := q29_openM hMe399
    have hv399_3 := hcc399 3 _ rfl
    rw [add_field _ _ 3 (by omega)] at hv399_3
    replace hv399_3 := Option.some.inj (hv399_3.symm.trans hx399_3)
    rw [hv399_3] at ge399_3
    have HL399_3 := A_ (show Kd.S q29 29 _ b0 _ _ ((rd_T29 l0_3 1).f3) from Kd.S_mono ge399_3 (fun k_ h_ => h_.1))
    clear hv399_3 ge399_3 hMe399
    clear hcc399 hce399
    (try simp only [show (1 : Int).toNat = 1 from rfl, Nat.reduceMul, Nat.reduceEqDiff, Go.Addr.add, ↓reduceIte] at hx399_0)
    (try simp only [show (1 : Int).toNat = 1 from rfl, Nat.reduceMul, Nat.reduceEqDiff, Go.Addr.add, ↓reduceIte] at hx399_1)
    (try simp only [show (1 : Int).toNat = 1 from rfl, Nat.reduceMul, Nat.reduceEqDiff, Go.Addr.add, ↓reduceIte] at hx399_2)
    (try simp only [show (1 : Int).toNat = 1 from rfl, Nat.reduceMul, Nat.reduceEqDiff, Go.Addr.add, ↓reduceIte] at hx399_3)
    have qi399 : (1 < l0_3.length) = True := eq_true (by omega)
    (try rw [show ((1 : Int)).toNat = 1 from rfl] at hx399_0)
    (try rw [show 1 * 4 = 4 from rfl] at hx399_0)
    (try rw [show ((1 : Int)).toNat = 1 from rfl] at hx399_1)
    (try rw [show 1 * 4 = 4 from rfl] at hx399_1)
    (try rw [show ((1 : Int)).toNat = 1 from rfl] at hx399_2)
    (try rw [show 1 * 4 = 4 from rfl] at hx399_2)
    (try rw [show ((1 : Int)).toNat = 1 from rfl] at hx399_3)
    (try rw [show 1 * 4 = 4 from rfl] at hx399_3)
    have HR399_3 := A_ hi399_3
    have HC399_3 := A_ hl399_3
    clear hi399_3 hl399_3
    replace p399 := eq_true p399
    replace q399 := eq_true q399
    go_wp2
    go_meet
    case rel => exact ⟨_, ((((rd_T29 l0_3 1).f0) == 1)), d4_, H', ⟨by first | omega | exact Nat.le_refl _⟩, ⟨kz_ (Kd.S_mono HO0_3.out (fun _ hk => ⟨hk.1.1, ⟨hk.1.2, hk.2⟩⟩))⟩, ⟨by refine bk_ ?_; exact BK397.out⟩, ⟨by refine bk_ ?_; exact BK398.out⟩, ⟨bw_ HB.out⟩⟩
   ·rw [if_neg c7] at H
    exact absurd H (by simp)
  ·rw [if_neg c6] at H
   have c6b0 := beq_eq_false_iff_ne.mpr c6
   have c6b1 := bne_iff_ne.mpr c6
   (first | rw [c6b0] | (simp only [i64_w, i32_w]; rw [c6b0]) | skip)
   have H' := A_ H
   clear H
   have hnb10 := NB397_398.out
   have hnc10 := NB398_397.out
   obtain ⟨y11_0, y11_1, y11_2, y11_3, z11_0, z11_1, z11_2, z11_3⟩ := cz4_ BK397.out
   go_wp2
   go_meet
   case rel => exact ⟨_, (false), d4_, H', ⟨by first | omega | exact Nat.le_refl _⟩, ⟨kz_ (Kd.S_mono HO0_3.out (fun _ hk => ⟨hk.1.1, ⟨hk.1.2, hk.2⟩⟩))⟩, ⟨by refine bk_ ?_; exact BK397.out⟩, ⟨by refine bk_ ?_; exact BK398.out⟩, ⟨bw_ HB.out⟩⟩
 case rest =>
  clear HC3
  try clear c1
  try clear p2
  try clear c3
  try clear p3
  try clear q3
  try clear hx3
  try clear qi3
  try clear c6
  try clear c6b0
  try clear c6b1
  try clear c7
  try clear c7b0
  try clear c7b1
  try clear c8
  try clear c9
  try clear c10
  try clear y11_0 y11_1 y11_2 y11_3 z11_0 z11_1 z11_2 z11_3
  try clear y9_0 y9_1 y9_2 y9_3 z9_0 z9_1 z9_2 z9_3
  try clear hx399_0 hx399_1 hx399_2 hx399_3
  try clear p399
  try clear q399
  obtain ⟨kq, x15_2, rfl, HA, HJ2, HO_398003, BK397, BK398, HB⟩ := hcut
  cases kq with
  | zero => exact absurd HA.out (by simp [impl_added.j0])
  | succ kj2 =>
   have H := HA.out
   clear HA
   simp only [impl_added.j0] at H
   by_cases c12 : x15_2 = true
   ·subst c12
    rw [if_pos rfl] at H
    by_cases c13 : 0 < (l0_3.length : Int)
    ·rw [if_pos c13] at H
     have c13b0 := decide_eq_true c13
     have c13b1 : decide (0 < l0_3.length) = true := decide_eq_true (by omega)
     clear c13
     by_cases c14 : 1 < (l0_3.length : Int)
     ·rw [if_pos c14] at H
      have c14b0 := decide_eq_true c14
      have c14b1 : decide (1 < l0_3.length) = true := decide_eq_true (by omega)
      clear c14
      replace H := Option.bind_eq_some_iff.mp H
      obtain ⟨t402, A150, H⟩ := H
      try dsimp only at H
      have A15 := A_ A150
      clear A150
      replace H := Option.bind_eq_some_iff.mp H
      obtain ⟨⟨t403, t404, t405, t406⟩, A160, H⟩ := H
      try dsimp only at H
      have A16 := A_ A160
      clear A160
      simp only [Option.some.injEq, Prod.mk.injEq] at H
      obtain ⟨rfl, rfl, rfl, rfl⟩ := H
      try go_wp2
      replace HO_398003 := A_ (Kd.S_drew HO_398003.out)
      replace BK397 := A_ (blk_drew BK397.out)
      replace BK398 := A_ (blk_drew BK398.out)
      replace HB := A_ (below_drew1 HB.out)
      have p400 : 0 ≤ (0 : Int) := (by omega)
      have q400 : 0 < (l0_3.length : Int) := of_decide_eq_true d1_
      obtain ⟨ad400, A400_3, c400_3, e400, hx400_0, hx400_1, hx400_2, hx400_3, hl400_3, hi400_3⟩ := at_T29 (q29_C (Kd.S_reads' HO_398003.out).2.2) 0 p400 q400
      cases e400
      obtain ⟨ce400, hce400, hMe400, hcc400⟩ := Kd.S_get HO_398003.out z29 0 p400 (by first | exact q400 | exact of_decide_eq_true d1_ | (have e_ := (Kd.S_reads' HO_398003.out).1; omega))
      obtain ⟨ua400_3, rfl, ge400_3⟩ := q29_openM hMe400
      have hv400_3 := hcc400 3 _ rfl
      rw [add_field _ _ 3 (by omega)] at hv400_3
      replace hv400_3 := Option.some.inj (hv400_3.symm.trans hx400_3)
      rw [hv400_3] at ge400_3
      have HL400_3 := A_ (show Kd.S q29 29 _ b0 _ _ ((rd_T29 l0_3 0).f3) from Kd.S_mono ge400_3 (fun k_ h_ => h_.1))
      clear hv400_3 ge400_3 hMe400
      clear hcc400 hce400
      have qi400 : (0 < l0_3.length) = True := eq_true (by omega)
      (try rw [show ((0 : Int)).toNat = 0 from rfl] at hx400_0)
      (try rw [show 0 * 4 = 0 from rfl] at hx400_0)
      (try rw [Addr.add_zero'] at hx400_0)
      (try rw [show ((0 : Int)).toNat = 0 from rfl] at hx400_1)
      (try rw [show 0 * 4 = 0 from rfl] at hx400_1)
      (try rw [Addr.add_zero'] at hx400_1)
      (try rw [show ((0 : Int)).toNat = 0 from rfl] at hx400_2)
      (try rw [show 0 * 4 = 0 from rfl] at hx400_2)
      (try rw [Addr.add_zero'] at hx400_2)
      (try rw [show ((0 : Int)).toNat = 0 from rfl] at hx400_3)
      (try rw [show 0 * 4 = 0 from rfl] at hx400_3)
      (try rw [Addr.add_zero'] at hx400_3)
      have HR400_3 := A_ hi400_3
      have HC400_3 := A_ hl400_3
      clear hi400_3 hl400_3
      replace p400 := eq_true p400
      replace q400 := eq_true q400
      have p401 : 0 ≤ (1 : Int) := (by omega)
      have q401 : 1 < (l0_3.length : Int) := of_decide_eq_true d1_
      obtain ⟨ad401, A401_3, c401_3, e401, hx401_0, hx401_1, hx401_2, hx401_3, hl401_3, hi401_3⟩ := at_T29 (q29_C (Kd.S_reads' HO_398003.out).2.2) 1 p401 q401
      obtain rfl : ad400 = ad401 := (by injection e401)
      obtain ⟨ce401, hce401, hMe401, hcc401⟩ := Kd.S_get HO_398003.out z29 1 p401 (by first | exact q401 | exact of_decide_eq_true d1_ | (have e_ := (Kd.S_reads' HO_398003.out).1; omega))
      obtain ⟨ua401_3, rfl, ge401_3⟩ := q29_openM hMe401
      have hv401_3 := hcc401 3 _ rfl
      rw [add_field _ _ 3 (by omega)] at hv401_3
      replace hv401_3 := Option.some.inj (hv401_3.symm.trans hx401_3)
      rw [hv401_3] at ge401_3
      have HL401_3 := A_ (show Kd.S q29 29 _ b0 _ _ ((rd_T29 l0_3 1).f3) from Kd.S_mono ge401_3 (fun k_ h_ => h_.1))
      clear hv401_3 ge401_3 hMe401
      clear hcc401 hce401
      (try simp only [show (1 : Int).toNat = 1 from rfl, Nat.reduceMul, Nat.reduceEqDiff, Go.Addr.add, ↓reduceIte] at hx401_0)
      (try simp only [show (1 : Int).toNat = 1 from rfl, Nat.reduceMul, Nat.reduceEqDiff, Go.Addr.add, ↓reduceIte] at hx401_1)
      (try simp only [show (1 : Int).toNat = 1 from rfl, Nat.reduceMul, Nat.reduceEqDiff, Go.Addr.add, ↓reduceIte] at hx401_2)
      (try simp only [show (1 : Int).toNat = 1 from rfl, Nat.reduceMul, Nat.reduceEqDiff, Go.Addr.add, ↓reduceIte] at hx401_3)
      have qi401 : (1 < l0_3.length) = True := eq_true (by omega)
      (try rw [show ((1 : Int)).toNat = 1 from rfl] at hx401_0)
      (try rw [show 1 * 4 = 4 from rfl] at hx401_0)
      (try rw [show ((1 : Int)).toNat = 1 from rfl] at hx401_1)
      (try rw [show 1 * 4 = 4 from rfl] at hx401_1)
      (try rw [show ((1 : Int)).toNat = 1 from rfl] at hx401_2)
      (try rw [show 1 * 4 = 4 from rfl] at hx401_2)
      (try rw [show ((1 : Int)).toNat = 1 from rfl] at hx401_3)
      (try rw [show 1 * 4 = 4 from rfl] at hx401_3)
      have HR401_3 := A_ hi401_3
      have HC401_3 := A_ hl401_3
      clear hi401_3 hl401_3
      replace p401 := eq_true p401
      replace q401 := eq_true q401
      refine start_ (n := 14) (S := fun w' => w'.cell? ⟨gb397, 0, none⟩ = some (.int .i64 a0_0) ∧ w'.cell? ⟨gb397, 1, none⟩ = some (.int .i64 a0_1) ∧ w'.cell? ⟨gb397, 2, none⟩ = some (.string a0_2) ∧ w'.cell? ⟨gb397, 3, none⟩ = some (.slice (some ad400) l0_3.length c0_3) ∧ w'.cell? ad400 = some (.int .i64 ((rd_T29 l0_3 0).f0)) ∧ w'.cell? ⟨ad400.block, ad400.off + 1, none⟩ = some (.int .i64 ((rd_T29 l0_3 0).f1)) ∧ w'.cell? ⟨ad400.block, ad400.off + 2, none⟩ = some (.string ((rd_T29 l0_3 0).f2)) ∧ w'.cell? ⟨ad400.block, ad400.off + 3, none⟩ = some (.slice A400_3 ((rd_T29 l0_3 0).f3).length c400_3) ∧ w'.cell? ⟨ad400.block, ad400.off + 4, none⟩ = some (.int .i64 ((rd_T29 l0_3 1).f0)) ∧ w'.cell? ⟨ad400.block, ad400.off + 4 + 1, none⟩ = some (.int .i64 ((rd_T29 l0_3 1).f1)) ∧ w'.cell? ⟨ad400.block, ad400.off + 4 + 2, none⟩ = some (.string ((rd_T29 l0_3 1).f2)) ∧ w'.cell? ⟨ad400.block, ad400.off + 4 + 3, none⟩ = some (.slice A401_3 ((rd_T29 l0_3 1).f3).length c401_3)) (ds := []) #[false, false, false, false, false, false, false, false, false, false, false, false, false, false] (by kernel_rfl) rfl rfl ⟨(blk_cell BK397.out 0).trans rfl, (blk_cell BK397.out 1).trans rfl, (blk_cell BK397.out 2).trans rfl, (blk_cell BK397.out 3).trans rfl, hx400_0, hx400_1, hx400_2, hx400_3, hx401_0, hx401_1, hx401_2, hx401_3⟩ (fun hHeld => ?_); refine with_tabW impl_added.tab2 impl_added.bits2 (fun HT_ HW_ => ?_)
      generalize wc.drew = w17 at HO_398003 BK397 BK398 HB HL400_3 HL401_3 HR400_3 HR401_3 hx400_0 hx400_1 hx400_2 hx400_3 hx401_0 hx401_1 hx401_2 hx401_3 hHeld ⊢
      refine pu_ 0 (some 16) (bm_ 14 1) (any_of HT_.out (by kernel_rfl)) ?_
      refine pu_ 4 (some 20) (bm_ 14 17) (any_of HT_.out (by kernel_rfl)) ?_
      refine pu_ 9 (some 25) (bm_ 14 529) (any_of HT_.out (by kernel_rfl)) ?_
      refine take_ (i := 1) (N := some 17) (v := ?_) (a' := ?_) (bm_ 14 531) rfl rfl (take_ofW HT_.out HW_.out (by kernel_rfl)) (fun _ _ _ h => h) (Or.inl ⟨by rfl, ?_⟩) hHeld ?_ ?_
      rotate_left
      ·rintro w' ⟨s0, s1, s2, s3, s4, s5, s6, s7, s8, s9, s10, s11⟩
       go_simp
       with_reducible rfl
      rotate_left
      ·simp only [Act.put, List.setIfInBounds_toArray, List.set_cons_zero, List.set_cons_succ, i64_w, i32_w]
       rfl
      refine pu_ 2 (some 18) (bm_ 14 535) (any_of HT_.out (by kernel_rfl)) ?_
      refine take_ (i := 3) (N := some 19) (v := ?_) (a' := ?_) (bm_ 14 543) rfl rfl (take_ofW HT_.out HW_.out (by kernel_rfl)) (fun _ _ _ h => h) (Or.inl ⟨by rfl, ?_⟩) hHeld ?_ ?_
      rotate_left
      ·rintro w' ⟨s0, s1, s2, s3, s4, s5, s6, s7, s8, s9, s10, s11⟩
       go_simp
       with_reducible rfl
      rotate_left
      ·simp only [Act.put, List.setIfInBounds_toArray, List.set_cons_zero, List.set_cons_succ, i64_w, i32_w]
       rfl
      refine take_ (i := 5) (N := some 21) (v := ?_) (a' := ?_) (bm_ 14 575) rfl rfl (take_ofW HT_.out HW_.out (by kernel_rfl)) (fun _ _ _ h => h) (Or.inl ⟨by rfl, ?_⟩) hHeld ?_ ?_
      rotate_left
      ·rintro w' ⟨s0, s1, s2, s3, s4, s5, s6, s7, s8, s9, s10, s11⟩
       go_simp
       with_reducible rfl
      rotate_left
      ·simp only [Act.put, List.setIfInBounds_toArray, List.set_cons_zero, List.set_cons_succ, i64_w, i32_w]
       rfl
      refine pu_ 6 (some 22) (bm_ 14 639) (any_of HT_.out (by kernel_rfl)) ?_
      refine pu_ 7 (some 23) (bm_ 14 767) (any_of HT_.out (by kernel_rfl)) ?_
      refine take_ (i := 8) (N := some 24) (v := ?_) (a' := ?_) (bm_ 14 1023) rfl rfl (take_ofW HT_.out HW_.out (by kernel_rfl)) (fun _ _ _ h => h) (Or.inl ⟨by rfl, ?_⟩) hHeld ?_ ?_
      rotate_left
      ·rintro w' ⟨s0, s1, s2, s3, s4, s5, s6, s7, s8, s9, s10, s11⟩
       go_simp
       with_reducible rfl
      rotate_left
      ·simp only [Act.put, List.setIfInBounds_toArray, List.set_cons_zero, List.set_cons_succ, i64_w, i32_w]
       rfl
      refine pu_ 10 (some 26) (bm_ 14 2047) (any_of HT_.out (by kernel_rfl)) ?_
      refine one_ (i := 11) (N := some 27) (bm_ 14 4095) rfl rfl (one_of HT_.out (by kernel_rfl)) (by decide) (fun K hK => ?_)
      refine goes_ Try.func76 (by kernel_rfl) rfl #[.int .i64 (wrap64 (((rd_T29 l0_3 1).f1) + a1))] (by rfl) rfl rfl d6_ ?_
      with_reducible refine (impl_Wrap.calls (wrap64 (((rd_T29 l0_3 1).f1) + a1)) t402 _ A15.out).mono ?_
      rintro e w' ⟨rfl, ⟨nd, rfl⟩⟩
      refine ⟨_, rfl, ?_⟩
      refine hK.out _ _ ⟨(blk_cell BK397.out 0).trans rfl, (blk_cell BK397.out 1).trans rfl, (blk_cell BK397.out 2).trans rfl, (blk_cell BK397.out 3).trans rfl, hHeld.2.2.2.2.1, hHeld.2.2.2.2.2.1, hHeld.2.2.2.2.2.2.1, hHeld.2.2.2.2.2.2.2.1, hHeld.2.2.2.2.2.2.2.2.1, hHeld.2.2.2.2.2.2.2.2.2.1, hHeld.2.2.2.2.2.2.2.2.2.2.1, hHeld.2.2.2.2.2.2.2.2.2.2.2⟩ (fun hHeld => ?_)
      clear hK K
      refine norm_ (a' := ?_) ?_ ?_
      rotate_left
      ·show Act.put _ (some 27) _ = _
       simp only [Act.put, List.setIfInBounds_toArray, List.set_cons_zero, List.set_cons_succ, i64_w, i32_w]
       rfl
      refine one_ (i := 12) (N := some 28) (bm_ 14 8191) rfl rfl (one_of HT_.out (by kernel_rfl)) (by decide) (fun K hK => ?_)
      refine goes_ Try.func93 (by kernel_rfl) rfl #[.agg #[.int .i64 ((rd_T29 l0_3 0).f0), .int .i64 ((rd_T29 l0_3 0).f1), .string ((rd_T29 l0_3 0).f2), .slice A400_3 ((rd_T29 l0_3 0).f3).length c400_3], .int .i64 t402] (by rfl) rfl rfl d6_ ?_
      with_reducible refine (ih kj2 (by have := HJ2.out; omega) b0 ((rd_T29 l0_3 0).f0) ((rd_T29 l0_3 0).f1) ((rd_T29 l0_3 0).f2) (fun k_ => ((P0_3_ k_ ∨ w.heap.size ≤ k_) ∧ (k_ ≠ gb397 ∧ k_ ≠ gb398))) _ _ ((rd_T29 l0_3 0).f3) t402 t403 t404 t405 t406 _ ?sideb ?side1 A16.out).mono ?_
      (case sideb => exact Nat.le_trans hb0 (below_size (bw_ HB.out)))
      (case side1 => exact kz_ HL400_3.out)
      rintro e w18 ⟨v407, rfl, ho0, hb⟩
      have HS4_ := (hb.cell (World.block_lt_of_cell? _ _ (hHeld.2.2.2.2.1))).trans (hHeld.2.2.2.2.1)
      have HS5_ := (hb.cell (World.block_lt_of_cell? _ _ (hHeld.2.2.2.2.2.1))).trans (hHeld.2.2.2.2.2.1)
      have HS6_ := (hb.cell (World.block_lt_of_cell? _ _ (hHeld.2.2.2.2.2.2.1))).trans (hHeld.2.2.2.2.2.2.1)
      have HS7_ := (hb.cell (World.block_lt_of_cell? _ _ (hHeld.2.2.2.2.2.2.2.1))).trans (hHeld.2.2.2.2.2.2.2.1)
      have HS8_ := (hb.cell (World.block_lt_of_cell? _ _ (hHeld.2.2.2.2.2.2.2.2.1))).trans (hHeld.2.2.2.2.2.2.2.2.1)
      have HS9_ := (hb.cell (World.block_lt_of_cell? _ _ (hHeld.2.2.2.2.2.2.2.2.2.1))).trans (hHeld.2.2.2.2.2.2.2.2.2.1)
      have HS10_ := (hb.cell (World.block_lt_of_cell? _ _ (hHeld.2.2.2.2.2.2.2.2.2.2.1))).trans (hHeld.2.2.2.2.2.2.2.2.2.2.1)
      have HS11_ := (hb.cell (World.block_lt_of_cell? _ _ (hHeld.2.2.2.2.2.2.2.2.2.2.2))).trans (hHeld.2.2.2.2.2.2.2.2.2.2.2)
      refine ⟨_, rfl, ?_⟩
      replace HO_398003 := A_ (Kd.S_below (kz_ HO_398003.out) hb)
      replace HL400_3 := A_ (Kd.S_below (kz_ HL400_3.out) hb)
      replace HL401_3 := A_ (Kd.S_below (kz_ HL401_3.out) hb)
      have HO408 := A_ ((Kd.S_mono (ok' := fun k_ => (P0_3_ k_ ∨ w.heap.size ≤ k_) ∧ k_ ≠ gb397 ∧ k_ ≠ gb398) ho0 (fun k_ hk_ => ⟨Or.elim hk_ (fun hs_ => hs_.1) (fun hn_ => (.inr (Nat.le_trans (below_size (bw_ HB.out)) hn_))), Or.elim hk_ (fun hs_ => hs_.2.1) (fun hn_ => (Kd.freshB (bk_ BK397.out) k_ hn_)), Or.elim hk_ (fun hs_ => hs_.2.2) (fun hn_ => (Kd.freshB (bk_ BK398.out) k_ hn_))⟩)))
      replace BK397 := A_ (blk_below (bk_ BK397.out) hb)
      replace BK398 := A_ (blk_below (bk_ BK398.out) hb)
      replace HR400_3 := A_ (Kd.C_below (Kd.C_below HR400_3.out (bw_ (Below.refl _ _))) hb)
      replace HR401_3 := A_ (Kd.C_below (Kd.C_below HR401_3.out (bw_ (Below.refl _ _))) hb)
      replace HB := A_ (below_step (bw_ HB.out) hb)
      (try clear hb)
      (try clear hb2)
      (try clear hk)
      (try clear hi)
      (try clear ho0)
      obtain ⟨Ao22, co22, eo22⟩ := Kd.S_slice HO408.out
      (first | subst eo22 | (injection eo22 with f1_ f2_ f3_; have f4_ := f1_.symm; have f5_ := f3_.symm; clear f1_ f2_ f3_; subst f4_; subst f5_))
      refine hK.out _ _ ⟨(blk_cell BK397.out 0).trans rfl, (blk_cell BK397.out 1).trans rfl, (blk_cell BK397.out 2).trans rfl, (blk_cell BK397.out 3).trans rfl, HS4_, HS5_, HS6_, HS7_, HS8_, HS9_, HS10_, HS11_⟩ (fun hHeld => ?_)
      clear hK K
      refine norm_ (a' := ?_) ?_ ?_
      rotate_left
      ·show Act.put _ (some 28) _ = _
       simp only [Act.put, List.setIfInBounds_toArray, List.set_cons_zero, List.set_cons_succ, i64_w, i32_w]
       rfl
      refine one_ (i := 13) (N := none) (bm_ 14 16383) rfl rfl (one_of HT_.out (by kernel_rfl)) (by decide) (fun K hK => ?_)
      have hs19 : w18.cell? ⟨gb398, 0, none⟩ = some (.int .i64 0) := (blk_cell BK398.out 0).trans rfl
      have hfs19 := blk_frozen BK398.out 0
      have hns19_0 := NB397_398.out
      have hms19_0 := NB398_397.out
      have hs20 : w18.cell? ⟨gb398, 1, none⟩ = some (.int .i64 0) := (blk_cell BK398.out 1).trans rfl
      have hfs20 := blk_frozen BK398.out 1
      have hns20_0 := NB397_398.out
      have hms20_0 := NB398_397.out
      have hs21 : w18.cell? ⟨gb398, 2, none⟩ = some (.string (⟨#[]⟩ : ByteArray)) := (blk_cell BK398.out 2).trans rfl
      have hfs21 := blk_frozen BK398.out 2
      have hns21_0 := NB397_398.out
      have hms21_0 := NB398_397.out
      have hs23 : w18.cell? ⟨gb398, 3, none⟩ = some (.slice none 0 0) := (blk_cell BK398.out 3).trans rfl
      have hfs23 := blk_frozen BK398.out 3
      have hns23_0 := NB397_398.out
      have hms23_0 := NB398_397.out
      refine skip_ (w1 := ?_) (by rfl) rfl ?_ ?_
      rotate_left
      ·go_simp
       rfl
      refine hK.out _ _ ⟨(cf_ NB397_398 ((cf_ NB397_398 ((cf_ NB397_398 ((cf_ NB397_398 (hHeld.1)))))))), (cf_ NB397_398 ((cf_ NB397_398 ((cf_ NB397_398 ((cf_ NB397_398 (hHeld.2.1)))))))), (cf_ NB397_398 ((cf_ NB397_398 ((cf_ NB397_398 ((cf_ NB397_398 (hHeld.2.2.1)))))))), (cf_ NB397_398 ((cf_ NB397_398 ((cf_ NB397_398 ((cf_ NB397_398 (hHeld.2.2.2.1)))))))), ((cell_far (p := ⟨gb398, _, none⟩) d5_ _).trans (((cell_far (p := ⟨gb398, _, none⟩) d5_ _).trans (((cell_far (p := ⟨gb398, _, none⟩) d5_ _).trans (((cell_far (p := ⟨gb398, _, none⟩) d5_ _).trans (hHeld.2.2.2.2.1)))))))), ((cell_far (p := ⟨gb398, _, none⟩) d5_ _).trans (((cell_far (p := ⟨gb398, _, none⟩) d5_ _).trans (((cell_far (p := ⟨gb398, _, none⟩) d5_ _).trans (((cell_far (p := ⟨gb398, _, none⟩) d5_ _).trans (hHeld.2.2.2.2.2.1)))))))), ((cell_far (p := ⟨gb398, _, none⟩) d5_ _).trans (((cell_far (p := ⟨gb398, _, none⟩) d5_ _).trans (((cell_far (p := ⟨gb398, _, none⟩) d5_ _).trans (((cell_far (p := ⟨gb398, _, none⟩) d5_ _).trans (hHeld.2.2.2.2.2.2.1)))))))), ((cell_far (p := ⟨gb398, _, none⟩) d5_ _).trans (((cell_far (p := ⟨gb398, _, none⟩) d5_ _).trans (((cell_far (p := ⟨gb398, _, none⟩) d5_ _).trans (((cell_far (p := ⟨gb398, _, none⟩) d5_ _).trans (hHeld.2.2.2.2.2.2.2.1)))))))), ((cell_far (p := ⟨gb398, _, none⟩) d5_ _).trans (((cell_far (p := ⟨gb398, _, none⟩) d5_ _).trans (((cell_far (p := ⟨gb398, _, none⟩) d5_ _).trans (((cell_far (p := ⟨gb398, _, none⟩) d5_ _).trans (hHeld.2.2.2.2.2.2.2.2.1)))))))), ((cell_far (p := ⟨gb398, _, none⟩) d5_ _).trans (((cell_far (p := ⟨gb398, _, none⟩) d5_ _).trans (((cell_far (p := ⟨gb398, _, none⟩) d5_ _).trans (((cell_far (p := ⟨gb398, _, none⟩) d5_ _).trans (hHeld.2.2.2.2.2.2.2.2.2.1)))))))), ((cell_far (p := ⟨gb398, _, none⟩) d5_ _).trans (((cell_far (p := ⟨gb398, _, none⟩) d5_ _).trans (((cell_far (p := ⟨gb398, _, none⟩) d5_ _).trans (((cell_far (p := ⟨gb398, _, none⟩) d5_ _).trans (hHeld.2.2.2.2.2.2.2.2.2.2.1)))))))), ((cell_far (p := ⟨gb398, _, none⟩) d5_ _).trans (((cell_far (p := ⟨gb398, _, none⟩) d5_ _).trans (((cell_far (p := ⟨gb398, _, none⟩) d5_ _).trans (((cell_far (p := ⟨gb398, _, none⟩) d5_ _).trans (hHeld.2.2.2.2.2.2.2.2.2.2.2))))))))⟩ (fun hHeld => ?_)
      clear hK K
      refine done_ (done_of HT_.out (by kernel_rfl)) ?_
      try go_wp2
      refine bodyPost_ret (results_cell_row rfl _ _ gb398 29 #[.int .i64 t403, .int .i64 t404, .string t405, .slice Ao22 t406.length co22] (0, 0) _ rfl ?hb_ Try.underlying29 rfl (by kernel_rfl)) rfl ?_
      (case hb_ => exact bk_ (bp4_ (bk_ BK398.out)))
      exact ⟨_, by first | rfl | (simp [errW_none, errW_some] <;> rfl) | (simp [*, errW_none, errW_some] <;> rfl), kz_ (Kd.S_mono (zf4_ (Kd.S_mono HO408.out (fun k_ hk => (⟨hk, hk.2.2⟩ : _ ∧ k_ ≠ gb398))) (fun _ hk => hk.2)) (fun _ hk => hk.1.1)), bw_ HB.out⟩
     ·rw [if_neg c14] at H
      exact absurd H (by simp)
    ·rw [if_neg c13] at H
     exact absurd H (by simp)
   ·replace c12 := Bool.eq_false_iff.mpr c12
    subst c12
    rw [if_neg (show ¬ (false = true) by decide)] at H
    by_cases c24 : a1 = 0
    ·rw [if_pos c24] at H
     have c24b0 := beq_iff_eq.mpr c24
     have c24b1 := bne_eq_false_iff_eq.mpr c24
     clear c24
     simp only [Option.some.injEq, Prod.mk.injEq] at H
     obtain ⟨rfl, rfl, rfl, rfl⟩ := H
     have hnb25 := NB397_398.out
     have hnc25 := NB398_397.out
     obtain ⟨y26_0, y26_1, y26_2, y26_3, z26_0, z26_1, z26_2, z26_3⟩ := cz4_ BK397.out
     obtain ⟨y27_0, y27_1, y27_2, y27_3, z27_0, z27_1, z27_2, z27_3⟩ := cz4_ BK398.out
     go_wp2
     refine bodyPost_ret (results_cell_row rfl _ _ gb398 29 #[.int .i64 a0_0, .int .i64 a0_1, .string a0_2, .slice A0_3 l0_3.length c0_3] (0, 0) _ rfl ?hb_ Try.underlying29 rfl (by kernel_rfl)) rfl ?_
     (case hb_ => exact bk_ (bp4_ (bk_ BK398.out)))
     exact ⟨_, by first | rfl | (simp [errW_none, errW_some] <;> rfl) | (simp [*, errW_none, errW_some] <;> rfl), kz_ (Kd.S_mono (zf4_ (Kd.S_mono HO_398003.out (fun k_ hk => (⟨hk, hk.2.2⟩ : _ ∧ k_ ≠ gb398))) (fun _ hk => hk.2)) (fun _ hk => hk.1.1)), bw_ HB.out⟩
    ·rw [if_neg c24] at H
     have c24b0 := beq_eq_false_iff_ne.mpr c24
     have c24b1 := bne_iff_ne.mpr c24
     replace H := Option.bind_eq_some_iff.mp H
     obtain ⟨⟨t409, t410, t411, t412⟩, A280, H⟩ := H
     try dsimp only at H
     have A28 := A_ A280
     clear A280
     replace H := Option.bind_eq_some_iff.mp H
     obtain ⟨⟨t415, t416, t417, t418⟩, A290, H⟩ := H
     try dsimp only at H
     have A29 := A_ A290
     clear A290
     simp only [Option.some.injEq, Prod.mk.injEq] at H
     obtain ⟨rfl, rfl, rfl, rfl⟩ := H
     try go_wp2
     replace HO_398003 := A_ (Kd.S_drew HO_398003.out)
     replace BK397 := A_ (blk_drew BK397.out)
     replace BK398 := A_ (blk_drew BK398.out)
     replace HB := A_ (below_drew1 HB.out)
     refine start_ (n := 5) (S := fun w' => w'.cell? ⟨gb397, 0, none⟩ = some (.int .i64 a0_0) ∧ w'.cell? ⟨gb397, 1, none⟩ = some (.int .i64 a0_1) ∧ w'.cell? ⟨gb397, 2, none⟩ = some (.string a0_2) ∧ w'.cell? ⟨gb397, 3, none⟩ = some (.slice A0_3 l0_3.length c0_3)) (ds := []) #[false, false, false, false, false] (by kernel_rfl) rfl rfl ⟨(blk_cell BK397.out 0).trans rfl, (blk_cell BK397.out 1).trans rfl, (blk_cell BK397.out 2).trans rfl, (blk_cell BK397.out 3).trans rfl⟩ (fun hHeld => ?_)
     generalize wc.drew = w30 at HO_398003 BK397 BK398 HB hHeld ⊢
     refine pu_ 1 (some 33) (bm_ 5 2) (by kernel_rfl) ?_
     refine take_ (i := 0) (N := some 32) (v := ?_) (a' := ?_) (bm_ 5 3) rfl rfl (by kernel_rfl) (fun _ _ _ h => h) (Or.inl ⟨by rfl, ?_⟩) hHeld ?_ ?_
     rotate_left
     ·rintro w' ⟨s0, s1, s2, s3⟩
      go_simp
      with_reducible rfl
     rotate_left
     ·simp only [Act.put, List.setIfInBounds_toArray, List.set_cons_zero, List.set_cons_succ, i64_w, i32_w]
      rfl
     refine one_ (i := 2) (N := some 34) (bm_ 5 7) rfl rfl (by kernel_rfl) (by decide) (fun K hK => ?_)
     refine goes_ Try.func82 (by kernel_rfl) rfl #[.int .i64 a1] (by rfl) rfl rfl d6_ ?_
     with_reducible refine (impl_number.calls a1 t409 t410 t411 t412 _ A28.out).mono ?_
     rintro e w31 ⟨v413, rfl, ho0, hb⟩
     refine ⟨_, rfl, ?_⟩
     replace HO_398003 := A_ (Kd.S_elder' (kz_ HO_398003.out) d8_ hb)
     have HO414 := A_ (Kd.S_lower (Kd.S_mono (ok' := fun k_ => (P0_3_ k_ ∨ w.heap.size ≤ k_) ∧ k_ ≠ gb397 ∧ k_ ≠ gb398) (Kd.S_bound ho0) (fun k_ hk_ => ⟨(.inr (Nat.le_trans (below_size (bw_ HB.out)) hk_.2.1)), (Kd.freshB (bk_ BK397.out) k_ hk_.2.1), (Kd.freshB (bk_ BK398.out) k_ hk_.2.1)⟩)) (Nat.le_trans hb0 (below_size (bw_ HB.out))))
     replace BK397 := A_ (blk_below (bk_ BK397.out) hb)
     replace BK398 := A_ (blk_below (bk_ BK398.out) hb)
     replace HB := A_ (below_step (bw_ HB.out) hb)
     (try clear hb)
     (try clear hb2)
     (try clear hk)
     (try clear hi)
     (try clear ho0)
     obtain ⟨Ao32, co32, eo32⟩ := Kd.S_slice HO414.out
     (first | subst eo32 | (injection eo32 with f1_ f2_ f3_; have f4_ := f1_.symm; have f5_ := f3_.symm; clear f1_ f2_ f3_; subst f4_; subst f5_))
     refine hK.out _ _ ⟨(blk_cell BK397.out 0).trans rfl, (blk_cell BK397.out 1).trans rfl, (blk_cell BK397.out 2).trans rfl, (blk_cell BK397.out 3).trans rfl⟩ (fun hHeld => ?_)
     clear hK K
     refine norm_ (a' := ?_) ?_ ?_
     rotate_left
     ·show Act.put _ (some 34) _ = _
      simp only [Act.put, List.setIfInBounds_toArray, List.set_cons_zero, List.set_cons_succ, i64_w, i32_w]
      rfl
     refine one_ (i := 3) (N := some 35) (bm_ 5 15) rfl rfl (by kernel_rfl) (by decide) (fun K hK => ?_)
     refine goes_ Try.func92 (by kernel_rfl) rfl #[.int .i64 5, .agg #[.int .i64 a0_0, .int .i64 a0_1, .string a0_2, .slice A0_3 l0_3.length c0_3], .agg #[.int .i64 t409, .int .i64 t410, .string t411, .slice Ao32 t412.length co32]] (by rfl) rfl rfl d6_ ?_
     with_reducible refine (impl_two.calls b0 5 a0_0 a0_1 a0_2 (fun k_ => (((P0_3_ k_ ∨ w.heap.size ≤ k_) ∧ (k_ ≠ gb397 ∧ k_ ≠ gb398)) ∧ some k_ ≠ (.slice Ao32 t412.length co32 : Value).ownBlock)) _ _ l0_3 t409 t410 t411 (fun k_ => ((P0_3_ k_ ∨ w.heap.size ≤ k_) ∧ (k_ ≠ gb397 ∧ k_ ≠ gb398)) ∧ some k_ = (.slice Ao32 t412.length co32 : Value).ownBlock) _ _ t412 t415 t416 t417 t418 _ ?side1 ?side2 ?sideb ?sided A29.out).mono ?_
     (case side1 => exact kz_ HO_398003.out)
     (case side2 => have e_ := num_nil A28.out; subst e_; exact Kd.Z_emp HO414.out); (case sideb => exact Nat.le_trans hb0 (below_size (bw_ HB.out))); (case sided => exact fun k_ h1_ h2_ => h1_.2 h2_.2)
     rintro e w33 ⟨v419, rfl, ho0, hb⟩
     refine ⟨_, rfl, ?_⟩
     replace HO_398003 := A_ (Kd.S_below (kz_ HO_398003.out) hb)
     replace HO414 := A_ (Kd.S_below (by (with_reducible repeat (first | apply Kd.S_alloc | apply Kd.S_drewN | apply Kd.S_drew)); exact HO414.out) hb)
     have HO420 := A_ ((Kd.S_mono (ok' := fun k_ => (P0_3_ k_ ∨ w.heap.size ≤ k_) ∧ k_ ≠ gb397 ∧ k_ ≠ gb398) ho0 (fun k_ hk_ => ⟨Or.elim hk_ (fun hs_ => Or.elim hs_ (fun hs_ => hs_.1.1) (fun hs_ => hs_.1.1)) (fun hn_ => (.inr (Nat.le_trans (below_size (bw_ HB.out)) hn_))), Or.elim hk_ (fun hs_ => Or.elim hs_ (fun hs_ => hs_.1.2.1) (fun hs_ => hs_.1.2.1)) (fun hn_ => (Kd.freshB (bk_ BK397.out) k_ hn_)), Or.elim hk_ (fun hs_ => Or.elim hs_ (fun hs_ => hs_.1.2.2) (fun hs_ => hs_.1.2.2)) (fun hn_ => (Kd.freshB (bk_ BK398.out) k_ hn_))⟩)))
     replace BK397 := A_ (blk_below (bk_ BK397.out) hb)
     replace BK398 := A_ (blk_below (bk_ BK398.out) hb)
     replace HB := A_ (below_step (bw_ HB.out) hb)
     (try clear hb)
     (try clear hb2)
     (try clear hk)
     (try clear hi)
     (try clear ho0)
     obtain ⟨Ao37, co37, eo37⟩ := Kd.S_slice HO420.out
     (first | subst eo37 | (injection eo37 with f1_ f2_ f3_; have f4_ := f1_.symm; have f5_ := f3_.symm; clear f1_ f2_ f3_; subst f4_; subst f5_))
     refine hK.out _ _ ⟨(blk_cell BK397.out 0).trans rfl, (blk_cell BK397.out 1).trans rfl, (blk_cell BK397.out 2).trans rfl, (blk_cell BK397.out 3).trans rfl⟩ (fun hHeld => ?_)
     clear hK K
     refine norm_ (a' := ?_) ?_ ?_
     rotate_left
     ·show Act.put _ (some 35) _ = _
      simp only [Act.put, List.setIfInBounds_toArray, List.set_cons_zero, List.set_cons_succ, i64_w, i32_w]
      rfl
     refine one_ (i := 4) (N := none) (bm_ 5 31) rfl rfl (by kernel_rfl) (by decide) (fun K hK => ?_)
     have hs34 : w33.cell? ⟨gb398, 0, none⟩ = some (.int .i64 0) := (blk_cell BK398.out 0).trans rfl
     have hfs34 := blk_frozen BK398.out 0
     have hns34_0 := NB397_398.out
     have hms34_0 := NB398_397.out
     have hs35 : w33.cell? ⟨gb398, 1, none⟩ = some (.int .i64 0) := (blk_cell BK398.out 1).trans rfl
     have hfs35 := blk_frozen BK398.out 1
     have hns35_0 := NB397_398.out
     have hms35_0 := NB398_397.out
     have hs36 : w33.cell? ⟨gb398, 2, none⟩ = some (.string (⟨#[]⟩ : ByteArray)) := (blk_cell BK398.out 2).trans rfl
     have hfs36 := blk_frozen BK398.out 2
     have hns36_0 := NB397_398.out
     have hms36_0 := NB398_397.out
     have hs38 : w33.cell? ⟨gb398, 3, none⟩ = some (.slice none 0 0) := (blk_cell BK398.out 3).trans rfl
     have hfs38 := blk_frozen BK398.out 3
     have hns38_0 := NB397_398.out
     have hms38_0 := NB398_397.out
     refine skip_ (w1 := ?_) (by rfl) rfl ?_ ?_
     rotate_left
     ·go_simp
      rfl
     refine hK.out _ _ ⟨(cf_ NB397_398 ((cf_ NB397_398 ((cf_ NB397_398 ((cf_ NB397_398 (hHeld.1)))))))), (cf_ NB397_398 ((cf_ NB397_398 ((cf_ NB397_398 ((cf_ NB397_398 (hHeld.2.1)))))))), (cf_ NB397_398 ((cf_ NB397_398 ((cf_ NB397_398 ((cf_ NB397_398 (hHeld.2.2.1)))))))), (cf_ NB397_398 ((cf_ NB397_398 ((cf_ NB397_398 ((cf_ NB397_398 (hHeld.2.2.2))))))))⟩ (fun hHeld => ?_)
     clear hK K
     refine done_ (by kernel_rfl) ?_
     try go_wp2
     refine bodyPost_ret (results_cell_row rfl _ _ gb398 29 #[.int .i64 t415, .int .i64 t416, .string t417, .slice Ao37 t418.length co37] (0, 0) _ rfl ?hb_ Try.underlying29 rfl (by kernel_rfl)) rfl ?_
     (case hb_ => exact bk_ (bp4_ (bk_ BK398.out)))
     exact ⟨_, by first | rfl | (simp [errW_none, errW_some] <;> rfl) | (simp [*, errW_none, errW_some] <;> rfl), Kd.Z_V (by (with_reducible repeat (first | apply Kd.S_alloc | apply Kd.S_drewN | apply Kd.S_drew)); exact Kd.S_mono (zf4_ (Kd.S_mono HO420.out (fun k_ hk => (⟨hk, hk.2.2⟩ : _ ∧ k_ ≠ gb398))) (fun _ hk => hk.2)) (fun _ hk => hk.1.1)), bw_ HB.out⟩

/-! ### impl_inSect: function 94 -/
def impl_inSect.f (a0_0 : Int) (a0_1 : Int) (a0_2 : ByteArray) (l0_3 : List (S29)) : Option (Int × Int × Bool) := if a0_0 = 11 then (some (a0_1, 0, true)) else (if a0_0 = 5 then (if 0 < (l0_3.length : Int) then (if ((rd_T29 l0_3 0).f0) = 11 then (if 1 < (l0_3.length : Int) then (if ((rd_T29 l0_3 1).f0) = 1 then (some ((rd_T29 l0_3 0).f1, (rd_T29 l0_3 1).f1, true)) else (some (0, 0, false))) else (none)) else (some (0, 0, false))) else (none)) else (some (0, 0, false)))
set_option maxHeartbeats 8000000 in
set_option maxRecDepth 100000 in
theorem impl_inSect.calls (a0_0 : Int) (a0_1 : Int) (a0_2 : ByteArray) (A0_3 : Option Addr) (c0_3 : Nat) (l0_3 : List (S29)) (r1 : Int) (r2 : Int) (r3 : Bool) (w : World) (hr0_3 : Kd.C k29 w A0_3 l0_3.length l0_3) (hc0_3 : l0_3.length ≤ c0_3) (h : impl_inSect.f a0_0 a0_1 a0_2 l0_3 = some (r1, r2, r3)) :
  Calls Try.prog 94 #[.agg #[.int .i64 a0_0, .int .i64 a0_1, .string a0_2, .slice A0_3 l0_3.length c0_3]] w fun e w' => e = .returned (.tuple #[.int .i64 r1, .int .i64 r2, .bool r3]) ∧ Below w.heap.size w w' := by
 have hu29 := Try.underlying29
 have HR0_3 := A_ hr0_3
 have HC0_3 := A_ hc0_3
 clear hr0_3 hc0_3
 have HB := A_ (Below.refl w.heap.size w)
 have H : (if a0_0 = 11 then (some (a0_1, 0, true)) else (if a0_0 = 5 then (if 0 < (l0_3.length : Int) then (if ((rd_T29 l0_3 0).f0) = 11 then (if 1 < (l0_3.length : Int) then (if ((rd_T29 l0_3 1).f0) = 1 then (some ((rd_T29 l0_3 0).f1, (rd_T29 l0_3 1).f1, true)) else (some (0, 0, false))) else (none)) else (some (0, 0, false))) else (none)) else (some (0, 0, false)))) = some (r1, r2, r3) := h
 clear h
 by_cases c2 : a0_0 = 11
 ·rw [if_pos c2] at H
  have c2b0 := beq_iff_eq.mpr c2
  have c2b1 := bne_eq_false_iff_eq.mpr c2
  clear c2
  simp only [Option.some.injEq, Prod.mk.injEq] at H
  obtain ⟨rfl, rfl, rfl⟩ := H
  go_enter Try.func94, Try.ntmps94
  go_wp2_with (first | ((with_reducible refine gate_dst (N := 1) rfl ?_); refine bx_ 1 #[.int .i64 a0_0, .int .i64 a0_1, .string a0_2, .slice A0_3 l0_3.length c0_3] 29 ?_; intro gb421 hg w3 hbox hb; have n0_ := A_ (below_step (bw_ HB.out) hb); have n1_ := A_ (hbox); have n2_ := A_ ((d3_ : w.heap.size ≤ gb421)); have n3_ := n2_; clear HB; have HB := n0_; have BK421 := n1_; have GW421 := n2_; have GE421 := n3_; have GI421 := GeI.mk GE421.out; clear n0_ n1_ n2_ n3_; clear hb hbox hg; obtain ⟨y4_0, y4_1, y4_2, y4_3, z4_0, z4_1, z4_2, z4_3⟩ := cz4_ BK421.out))
  repeat (go_quiet (first | ((with_reducible refine gate_dst (N := 1) rfl ?_); refine bx_ 1 #[.int .i64 a0_0, .int .i64 a0_1, .string a0_2, .slice A0_3 l0_3.length c0_3] 29 ?_; intro gb421 hg w3 hbox hb; have n0_ := A_ (below_step (bw_ HB.out) hb); have n1_ := A_ (hbox); have n2_ := A_ ((d3_ : w.heap.size ≤ gb421)); have n3_ := n2_; clear HB; have HB := n0_; have BK421 := n1_; have GW421 := n2_; have GE421 := n3_; have GI421 := GeI.mk GE421.out; clear n0_ n1_ n2_ n3_; clear hb hbox hg; obtain ⟨y4_0, y4_1, y4_2, y4_3, z4_0, z4_1, z4_2, z4_3⟩ := cz4_ BK421.out)); try go_wp2_with (first | ((with_reducible refine gate_dst (N := 1) rfl ?_); refine bx_ 1 #[.int .i64 a0_0, .int .i64 a0_1, .string a0_2, .slice A0_3 l0_3.length c0_3] 29 ?_; intro gb421 hg w3 hbox hb; have n0_ := A_ (below_step (bw_ HB.out) hb); have n1_ := A_ (hbox); have n2_ := A_ ((d3_ : w.heap.size ≤ gb421)); have n3_ := n2_; clear HB; have HB := n0_; have BK421 := n1_; have GW421 := n2_; have GE421 := n3_; have GI421 := GeI.mk GE421.out; clear n0_ n1_ n2_ n3_; clear hb hbox hg; obtain ⟨y4_0, y4_1, y4_2, y4_3, z4_0, z4_1, z4_2, z4_3⟩ := cz4_ BK421.out)))
  go_ret3
  exact rt_ (bw_ HB.out)
 ·rw [if_neg c2] at H
  have c2b0 := beq_eq_false_iff_ne.mpr c2
  have c2b1 := bne_iff_ne.mpr c2
  by_cases c5 : a0_0 = 5
  ·rw [if_pos c5] at H
   have c5b0 := beq_iff_eq.mpr c5
   have c5b1 := bne_eq_false_iff_eq.mpr c5
   clear c5
   by_cases c6 : 0 < (l0_3.length : Int)
   ·rw [if_pos c6] at H
    have c6b0 := decide_eq_true c6
    have c6b1 : decide (0 < l0_3.length) = true := decide_eq_true (by omega)
    clear c6
    by_cases c7 : ((rd_T29 l0_3 0).f0) = 11
    ·rw [if_pos c7] at H
     have c7b0 := beq_iff_eq.mpr c7
     have c7b1 := bne_eq_false_iff_eq.mpr c7
     clear c7
     by_cases c8 : 1 < (l0_3.length : Int)
     ·rw [if_pos c8] at H
      have c8b0 := decide_eq_true c8
      have c8b1 : decide (1 < l0_3.length) = true := decide_eq_true (by omega)
      clear c8
      by_cases c9 : ((rd_T29 l0_3 1).f0) = 1
      ·rw [if_pos c9] at H
       have c9b0 := beq_iff_eq.mpr c9
       have c9b1 := bne_eq_false_iff_eq.mpr c9
       clear c9
       simp only [Option.some.injEq, Prod.mk.injEq] at H
       obtain ⟨rfl, rfl, rfl⟩ := H
       go_enter Try.func94, Try.ntmps94
       go_wp2_with (first | ((with_reducible refine gate_dst (N := 1) rfl ?_); refine bx_ 1 #[.int .i64 a0_0, .int .i64 a0_1, .string a0_2, .slice A0_3 l0_3.length c0_3] 29 ?_; intro gb421 hg w10 hbox hb; have n0_ := A_ (below_step (bw_ HB.out) hb); have n1_ := A_ (hbox); have n2_ := A_ ((d3_ : w.heap.size ≤ gb421)); have n3_ := n2_; clear HB; have HB := n0_; have BK421 := n1_; have GW421 := n2_; have GE421 := n3_; have GI421 := GeI.mk GE421.out; clear n0_ n1_ n2_ n3_; clear hb hbox hg; obtain ⟨y11_0, y11_1, y11_2, y11_3, z11_0, z11_1, z11_2, z11_3⟩ := cz4_ BK421.out; have p422 : 0 ≤ (0 : Int) := (by omega); have q422 : 0 < (l0_3.length : Int) := of_decide_eq_true d1_; obtain ⟨ad422, A422_3, c422_3, e422, hx422_0, hx422_1, hx422_2, hx422_3, hl422_3, hi422_3⟩ := at_T29 HR0_3.out 0 p422 q422; cases e422; have qi422 : (0 < l0_3.length) = True := eq_true (by omega); (try rw [show ((0 : Int)).toNat = 0 from rfl] at hx422_0); (try rw [show 0 * 4 = 0 from rfl] at hx422_0); (try rw [Addr.add_zero'] at hx422_0); (try rw [show ((0 : Int)).toNat = 0 from rfl] at hx422_1); (try rw [show 0 * 4 = 0 from rfl] at hx422_1); (try rw [Addr.add_zero'] at hx422_1); (try rw [show ((0 : Int)).toNat = 0 from rfl] at hx422_2); (try rw [show 0 * 4 = 0 from rfl] at hx422_2); (try rw [Addr.add_zero'] at hx422_2); (try rw [show ((0 : Int)).toNat = 0 from rfl] at hx422_3); (try rw [show 0 * 4 = 0 from rfl] at hx422_3); (try rw [Addr.add_zero'] at hx422_3); replace hx422_0 := (HB.out.cell (World.block_lt_of_cell? w _ hx422_0)).trans hx422_0; replace hx422_1 := (HB.out.cell (World.block_lt_of_cell? w _ hx422_1)).trans hx422_1; replace hx422_2 := (HB.out.cell (World.block_lt_of_cell? w _ hx422_2)).trans hx422_2; replace hx422_3 := (HB.out.cell (World.block_lt_of_cell? w _ hx422_3)).trans hx422_3; have HR422_3 := A_ hi422_3; have HC422_3 := A_ hl422_3; clear hi422_3 hl422_3; replace p422 := eq_true p422; replace q422 := eq_true q422; have p423 : 0 ≤ (1 : Int) := (by omega); have q423 : 1 < (l0_3.length : Int) := of_decide_eq_true d1_; obtain ⟨ad423, A423_3, c423_3, e423, hx423_0, hx423_1, hx423_2, hx423_3, hl423_3, hi423_3⟩ := at_T29 HR0_3.out 1 p423 q423; obtain rfl : ad422 = ad423 := (by injection e423); (try simp only [show (1 : Int).toNat = 1 from rfl, Nat.reduceMul, Nat.reduceEqDiff, Go.Addr.add, ↓reduceIte] at hx423_0); (try simp only [show (1 : Int).toNat = 1 from rfl, Nat.reduceMul, Nat.reduceEqDiff, Go.Addr.add, ↓reduceIte] at hx423_1); (try simp only [show (1 : Int).toNat = 1 from rfl, Nat.reduceMul, Nat.reduceEqDiff, Go.Addr.add, ↓reduceIte] at hx423_2); (try simp only [show (1 : Int).toNat = 1 from rfl, Nat.reduceMul, Nat.reduceEqDiff, Go.Addr.add, ↓reduceIte] at hx423_3); have qi423 : (1 < l0_3.length) = True := eq_true (by omega); (try rw [show ((1 : Int)).toNat = 1 from rfl] at hx423_0); (try rw [show 1 * 4 = 4 from rfl] at hx423_0); (try rw [show ((1 : Int)).toNat = 1 from rfl] at hx423_1); (try rw [show 1 * 4 = 4 from rfl] at hx423_1); (try rw [show ((1 : Int)).toNat = 1 from rfl] at hx423_2); (try rw [show 1 * 4 = 4 from rfl] at hx423_2); (try rw [show ((1 : Int)).toNat = 1 from rfl] at hx423_3); (try rw [show 1 * 4 = 4 from rfl] at hx423_3); replace hx423_0 := (HB.out.cell (World.block_lt_of_cell? w _ hx423_0)).trans hx423_0; replace hx423_1 := (HB.out.cell (World.block_lt_of_cell? w _ hx423_1)).trans hx423_1; replace hx423_2 := (HB.out.cell (World.block_lt_of_cell? w _ hx423_2)).trans hx423_2; replace hx423_3 := (HB.out.cell (World.block_lt_of_cell? w _ hx423_3)).trans hx423_3; have HR423_3 := A_ hi423_3; have HC423_3 := A_ hl423_3; clear hi423_3 hl423_3; replace p423 := eq_true p423; replace q423 := eq_true q423; have p424 : 0 ≤ (0 : Int) := (by omega); have q424 : 0 < (l0_3.length : Int) := of_decide_eq_true d1_; obtain ⟨ad424, A424_3, c424_3, e424, hx424_0, hx424_1, hx424_2, hx424_3, hl424_3, hi424_3⟩ := at_T29 HR0_3.out 0 p424 q424; obtain rfl : ad422 = ad424 := (by injection e424); have qi424 : (0 < l0_3.length) = True := eq_true (by omega); (try rw [show ((0 : Int)).toNat = 0 from rfl] at hx424_0); (try rw [show 0 * 4 = 0 from rfl] at hx424_0); (try rw [Addr.add_zero'] at hx424_0); (try rw [show ((0 : Int)).toNat = 0 from rfl] at hx424_1); (try rw [show 0 * 4 = 0 from rfl] at hx424_1); (try rw [Addr.add_zero'] at hx424_1); (try rw [show ((0 : Int)).toNat = 0 from rfl] at hx424_2); (try rw [show 0 * 4 = 0 from rfl] at hx424_2); (try rw [Addr.add_zero'] at hx424_2); (try rw [show ((0 : Int)).toNat = 0 from rfl] at hx424_3); (try rw [show 0 * 4 = 0 from rfl] at hx424_3); (try rw [Addr.add_zero'] at hx424_3); replace hx424_0 := (HB.out.cell (World.block_lt_of_cell? w _ hx424_0)).trans hx424_0; replace hx424_1 := (HB.out.cell (World.block_lt_of_cell? w _ hx424_1)).trans hx424_1; replace hx424_2 := (HB.out.cell (World.block_lt_of_cell? w _ hx424_2)).trans hx424_2; replace hx424_3 := (HB.out.cell (World.block_lt_of_cell? w _ hx424_3)).trans hx424_3; have HR424_3 := A_ hi424_3; have HC424_3 := A_ hl424_3; clear hi424_3 hl424_3; replace p424 := eq_true p424; replace q424 := eq_true q424; have ea_ := Option.some.inj (hx422_3.symm.trans hx424_3); injection ea_ with ea_ en_ ec_; subst ea_; subst ec_; clear en_; have p425 : 0 ≤ (1 : Int) := (by omega); have q425 : 1 < (l0_3.length : Int) := of_decide_eq_true d1_; obtain ⟨ad425, A425_3, c425_3, e425, hx425_0, hx425_1, hx425_2, hx425_3, hl425_3, hi425_3⟩ := at_T29 HR0_3.out 1 p425 q425; obtain rfl : ad422 = ad425 := (by injection e425); (try simp only [show (1 : Int).toNat = 1 from rfl, Nat.reduceMul, Nat.reduceEqDiff, Go.Addr.add, ↓reduceIte] at hx425_0); (try simp only [show (1 : Int).toNat = 1 from rfl, Nat.reduceMul, Nat.reduceEqDiff, Go.Addr.add, ↓reduceIte] at hx425_1); (try simp only [show (1 : Int).toNat = 1 from rfl, Nat.reduceMul, Nat.reduceEqDiff, Go.Addr.add, ↓reduceIte] at hx425_2); (try simp only [show (1 : Int).toNat = 1 from rfl, Nat.reduceMul, Nat.reduceEqDiff, Go.Addr.add, ↓reduceIte] at hx425_3); have qi425 : (1 < l0_3.length) = True := eq_true (by omega); (try rw [show ((1 : Int)).toNat = 1 from rfl] at hx425_0); (try rw [show 1 * 4 = 4 from rfl] at hx425_0); (try rw [show ((1 : Int)).toNat = 1 from rfl] at hx425_1); (try rw [show 1 * 4 = 4 from rfl] at hx425_1); (try rw [show ((1 : Int)).toNat = 1 from rfl] at hx425_2); (try rw [show 1 * 4 = 4 from rfl] at hx425_2); (try rw [show ((1 : Int)).toNat = 1 from rfl] at hx425_3); (try rw [show 1 * 4 = 4 from rfl] at hx425_3); replace hx425_0 := (HB.out.cell (World.block_lt_of_cell? w _ hx425_0)).trans hx425_0; replace hx425_1 := (HB.out.cell (World.block_lt_of_cell? w _ hx425_1)).trans hx425_1; replace hx425_2 := (HB.out.cell (World.block_lt_of_cell? w _ hx425_2)).trans hx425_2; replace hx425_3 := (HB.out.cell (World.block_lt_of_cell? w _ hx425_3)).trans hx425_3; have HR425_3 := A_ hi425_3; have HC425_3 := A_ hl425_3; clear hi425_3 hl425_3; replace p425 := eq_true p425; replace q425 := eq_true q425; have ea_ := Option.some.inj (hx423_3.symm.trans hx425_3); injection ea_ with ea_ en_ ec_; subst ea_; subst ec_; clear en_))
       repeat (go_quiet (first | ((with_reducible refine gate_dst (N := 1) rfl ?_); refine bx_ 1 #[.int .i64 a0_0, .int .i64 a0_1, .string a0_2, .slice A0_3 l0_3.length c0_3] 29 ?_; intro gb421 hg w10 hbox hb; have n0_ := A_ (below_step (bw_ HB.out) hb); have n1_ := A_ (hbox); have n2_ := A_ ((d3_ : w.heap.size ≤ gb421)); have n3_ := n2_; clear HB; have HB := n0_; have BK421 := n1_; have GW421 := n2_; have GE421 := n3_; have GI421 := GeI.mk GE421.out; clear n0_ n1_ n2_ n3_; clear hb hbox hg; obtain ⟨y11_0, y11_1, y11_2, y11_3, z11_0, z11_1, z11_2, z11_3⟩ := cz4_ BK421.out; have p422 : 0 ≤ (0 : Int) := (by omega); have q422 : 0 < (l0_3.length : Int) := of_decide_eq_true d1_; obtain ⟨ad422, A422_3, c422_3, e422, hx422_0, hx422_1, hx422_2, hx422_3, hl422_3, hi422_3⟩ := at_T29 HR0_3.out 0 p422 q422; cases e422; have qi422 : (0 < l0_3.length) = True := eq_true (by omega); (try rw [show ((0 : Int)).toNat = 0 from rfl] at hx422_0); (try rw [show 0 * 4 = 0 from rfl] at hx422_0); (try rw [Addr.add_zero'] at hx422_0); (try rw [show ((0 : Int)).toNat = 0 from rfl] at hx422_1); (try rw [show 0 * 4 = 0 from rfl] at hx422_1); (try rw [Addr.add_zero'] at hx422_1); (try rw [show ((0 : Int)).toNat = 0 from rfl] at hx422_2); (try rw [show 0 * 4 = 0 from rfl] at hx422_2); (try rw [Addr.add_zero'] at hx422_2); (try rw [show ((0 : Int)).toNat = 0 from rfl] at hx422_3); (try rw [show 0 * 4 = 0 from rfl] at hx422_3); (try rw [Addr.add_zero'] at hx422_3); replace hx422_0 := (HB.out.cell (World.block_lt_of_cell? w _ hx422_0)).trans hx422_0; replace hx422_1 := (HB.out.cell (World.block_lt_of_cell? w _ hx422_1)).trans hx422_1; replace hx422_2 := (HB.out.cell (World.block_lt_of_cell? w _ hx422_2)).trans hx422_2; replace hx422_3 := (HB.out.cell (World.block_lt_of_cell? w _ hx422_3)).trans hx422_3; have HR422_3 := A_ hi422_3; have HC422_3 := A_ hl422_3; clear hi422_3 hl422_3; replace p422 := eq_true p422; replace q422 := eq_true q422; have p423 : 0 ≤ (1 : Int) := (by omega); have q423 : 1 < (l0_3.length : Int) := of_decide_eq_true d1_; obtain ⟨ad423, A423_3, c423_3, e423, hx423_0, hx423_1, hx423_2, hx423_3, hl423_3, hi423_3⟩ := at_T29 HR0_3.out 1 p423 q423; obtain rfl : ad422 = ad423 := (by injection e423); (try simp only [show (1 : Int).toNat = 1 from rfl, Nat.reduceMul, Nat.reduceEqDiff, Go.Addr.add, ↓reduceIte] at hx423_0); (try simp only [show (1 : Int).toNat = 1 from rfl, Nat.reduceMul, Nat.reduceEqDiff, Go.Addr.add, ↓reduceIte] at hx423_1); (try simp only [show (1 : Int).toNat = 1 from rfl, Nat.reduceMul, Nat.reduceEqDiff, Go.Addr.add, ↓reduceIte] at hx423_2); (try simp only [show (1 : Int).toNat = 1 from rfl, Nat.reduceMul, Nat.reduceEqDiff, Go.Addr.add, ↓reduceIte] at hx423_3); have qi423 : (1 < l0_3.length) = True := eq_true (by omega); (try rw [show ((1 : Int)).toNat = 1 from rfl] at hx423_0); (try rw [show 1 * 4 = 4 from rfl] at hx423_0); (try rw [show ((1 : Int)).toNat = 1 from rfl] at hx423_1); (try rw [show 1 * 4 = 4 from rfl] at hx423_1); (try rw [show ((1 : Int)).toNat = 1 from rfl] at hx423_2); (try rw [show 1 * 4 = 4 from rfl] at hx423_2); (try rw [show ((1 : Int)).toNat = 1 from rfl] at hx423_3); (try rw [show 1 * 4 = 4 from rfl] at hx423_3); replace hx423_0 := (HB.out.cell (World.block_lt_of_cell? w _ hx423_0)).trans hx423_0; replace hx423_1 := (HB.out.cell (World.block_lt_of_cell? w _ hx423_1)).trans hx423_1; replace hx423_2 := (HB.out.cell (World.block_lt_of_cell? w _ hx423_2)).trans hx423_2; replace hx423_3 := (HB.out.cell (World.block_lt_of_cell? w _ hx423_3)).trans hx423_3; have HR423_3 := A_ hi423_3; have HC423_3 := A_ hl423_3; clear hi423_3 hl423_3; replace p423 := eq_true p423; replace q423 := eq_true q423; have p424 : 0 ≤ (0 : Int) := (by omega); have q424 : 0 < (l0_3.length : Int) := of_decide_eq_true d1_; obtain ⟨ad424, A424_3, c424_3, e424, hx424_0, hx424_1, hx424_2, hx424_3, hl424_3, hi424_3⟩ := at_T29 HR0_3.out 0 p424 q424; obtain rfl : ad422 = ad424 := (by injection e424); have qi424 : (0 < l0_3.length) = True := eq_true (by omega); (try rw [show ((0 : Int)).toNat = 0 from rfl] at hx424_0); (try rw [show 0 * 4 = 0 from rfl] at hx424_0); (try rw [Addr.add_zero'] at hx424_0); (try rw [show ((0 : Int)).toNat = 0 from rfl] at hx424_1); (try rw [show 0 * 4 = 0 from rfl] at hx424_1); (try rw [Addr.add_zero'] at hx424_1); (try rw [show ((0 : Int)).toNat = 0 from rfl] at hx424_2); (try rw [show 0 * 4 = 0 from rfl] at hx424_2); (try rw [Addr.add_zero'] at hx424_2); (try rw [show ((0 : Int)).toNat = 0 from rfl] at hx424_3); (try rw [show 0 * 4 = 0 from rfl] at hx424_3); (try rw [Addr.add_zero'] at hx424_3); replace hx424_0 := (HB.out.cell (World.block_lt_of_cell? w _ hx424_0)).trans hx424_0; replace hx424_1 := (HB.out.cell (World.block_lt_of_cell? w _ hx424_1)).trans hx424_1; replace hx424_2 := (HB.out.cell (World.block_lt_of_cell? w _ hx424_2)).trans hx424_2; replace hx424_3 := (HB.out.cell (World.block_lt_of_cell? w _ hx424_3)).trans hx424_3; have HR424_3 := A_ hi424_3; have HC424_3 := A_ hl424_3; clear hi424_3 hl424_3; replace p424 := eq_true p424; replace q424 := eq_true q424; have ea_ := Option.some.inj (hx422_3.symm.trans hx424_3); injection ea_ with ea_ en_ ec_; subst ea_; subst ec_; clear en_; have p425 : 0 ≤ (1 : Int) := (by omega); have q425 : 1 < (l0_3.length : Int) := of_decide_eq_true d1_; obtain ⟨ad425, A425_3, c425_3, e425, hx425_0, hx425_1, hx425_2, hx425_3, hl425_3, hi425_3⟩ := at_T29 HR0_3.out 1 p425 q425; obtain rfl : ad422 = ad425 := (by injection e425); (try simp only [show (1 : Int).toNat = 1 from rfl, Nat.reduceMul, Nat.reduceEqDiff, Go.Addr.add, ↓reduceIte] at hx425_0); (try simp only [show (1 : Int).toNat = 1 from rfl, Nat.reduceMul, Nat.reduceEqDiff, Go.Addr.add, ↓reduceIte] at hx425_1); (try simp only [show (1 : Int).toNat = 1 from rfl, Nat.reduceMul, Nat.reduceEqDiff, Go.Addr.add, ↓reduceIte] at hx425_2); (try simp only [show (1 : Int).toNat = 1 from rfl, Nat.reduceMul, Nat.reduceEqDiff, Go.Addr.add, ↓reduceIte] at hx425_3); have qi425 : (1 < l0_3.length) = True := eq_true (by omega); (try rw [show ((1 : Int)).toNat = 1 from rfl] at hx425_0); (try rw [show 1 * 4 = 4 from rfl] at hx425_0); (try rw [show ((1 : Int)).toNat = 1 from rfl] at hx425_1); (try rw [show 1 * 4 = 4 from rfl] at hx425_1); (try rw [show ((1 : Int)).toNat = 1 from rfl] at hx425_2); (try rw [show 1 * 4 = 4 from rfl] at hx425_2); (try rw [show ((1 : Int)).toNat = 1 from rfl] at hx425_3); (try rw [show 1 * 4 = 4 from rfl] at hx425_3); replace hx425_0 := (HB.out.cell (World.block_lt_of_cell? w _ hx425_0)).trans hx425_0; replace hx425_1 := (HB.out.cell (World.block_lt_of_cell? w _ hx425_1)).trans hx425_1; replace hx425_2 := (HB.out.cell (World.block_lt_of_cell? w _ hx425_2)).trans hx425_2; replace hx425_3 := (HB.out.cell (World.block_lt_of_cell? w _ hx425_3)).trans hx425_3; have HR425_3 := A_ hi425_3; have HC425_3 := A_ hl425_3; clear hi425_3 hl425_3; replace p425 := eq_true p425; replace q425 := eq_true q425; have ea_ := Option.some.inj (hx423_3.symm.trans hx425_3); injection ea_ with ea_ en_ ec_; subst ea_; subst ec_; clear en_)); try go_wp2_with (first | ((with_reducible refine gate_dst (N := 1) rfl ?_); refine bx_ 1 #[.int .i64 a0_0, .int .i64 a0_1, .string a0_2, .slice A0_3 l0_3.length c0_3] 29 ?_; intro gb421 hg w10 hbox hb; have n0_ := A_ (below_step (bw_ HB.out) hb); have n1_ := A_ (hbox); have n2_ := A_ ((d3_ : w.heap.size ≤ gb421)); have n3_ := n2_; clear HB; have HB := n0_; have BK421 := n1_; have GW421 := n2_; have GE421 := n3_; have GI421 := GeI.mk GE421.out; clear n0_ n1_ n2_ n3_; clear hb hbox hg; obtain ⟨y11_0, y11_1, y11_2, y11_3, z11_0, z11_1, z11_2, z11_3⟩ := cz4_ BK421.out; have p422 : 0 ≤ (0 : Int) := (by omega); have q422 : 0 < (l0_3.length : Int) := of_decide_eq_true d1_; obtain ⟨ad422, A422_3, c422_3, e422, hx422_0, hx422_1, hx422_2, hx422_3, hl422_3, hi422_3⟩ := at_T29 HR0_3.out 0 p422 q422; cases e422; have qi422 : (0 < l0_3.length) = True := eq_true (by omega); (try rw [show ((0 : Int)).toNat = 0 from rfl] at hx422_0); (try rw [show 0 * 4 = 0 from rfl] at hx422_0); (try rw [Addr.add_zero'] at hx422_0); (try rw [show ((0 : Int)).toNat = 0 from rfl] at hx422_1); (try rw [show 0 * 4 = 0 from rfl] at hx422_1); (try rw [Addr.add_zero'] at hx422_1); (try rw [show ((0 : Int)).toNat = 0 from rfl] at hx422_2); (try rw [show 0 * 4 = 0 from rfl] at hx422_2); (try rw [Addr.add_zero'] at hx422_2); (try rw [show ((0 : Int)).toNat = 0 from rfl] at hx422_3); (try rw [show 0 * 4 = 0 from rfl] at hx422_3); (try rw [Addr.add_zero'] at hx422_3); replace hx422_0 := (HB.out.cell (World.block_lt_of_cell? w _ hx422_0)).trans hx422_0; replace hx422_1 := (HB.out.cell (World.block_lt_of_cell? w _ hx422_1)).trans hx422_1; replace hx422_2 := (HB.out.cell (World.block_lt_of_cell? w _ hx422_2)).trans hx422_2; replace hx422_3 := (HB.out.cell (World.block_lt_of_cell? w _ hx422_3)).trans hx422_3; have HR422_3 := A_ hi422_3; have HC422_3 := A_ hl422_3; clear hi422_3 hl422_3; replace p422 := eq_true p422; replace q422 := eq_true q422; have p423 : 0 ≤ (1 : Int) := (by omega); have q423 : 1 < (l0_3.length : Int) := of_decide_eq_true d1_; obtain ⟨ad423, A423_3, c423_3, e423, hx423_0, hx423_1, hx423_2, hx423_3, hl423_3, hi423_3⟩ := at_T29 HR0_3.out 1 p423 q423; obtain rfl : ad422 = ad423 := (by injection e423); (try simp only [show (1 : Int).toNat = 1 from rfl, Nat.reduceMul, Nat.reduceEqDiff, Go.Addr.add, ↓reduceIte] at hx423_0); (try simp only [show (1 : Int).toNat = 1 from rfl, Nat.reduceMul, Nat.reduceEqDiff, Go.Addr.add, ↓reduceIte] at hx423_1); (try simp only [show (1 : Int).toNat = 1 from rfl, Nat.reduceMul, Nat.reduceEqDiff, Go.Addr.add, ↓reduceIte] at hx423_2); (try simp only [show (1 : Int).toNat = 1 from rfl, Nat.reduceMul, Nat.reduceEqDiff, Go.Addr.add, ↓reduceIte] at hx423_3); have qi423 : (1 < l0_3.length) = True := eq_true (by omega); (try rw [show ((1 : Int)).toNat = 1 from rfl] at hx423_0); (try rw [show 1 * 4 = 4 from rfl] at hx423_0); (try rw [show ((1 : Int)).toNat = 1 from rfl] at hx423_1); (try rw [show 1 * 4 = 4 from rfl] at hx423_1); (try rw [show ((1 : Int)).toNat = 1 from rfl] at hx423_2); (try rw [show 1 * 4 = 4 from rfl] at hx423_2); (try rw [show ((1 : Int)).toNat = 1 from rfl] at hx423_3); (try rw [show 1 * 4 = 4 from rfl] at hx423_3); replace hx423_0 := (HB.out.cell (World.block_lt_of_cell? w _ hx423_0)).trans hx423_0; replace hx423_1 := (HB.out.cell (World.block_lt_of_cell? w _ hx423_1)).trans hx423_1; replace hx423_2 := (HB.out.cell (World.block_lt_of_cell? w _ hx423_2)).trans hx423_2; replace hx423_3 := (HB.out.cell (World.block_lt_of_cell? w _ hx423_3)).trans hx423_3; have HR423_3 := A_ hi423_3; have HC423_3 := A_ hl423_3; clear hi423_3 hl423_3; replace p423 := eq_true p423; replace q423 := eq_true q423; have p424 : 0 ≤ (0 : Int) := (by omega); have q424 : 0 < (l0_3.length : Int) := of_decide_eq_true d1_; obtain ⟨ad424, A424_3, c424_3, e424, hx424_0, hx424_1, hx424_2, hx424_3, hl424_3, hi424_3⟩ := at_T29 HR0_3.out 0 p424 q424; obtain rfl : ad422 = ad424 := (by injection e424); have qi424 : (0 < l0_3.length) = True := eq_true (by omega); (try rw [show ((0 : Int)).toNat = 0 from rfl] at hx424_0); (try rw [show 0 * 4 = 0 from rfl] at hx424_0); (try rw [Addr.add_zero'] at hx424_0); (try rw [show ((0 : Int)).toNat = 0 from rfl] at hx424_1); (try rw [show 0 * 4 = 0 from rfl] at hx424_1); (try rw [Addr.add_zero'] at hx424_1); (try rw [show ((0 : Int)).toNat = 0 from rfl] at hx424_2); (try rw [show 0 * 4 = 0 from rfl] at hx424_2); (try rw [Addr.add_zero'] at hx424_2); (try rw [show ((0 : Int)).toNat = 0 from rfl] at hx424_3); (try rw [show 0 * 4 = 0 from rfl] at hx424_3); (try rw [Addr.add_zero'] at hx424_3); replace hx424_0 := (HB.out.cell (World.block_lt_of_cell? w _ hx424_0)).trans hx424_0; replace hx424_1 := (HB.out.cell (World.block_lt_of_cell? w _ hx424_1)).trans hx424_1; replace hx424_2 := (HB.out.cell (World.block_lt_of_cell? w _ hx424_2)).trans hx424_2; replace hx424_3 := (HB.out.cell (World.block_lt_of_cell? w _ hx424_3)).trans hx424_3; have HR424_3 := A_ hi424_3; have HC424_3 := A_ hl424_3; clear hi424_3 hl424_3; replace p424 := eq_true p424; replace q424 := eq_true q424; have ea_ := Option.some.inj (hx422_3.symm.trans hx424_3); injection ea_ with ea_ en_ ec_; subst ea_; subst ec_; clear en_; have p425 : 0 ≤ (1 : Int) := (by omega); have q425 : 1 < (l0_3.length : Int) := of_decide_eq_true d1_; obtain ⟨ad425, A425_3, c425_3, e425, hx425_0, hx425_1, hx425_2, hx425_3, hl425_3, hi425_3⟩ := at_T29 HR0_3.out 1 p425 q425; obtain rfl : ad422 = ad425 := (by injection e425); (try simp only [show (1 : Int).toNat = 1 from rfl, Nat.reduceMul, Nat.reduceEqDiff, Go.Addr.add, ↓reduceIte] at hx425_0); (try simp only [show (1 : Int).toNat = 1 from rfl, Nat.reduceMul, Nat.reduceEqDiff, Go.Addr.add, ↓reduceIte] at hx425_1); (try simp only [show (1 : Int).toNat = 1 from rfl, Nat.reduceMul, Nat.reduceEqDiff, Go.Addr.add, ↓reduceIte] at hx425_2); (try simp only [show (1 : Int).toNat = 1 from rfl, Nat.reduceMul, Nat.reduceEqDiff, Go.Addr.add, ↓reduceIte] at hx425_3); have qi425 : (1 < l0_3.length) = True := eq_true (by omega); (try rw [show ((1 : Int)).toNat = 1 from rfl] at hx425_0); (try rw [show 1 * 4 = 4 from rfl] at hx425_0); (try rw [show ((1 : Int)).toNat = 1 from rfl] at hx425_1); (try rw [show 1 * 4 = 4 from rfl] at hx425_1); (try rw [show ((1 : Int)).toNat = 1 from rfl] at hx425_2); (try rw [show 1 * 4 = 4 from rfl] at hx425_2); (try rw [show ((1 : Int)).toNat = 1 from rfl] at hx425_3); (try rw [show 1 * 4 = 4 from rfl] at hx425_3); replace hx425_0 := (HB.out.cell (World.block_lt_of_cell? w _ hx425_0)).trans hx425_0; replace hx425_1 := (HB.out.cell (World.block_lt_of_cell? w _ hx425_1)).trans hx425_1; replace hx425_2 := (HB.out.cell (World.block_lt_of_cell? w _ hx425_2)).trans hx425_2; replace hx425_3 := (HB.out.cell (World.block_lt_of_cell? w _ hx425_3)).trans hx425_3; have HR425_3 := A_ hi425_3; have HC425_3 := A_ hl425_3; clear hi425_3 hl425_3; replace p425 := eq_true p425; replace q425 := eq_true q425; have ea_ := Option.some.inj (hx423_3.symm.trans hx425_3); injection ea_ with ea_ en_ ec_; subst ea_; subst ec_; clear en_)))
       go_ret3
       exact rt_ (bw_ HB.out)
      ·rw [if_neg c9] at H
       have c9b0 := beq_eq_false_iff_ne.mpr c9
       have c9b1 := bne_iff_ne.mpr c9
       simp only [Option.some.injEq, Prod.mk.injEq] at H
       obtain ⟨rfl, rfl, rfl⟩ := H
       go_enter Try.func94, Try.ntmps94
       go_wp2_with (first | ((with_reducible refine gate_dst (N := 1) rfl ?_); refine bx_ 1 #[.int .i64 a0_0, .int .i64 a0_1, .string a0_2, .slice A0_3 l0_3.length c0_3] 29 ?_; intro gb421 hg w12 hbox hb; have n0_ := A_ (below_step (bw_ HB.out) hb); have n1_ := A_ (hbox); have n2_ := A_ ((d3_ : w.heap.size ≤ gb421)); have n3_ := n2_; clear HB; have HB := n0_; have BK421 := n1_; have GW421 := n2_; have GE421 := n3_; have GI421 := GeI.mk GE421.out; clear n0_ n1_ n2_ n3_; clear hb hbox hg; obtain ⟨y13_0, y13_1, y13_2, y13_3, z13_0, z13_1, z13_2, z13_3⟩ := cz4_ BK421.out; have p422 : 0 ≤ (0 : Int) := (by omega); have q422 : 0 < (l0_3.length : Int) := of_decide_eq_true d1_; obtain ⟨ad422, A422_3, c422_3, e422, hx422_0, hx422_1, hx422_2, hx422_3, hl422_3, hi422_3⟩ := at_T29 HR0_3.out 0 p422 q422; cases e422; have qi422 : (0 < l0_3.length) = True := eq_true (by omega); (try rw [show ((0 : Int)).toNat = 0 from rfl] at hx422_0); (try rw [show 0 * 4 = 0 from rfl] at hx422_0); (try rw [Addr.add_zero'] at hx422_0); (try rw [show ((0 : Int)).toNat = 0 from rfl] at hx422_1); (try rw [show 0 * 4 = 0 from rfl] at hx422_1); (try rw [Addr.add_zero'] at hx422_1); (try rw [show ((0 : Int)).toNat = 0 from rfl] at hx422_2); (try rw [show 0 * 4 = 0 from rfl] at hx422_2); (try rw [Addr.add_zero'] at hx422_2); (try rw [show ((0 : Int)).toNat = 0 from rfl] at hx422_3); (try rw [show 0 * 4 = 0 from rfl] at hx422_3); (try rw [Addr.add_zero'] at hx422_3); replace hx422_0 := (HB.out.cell (World.block_lt_of_cell? w _ hx422_0)).trans hx422_0; replace hx422_1 := (HB.out.cell (World.block_lt_of_cell? w _ hx422_1)).trans hx422_1; replace hx422_2 := (HB.out.cell (World.block_lt_of_cell? w _ hx422_2)).trans hx422_2; replace hx422_3 := (HB.out.cell (World.block_lt_of_cell? w _ hx422_3)).trans hx422_3; have HR422_3 := A_ hi422_3; have HC422_3 := A_ hl422_3; clear hi422_3 hl422_3; replace p422 := eq_true p422; replace q422 := eq_true q422; have p423 : 0 ≤ (1 : Int) := (by omega); have q423 : 1 < (l0_3.length : Int) := of_decide_eq_true d1_; obtain ⟨ad423, A423_3, c423_3, e423, hx423_0, hx423_1, hx423_2, hx423_3, hl423_3, hi423_3⟩ := at_T29 HR0_3.out 1 p423 q423; obtain rfl : ad422 = ad423 := (by injection e423); (try simp only [show (1 : Int).toNat = 1 from rfl, Nat.reduceMul, Nat.reduceEqDiff, Go.Addr.add, ↓reduceIte] at hx423_0); (try simp only [show (1 : Int).toNat = 1 from rfl, Nat.reduceMul, Nat.reduceEqDiff, Go.Addr.add, ↓reduceIte] at hx423_1); (try simp only [show (1 : Int).toNat = 1 from rfl, Nat.reduceMul, Nat.reduceEqDiff, Go.Addr.add, ↓reduceIte] at hx423_2); (try simp only [show (1 : Int).toNat = 1 from rfl, Nat.reduceMul, Nat.reduceEqDiff, Go.Addr.add, ↓reduceIte] at hx423_3); have qi423 : (1 < l0_3.length) = True := eq_true (by omega); (try rw [show ((1 : Int)).toNat = 1 from rfl] at hx423_0); (try rw [show 1 * 4 = 4 from rfl] at hx423_0); (try rw [show ((1 : Int)).toNat = 1 from rfl] at hx423_1); (try rw [show 1 * 4 = 4 from rfl] at hx423_1); (try rw [show ((1 : Int)).toNat = 1 from rfl] at hx423_2); (try rw [show 1 * 4 = 4 from rfl] at hx423_2); (try rw [show ((1 : Int)).toNat = 1 from rfl] at hx423_3); (try rw [show 1 * 4 = 4 from rfl] at hx423_3); replace hx423_0 := (HB.out.cell (World.block_lt_of_cell? w _ hx423_0)).trans hx423_0; replace hx423_1 := (HB.out.cell (World.block_lt_of_cell? w _ hx423_1)).trans hx423_1; replace hx423_2 := (HB.out.cell (World.block_lt_of_cell? w _ hx423_2)).trans hx423_2; replace hx423_3 := (HB.out.cell (World.block_lt_of_cell? w _ hx423_3)).trans hx423_3; have HR423_3 := A_ hi423_3; have HC423_3 := A_ hl423_3; clear hi423_3 hl423_3; replace p423 := eq_true p423; replace q423 := eq_true q423))
       repeat (go_quiet (first | ((with_reducible refine gate_dst (N := 1) rfl ?_); refine bx_ 1 #[.int .i64 a0_0, .int .i64 a0_1, .string a0_2, .slice A0_3 l0_3.length c0_3] 29 ?_; intro gb421 hg w12 hbox hb; have n0_ := A_ (below_step (bw_ HB.out) hb); have n1_ := A_ (hbox); have n2_ := A_ ((d3_ : w.heap.size ≤ gb421)); have n3_ := n2_; clear HB; have HB := n0_; have BK421 := n1_; have GW421 := n2_; have GE421 := n3_; have GI421 := GeI.mk GE421.out; clear n0_ n1_ n2_ n3_; clear hb hbox hg; obtain ⟨y13_0, y13_1, y13_2, y13_3, z13_0, z13_1, z13_2, z13_3⟩ := cz4_ BK421.out; have p422 : 0 ≤ (0 : Int) := (by omega); have q422 : 0 < (l0_3.length : Int) := of_decide_eq_true d1_; obtain ⟨ad422, A422_3, c422_3, e422, hx422_0, hx422_1, hx422_2, hx422_3, hl422_3, hi422_3⟩ := at_T29 HR0_3.out 0 p422 q422; cases e422; have qi422 : (0 < l0_3.length) = True := eq_true (by omega); (try rw [show ((0 : Int)).toNat = 0 from rfl] at hx422_0); (try rw [show 0 * 4 = 0 from rfl] at hx422_0); (try rw [Addr.add_zero'] at hx422_0); (try rw [show ((0 : Int)).toNat = 0 from rfl] at hx422_1); (try rw [show 0 * 4 = 0 from rfl] at hx422_1); (try rw [Addr.add_zero'] at hx422_1); (try rw [show ((0 : Int)).toNat = 0 from rfl] at hx422_2); (try rw [show 0 * 4 = 0 from rfl] at hx422_2); (try rw [Addr.add_zero'] at hx422_2); (try rw [show ((0 : Int)).toNat = 0 from rfl] at hx422_3); (try rw [show 0 * 4 = 0 from rfl] at hx422_3); (try rw [Addr.add_zero'] at hx422_3); replace hx422_0 := (HB.out.cell (World.block_lt_of_cell? w _ hx422_0)).trans hx422_0; replace hx422_1 := (HB.out.cell (World.block_lt_of_cell? w _ hx422_1)).trans hx422_1; replace hx422_2 := (HB.out.cell (World.block_lt_of_cell? w _ hx422_2)).trans hx422_2; replace hx422_3 := (HB.out.cell (World.block_lt_of_cell? w _ hx422_3)).trans hx422_3; have HR422_3 := A_ hi422_3; have HC422_3 := A_ hl422_3; clear hi422_3 hl422_3; replace p422 := eq_true p422; replace q422 := eq_true q422; have p423 : 0 ≤ (1 : Int) := (by omega); have q423 : 1 < (l0_3.length : Int) := of_decide_eq_true d1_; obtain ⟨ad423, A423_3, c423_3, e423, hx423_0, hx423_1, hx423_2, hx423_3, hl423_3, hi423_3⟩ := at_T29 HR0_3.out 1 p423 q423; obtain rfl : ad422 = ad423 := (by injection e423); (try simp only [show (1 : Int).toNat = 1 from rfl, Nat.reduceMul, Nat.reduceEqDiff, Go.Addr.add, ↓reduceIte] at hx423_0); (try simp only [show (1 : Int).toNat = 1 from rfl, Nat.reduceMul, Nat.reduceEqDiff, Go.Addr.add, ↓reduceIte] at hx423_1); (try simp only [show (1 : Int).toNat = 1 from rfl, Nat.reduceMul, Nat.reduceEqDiff, Go.Addr.add, ↓reduceIte] at hx423_2); (try simp only [show (1 : Int).toNat = 1 from rfl, Nat.reduceMul, Nat.reduceEqDiff, Go.Addr.add, ↓reduceIte] at hx423_3); have qi423 : (1 < l0_3.length) = True := eq_true (by omega); (try rw [show ((1 : Int)).toNat = 1 from rfl] at hx423_0); (try rw [show 1 * 4 = 4 from rfl] at hx423_0); (try rw [show ((1 : Int)).toNat = 1 from rfl] at hx423_1); (try rw [show 1 * 4 = 4 from rfl] at hx423_1); (try rw [show ((1 : Int)).toNat = 1 from rfl] at hx423_2); (try rw [show 1 * 4 = 4 from rfl] at hx423_2); (try rw [show ((1 : Int)).toNat = 1 from rfl] at hx423_3); (try rw [show 1 * 4 = 4 from rfl] at hx423_3); replace hx423_0 := (HB.out.cell (World.block_lt_of_cell? w _ hx423_0)).trans hx423_0; replace hx423_1 := (HB.out.cell (World.block_lt_of_cell? w _ hx423_1)).trans hx423_1; replace hx423_2 := (HB.out.cell (World.block_lt_of_cell? w _ hx423_2)).trans hx423_2; replace hx423_3 := (HB.out.cell (World.block_lt_of_cell? w _ hx423_3)).trans hx423_3; have HR423_3 := A_ hi423_3; have HC423_3 := A_ hl423_3; clear hi423_3 hl423_3; replace p423 := eq_true p423; replace q423 := eq_true q423)); try go_wp2_with (first | ((with_reducible refine gate_dst (N := 1) rfl ?_); refine bx_ 1 #[.int .i64 a0_0, .int .i64 a0_1, .string a0_2, .slice A0_3 l0_3.length c0_3] 29 ?_; intro gb421 hg w12 hbox hb; have n0_ := A_ (below_step (bw_ HB.out) hb); have n1_ := A_ (hbox); have n2_ := A_ ((d3_ : w.heap.size ≤ gb421)); have n3_ := n2_; clear HB; have HB := n0_; have BK421 := n1_; have GW421 := n2_; have GE421 := n3_; have GI421 := GeI.mk GE421.out; clear n0_ n1_ n2_ n3_; clear hb hbox hg; obtain ⟨y13_0, y13_1, y13_2, y13_3, z13_0, z13_1, z13_2, z13_3⟩ := cz4_ BK421.out; have p422 : 0 ≤ (0 : Int) := (by omega); have q422 : 0 < (l0_3.length : Int) := of_decide_eq_true d1_; obtain ⟨ad422, A422_3, c422_3, e422, hx422_0, hx422_1, hx422_2, hx422_3, hl422_3, hi422_3⟩ := at_T29 HR0_3.out 0 p422 q422; cases e422; have qi422 : (0 < l0_3.length) = True := eq_true (by omega); (try rw [show ((0 : Int)).toNat = 0 from rfl] at hx422_0); (try rw [show 0 * 4 = 0 from rfl] at hx422_0); (try rw [Addr.add_zero'] at hx422_0); (try rw [show ((0 : Int)).toNat = 0 from rfl] at hx422_1); (try rw [show 0 * 4 = 0 from rfl] at hx422_1); (try rw [Addr.add_zero'] at hx422_1); (try rw [show ((0 : Int)).toNat = 0 from rfl] at hx422_2); (try rw [show 0 * 4 = 0 from rfl] at hx422_2); (try rw [Addr.add_zero'] at hx422_2); (try rw [show ((0 : Int)).toNat = 0 from rfl] at hx422_3); (try rw [show 0 * 4 = 0 from rfl] at hx422_3); (try rw [Addr.add_zero'] at hx422_3); replace hx422_0 := (HB.out.cell (World.block_lt_of_cell? w _ hx422_0)).trans hx422_0; replace hx422_1 := (HB.out.cell (World.block_lt_of_cell? w _ hx422_1)).trans hx422_1; replace hx422_2 := (HB.out.cell (World.block_lt_of_cell? w _ hx422_2)).trans hx422_2; replace hx422_3 := (HB.out.cell (World.block_lt_of_cell? w _ hx422_3)).trans hx422_3; have HR422_3 := A_ hi422_3; have HC422_3 := A_ hl422_3; clear hi422_3 hl422_3; replace p422 := eq_true p422; replace q422 := eq_true q422; have p423 : 0 ≤ (1 : Int) := (by omega); have q423 : 1 < (l0_3.length : Int) := of_decide_eq_true d1_; obtain ⟨ad423, A423_3, c423_3, e423, hx423_0, hx423_1, hx423_2, hx423_3, hl423_3, hi423_3⟩ := at_T29 HR0_3.out 1 p423 q423; obtain rfl : ad422 = ad423 := (by injection e423); (try simp only [show (1 : Int).toNat = 1 from rfl, Nat.reduceMul, Nat.reduceEqDiff, Go.Addr.add, ↓reduceIte] at hx423_0); (try simp only [show (1 : Int).toNat = 1 from rfl, Nat.reduceMul, Nat.reduceEqDiff, Go.Addr.add, ↓reduceIte] at hx423_1); (try simp only [show (1 : Int).toNat = 1 from rfl, Nat.reduceMul, Nat.reduceEqDiff, Go.Addr.add, ↓reduceIte] at hx423_2); (try simp only [show (1 : Int).toNat = 1 from rfl, Nat.reduceMul, Nat.reduceEqDiff, Go.Addr.add, ↓reduceIte] at hx423_3); have qi423 : (1 < l0_3.length) = True := eq_true (by omega); (try rw [show ((1 : Int)).toNat = 1 from rfl] at hx423_0); (try rw [show 1 * 4 = 4 from rfl] at hx423_0); (try rw [show ((1 : Int)).toNat = 1 from rfl] at hx423_1); (try rw [show 1 * 4 = 4 from rfl] at hx423_1); (try rw [show ((1 : Int)).toNat = 1 from rfl] at hx423_2); (try rw [show 1 * 4 = 4 from rfl] at hx423_2); (try rw [show ((1 : Int)).toNat = 1 from rfl] at hx423_3); (try rw [show 1 * 4 = 4 from rfl] at hx423_3); replace hx423_0 := (HB.out.cell (World.block_lt_of_cell? w _ hx423_0)).trans hx423_0; replace hx423_1 := (HB.out.cell (World.block_lt_of_cell? w _ hx423_1)).trans hx423_1; replace hx423_2 := (HB.out.cell (World.block_lt_of_cell? w _ hx423_2)).trans hx423_2; replace hx423_3 := (HB.out.cell (World.block_lt_of_cell? w _ hx423_3)).trans hx423_3; have HR423_3 := A_ hi423_3; have HC423_3 := A_ hl423_3; clear hi423_3 hl423_3; replace p423 := eq_true p423; replace q423 := eq_true q423)))
       go_ret3
       exact rt_ (bw_ HB.out)
     ·rw [if_neg c8] at H
      exact absurd H (by simp)
    ·rw [if_neg c7] at H
     have c7b0 := beq_eq_false_iff_ne.mpr c7
     have c7b1 := bne_iff_ne.mpr c7
     simp only [Option.some.injEq, Prod.mk.injEq] at H
     obtain ⟨rfl, rfl, rfl⟩ := H
     go_enter Try.func94, Try.ntmps94
     go_wp2_with (first | ((with_reducible refine gate_dst (N := 1) rfl ?_); refine bx_ 1 #[.int .i64 a0_0, .int .i64 a0_1, .string a0_2, .slice A0_3 l0_3.length c0_3] 29 ?_; intro gb421 hg w14 hbox hb; have n0_ := A_ (below_step (bw_ HB.out) hb); have n1_ := A_ (hbox); have n2_ := A_ ((d3_ : w.heap.size ≤ gb421)); have n3_ := n2_; clear HB; have HB := n0_; have BK421 := n1_; have GW421 := n2_; have GE421 := n3_; have GI421 := GeI.mk GE421.out; clear n0_ n1_ n2_ n3_; clear hb hbox hg; obtain ⟨y15_0, y15_1, y15_2, y15_3, z15_0, z15_1, z15_2, z15_3⟩ := cz4_ BK421.out; have p422 : 0 ≤ (0 : Int) := (by omega); have q422 : 0 < (l0_3.length : Int) := of_decide_eq_true d1_; obtain ⟨ad422, A422_3, c422_3, e422, hx422_0, hx422_1, hx422_2, hx422_3, hl422_3, hi422_3⟩ := at_T29 HR0_3.out 0 p422 q422; cases e422; have qi422 : (0 < l0_3.length) = True := eq_true (by omega); (try rw [show ((0 : Int)).toNat = 0 from rfl] at hx422_0); (try rw [show 0 * 4 = 0 from rfl] at hx422_0); (try rw [Addr.add_zero'] at hx422_0); (try rw [show ((0 : Int)).toNat = 0 from rfl] at hx422_1); (try rw [show 0 * 4 = 0 from rfl] at hx422_1); (try rw [Addr.add_zero'] at hx422_1); (try rw [show ((0 : Int)).toNat = 0 from rfl] at hx422_2); (try rw [show 0 * 4 = 0 from rfl] at hx422_2); (try rw [Addr.add_zero'] at hx422_2); (try rw [show ((0 : Int)).toNat = 0 from rfl] at hx422_3); (try rw [show 0 * 4 = 0 from rfl] at hx422_3); (try rw [Addr.add_zero'] at hx422_3); replace hx422_0 := (HB.out.cell (World.block_lt_of_cell? w _ hx422_0)).trans hx422_0; replace hx422_1 := (HB.out.cell (World.block_lt_of_cell? w _ hx422_1)).trans hx422_1; replace hx422_2 := (HB.out.cell (World.block_lt_of_cell? w _ hx422_2)).trans hx422_2; replace hx422_3 := (HB.out.cell (World.block_lt_of_cell? w _ hx422_3)).trans hx422_3; have HR422_3 := A_ hi422_3; have HC422_3 := A_ hl422_3; clear hi422_3 hl422_3; replace p422 := eq_true p422; replace q422 := eq_true q422))
     repeat (go_quiet (first | ((with_reducible refine gate_dst (N := 1) rfl ?_); refine bx_ 1 #[.int .i64 a0_0, .int .i64 a0_1, .string a0_2, .slice A0_3 l0_3.length c0_3] 29 ?_; intro gb421 hg w14 hbox hb; have n0_ := A_ (below_step (bw_ HB.out) hb); have n1_ := A_ (hbox); have n2_ := A_ ((d3_ : w.heap.size ≤ gb421)); have n3_ := n2_; clear HB; have HB := n0_; have BK421 := n1_; have GW421 := n2_; have GE421 := n3_; have GI421 := GeI.mk GE421.out; clear n0_ n1_ n2_ n3_; clear hb hbox hg; obtain ⟨y15_0, y15_1, y15_2, y15_3, z15_0, z15_1, z15_2, z15_3⟩ := cz4_ BK421.out; have p422 : 0 ≤ (0 : Int) := (by omega); have q422 : 0 < (l0_3.length : Int) := of_decide_eq_true d1_; obtain ⟨ad422, A422_3, c422_3, e422, hx422_0, hx422_1, hx422_2, hx422_3, hl422_3, hi422_3⟩ := at_T29 HR0_3.out 0 p422 q422; cases e422; have qi422 : (0 < l0_3.length) = True := eq_true (by omega); (try rw [show ((0 : Int)).toNat = 0 from rfl] at hx422_0); (try rw [show 0 * 4 = 0 from rfl] at hx422_0); (try rw [Addr.add_zero'] at hx422_0); (try rw [show ((0 : Int)).toNat = 0 from rfl] at hx422_1); (try rw [show 0 * 4 = 0 from rfl] at hx422_1); (try rw [Addr.add_zero'] at hx422_1); (try rw [show ((0 : Int)).toNat = 0 from rfl] at hx422_2); (try rw [show 0 * 4 = 0 from rfl] at hx422_2); (try rw [Addr.add_zero'] at hx422_2); (try rw [show ((0 : Int)).toNat = 0 from rfl] at hx422_3); (try rw [show 0 * 4 = 0 from rfl] at hx422_3); (try rw [Addr.add_zero'] at hx422_3); replace hx422_0 := (HB.out.cell (World.block_lt_of_cell? w _ hx422_0)).trans hx422_0; replace hx422_1 := (HB.out.cell (World.block_lt_of_cell? w _ hx422_1)).trans hx422_1; replace hx422_2 := (HB.out.cell (World.block_lt_of_cell? w _ hx422_2)).trans hx422_2; replace hx422_3 := (HB.out.cell (World.block_lt_of_cell? w _ hx422_3)).trans hx422_3; have HR422_3 := A_ hi422_3; have HC422_3 := A_ hl422_3; clear hi422_3 hl422_3; replace p422 := eq_true p422; replace q422 := eq_true q422)); try go_wp2_with (first | ((with_reducible refine gate_dst (N := 1) rfl ?_); refine bx_ 1 #[.int .i64 a0_0, .int .i64 a0_1, .string a0_2, .slice A0_3 l0_3.length c0_3] 29 ?_; intro gb421 hg w14 hbox hb; have n0_ := A_ (below_step (bw_ HB.out) hb); have n1_ := A_ (hbox); have n2_ := A_ ((d3_ : w.heap.size ≤ gb421)); have n3_ := n2_; clear HB; have HB := n0_; have BK421 := n1_; have GW421 := n2_; have GE421 := n3_; have GI421 := GeI.mk GE421.out; clear n0_ n1_ n2_ n3_; clear hb hbox hg; obtain ⟨y15_0, y15_1, y15_2, y15_3, z15_0, z15_1, z15_2, z15_3⟩ := cz4_ BK421.out; have p422 : 0 ≤ (0 : Int) := (by omega); have q422 : 0 < (l0_3.length : Int) := of_decide_eq_true d1_; obtain ⟨ad422, A422_3, c422_3, e422, hx422_0, hx422_1, hx422_2, hx422_3, hl422_3, hi422_3⟩ := at_T29 HR0_3.out 0 p422 q422; cases e422; have qi422 : (0 < l0_3.length) = True := eq_true (by omega); (try rw [show ((0 : Int)).toNat = 0 from rfl] at hx422_0); (try rw [show 0 * 4 = 0 from rfl] at hx422_0); (try rw [Addr.add_zero'] at hx422_0); (try rw [show ((0 : Int)).toNat = 0 from rfl] at hx422_1); (try rw [show 0 * 4 = 0 from rfl] at hx422_1); (try rw [Addr.add_zero'] at hx422_1); (try rw [show ((0 : Int)).toNat = 0 from rfl] at hx422_2); (try rw [show 0 * 4 = 0 from rfl] at hx422_2); (try rw [Addr.add_zero'] at hx422_2); (try rw [show ((0 : Int)).toNat = 0 from rfl] at hx422_3); (try rw [show 0 * 4 = 0 from rfl] at hx422_3); (try rw [Addr.add_zero'] at hx422_3); replace hx422_0 := (HB.out.cell (World.block_lt_of_cell? w _ hx422_0)).trans hx422_0; replace hx422_1 := (HB.out.cell (World.block_lt_of_cell? w _ hx422_1)).trans hx422_1; replace hx422_2 := (HB.out.cell (World.block_lt_of_cell? w _ hx422_2)).trans hx422_2; replace hx422_3 := (HB.out.cell (World.block_lt_of_cell? w _ hx422_3)).trans hx422_3; have HR422_3 := A_ hi422_3; have HC422_3 := A_ hl422_3; clear hi422_3 hl422_3; replace p422 := eq_true p422; replace q422 := eq_true q422)))
     go_ret3
     exact rt_ (bw_ HB.out)
   ·rw [if_neg c6] at H
    exact absurd H (by simp)
  ·rw [if_neg c5] at H
   have c5b0 := beq_eq_false_iff_ne.mpr c5
   have c5b1 := bne_iff_ne.mpr c5
   simp only [Option.some.injEq, Prod.mk.injEq] at H
   obtain ⟨rfl, rfl, rfl⟩ := H
   go_enter Try.func94, Try.ntmps94
   go_wp2_with (first | ((with_reducible refine gate_dst (N := 1) rfl ?_); refine bx_ 1 #[.int .i64 a0_0, .int .i64 a0_1, .string a0_2, .slice A0_3 l0_3.length c0_3] 29 ?_; intro gb421 hg w16 hbox hb; have n0_ := A_ (below_step (bw_ HB.out) hb); have n1_ := A_ (hbox); have n2_ := A_ ((d3_ : w.heap.size ≤ gb421)); have n3_ := n2_; clear HB; have HB := n0_; have BK421 := n1_; have GW421 := n2_; have GE421 := n3_; have GI421 := GeI.mk GE421.out; clear n0_ n1_ n2_ n3_; clear hb hbox hg; obtain ⟨y17_0, y17_1, y17_2, y17_3, z17_0, z17_1, z17_2, z17_3⟩ := cz4_ BK421.out))
   repeat (go_quiet (first | ((with_reducible refine gate_dst (N := 1) rfl ?_); refine bx_ 1 #[.int .i64 a0_0, .int .i64 a0_1, .string a0_2, .slice A0_3 l0_3.length c0_3] 29 ?_; intro gb421 hg w16 hbox hb; have n0_ := A_ (below_step (bw_ HB.out) hb); have n1_ := A_ (hbox); have n2_ := A_ ((d3_ : w.heap.size ≤ gb421)); have n3_ := n2_; clear HB; have HB := n0_; have BK421 := n1_; have GW421 := n2_; have GE421 := n3_; have GI421 := GeI.mk GE421.out; clear n0_ n1_ n2_ n3_; clear hb hbox hg; obtain ⟨y17_0, y17_1, y17_2, y17_3, z17_0, z17_1, z17_2, z17_3⟩ := cz4_ BK421.out)); try go_wp2_with (first | ((with_reducible refine gate_dst (N := 1) rfl ?_); refine bx_ 1 #[.int .i64 a0_0, .int .i64 a0_1, .string a0_2, .slice A0_3 l0_3.length c0_3] 29 ?_; intro gb421 hg w16 hbox hb; have n0_ := A_ (below_step (bw_ HB.out) hb); have n1_ := A_ (hbox); have n2_ := A_ ((d3_ : w.heap.size ≤ gb421)); have n3_ := n2_; clear HB; have HB := n0_; have BK421 := n1_; have GW421 := n2_; have GE421 := n3_; have GI421 := GeI.mk GE421.out; clear n0_ n1_ n2_ n3_; clear hb hbox hg; obtain ⟨y17_0, y17_1, y17_2, y17_3, z17_0, z17_1, z17_2, z17_3⟩ := cz4_ BK421.out)))
   go_ret3
   exact rt_ (bw_ HB.out)

end Go.Proofs.Ytcpnhlhigpgonaa.PFnExactFold
