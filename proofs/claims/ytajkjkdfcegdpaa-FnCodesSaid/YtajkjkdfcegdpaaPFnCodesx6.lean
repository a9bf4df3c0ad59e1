-- Laid by a program of this session (a changed copy of the kit's printer); Lean checks every line.
import Derived.Test.YtajkjkdfcegdpaaPFnCodesx0
import Derived.Test.YtajkjkdfcegdpaaPFnCodesx3
import Derived.Test.YtajkjkdfcegdpaaPFnCodesx5
namespace Go.Proofs.Ytajkjkdfcegdpaa.PFnCodes
open Go.RowKit Go.Proofs.YtajkjkdfcegdpaaW.PrintWords Go.Proofs.YtajkjkdfcegdpaaW.PrintLast Go.Proofs.YtajkjkdfcegdpaaW.PrintMore
attribute [local go_sem] max2_int min2_int max_two min_two max_three min_three max_four min_four   -- for this text's walks alone
set_option linter.unusedVariables false
set_option linter.unusedSimpArgs false

/-! ### spec_Decode: function 26 -/
mutual
def spec_Decode.j0 : Nat → List Int → Int → Bool → Option (Int × Int × Int × Int × Int × Int × Int × Int × Int × Bool)
 | 0, _, _, _ => none
 | k + 1, x0, x1, x22 => if x22 = true then (some (0, 0, 0, 0, 0, 0, 0, 0, 0, false)) else (if 0 ≤ x1 then (if x1 < (x0.length : Int) then ((spec_l4Op.f k (rd x0 x1)).bind fun bt204 => (if bt204.1 ≤ 6 then ((spec_HasX.f bt204.2.1 bt204.2.2.1 bt204.2.2.2.1).bind fun t213 => (spec_Decode.j1 k x0 x1 (wrap64 (x1 + 1)) t213 bt204.1 bt204.2.1 bt204.2.2.1 bt204.2.2.2.1 bt204.2.2.2.2.1 bt204.2.2.2.2.2.1 bt204.2.2.2.2.2.2.1 bt204.2.2.2.2.2.2.2)) else (spec_Decode.j1 k x0 x1 (wrap64 (x1 + 1)) false bt204.1 bt204.2.1 bt204.2.2.1 bt204.2.2.2.1 bt204.2.2.2.2.1 bt204.2.2.2.2.2.1 bt204.2.2.2.2.2.2.1 bt204.2.2.2.2.2.2.2))) else (none)) else (none))
def spec_Decode.j1 : Nat → List Int → Int → Int → Bool → Int → Int → Int → Int → Int → Int → Int → Int → Option (Int × Int × Int × Int × Int × Int × Int × Int × Int × Bool)
 | 0, _, _, _, _, _, _, _, _, _, _, _, _ => none
 | k + 1, x0, x1, x8, x38, x213000, x213001, x213002, x213003, x213004, x213005, x213006, x213007 => if x38 = true then (if x8 ≥ (x0.length : Int) then (some (0, 0, 0, 0, 0, 0, 0, 0, 0, false)) else (if 0 ≤ x8 then (if x8 < (x0.length : Int) then (spec_Decode.j2 k x0 x1 (wrap64 (x8 + 1)) x213000 x213001 x213002 (rd x0 x8) x213004 x213005 x213006 x213007) else (none)) else (none))) else (spec_Decode.j2 k x0 x1 x8 x213000 x213001 x213002 x213003 x213004 x213005 x213006 x213007)
def spec_Decode.j2 : Nat → List Int → Int → Int → Int → Int → Int → Int → Int → Int → Int → Int → Option (Int × Int × Int × Int × Int × Int × Int × Int × Int × Bool)
 | 0, _, _, _, _, _, _, _, _, _, _, _ => none
 | k + 1, x0, x1, x8, x213000, x213001, x213002, x213003, x213004, x213005, x213006, x213007 => if x213000 ≤ 15 then ((spec_HasX.f x213004 x213005 x213006).bind fun t215 => (spec_Decode.j3 k x0 x1 x8 t215 x213000 x213001 x213002 x213003 x213004 x213005 x213006 x213007)) else (spec_Decode.j3 k x0 x1 x8 false x213000 x213001 x213002 x213003 x213004 x213005 x213006 x213007)
def spec_Decode.j3 : Nat → List Int → Int → Int → Bool → Int → Int → Int → Int → Int → Int → Int → Int → Option (Int × Int × Int × Int × Int × Int × Int × Int × Int × Bool)
 | 0, _, _, _, _, _, _, _, _, _, _, _, _ => none
 | k + 1, x0, x1, x8, x59, x213000, x213001, x213002, x213003, x213004, x213005, x213006, x213007 => if x59 = true then (if x8 ≥ (x0.length : Int) then (some (0, 0, 0, 0, 0, 0, 0, 0, 0, false)) else (if 0 ≤ x8 then (if x8 < (x0.length : Int) then ((spec_InsOk.f k x213000 x213001 x213002 x213003 x213004 x213005 (rd x0 x8) x213007).bind fun t217 => (if t217 = true then (some (x213000, x213001, x213002, x213003, x213004, x213005, rd x0 x8, x213007, wrap64 ((wrap64 (x8 + 1)) - x1), true)) else (some (0, 0, 0, 0, 0, 0, 0, 0, 0, false)))) else (none)) else (none))) else ((spec_InsOk.f k x213000 x213001 x213002 x213003 x213004 x213005 x213006 x213007).bind fun t218 => (if t218 = true then (some (x213000, x213001, x213002, x213003, x213004, x213005, x213006, x213007, wrap64 (x8 - x1), true)) else (some (0, 0, 0, 0, 0, 0, 0, 0, 0, false))))
end
def spec_Decode.f (k : Nat) (l0 : List Int) (a1 : Int) : Option (Int × Int × Int × Int × Int × Int × Int × Int × Int × Bool) := (spec_l1In.f a1 0 (wrap64 ((l0.length : Int) - 1))).bind fun t200 => (if t200 = true then (if 0 ≤ a1 then (if a1 < (l0.length : Int) then ((spec_l1In.f (rd l0 a1) 0 65535).bind fun t202 => (spec_Decode.j0 k l0 a1 (!t202))) else (none)) else (none)) else (spec_Decode.j0 k l0 a1 true))
theorem spec_Decode.mono_l : ∀ k, (∀ y0 y1 y2, LeO (spec_Decode.j0 k y0 y1 y2) (spec_Decode.j0 (k + 1) y0 y1 y2)) ∧ (∀ y0 y1 y2 y3 y4 y5 y6 y7 y8 y9 y10 y11, LeO (spec_Decode.j1 k y0 y1 y2 y3 y4 y5 y6 y7 y8 y9 y10 y11) (spec_Decode.j1 (k + 1) y0 y1 y2 y3 y4 y5 y6 y7 y8 y9 y10 y11)) ∧ (∀ y0 y1 y2 y3 y4 y5 y6 y7 y8 y9 y10, LeO (spec_Decode.j2 k y0 y1 y2 y3 y4 y5 y6 y7 y8 y9 y10) (spec_Decode.j2 (k + 1) y0 y1 y2 y3 y4 y5 y6 y7 y8 y9 y10)) ∧ (∀ y0 y1 y2 y3 y4 y5 y6 y7 y8 y9 y10 y11, LeO (spec_Decode.j3 k y0 y1 y2 y3 y4 y5 y6 y7 y8 y9 y10 y11) (spec_Decode.j3 (k + 1) y0 y1 y2 y3 y4 y5 y6 y7 y8 y9 y10 y11))
 | 0 => ⟨fun _ _ _ r h => by simp [spec_Decode.j0] at h, fun _ _ _ _ _ _ _ _ _ _ _ _ r h => by simp [spec_Decode.j1] at h, fun _ _ _ _ _ _ _ _ _ _ _ r h => by simp [spec_Decode.j2] at h, fun _ _ _ _ _ _ _ _ _ _ _ _ r h => by simp [spec_Decode.j3] at h⟩
 | k + 1 => by
  obtain ⟨ih0, ih1, ih2, ih3⟩ := spec_Decode.mono_l k
  refine ⟨?_, ?_, ?_, ?_⟩
  ·intro y0 y1 y2
   unfold spec_Decode.j0
   repeat' first
   | (with_reducible exact ih0 _ _ _)
   | (with_reducible exact ih1 _ _ _ _ _ _ _ _ _ _ _ _)
   | (with_reducible exact ih2 _ _ _ _ _ _ _ _ _ _ _)
   | (with_reducible exact ih3 _ _ _ _ _ _ _ _ _ _ _ _)
   | (with_reducible exact spec_InsOk.mono _ _ _ _ _ _ _ _ _)
   | (with_reducible exact spec_l4Op.mono _ _)
   | (with_reducible exact LeO.refl _)
   | (with_reducible exact LeO.none _)
   | (with_reducible refine LeO.ite ?_ ?_)
   | (with_reducible refine LeO.bind ?_ (fun _ => ?_))
   | exact ih0 _ _ _
   | exact ih1 _ _ _ _ _ _ _ _ _ _ _ _
   | exact ih2 _ _ _ _ _ _ _ _ _ _ _
   | exact ih3 _ _ _ _ _ _ _ _ _ _ _ _
   | exact spec_InsOk.mono _ _ _ _ _ _ _ _ _
   | exact spec_l4Op.mono _ _
   | exact LeO.none _
   | refine LeO.ite ?_ ?_
   | refine LeO.bind ?_ (fun _ => ?_)
  ·intro y0 y1 y2 y3 y4 y5 y6 y7 y8 y9 y10 y11
   unfold spec_Decode.j1
   repeat' first
   | (with_reducible exact ih0 _ _ _)
   | (with_reducible exact ih1 _ _ _ _ _ _ _ _ _ _ _ _)
   | (with_reducible exact ih2 _ _ _ _ _ _ _ _ _ _ _)
   | (with_reducible exact ih3 _ _ _ _ _ _ _ _ _ _ _ _)
   | (with_reducible exact spec_InsOk.mono _ _ _ _ _ _ _ _ _)
   | (with_reducible exact spec_l4Op.mono _ _)
   | (with_reducible exact LeO.refl _)
   | (with_reducible exact LeO.none _)
   | (with_reducible refine LeO.ite ?_ ?_)
   | (with_reducible refine LeO.bind ?_ (fun _ => ?_))
   | exact ih0 _ _ _
   | exact ih1 _ _ _ _ _ _ _ _ _ _ _ _
   | exact ih2 _ _ _ _ _ _ _ _ _ _ _
   | exact ih3 _ _ _ _ _ _ _ _ _ _ _ _
   | exact spec_InsOk.mono _ _ _ _ _ _ _ _ _
   | exact spec_l4Op.mono _ _
   | exact LeO.none _
   | refine LeO.ite ?_ ?_
   | refine LeO.bind ?_ (fun _ => ?_)
  ·intro y0 y1 y2 y3 y4 y5 y6 y7 y8 y9 y10
   unfold spec_Decode.j2
   repeat' first
   | (with_reducible exact ih0 _ _ _)
   | (with_reducible exact ih1 _ _ _ _ _ _ _ _ _ _ _ _)
   | (with_reducible exact ih2 _ _ _ _ _ _ _ _ _ _ _)
   | (with_reducible exact ih3 _ _ _ _ _ _ _ _ _ _ _ _)
   | (with_reducible exact spec_InsOk.mono _ _ _ _ _ _ _ _ _)
   | (with_reducible exact spec_l4Op.mono _ _)
   | (with_reducible exact LeO.refl _)
   | (with_reducible exact LeO.none _)
   | (with_reducible refine LeO.ite ?_ ?_)
   | (with_reducible refine LeO.bind ?_ (fun _ => ?_))
   | exact ih0 _ _ _
   | exact ih1 _ _ _ _ _ _ _ _ _ _ _ _
   | exact ih2 _ _ _ _ _ _ _ _ _ _ _
   | exact ih3 _ _ _ _ _ _ _ _ _ _ _ _
   | exact spec_InsOk.mono _ _ _ _ _ _ _ _ _
   | exact spec_l4Op.mono _ _
   | exact LeO.none _
   | refine LeO.ite ?_ ?_
   | refine LeO.bind ?_ (fun _ => ?_)
  ·intro y0 y1 y2 y3 y4 y5 y6 y7 y8 y9 y10 y11
   unfold spec_Decode.j3
   repeat' first
   | (with_reducible exact ih0 _ _ _)
   | (with_reducible exact ih1 _ _ _ _ _ _ _ _ _ _ _ _)
   | (with_reducible exact ih2 _ _ _ _ _ _ _ _ _ _ _)
   | (with_reducible exact ih3 _ _ _ _ _ _ _ _ _ _ _ _)
   | (with_reducible exact spec_InsOk.mono _ _ _ _ _ _ _ _ _)
   | (with_reducible exact spec_l4Op.mono _ _)
   | (with_reducible exact LeO.refl _)
   | (with_reducible exact LeO.none _)
   | (with_reducible refine LeO.ite ?_ ?_)
   | (with_reducible refine LeO.bind ?_ (fun _ => ?_))
   | exact ih0 _ _ _
   | exact ih1 _ _ _ _ _ _ _ _ _ _ _ _
   | exact ih2 _ _ _ _ _ _ _ _ _ _ _
   | exact ih3 _ _ _ _ _ _ _ _ _ _ _ _
   | exact spec_InsOk.mono _ _ _ _ _ _ _ _ _
   | exact spec_l4Op.mono _ _
   | exact LeO.none _
   | refine LeO.ite ?_ ?_
   | refine LeO.bind ?_ (fun _ => ?_)
theorem spec_Decode.mono : ∀ a0 a1 k, LeO (spec_Decode.f k a0 a1) (spec_Decode.f (k + 1) a0 a1) := by
 intro a0 a1 k
 obtain ⟨ih0, ih1, ih2, ih3⟩ := spec_Decode.mono_l k
 unfold spec_Decode.f
 repeat' first
   | (with_reducible exact ih0 _ _ _)
   | (with_reducible exact ih1 _ _ _ _ _ _ _ _ _ _ _ _)
   | (with_reducible exact ih2 _ _ _ _ _ _ _ _ _ _ _)
   | (with_reducible exact ih3 _ _ _ _ _ _ _ _ _ _ _ _)
   | (with_reducible exact spec_InsOk.mono _ _ _ _ _ _ _ _ _)
   | (with_reducible exact spec_l4Op.mono _ _)
   | (with_reducible exact LeO.refl _)
   | (with_reducible exact LeO.none _)
   | (with_reducible refine LeO.ite ?_ ?_)
   | (with_reducible refine LeO.bind ?_ (fun _ => ?_))
   | exact ih0 _ _ _
   | exact ih1 _ _ _ _ _ _ _ _ _ _ _ _
   | exact ih2 _ _ _ _ _ _ _ _ _ _ _
   | exact ih3 _ _ _ _ _ _ _ _ _ _ _ _
   | exact spec_InsOk.mono _ _ _ _ _ _ _ _ _
   | exact spec_l4Op.mono _ _
   | exact LeO.none _
   | refine LeO.ite ?_ ?_
   | refine LeO.bind ?_ (fun _ => ?_)
set_option maxHeartbeats 8000000 in
set_option maxRecDepth 100000 in
theorem spec_Decode.calls (k : Nat) (A0 : Option Addr) (c0 : Nat) (l0 : List Int) (a1 : Int) (r1 : Int) (r2 : Int) (r3 : Int) (r4 : Int) (r5 : Int) (r6 : Int) (r7 : Int) (r8 : Int) (r9 : Int) (r10 : Bool) (w : World) (hr0 : Kd.C (Kd.int .i64) w A0 l0.length l0) (hc0 : l0.length ≤ c0) (h : spec_Decode.f k l0 a1 = some (r1, r2, r3, r4, r5, r6, r7, r8, r9, r10)) :
  Calls Try.prog 26 #[.slice A0 l0.length c0, .int .i64 a1] w fun e w' => e = .returned (.tuple #[.agg #[.int .i64 r1, .int .i64 r2, .int .i64 r3, .int .i64 r4, .int .i64 r5, .int .i64 r6, .int .i64 r7, .int .i64 r8], .int .i64 r9, .bool r10]) ∧ Below w.heap.size w w' := by
 have hu32 := Try.underlying32
 have hu25 := Try.underlying25
 have HR0 := Aside0.mk hr0
 have HC0 := Aside0.mk hc0
 clear hr0 hc0
 have HB := Aside0.mk (Below.refl w.heap.size w)
 have H : ((spec_l1In.f a1 0 (wrap64 ((l0.length : Int) - 1))).bind fun t200 => (if t200 = true then (if 0 ≤ a1 then (if a1 < (l0.length : Int) then ((spec_l1In.f (rd l0 a1) 0 65535).bind fun t202 => (spec_Decode.j0 k l0 a1 (!t202))) else (none)) else (none)) else (spec_Decode.j0 k l0 a1 true))) = some (r1, r2, r3, r4, r5, r6, r7, r8, r9, r10) := h
 clear h
 have HC3 := Aside0.mk H
 clear H
 go_enter Try.func26, Try.ntmps26
 go_upto_region 1 with (first | ((with_reducible refine gate_dst (N := 4) rfl ?_); refine box_event ?hg (N := 4) ?hd (cs := #[.int .i64 0, .int .i64 0, .int .i64 0, .int .i64 0, .int .i64 0, .int .i64 0, .int .i64 0, .int .i64 0]) (t := 32) ?hr ?_; (case hd => rfl); (case hg => rfl); (case hr => first | (go_simp; done) | (go_simp; rfl)); intro gb199 hg w4 hbox hb; have n0_ := Aside0.mk (below_step (bw_ HB.out) hb); have n1_ := Aside0.mk (hbox); have n2_ := Aside0.mk ((by rw [hg]; exact (below_size (bw_ HB.out)) : w.heap.size ≤ gb199)); have n3_ := n2_; clear HB; have HB := n0_; have BK199 := n1_; have GW199 := n2_; have GE199 := n3_; have GI199 := GeI.mk GE199.out; clear n0_ n1_ n2_ n3_; clear hb hbox hg))
 (try simp only [Act.put, List.setIfInBounds_toArray, List.set_cons_zero, List.set_cons_succ])
 go_cut [22] (fun v22 wc => ∃ (kq : Nat) (x22_2 : Bool), v22 = .bool x22_2 ∧ Aside0 (spec_Decode.j0 kq l0 a1 x22_2 = some (r1, r2, r3, r4, r5, r6, r7, r8, r9, r10)) ∧ Aside0 (kq ≤ k) ∧ Aside0 (wc.heap[gb199]? = some (.cells #[.int .i64 0, .int .i64 0, .int .i64 0, .int .i64 0, .int .i64 0, .int .i64 0, .int .i64 0, .int .i64 0] 32 (0, 0))) ∧ Aside0 (Below w.heap.size w wc))
 case first =>
  have H := HC3.out
  clear HC3
  replace H := Option.bind_eq_some_iff.mp H
  obtain ⟨t200, A50, H⟩ := H
  try dsimp only at H
  have A5 := Aside0.mk A50
  clear A50
  by_cases c6 : t200 = true
  ·subst c6
   rw [if_pos rfl] at H
   by_cases c7 : 0 ≤ a1
   ·rw [if_pos c7] at H
    have c7b0 : decide (0 ≤ a1) = true := decide_eq_true c7
    clear c7
    (first | rw [c7b0] | (simp only [i64_w, i32_w]; rw [c7b0]) | skip)
    by_cases c8 : a1 < (l0.length : Int)
    ·rw [if_pos c8] at H
     have c8b0 : decide (a1 < (l0.length : Int)) = true := decide_eq_true c8
     clear c8
     replace H := Option.bind_eq_some_iff.mp H
     obtain ⟨t202, A90, H⟩ := H
     try dsimp only at H
     have A9 := Aside0.mk A90
     clear A90
     have H' := Aside0.mk H
     clear H
     go_wp2_with (first | ((with_reducible refine gate_callee (f := 35) rfl ?_); refine gL_ (some 13) Try.func35 #[.int .i64 a1, .int .i64 0, .int .i64 (wrap64 ((l0.length : Int) - 1))] ?_; (with_reducible refine (spec_l1In.calls a1 0 (wrap64 ((l0.length : Int) - 1)) true _ A5.out).mono ?_); rintro e w' ⟨rfl, ⟨nd, rfl⟩⟩; refine ⟨_, rfl, ?_⟩; have p201 : 0 ≤ (a1 : Int) := of_decide_eq_true (by first | (with_reducible assumption) | assumption); have q201 : a1 < (l0.length : Int) := of_decide_eq_true (by first | (with_reducible assumption) | assumption); obtain ⟨ad201, e201, hx201_0⟩ := Kd.at_int HR0.out a1 p201 q201; cases e201; replace hx201_0 := (HB.out.cell (World.block_lt_of_cell? w _ hx201_0)).trans hx201_0; replace p201 := eq_true p201; replace q201 := eq_true q201) | (go_at_call 35; (with_reducible refine (spec_l1In.calls (rd l0 a1) 0 65535 t202 _ A9.out).mono ?_); rintro e w' ⟨rfl, ⟨nd, rfl⟩⟩))
     go_meet
     case rel => exact ⟨_, (!t202), (by first | rfl | (simp; done) | (simp [*]; done) | (simp [wrap64]; done)), H', ⟨by first | omega | exact Nat.le_refl _⟩, ⟨by refine bk_ ?_; exact BK199.out⟩, ⟨bw_ HB.out⟩⟩
    ·rw [if_neg c8] at H
     exact absurd H (by simp)
   ·rw [if_neg c7] at H
    exact absurd H (by simp)
  ·replace c6 := Bool.eq_false_iff.mpr c6
   subst c6
   rw [if_neg (show ¬ (false = true) by decide)] at H
   have H' := Aside0.mk H
   clear H
   go_wp2_with (first | ((with_reducible refine gate_callee (f := 35) rfl ?_); refine gL_ (some 13) Try.func35 #[.int .i64 a1, .int .i64 0, .int .i64 (wrap64 ((l0.length : Int) - 1))] ?_; (with_reducible refine (spec_l1In.calls a1 0 (wrap64 ((l0.length : Int) - 1)) false _ A5.out).mono ?_); rintro e w' ⟨rfl, ⟨nd, rfl⟩⟩; refine ⟨_, rfl, ?_⟩))
   go_meet
   case rel => exact ⟨_, (true), (by first | rfl | (simp; done) | (simp [*]; done) | (simp [wrap64]; done)), H', ⟨by first | omega | exact Nat.le_refl _⟩, ⟨by refine bk_ ?_; exact BK199.out⟩, ⟨bw_ HB.out⟩⟩
 case rest =>
  clear HC3
  try clear c2
  try clear p2
  try clear q2
  try clear hx2
  try clear c3
  try clear c6
  try clear p6
  try clear c7
  try clear c7b0
  try clear c8
  try clear c8b0
  try clear hx201_0
  try clear p201
  try clear q201
  obtain ⟨kq, x22_2, rfl, HA, HJ2, BK199, HB⟩ := hcut
  cases kq with
  | zero => exact absurd HA.out (by simp [spec_Decode.j0])
  | succ kj2 =>
   have H := HA.out
   clear HA
   simp only [spec_Decode.j0] at H
   by_cases c10 : x22_2 = true
   ·subst c10
    rw [if_pos rfl] at H
    simp only [Option.some.injEq, Prod.mk.injEq] at H
    obtain ⟨rfl, rfl, rfl, rfl, rfl, rfl, rfl, rfl, rfl, rfl⟩ := H
    obtain ⟨hcz11_0, hcz11_1, hcz11_2, hcz11_3, hcz11_4, hcz11_5, hcz11_6, hcz11_7, hfz11_0, hfz11_1, hfz11_2, hfz11_3, hfz11_4, hfz11_5, hfz11_6, hfz11_7⟩ := cz8_ BK199.out
    go_wp2
    refine bodyPost_ret (results_ctt rfl _ _ gb199 32 #[.int .i64 0, .int .i64 0, .int .i64 0, .int .i64 0, .int .i64 0, .int .i64 0, .int .i64 0, .int .i64 0] (0, 0) _ rfl ?hb_ Try.underlying32 rfl (by kernel_rfl)) rfl ?_
    (case hb_ => refine bk_ ?_; refine blk_put (cs := #[.int .i64 0, .int .i64 0, .int .i64 0, .int .i64 0, .int .i64 0, .int .i64 0, .int .i64 0, .int .i64 0]) ?_ 7 _ rfl; refine bk_ ?_; refine blk_put (cs := #[.int .i64 0, .int .i64 0, .int .i64 0, .int .i64 0, .int .i64 0, .int .i64 0, .int .i64 0, .int .i64 0]) ?_ 6 _ rfl; refine bk_ ?_; refine blk_put (cs := #[.int .i64 0, .int .i64 0, .int .i64 0, .int .i64 0, .int .i64 0, .int .i64 0, .int .i64 0, .int .i64 0]) ?_ 5 _ rfl; refine bk_ ?_; refine blk_put (cs := #[.int .i64 0, .int .i64 0, .int .i64 0, .int .i64 0, .int .i64 0, .int .i64 0, .int .i64 0, .int .i64 0]) ?_ 4 _ rfl; refine bk_ ?_; refine blk_put (cs := #[.int .i64 0, .int .i64 0, .int .i64 0, .int .i64 0, .int .i64 0, .int .i64 0, .int .i64 0, .int .i64 0]) ?_ 3 _ rfl; refine bk_ ?_; refine blk_put (cs := #[.int .i64 0, .int .i64 0, .int .i64 0, .int .i64 0, .int .i64 0, .int .i64 0, .int .i64 0, .int .i64 0]) ?_ 2 _ rfl; refine bk_ ?_; refine blk_put (cs := #[.int .i64 0, .int .i64 0, .int .i64 0, .int .i64 0, .int .i64 0, .int .i64 0, .int .i64 0, .int .i64 0]) ?_ 1 _ rfl; refine bk_ ?_; refine blk_put (cs := #[.int .i64 0, .int .i64 0, .int .i64 0, .int .i64 0, .int .i64 0, .int .i64 0, .int .i64 0, .int .i64 0]) ?_ 0 _ rfl; refine bk_ ?_; exact BK199.out)
    exact rt_ (bw_ HB.out)
   ·replace c10 := Bool.eq_false_iff.mpr c10
    subst c10
    rw [if_neg (show ¬ (false = true) by decide)] at H
    by_cases c12 : 0 ≤ a1
    ·rw [if_pos c12] at H
     have c12b0 : decide (0 ≤ a1) = true := decide_eq_true c12
     clear c12
     by_cases c13 : a1 < (l0.length : Int)
     ·rw [if_pos c13] at H
      have c13b0 : decide (a1 < (l0.length : Int)) = true := decide_eq_true c13
      clear c13
      replace H := Option.bind_eq_some_iff.mp H
      obtain ⟨⟨t204, t205, t206, t207, t208, t209, t210, t211⟩, A140, H⟩ := H
      try dsimp only at H
      have A14 := Aside0.mk A140
      clear A140
      have HC15 := Aside0.mk H
      clear H
      have p203 : 0 ≤ (a1 : Int) := of_decide_eq_true (by first | (with_reducible assumption) | assumption)
      have q203 : a1 < (l0.length : Int) := of_decide_eq_true (by first | (with_reducible assumption) | assumption)
      obtain ⟨ad203, e203, hx203_0⟩ := Kd.at_int HR0.out a1 p203 q203
      cases e203
      replace hx203_0 := (HB.out.cell (World.block_lt_of_cell? w _ hx203_0)).trans hx203_0
      replace p203 := eq_true p203
      replace q203 := eq_true q203
      go_upto_region 5 with (first | ((with_reducible refine gate_callee (f := 46) rfl ?_); refine gL_ (some 28) Try.func46 #[.int .i64 (rd l0 a1)] ?_; (with_reducible refine (spec_l4Op.calls kj2 (rd l0 a1) t204 t205 t206 t207 t208 t209 t210 t211 _ A14.out).mono ?_); rintro e w16 ⟨rfl, hb⟩; refine ⟨_, rfl, ?_⟩; have n0_ := Aside0.mk (blk_below (bk_ BK199.out) hb); have n1_ := Aside0.mk (below_step (bw_ HB.out) hb); clear BK199; clear HB; have BK199 := n0_; have HB := n1_; clear n0_ n1_; (try clear hb); (try clear hb2); (try clear hk); (try clear hi)) | ((with_reducible refine gate_dst (N := 7) rfl ?_); refine box_event ?hg (N := 7) ?hd (cs := #[.int .i64 0, .int .i64 0, .int .i64 0, .int .i64 0, .int .i64 0, .int .i64 0, .int .i64 0, .int .i64 0]) (t := 32) ?hr ?_; (case hd => rfl); (case hg => rfl); (case hr => first | (go_simp; done) | (go_simp; rfl)); intro gb212 hg w17 hbox hb; have n0_ := Aside0.mk (blk_below (bk_ BK199.out) hb); have n1_ := Aside0.mk (below_step (bw_ HB.out) hb); have n2_ := Aside0.mk (hbox); have n3_ := Aside0.mk ((by rw [hg]; exact (below_size (bw_ HB.out)) : w.heap.size ≤ gb212)); have n4_ := n3_; have n5_ := Aside0.mk ((by rw [hg]; exact Nat.ne_of_lt (blk_lt (bk_ BK199.out)) : gb199 ≠ gb212)); have n6_ := Aside0.mk n5_.out.symm; clear BK199; clear HB; have BK199 := n0_; have HB := n1_; have BK212 := n2_; have GW212 := n3_; have GE212 := n4_; have GI212 := GeI.mk GE212.out; have NB199_212 := n5_; have NB212_199 := n6_; clear n0_ n1_ n2_ n3_ n4_ n5_ n6_; clear hb hbox hg; have hnb18 := NB212_199.out; have hnc18 := NB199_212.out; have hcz19_0 : w17.cell? ⟨gb212, 0, none⟩ = some (.int .i64 0) := (blk_cell BK212.out 0).trans rfl; have hcz19_1 : w17.cell? ⟨gb212, 1, none⟩ = some (.int .i64 0) := (blk_cell BK212.out 1).trans rfl; have hcz19_2 : w17.cell? ⟨gb212, 2, none⟩ = some (.int .i64 0) := (blk_cell BK212.out 2).trans rfl; have hcz19_3 : w17.cell? ⟨gb212, 3, none⟩ = some (.int .i64 0) := (blk_cell BK212.out 3).trans rfl; have hcz19_4 : w17.cell? ⟨gb212, 4, none⟩ = some (.int .i64 0) := (blk_cell BK212.out 4).trans rfl; have hcz19_5 : w17.cell? ⟨gb212, 5, none⟩ = some (.int .i64 0) := (blk_cell BK212.out 5).trans rfl; have hcz19_6 : w17.cell? ⟨gb212, 6, none⟩ = some (.int .i64 0) := (blk_cell BK212.out 6).trans rfl; have hcz19_7 : w17.cell? ⟨gb212, 7, none⟩ = some (.int .i64 0) := (blk_cell BK212.out 7).trans rfl; have hfz19_0 := blk_frozen BK212.out 0; have hfz19_1 := blk_frozen BK212.out 1; have hfz19_2 := blk_frozen BK212.out 2; have hfz19_3 := blk_frozen BK212.out 3; have hfz19_4 := blk_frozen BK212.out 4; have hfz19_5 := blk_frozen BK212.out 5; have hfz19_6 := blk_frozen BK212.out 6; have hfz19_7 := blk_frozen BK212.out 7))
      (try simp only [Act.put, List.setIfInBounds_toArray, List.set_cons_zero, List.set_cons_succ])
      go_cut [38] (fun v38 wc => ∃ (kq : Nat) (x38_14 : Bool), v38 = .bool x38_14 ∧ Aside0 (spec_Decode.j1 kq l0 a1 (wrap64 (a1 + 1)) x38_14 t204 t205 t206 t207 t208 t209 t210 t211 = some (r1, r2, r3, r4, r5, r6, r7, r8, r9, r10)) ∧ Aside0 (kq ≤ kj2) ∧ Aside0 (wc.heap[gb199]? = some (.cells #[.int .i64 0, .int .i64 0, .int .i64 0, .int .i64 0, .int .i64 0, .int .i64 0, .int .i64 0, .int .i64 0] 32 (0, 0))) ∧ Aside0 (wc.heap[gb212]? = some (.cells #[.int .i64 t204, .int .i64 t205, .int .i64 t206, .int .i64 t207, .int .i64 t208, .int .i64 t209, .int .i64 t210, .int .i64 t211] 32 (0, 0))) ∧ Aside0 (Below w.heap.size w wc))
      case first =>
       have H := HC15.out
       clear HC15
       by_cases c20 : t204 ≤ 6
       ·rw [if_pos c20] at H
        have c20b0 : decide (t204 ≤ 6) = true := decide_eq_true c20
        clear c20
        (first | rw [c20b0] | (simp only [i64_w, i32_w]; rw [c20b0]) | skip)
        replace H := Option.bind_eq_some_iff.mp H
        obtain ⟨t213, A210, H⟩ := H
        try dsimp only at H
        have A21 := Aside0.mk A210
        clear A210
        have H' := Aside0.mk H
        clear H
        have hnb22 := NB212_199.out
        have hnc22 := NB199_212.out
        obtain ⟨hcz23_0, hcz23_1, hcz23_2, hcz23_3, hcz23_4, hcz23_5, hcz23_6, hcz23_7, hfz23_0, hfz23_1, hfz23_2, hfz23_3, hfz23_4, hfz23_5, hfz23_6, hfz23_7⟩ := cz8_ BK212.out
        go_wp2_with (first | (go_at_call 11; (with_reducible refine (spec_HasX.calls t205 t206 t207 t213 _ A21.out).mono ?_); rintro e w24 ⟨rfl, hb⟩; have n0_ := Aside0.mk (blk_below (g := gb199) (o := .cells #[.int .i64 0, .int .i64 0, .int .i64 0, .int .i64 0, .int .i64 0, .int .i64 0, .int .i64 0, .int .i64 0] 32 (0, 0)) (by refine bk_ ?_; refine blk_far ?_ NB199_212.out _; refine bk_ ?_; refine blk_far ?_ NB199_212.out _; refine bk_ ?_; refine blk_far ?_ NB199_212.out _; refine bk_ ?_; refine blk_far ?_ NB199_212.out _; refine bk_ ?_; refine blk_far ?_ NB199_212.out _; refine bk_ ?_; refine blk_far ?_ NB199_212.out _; refine bk_ ?_; refine blk_far ?_ NB199_212.out _; refine bk_ ?_; refine blk_far ?_ NB199_212.out _; refine bk_ ?_; exact BK199.out) hb); have n1_ := Aside0.mk (blk_below (g := gb212) (o := .cells #[.int .i64 t204, .int .i64 t205, .int .i64 t206, .int .i64 t207, .int .i64 t208, .int .i64 t209, .int .i64 t210, .int .i64 t211] 32 (0, 0)) (by refine bk_ ?_; refine blk_put (cs := #[.int .i64 t204, .int .i64 t205, .int .i64 t206, .int .i64 t207, .int .i64 t208, .int .i64 t209, .int .i64 t210, .int .i64 0]) ?_ 7 _ rfl; refine bk_ ?_; refine blk_put (cs := #[.int .i64 t204, .int .i64 t205, .int .i64 t206, .int .i64 t207, .int .i64 t208, .int .i64 t209, .int .i64 0, .int .i64 0]) ?_ 6 _ rfl; refine bk_ ?_; refine blk_put (cs := #[.int .i64 t204, .int .i64 t205, .int .i64 t206, .int .i64 t207, .int .i64 t208, .int .i64 0, .int .i64 0, .int .i64 0]) ?_ 5 _ rfl; refine bk_ ?_; refine blk_put (cs := #[.int .i64 t204, .int .i64 t205, .int .i64 t206, .int .i64 t207, .int .i64 0, .int .i64 0, .int .i64 0, .int .i64 0]) ?_ 4 _ rfl; refine bk_ ?_; refine blk_put (cs := #[.int .i64 t204, .int .i64 t205, .int .i64 t206, .int .i64 0, .int .i64 0, .int .i64 0, .int .i64 0, .int .i64 0]) ?_ 3 _ rfl; refine bk_ ?_; refine blk_put (cs := #[.int .i64 t204, .int .i64 t205, .int .i64 0, .int .i64 0, .int .i64 0, .int .i64 0, .int .i64 0, .int .i64 0]) ?_ 2 _ rfl; refine bk_ ?_; refine blk_put (cs := #[.int .i64 t204, .int .i64 0, .int .i64 0, .int .i64 0, .int .i64 0, .int .i64 0, .int .i64 0, .int .i64 0]) ?_ 1 _ rfl; refine bk_ ?_; refine blk_put (cs := #[.int .i64 0, .int .i64 0, .int .i64 0, .int .i64 0, .int .i64 0, .int .i64 0, .int .i64 0, .int .i64 0]) ?_ 0 _ rfl; refine bk_ ?_; exact BK212.out) hb); have n2_ := Aside0.mk (below_step (bw_ HB.out) hb); clear BK199; clear BK212; clear HB; have BK199 := n0_; have BK212 := n1_; have HB := n2_; clear n0_ n1_ n2_; (try clear hb); (try clear hb2); (try clear hk); (try clear hi)))
        go_meet
        case rel => exact ⟨_, (t213), (by first | rfl | (simp; done) | (simp [*]; done) | (simp [wrap64]; done)), H', ⟨by have := HJ2.out; first | omega | exact Nat.le_refl _⟩, ⟨by refine bk_ ?_; exact BK199.out⟩, ⟨by refine bk_ ?_; exact BK212.out⟩, ⟨bw_ HB.out⟩⟩
       ·rw [if_neg c20] at H
        have c20b0 : decide (t204 ≤ 6) = false := decide_eq_false c20
        clear c20
        (first | rw [c20b0] | (simp only [i64_w, i32_w]; rw [c20b0]) | skip)
        have H' := Aside0.mk H
        clear H
        have hnb25 := NB212_199.out
        have hnc25 := NB199_212.out
        obtain ⟨hcz26_0, hcz26_1, hcz26_2, hcz26_3, hcz26_4, hcz26_5, hcz26_6, hcz26_7, hfz26_0, hfz26_1, hfz26_2, hfz26_3, hfz26_4, hfz26_5, hfz26_6, hfz26_7⟩ := cz8_ BK212.out
        go_wp2
        go_meet
        case rel => exact ⟨_, (false), (by first | rfl | (simp; done) | (simp [*]; done) | (simp [wrap64]; done)), H', ⟨by have := HJ2.out; first | omega | exact Nat.le_refl _⟩, ⟨by refine bk_ ?_; refine blk_far ?_ NB199_212.out _; refine bk_ ?_; refine blk_far ?_ NB199_212.out _; refine bk_ ?_; refine blk_far ?_ NB199_212.out _; refine bk_ ?_; refine blk_far ?_ NB199_212.out _; refine bk_ ?_; refine blk_far ?_ NB199_212.out _; refine bk_ ?_; refine blk_far ?_ NB199_212.out _; refine bk_ ?_; refine blk_far ?_ NB199_212.out _; refine bk_ ?_; refine blk_far ?_ NB199_212.out _; refine bk_ ?_; exact BK199.out⟩, ⟨by refine bk_ ?_; refine blk_put (cs := #[.int .i64 t204, .int .i64 t205, .int .i64 t206, .int .i64 t207, .int .i64 t208, .int .i64 t209, .int .i64 t210, .int .i64 0]) ?_ 7 _ rfl; refine bk_ ?_; refine blk_put (cs := #[.int .i64 t204, .int .i64 t205, .int .i64 t206, .int .i64 t207, .int .i64 t208, .int .i64 t209, .int .i64 0, .int .i64 0]) ?_ 6 _ rfl; refine bk_ ?_; refine blk_put (cs := #[.int .i64 t204, .int .i64 t205, .int .i64 t206, .int .i64 t207, .int .i64 t208, .int .i64 0, .int .i64 0, .int .i64 0]) ?_ 5 _ rfl; refine bk_ ?_; refine blk_put (cs := #[.int .i64 t204, .int .i64 t205, .int .i64 t206, .int .i64 t207, .int .i64 0, .int .i64 0, .int .i64 0, .int .i64 0]) ?_ 4 _ rfl; refine bk_ ?_; refine blk_put (cs := #[.int .i64 t204, .int .i64 t205, .int .i64 t206, .int .i64 0, .int .i64 0, .int .i64 0, .int .i64 0, .int .i64 0]) ?_ 3 _ rfl; refine bk_ ?_; refine blk_put (cs := #[.int .i64 t204, .int .i64 t205, .int .i64 0, .int .i64 0, .int .i64 0, .int .i64 0, .int .i64 0, .int .i64 0]) ?_ 2 _ rfl; refine bk_ ?_; refine blk_put (cs := #[.int .i64 t204, .int .i64 0, .int .i64 0, .int .i64 0, .int .i64 0, .int .i64 0, .int .i64 0, .int .i64 0]) ?_ 1 _ rfl; refine bk_ ?_; refine blk_put (cs := #[.int .i64 0, .int .i64 0, .int .i64 0, .int .i64 0, .int .i64 0, .int .i64 0, .int .i64 0, .int .i64 0]) ?_ 0 _ rfl; refine bk_ ?_; exact BK212.out⟩, ⟨bw_ HB.out⟩⟩
      case rest =>
       clear HC15
       try clear c1
       try clear c2
       try clear p2
       try clear q2
       try clear hx2
       try clear c3
       try clear c4
       try clear c6
       try clear p6
       try clear c7
       try clear c7b0
       try clear c8
       try clear c8b0
       try clear c10
       try clear c12
       try clear c12b0
       try clear c13
       try clear c13b0
       try clear c18
       try clear c20
       try clear c20b0
       try clear p20
       try clear q20
       try clear hx20
       try clear c22
       try clear c25
       try clear c26
       try clear hcz11_0 hcz11_1 hcz11_2 hcz11_3 hcz11_4 hcz11_5 hcz11_6 hcz11_7 hfz11_0 hfz11_1 hfz11_2 hfz11_3 hfz11_4 hfz11_5 hfz11_6 hfz11_7
       try clear hcz19_0 hcz19_1 hcz19_2 hcz19_3 hcz19_4 hcz19_5 hcz19_6 hcz19_7 hfz19_0 hfz19_1 hfz19_2 hfz19_3 hfz19_4 hfz19_5 hfz19_6 hfz19_7
       try clear hcz23_0 hcz23_1 hcz23_2 hcz23_3 hcz23_4 hcz23_5 hcz23_6 hcz23_7 hfz23_0 hfz23_1 hfz23_2 hfz23_3 hfz23_4 hfz23_5 hfz23_6 hfz23_7
       try clear hcz26_0 hcz26_1 hcz26_2 hcz26_3 hcz26_4 hcz26_5 hcz26_6 hcz26_7 hfz26_0 hfz26_1 hfz26_2 hfz26_3 hfz26_4 hfz26_5 hfz26_6 hfz26_7
       try clear hx201_0
       try clear hx203_0
       try clear p2
       try clear p201
       try clear p203
       try clear p6
       try clear q2
       try clear q201
       try clear q203
       obtain ⟨kq, x38_14, rfl, HA, HJ14, BK199, BK212, HB⟩ := hcut
       cases kq with
       | zero => exact absurd HA.out (by simp [spec_Decode.j1])
       | succ kj14 =>
        have H := HA.out
        clear HA
        simp only [spec_Decode.j1] at H
        have HC27 := Aside0.mk H
        clear H
        go_upto_if 38 with (fail)
        go_cut [8] (fun v8 wc => ∃ (kq : Nat) (x8_26 : Int) (x200000_26 : Int) (x200001_26 : Int) (x200002_26 : Int) (x200003_26 : Int) (x200004_26 : Int) (x200005_26 : Int) (x200006_26 : Int) (x200007_26 : Int) (x213003_26 : Int), v8 = .int .i64 x8_26 ∧ Aside0 (spec_Decode.j2 kq l0 a1 x8_26 t204 t205 t206 x213003_26 t208 t209 t210 t211 = some (r1, r2, r3, r4, r5, r6, r7, r8, r9, r10)) ∧ Aside0 (kq ≤ kj14) ∧ Aside0 (wc.heap[gb199]? = some (.cells #[.int .i64 x200000_26, .int .i64 x200001_26, .int .i64 x200002_26, .int .i64 x200003_26, .int .i64 x200004_26, .int .i64 x200005_26, .int .i64 x200006_26, .int .i64 x200007_26] 32 (0, 0))) ∧ Aside0 (wc.heap[gb212]? = some (.cells #[.int .i64 t204, .int .i64 t205, .int .i64 t206, .int .i64 x213003_26, .int .i64 t208, .int .i64 t209, .int .i64 t210, .int .i64 t211] 32 (0, 0))) ∧ Aside0 (Below w.heap.size w wc))
        case first =>
         have H := HC27.out
         clear HC27
         by_cases c28 : x38_14 = true
         ·subst c28
          rw [if_pos rfl] at H
          by_cases c29 : (wrap64 (a1 + 1)) ≥ (l0.length : Int)
          ·rw [if_pos c29] at H
           have c29b0 : decide ((l0.length : Int) ≤ (wrap64 (a1 + 1))) = true := decide_eq_true c29
           clear c29
           (first | rw [c29b0] | (simp only [i64_w, i32_w]; rw [c29b0]) | skip)
           simp only [Option.some.injEq, Prod.mk.injEq] at H
           obtain ⟨rfl, rfl, rfl, rfl, rfl, rfl, rfl, rfl, rfl, rfl⟩ := H
           have hnb30 := NB199_212.out
           have hnc30 := NB212_199.out
           obtain ⟨hcz31_0, hcz31_1, hcz31_2, hcz31_3, hcz31_4, hcz31_5, hcz31_6, hcz31_7, hfz31_0, hfz31_1, hfz31_2, hfz31_3, hfz31_4, hfz31_5, hfz31_6, hfz31_7⟩ := cz8_ BK199.out
           go_wp2
           refine bodyPost_ret (results_ctt rfl _ _ gb199 32 #[.int .i64 0, .int .i64 0, .int .i64 0, .int .i64 0, .int .i64 0, .int .i64 0, .int .i64 0, .int .i64 0] (0, 0) _ rfl ?hb_ Try.underlying32 rfl (by kernel_rfl)) rfl ?_
           (case hb_ => refine bk_ ?_; refine blk_put (cs := #[.int .i64 0, .int .i64 0, .int .i64 0, .int .i64 0, .int .i64 0, .int .i64 0, .int .i64 0, .int .i64 0]) ?_ 7 _ rfl; refine bk_ ?_; refine blk_put (cs := #[.int .i64 0, .int .i64 0, .int .i64 0, .int .i64 0, .int .i64 0, .int .i64 0, .int .i64 0, .int .i64 0]) ?_ 6 _ rfl; refine bk_ ?_; refine blk_put (cs := #[.int .i64 0, .int .i64 0, .int .i64 0, .int .i64 0, .int .i64 0, .int .i64 0, .int .i64 0, .int .i64 0]) ?_ 5 _ rfl; refine bk_ ?_; refine blk_put (cs := #[.int .i64 0, .int .i64 0, .int .i64 0, .int .i64 0, .int .i64 0, .int .i64 0, .int .i64 0, .int .i64 0]) ?_ 4 _ rfl; refine bk_ ?_; refine blk_put (cs := #[.int .i64 0, .int .i64 0, .int .i64 0, .int .i64 0, .int .i64 0, .int .i64 0, .int .i64 0, .int .i64 0]) ?_ 3 _ rfl; refine bk_ ?_; refine blk_put (cs := #[.int .i64 0, .int .i64 0, .int .i64 0, .int .i64 0, .int .i64 0, .int .i64 0, .int .i64 0, .int .i64 0]) ?_ 2 _ rfl; refine bk_ ?_; refine blk_put (cs := #[.int .i64 0, .int .i64 0, .int .i64 0, .int .i64 0, .int .i64 0, .int .i64 0, .int .i64 0, .int .i64 0]) ?_ 1 _ rfl; refine bk_ ?_; refine blk_put (cs := #[.int .i64 0, .int .i64 0, .int .i64 0, .int .i64 0, .int .i64 0, .int .i64 0, .int .i64 0, .int .i64 0]) ?_ 0 _ rfl; refine bk_ ?_; exact BK199.out)
           exact rt_ (bw_ HB.out)
          ·rw [if_neg c29] at H
           have c29b0 : decide ((l0.length : Int) ≤ (wrap64 (a1 + 1))) = false := decide_eq_false c29
           clear c29
           (first | rw [c29b0] | (simp only [i64_w, i32_w]; rw [c29b0]) | skip)
           obtain ⟨ji32, hji32⟩ : ∃ j_ : Int, (wrap64 (a1 + 1)) = j_ := ⟨_, rfl⟩
           replace H : (if 0 ≤ (ji32) then (if (ji32) < (l0.length : Int) then (spec_Decode.j2 kj14 l0 a1 (wrap64 ((ji32) + 1)) t204 t205 t206 (rd l0 (ji32)) t208 t209 t210 t211) else (none)) else (none)) = some (r1, r2, r3, r4, r5, r6, r7, r8, r9, r10) := by first | (rw [hji32] at H; exact H) | (simp only [hji32] at H ⊢; exact H)
           (try rw [hji32] at c29b0)
           have hji32w : (IntKind.i64.wrap (a1 + 1)) = ji32 := (i64_w _).trans hji32
           by_cases c33 : 0 ≤ (ji32)
           ·rw [if_pos c33] at H
            have c33b0 : decide (0 ≤ (ji32)) = true := decide_eq_true c33
            clear c33
            by_cases c34 : (ji32) < (l0.length : Int)
            ·rw [if_pos c34] at H
             have c34b0 : decide ((ji32) < (l0.length : Int)) = true := decide_eq_true c34
             clear c34
             have H' := Aside0.mk H
             clear H
             have p214 : 0 ≤ ((ji32) : Int) := of_decide_eq_true (by first | (with_reducible assumption) | assumption)
             have q214 : (ji32) < (l0.length : Int) := of_decide_eq_true (by first | (with_reducible assumption) | assumption)
             obtain ⟨ad214, e214, hx214_0⟩ := Kd.at_int HR0.out (ji32) p214 q214
             obtain rfl : ad203 = ad214 := (by injection e214)
             replace hx214_0 := (HB.out.cell (World.block_lt_of_cell? w _ hx214_0)).trans hx214_0
             replace p214 := eq_true p214
             replace q214 := eq_true q214
             have hnb35 := NB212_199.out
             have hnc35 := NB199_212.out
             obtain ⟨hcz36_0, hcz36_1, hcz36_2, hcz36_3, hcz36_4, hcz36_5, hcz36_6, hcz36_7, hfz36_0, hfz36_1, hfz36_2, hfz36_3, hfz36_4, hfz36_5, hfz36_6, hfz36_7⟩ := cz8_ BK212.out
             go_wp2
             go_meet
             case rel => exact ⟨_, (wrap64 ((ji32) + 1)), (0), (0), (0), (0), (0), (0), (0), (0), (rd l0 (ji32)), (by first | rfl | (simp; done) | (simp only [← hji32] <;> (first | rfl | simp)) | (simp [*]; done)), H', ⟨by have := HJ2.out; have := HJ14.out; first | omega | exact Nat.le_refl _⟩, ⟨by refine bk_ ?_; refine blk_far ?_ NB199_212.out _; refine bk_ ?_; exact BK199.out⟩, ⟨by refine bk_ ?_; refine blk_put (cs := #[.int .i64 t204, .int .i64 t205, .int .i64 t206, .int .i64 t207, .int .i64 t208, .int .i64 t209, .int .i64 t210, .int .i64 t211]) ?_ 3 _ rfl; refine bk_ ?_; exact BK212.out⟩, ⟨bw_ HB.out⟩⟩
            ·rw [if_neg c34] at H
             exact absurd H (by simp)
           ·rw [if_neg c33] at H
            exact absurd H (by simp)
         ·replace c28 := Bool.eq_false_iff.mpr c28
          subst c28
          rw [if_neg (show ¬ (false = true) by decide)] at H
          have H' := Aside0.mk H
          clear H
          go_wp2
          go_meet
          case rel => exact ⟨_, ((wrap64 (a1 + 1))), (0), (0), (0), (0), (0), (0), (0), (0), (t207), (by first | rfl | (simp; done) | (simp [*]; done) | (simp [wrap64]; done)), H', ⟨by have := HJ2.out; have := HJ14.out; first | omega | exact Nat.le_refl _⟩, ⟨by refine bk_ ?_; exact BK199.out⟩, ⟨by refine bk_ ?_; exact BK212.out⟩, ⟨bw_ HB.out⟩⟩
        case rest =>
         clear HC27
         try clear c1
         try clear c2
         try clear p2
         try clear q2
         try clear hx2
         try clear c3
         try clear c4
         try clear c6
         try clear p6
         try clear c7
         try clear c7b0
         try clear c8
         try clear c8b0
         try clear c10
         try clear c12
         try clear c12b0
         try clear c13
         try clear c13b0
         try clear c18
         try clear c20
         try clear c20b0
         try clear p20
         try clear q20
         try clear hx20
         try clear p21
         try clear q21
         try clear hx21
         try clear c22
         try clear c25
         try clear c26
         try clear c28
         try clear c29
         try clear c29b0
         try clear c30
         try clear c33
         try clear c33b0
         try clear c34
         try clear c34b0
         try clear c35
         try clear hcz11_0 hcz11_1 hcz11_2 hcz11_3 hcz11_4 hcz11_5 hcz11_6 hcz11_7 hfz11_0 hfz11_1 hfz11_2 hfz11_3 hfz11_4 hfz11_5 hfz11_6 hfz11_7
         try clear hcz19_0 hcz19_1 hcz19_2 hcz19_3 hcz19_4 hcz19_5 hcz19_6 hcz19_7 hfz19_0 hfz19_1 hfz19_2 hfz19_3 hfz19_4 hfz19_5 hfz19_6 hfz19_7
         try clear hcz23_0 hcz23_1 hcz23_2 hcz23_3 hcz23_4 hcz23_5 hcz23_6 hcz23_7 hfz23_0 hfz23_1 hfz23_2 hfz23_3 hfz23_4 hfz23_5 hfz23_6 hfz23_7
         try clear hcz26_0 hcz26_1 hcz26_2 hcz26_3 hcz26_4 hcz26_5 hcz26_6 hcz26_7 hfz26_0 hfz26_1 hfz26_2 hfz26_3 hfz26_4 hfz26_5 hfz26_6 hfz26_7
         try clear hcz31_0 hcz31_1 hcz31_2 hcz31_3 hcz31_4 hcz31_5 hcz31_6 hcz31_7 hfz31_0 hfz31_1 hfz31_2 hfz31_3 hfz31_4 hfz31_5 hfz31_6 hfz31_7
         try clear hcz36_0 hcz36_1 hcz36_2 hcz36_3 hcz36_4 hcz36_5 hcz36_6 hcz36_7 hfz36_0 hfz36_1 hfz36_2 hfz36_3 hfz36_4 hfz36_5 hfz36_6 hfz36_7
         try clear hx201_0
         try clear hx203_0
         try clear hx214_0
         try clear p2
         try clear p20
         try clear p201
         try clear p203
         try clear p214
         try clear p6
         try clear q2
         try clear q20
         try clear q201
         try clear q203
         try clear q214
         obtain ⟨kq, x8_26, x200000_26, x200001_26, x200002_26, x200003_26, x200004_26, x200005_26, x200006_26, x200007_26, x213003_26, rfl, HA, HJ26, BK199, BK212, HB⟩ := hcut
         cases kq with
         | zero => exact absurd HA.out (by simp [spec_Decode.j2])
         | succ kj26 =>
          have H := HA.out
          clear HA
          simp only [spec_Decode.j2] at H
          have HC37 := Aside0.mk H
          clear H
          go_upto_region 10 with (fail)
          go_cut [59] (fun v59 wc => ∃ (kq : Nat) (x59_36 : Bool), v59 = .bool x59_36 ∧ Aside0 (spec_Decode.j3 kq l0 a1 x8_26 x59_36 t204 t205 t206 x213003_26 t208 t209 t210 t211 = some (r1, r2, r3, r4, r5, r6, r7, r8, r9, r10)) ∧ Aside0 (kq ≤ kj26) ∧ Aside0 (wc.heap[gb199]? = some (.cells #[.int .i64 x200000_26, .int .i64 x200001_26, .int .i64 x200002_26, .int .i64 x200003_26, .int .i64 x200004_26, .int .i64 x200005_26, .int .i64 x200006_26, .int .i64 x200007_26] 32 (0, 0))) ∧ Aside0 (wc.heap[gb212]? = some (.cells #[.int .i64 t204, .int .i64 t205, .int .i64 t206, .int .i64 x213003_26, .int .i64 t208, .int .i64 t209, .int .i64 t210, .int .i64 t211] 32 (0, 0))) ∧ Aside0 (Below w.heap.size w wc))
          case first =>
           have H := HC37.out
           clear HC37
           by_cases c38 : t204 ≤ 15
           ·rw [if_pos c38] at H
            have c38b0 : decide (t204 ≤ 15) = true := decide_eq_true c38
            clear c38
            (first | rw [c38b0] | (simp only [i64_w, i32_w]; rw [c38b0]) | skip)
            replace H := Option.bind_eq_some_iff.mp H
            obtain ⟨t215, A390, H⟩ := H
            try dsimp only at H
            have A39 := Aside0.mk A390
            clear A390
            have H' := Aside0.mk H
            clear H
            have hnb40 := NB212_199.out
            have hnc40 := NB199_212.out
            obtain ⟨hcz41_0, hcz41_1, hcz41_2, hcz41_3, hcz41_4, hcz41_5, hcz41_6, hcz41_7, hfz41_0, hfz41_1, hfz41_2, hfz41_3, hfz41_4, hfz41_5, hfz41_6, hfz41_7⟩ := cz8_ BK212.out
            go_wp2_with (first | (go_at_call 11; (with_reducible refine (spec_HasX.calls t208 t209 t210 t215 _ A39.out).mono ?_); rintro e w42 ⟨rfl, hb⟩; have n0_ := Aside0.mk (blk_below (bk_ BK199.out) hb); have n1_ := Aside0.mk (blk_below (bk_ BK212.out) hb); have n2_ := Aside0.mk (below_step (bw_ HB.out) hb); clear BK199; clear BK212; clear HB; have BK199 := n0_; have BK212 := n1_; have HB := n2_; clear n0_ n1_ n2_; (try clear hb); (try clear hb2); (try clear hk); (try clear hi)))
            go_meet
            case rel => exact ⟨_, (t215), (by first | rfl | (simp; done) | (simp [*]; done) | (simp [wrap64]; done)), H', ⟨by have := HJ2.out; have := HJ14.out; have := HJ26.out; first | omega | exact Nat.le_refl _⟩, ⟨by refine bk_ ?_; exact BK199.out⟩, ⟨by refine bk_ ?_; exact BK212.out⟩, ⟨bw_ HB.out⟩⟩
           ·rw [if_neg c38] at H
            have c38b0 : decide (t204 ≤ 15) = false := decide_eq_false c38
            clear c38
            (first | rw [c38b0] | (simp only [i64_w, i32_w]; rw [c38b0]) | skip)
            have H' := Aside0.mk H
            clear H
            have hnb43 := NB212_199.out
            have hnc43 := NB199_212.out
            obtain ⟨hcz44_0, hcz44_1, hcz44_2, hcz44_3, hcz44_4, hcz44_5, hcz44_6, hcz44_7, hfz44_0, hfz44_1, hfz44_2, hfz44_3, hfz44_4, hfz44_5, hfz44_6, hfz44_7⟩ := cz8_ BK212.out
            go_wp2
            go_meet
            case rel => exact ⟨_, (false), (by first | rfl | (simp; done) | (simp [*]; done) | (simp [wrap64]; done)), H', ⟨by have := HJ2.out; have := HJ14.out; have := HJ26.out; first | omega | exact Nat.le_refl _⟩, ⟨by refine bk_ ?_; exact BK199.out⟩, ⟨by refine bk_ ?_; exact BK212.out⟩, ⟨bw_ HB.out⟩⟩
          case rest =>
           clear HC37
           try clear c1
           try clear c2
           try clear p2
           try clear q2
           try clear hx2
           try clear c3
           try clear c4
           try clear c6
           try clear p6
           try clear c7
           try clear c7b0
           try clear c8
           try clear c8b0
           try clear c10
           try clear c12
           try clear c12b0
           try clear c13
           try clear c13b0
           try clear c18
           try clear c20
           try clear c20b0
           try clear p20
           try clear q20
           try clear hx20
           try clear p21
           try clear q21
           try clear hx21
           try clear c22
           try clear c25
           try clear c26
           try clear c28
           try clear c29
           try clear c29b0
           try clear c30
           try clear c33
           try clear c33b0
           try clear c34
           try clear c34b0
           try clear c35
           try clear c38
           try clear c38b0
           try clear c40
           try clear c43
           try clear hcz11_0 hcz11_1 hcz11_2 hcz11_3 hcz11_4 hcz11_5 hcz11_6 hcz11_7 hfz11_0 hfz11_1 hfz11_2 hfz11_3 hfz11_4 hfz11_5 hfz11_6 hfz11_7
           try clear hcz19_0 hcz19_1 hcz19_2 hcz19_3 hcz19_4 hcz19_5 hcz19_6 hcz19_7 hfz19_0 hfz19_1 hfz19_2 hfz19_3 hfz19_4 hfz19_5 hfz19_6 hfz19_7
           try clear hcz23_0 hcz23_1 hcz23_2 hcz23_3 hcz23_4 hcz23_5 hcz23_6 hcz23_7 hfz23_0 hfz23_1 hfz23_2 hfz23_3 hfz23_4 hfz23_5 hfz23_6 hfz23_7
           try clear hcz26_0 hcz26_1 hcz26_2 hcz26_3 hcz26_4 hcz26_5 hcz26_6 hcz26_7 hfz26_0 hfz26_1 hfz26_2 hfz26_3 hfz26_4 hfz26_5 hfz26_6 hfz26_7
           try clear hcz31_0 hcz31_1 hcz31_2 hcz31_3 hcz31_4 hcz31_5 hcz31_6 hcz31_7 hfz31_0 hfz31_1 hfz31_2 hfz31_3 hfz31_4 hfz31_5 hfz31_6 hfz31_7
           try clear hcz36_0 hcz36_1 hcz36_2 hcz36_3 hcz36_4 hcz36_5 hcz36_6 hcz36_7 hfz36_0 hfz36_1 hfz36_2 hfz36_3 hfz36_4 hfz36_5 hfz36_6 hfz36_7
           try clear hcz41_0 hcz41_1 hcz41_2 hcz41_3 hcz41_4 hcz41_5 hcz41_6 hcz41_7 hfz41_0 hfz41_1 hfz41_2 hfz41_3 hfz41_4 hfz41_5 hfz41_6 hfz41_7
           try clear hcz44_0 hcz44_1 hcz44_2 hcz44_3 hcz44_4 hcz44_5 hcz44_6 hcz44_7 hfz44_0 hfz44_1 hfz44_2 hfz44_3 hfz44_4 hfz44_5 hfz44_6 hfz44_7
           try clear hx201_0
           try clear hx203_0
           try clear hx214_0
           try clear p2
           try clear p20
           try clear p201
           try clear p203
           try clear p21
           try clear p214
           try clear p6
           try clear q2
           try clear q20
           try clear q201
           try clear q203
           try clear q21
           try clear q214
           obtain ⟨kq, x59_36, rfl, HA, HJ36, BK199, BK212, HB⟩ := hcut
           cases kq with
           | zero => exact absurd HA.out (by simp [spec_Decode.j3])
           | succ kj36 =>
            have H := HA.out
            clear HA
            simp only [spec_Decode.j3] at H
            by_cases c45 : x59_36 = true
            ·subst c45
             rw [if_pos rfl] at H
             by_cases c46 : x8_26 ≥ (l0.length : Int)
             ·rw [if_pos c46] at H
              have c46b0 : decide ((l0.length : Int) ≤ x8_26) = true := decide_eq_true c46
              clear c46
              simp only [Option.some.injEq, Prod.mk.injEq] at H
              obtain ⟨rfl, rfl, rfl, rfl, rfl, rfl, rfl, rfl, rfl, rfl⟩ := H
              have hnb47 := NB199_212.out
              have hnc47 := NB212_199.out
              obtain ⟨hcz48_0, hcz48_1, hcz48_2, hcz48_3, hcz48_4, hcz48_5, hcz48_6, hcz48_7, hfz48_0, hfz48_1, hfz48_2, hfz48_3, hfz48_4, hfz48_5, hfz48_6, hfz48_7⟩ := cz8_ BK199.out
              go_wp2
              refine bodyPost_ret (results_ctt rfl _ _ gb199 32 #[.int .i64 0, .int .i64 0, .int .i64 0, .int .i64 0, .int .i64 0, .int .i64 0, .int .i64 0, .int .i64 0] (0, 0) _ rfl ?hb_ Try.underlying32 rfl (by kernel_rfl)) rfl ?_
              (case hb_ => refine bk_ ?_; refine blk_put (cs := #[.int .i64 0, .int .i64 0, .int .i64 0, .int .i64 0, .int .i64 0, .int .i64 0, .int .i64 0, .int .i64 x200007_26]) ?_ 7 _ rfl; refine bk_ ?_; refine blk_put (cs := #[.int .i64 0, .int .i64 0, .int .i64 0, .int .i64 0, .int .i64 0, .int .i64 0, .int .i64 x200006_26, .int .i64 x200007_26]) ?_ 6 _ rfl; refine bk_ ?_; refine blk_put (cs := #[.int .i64 0, .int .i64 0, .int .i64 0, .int .i64 0, .int .i64 0, .int .i64 x200005_26, .int .i64 x200006_26, .int .i64 x200007_26]) ?_ 5 _ rfl; refine bk_ ?_; refine blk_put (cs := #[.int .i64 0, .int .i64 0, .int .i64 0, .int .i64 0, .int .i64 x200004_26, .int .i64 x200005_26, .int .i64 x200006_26, .int .i64 x200007_26]) ?_ 4 _ rfl; refine bk_ ?_; refine blk_put (cs := #[.int .i64 0, .int .i64 0, .int .i64 0, .int .i64 x200003_26, .int .i64 x200004_26, .int .i64 x200005_26, .int .i64 x200006_26, .int .i64 x200007_26]) ?_ 3 _ rfl; refine bk_ ?_; refine blk_put (cs := #[.int .i64 0, .int .i64 0, .int .i64 x200002_26, .int .i64 x200003_26, .int .i64 x200004_26, .int .i64 x200005_26, .int .i64 x200006_26, .int .i64 x200007_26]) ?_ 2 _ rfl; refine bk_ ?_; refine blk_put (cs := #[.int .i64 0, .int .i64 x200001_26, .int .i64 x200002_26, .int .i64 x200003_26, .int .i64 x200004_26, .int .i64 x200005_26, .int .i64 x200006_26, .int .i64 x200007_26]) ?_ 1 _ rfl; refine bk_ ?_; refine blk_put (cs := #[.int .i64 x200000_26, .int .i64 x200001_26, .int .i64 x200002_26, .int .i64 x200003_26, .int .i64 x200004_26, .int .i64 x200005_26, .int .i64 x200006_26, .int .i64 x200007_26]) ?_ 0 _ rfl; refine bk_ ?_; exact BK199.out)
              exact rt_ (bw_ HB.out)
             ·rw [if_neg c46] at H
              have c46b0 : decide ((l0.length : Int) ≤ x8_26) = false := decide_eq_false c46
              clear c46
              by_cases c49 : 0 ≤ x8_26
              ·rw [if_pos c49] at H
               have c49b0 : decide (0 ≤ x8_26) = true := decide_eq_true c49
               clear c49
               by_cases c50 : x8_26 < (l0.length : Int)
               ·rw [if_pos c50] at H
                have c50b0 : decide (x8_26 < (l0.length : Int)) = true := decide_eq_true c50
                clear c50
                replace H := Option.bind_eq_some_iff.mp H
                obtain ⟨t217, A510, H⟩ := H
                try dsimp only at H
                have A51 := Aside0.mk A510
                clear A510
                by_cases c52 : t217 = true
                ·subst c52
                 rw [if_pos rfl] at H
                 simp only [Option.some.injEq, Prod.mk.injEq] at H
                 obtain ⟨rfl, rfl, rfl, rfl, rfl, rfl, rfl, rfl, rfl, rfl⟩ := H
                 have p216 : 0 ≤ (x8_26 : Int) := of_decide_eq_true (by first | (with_reducible assumption) | assumption)
                 have q216 : x8_26 < (l0.length : Int) := of_decide_eq_true (by first | (with_reducible assumption) | assumption)
                 obtain ⟨ad216, e216, hx216_0⟩ := Kd.at_int HR0.out x8_26 p216 q216
                 obtain rfl : ad203 = ad216 := (by injection e216)
                 replace hx216_0 := (HB.out.cell (World.block_lt_of_cell? w _ hx216_0)).trans hx216_0
                 replace p216 := eq_true p216
                 replace q216 := eq_true q216
                 have hnb53 := NB212_199.out
                 have hnc53 := NB199_212.out
                 obtain ⟨hcz54_0, hcz54_1, hcz54_2, hcz54_3, hcz54_4, hcz54_5, hcz54_6, hcz54_7, hfz54_0, hfz54_1, hfz54_2, hfz54_3, hfz54_4, hfz54_5, hfz54_6, hfz54_7⟩ := cz8_ BK212.out
                 go_wp2_with (first | ((with_reducible refine gate_callee (f := 19) rfl ?_); refine gL_ (some 74) Try.func19 #[.agg #[.int .i64 t204, .int .i64 t205, .int .i64 t206, .int .i64 x213003_26, .int .i64 t208, .int .i64 t209, .int .i64 (rd l0 x8_26), .int .i64 t211]] ?_; (with_reducible refine (spec_InsOk.calls kj36 t204 t205 t206 x213003_26 t208 t209 (rd l0 x8_26) t211 true _ A51.out).mono ?_); rintro e w55 ⟨rfl, hb⟩; refine ⟨_, rfl, ?_⟩; have n0_ := Aside0.mk (blk_below (g := gb199) (o := .cells #[.int .i64 x200000_26, .int .i64 x200001_26, .int .i64 x200002_26, .int .i64 x200003_26, .int .i64 x200004_26, .int .i64 x200005_26, .int .i64 x200006_26, .int .i64 x200007_26] 32 (0, 0)) (by refine bk_ ?_; refine blk_far ?_ NB199_212.out _; refine bk_ ?_; exact BK199.out) hb); have n1_ := Aside0.mk (blk_below (g := gb212) (o := .cells #[.int .i64 t204, .int .i64 t205, .int .i64 t206, .int .i64 x213003_26, .int .i64 t208, .int .i64 t209, .int .i64 (rd l0 x8_26), .int .i64 t211] 32 (0, 0)) (by refine bk_ ?_; refine blk_put (cs := #[.int .i64 t204, .int .i64 t205, .int .i64 t206, .int .i64 x213003_26, .int .i64 t208, .int .i64 t209, .int .i64 t210, .int .i64 t211]) ?_ 6 _ rfl; refine bk_ ?_; exact BK212.out) hb); have n2_ := Aside0.mk (below_step (bw_ HB.out) hb); clear BK199; clear BK212; clear HB; have BK199 := n0_; have BK212 := n1_; have HB := n2_; clear n0_ n1_ n2_; (try clear hb); (try clear hb2); (try clear hk); (try clear hi); have hcz56_0 : w55.cell? ⟨gb212, 0, none⟩ = some (.int .i64 t204) := (blk_cell BK212.out 0).trans rfl; have hcz56_1 : w55.cell? ⟨gb212, 1, none⟩ = some (.int .i64 t205) := (blk_cell BK212.out 1).trans rfl; have hcz56_2 : w55.cell? ⟨gb212, 2, none⟩ = some (.int .i64 t206) := (blk_cell BK212.out 2).trans rfl; have hcz56_3 : w55.cell? ⟨gb212, 3, none⟩ = some (.int .i64 x213003_26) := (blk_cell BK212.out 3).trans rfl; have hcz56_4 : w55.cell? ⟨gb212, 4, none⟩ = some (.int .i64 t208) := (blk_cell BK212.out 4).trans rfl; have hcz56_5 : w55.cell? ⟨gb212, 5, none⟩ = some (.int .i64 t209) := (blk_cell BK212.out 5).trans rfl; have hcz56_6 : w55.cell? ⟨gb212, 6, none⟩ = some (.int .i64 (rd l0 x8_26)) := (blk_cell BK212.out 6).trans rfl; have hcz56_7 : w55.cell? ⟨gb212, 7, none⟩ = some (.int .i64 t211) := (blk_cell BK212.out 7).trans rfl; have hfz56_0 := blk_frozen BK212.out 0; have hfz56_1 := blk_frozen BK212.out 1; have hfz56_2 := blk_frozen BK212.out 2; have hfz56_3 := blk_frozen BK212.out 3; have hfz56_4 := blk_frozen BK212.out 4; have hfz56_5 := blk_frozen BK212.out 5; have hfz56_6 := blk_frozen BK212.out 6; have hfz56_7 := blk_frozen BK212.out 7; have hcz57_0 : w55.cell? ⟨gb199, 0, none⟩ = some (.int .i64 x200000_26) := (blk_cell BK199.out 0).trans rfl; have hcz57_1 : w55.cell? ⟨gb199, 1, none⟩ = some (.int .i64 x200001_26) := (blk_cell BK199.out 1).trans rfl; have hcz57_2 : w55.cell? ⟨gb199, 2, none⟩ = some (.int .i64 x200002_26) := (blk_cell BK199.out 2).trans rfl; have hcz57_3 : w55.cell? ⟨gb199, 3, none⟩ = some (.int .i64 x200003_26) := (blk_cell BK199.out 3).trans rfl; have hcz57_4 : w55.cell? ⟨gb199, 4, none⟩ = some (.int .i64 x200004_26) := (blk_cell BK199.out 4).trans rfl; have hcz57_5 : w55.cell? ⟨gb199, 5, none⟩ = some (.int .i64 x200005_26) := (blk_cell BK199.out 5).trans rfl; have hcz57_6 : w55.cell? ⟨gb199, 6, none⟩ = some (.int .i64 x200006_26) := (blk_cell BK199.out 6).trans rfl; have hcz57_7 : w55.cell? ⟨gb199, 7, none⟩ = some (.int .i64 x200007_26) := (blk_cell BK199.out 7).trans rfl; have hfz57_0 := blk_frozen BK199.out 0; have hfz57_1 := blk_frozen BK199.out 1; have hfz57_2 := blk_frozen BK199.out 2; have hfz57_3 := blk_frozen BK199.out 3; have hfz57_4 := blk_frozen BK199.out 4; have hfz57_5 := blk_frozen BK199.out 5; have hfz57_6 := blk_frozen BK199.out 6; have hfz57_7 := blk_frozen BK199.out 7))
                 refine bodyPost_ret (results_ctt rfl _ _ gb199 32 #[.int .i64 t204, .int .i64 t205, .int .i64 t206, .int .i64 x213003_26, .int .i64 t208, .int .i64 t209, .int .i64 (rd l0 x8_26), .int .i64 t211] (0, 0) _ rfl ?hb_ Try.underlying32 rfl (by kernel_rfl)) rfl ?_
                 (case hb_ => refine bk_ ?_; refine blk_put (cs := #[.int .i64 t204, .int .i64 t205, .int .i64 t206, .int .i64 x213003_26, .int .i64 t208, .int .i64 t209, .int .i64 (rd l0 x8_26), .int .i64 x200007_26]) ?_ 7 _ rfl; refine bk_ ?_; refine blk_put (cs := #[.int .i64 t204, .int .i64 t205, .int .i64 t206, .int .i64 x213003_26, .int .i64 t208, .int .i64 t209, .int .i64 x200006_26, .int .i64 x200007_26]) ?_ 6 _ rfl; refine bk_ ?_; refine blk_put (cs := #[.int .i64 t204, .int .i64 t205, .int .i64 t206, .int .i64 x213003_26, .int .i64 t208, .int .i64 x200005_26, .int .i64 x200006_26, .int .i64 x200007_26]) ?_ 5 _ rfl; refine bk_ ?_; refine blk_put (cs := #[.int .i64 t204, .int .i64 t205, .int .i64 t206, .int .i64 x213003_26, .int .i64 x200004_26, .int .i64 x200005_26, .int .i64 x200006_26, .int .i64 x200007_26]) ?_ 4 _ rfl; refine bk_ ?_; refine blk_put (cs := #[.int .i64 t204, .int .i64 t205, .int .i64 t206, .int .i64 x200003_26, .int .i64 x200004_26, .int .i64 x200005_26, .int .i64 x200006_26, .int .i64 x200007_26]) ?_ 3 _ rfl; refine bk_ ?_; refine blk_put (cs := #[.int .i64 t204, .int .i64 t205, .int .i64 x200002_26, .int .i64 x200003_26, .int .i64 x200004_26, .int .i64 x200005_26, .int .i64 x200006_26, .int .i64 x200007_26]) ?_ 2 _ rfl; refine bk_ ?_; refine blk_put (cs := #[.int .i64 t204, .int .i64 x200001_26, .int .i64 x200002_26, .int .i64 x200003_26, .int .i64 x200004_26, .int .i64 x200005_26, .int .i64 x200006_26, .int .i64 x200007_26]) ?_ 1 _ rfl; refine bk_ ?_; refine blk_put (cs := #[.int .i64 x200000_26, .int .i64 x200001_26, .int .i64 x200002_26, .int .i64 x200003_26, .int .i64 x200004_26, .int .i64 x200005_26, .int .i64 x200006_26, .int .i64 x200007_26]) ?_ 0 _ rfl; refine bk_ ?_; exact BK199.out)
                 exact rt_ (bw_ HB.out)
                ·replace c52 := Bool.eq_false_iff.mpr c52
                 subst c52
                 rw [if_neg (show ¬ (false = true) by decide)] at H
                 simp only [Option.some.injEq, Prod.mk.injEq] at H
                 obtain ⟨rfl, rfl, rfl, rfl, rfl, rfl, rfl, rfl, rfl, rfl⟩ := H
                 have p216 : 0 ≤ (x8_26 : Int) := of_decide_eq_true (by first | (with_reducible assumption) | assumption)
                 have q216 : x8_26 < (l0.length : Int) := of_decide_eq_true (by first | (with_reducible assumption) | assumption)
                 obtain ⟨ad216, e216, hx216_0⟩ := Kd.at_int HR0.out x8_26 p216 q216
                 obtain rfl : ad203 = ad216 := (by injection e216)
                 replace hx216_0 := (HB.out.cell (World.block_lt_of_cell? w _ hx216_0)).trans hx216_0
                 replace p216 := eq_true p216
                 replace q216 := eq_true q216
                 have hnb58 := NB212_199.out
                 have hnc58 := NB199_212.out
                 obtain ⟨hcz59_0, hcz59_1, hcz59_2, hcz59_3, hcz59_4, hcz59_5, hcz59_6, hcz59_7, hfz59_0, hfz59_1, hfz59_2, hfz59_3, hfz59_4, hfz59_5, hfz59_6, hfz59_7⟩ := cz8_ BK212.out
                 go_wp2_with (first | ((with_reducible refine gate_callee (f := 19) rfl ?_); refine gL_ (some 74) Try.func19 #[.agg #[.int .i64 t204, .int .i64 t205, .int .i64 t206, .int .i64 x213003_26, .int .i64 t208, .int .i64 t209, .int .i64 (rd l0 x8_26), .int .i64 t211]] ?_; (with_reducible refine (spec_InsOk.calls kj36 t204 t205 t206 x213003_26 t208 t209 (rd l0 x8_26) t211 false _ A51.out).mono ?_); rintro e w60 ⟨rfl, hb⟩; refine ⟨_, rfl, ?_⟩; have n0_ := Aside0.mk (blk_below (g := gb199) (o := .cells #[.int .i64 x200000_26, .int .i64 x200001_26, .int .i64 x200002_26, .int .i64 x200003_26, .int .i64 x200004_26, .int .i64 x200005_26, .int .i64 x200006_26, .int .i64 x200007_26] 32 (0, 0)) (by refine bk_ ?_; refine blk_far ?_ NB199_212.out _; refine bk_ ?_; exact BK199.out) hb); have n1_ := Aside0.mk (blk_below (g := gb212) (o := .cells #[.int .i64 t204, .int .i64 t205, .int .i64 t206, .int .i64 x213003_26, .int .i64 t208, .int .i64 t209, .int .i64 (rd l0 x8_26), .int .i64 t211] 32 (0, 0)) (by refine bk_ ?_; refine blk_put (cs := #[.int .i64 t204, .int .i64 t205, .int .i64 t206, .int .i64 x213003_26, .int .i64 t208, .int .i64 t209, .int .i64 t210, .int .i64 t211]) ?_ 6 _ rfl; refine bk_ ?_; exact BK212.out) hb); have n2_ := Aside0.mk (below_step (bw_ HB.out) hb); clear BK199; clear BK212; clear HB; have BK199 := n0_; have BK212 := n1_; have HB := n2_; clear n0_ n1_ n2_; (try clear hb); (try clear hb2); (try clear hk); (try clear hi); have hcz61_0 : w60.cell? ⟨gb199, 0, none⟩ = some (.int .i64 x200000_26) := (blk_cell BK199.out 0).trans rfl; have hcz61_1 : w60.cell? ⟨gb199, 1, none⟩ = some (.int .i64 x200001_26) := (blk_cell BK199.out 1).trans rfl; have hcz61_2 : w60.cell? ⟨gb199, 2, none⟩ = some (.int .i64 x200002_26) := (blk_cell BK199.out 2).trans rfl; have hcz61_3 : w60.cell? ⟨gb199, 3, none⟩ = some (.int .i64 x200003_26) := (blk_cell BK199.out 3).trans rfl; have hcz61_4 : w60.cell? ⟨gb199, 4, none⟩ = some (.int .i64 x200004_26) := (blk_cell BK199.out 4).trans rfl; have hcz61_5 : w60.cell? ⟨gb199, 5, none⟩ = some (.int .i64 x200005_26) := (blk_cell BK199.out 5).trans rfl; have hcz61_6 : w60.cell? ⟨gb199, 6, none⟩ = some (.int .i64 x200006_26) := (blk_cell BK199.out 6).trans rfl; have hcz61_7 : w60.cell? ⟨gb199, 7, none⟩ = some (.int .i64 x200007_26) := (blk_cell BK199.out 7).trans rfl; have hfz61_0 := blk_frozen BK199.out 0; have hfz61_1 := blk_frozen BK199.out 1; have hfz61_2 := blk_frozen BK199.out 2; have hfz61_3 := blk_frozen BK199.out 3; have hfz61_4 := blk_frozen BK199.out 4; have hfz61_5 := blk_frozen BK199.out 5; have hfz61_6 := blk_frozen BK199.out 6; have hfz61_7 := blk_frozen BK199.out 7))
                 refine bodyPost_ret (results_ctt rfl _ _ gb199 32 #[.int .i64 0, .int .i64 0, .int .i64 0, .int .i64 0, .int .i64 0, .int .i64 0, .int .i64 0, .int .i64 0] (0, 0) _ rfl ?hb_ Try.underlying32 rfl (by kernel_rfl)) rfl ?_
                 (case hb_ => refine bk_ ?_; refine blk_put (cs := #[.int .i64 0, .int .i64 0, .int .i64 0, .int .i64 0, .int .i64 0, .int .i64 0, .int .i64 0, .int .i64 x200007_26]) ?_ 7 _ rfl; refine bk_ ?_; refine blk_put (cs := #[.int .i64 0, .int .i64 0, .int .i64 0, .int .i64 0, .int .i64 0, .int .i64 0, .int .i64 x200006_26, .int .i64 x200007_26]) ?_ 6 _ rfl; refine bk_ ?_; refine blk_put (cs := #[.int .i64 0, .int .i64 0, .int .i64 0, .int .i64 0, .int .i64 0, .int .i64 x200005_26, .int .i64 x200006_26, .int .i64 x200007_26]) ?_ 5 _ rfl; refine bk_ ?_; refine blk_put (cs := #[.int .i64 0, .int .i64 0, .int .i64 0, .int .i64 0, .int .i64 x200004_26, .int .i64 x200005_26, .int .i64 x200006_26, .int .i64 x200007_26]) ?_ 4 _ rfl; refine bk_ ?_; refine blk_put (cs := #[.int .i64 0, .int .i64 0, .int .i64 0, .int .i64 x200003_26, .int .i64 x200004_26, .int .i64 x200005_26, .int .i64 x200006_26, .int .i64 x200007_26]) ?_ 3 _ rfl; refine bk_ ?_; refine blk_put (cs := #[.int .i64 0, .int .i64 0, .int .i64 x200002_26, .int .i64 x200003_26, .int .i64 x200004_26, .int .i64 x200005_26, .int .i64 x200006_26, .int .i64 x200007_26]) ?_ 2 _ rfl; refine bk_ ?_; refine blk_put (cs := #[.int .i64 0, .int .i64 x200001_26, .int .i64 x200002_26, .int .i64 x200003_26, .int .i64 x200004_26, .int .i64 x200005_26, .int .i64 x200006_26, .int .i64 x200007_26]) ?_ 1 _ rfl; refine bk_ ?_; refine blk_put (cs := #[.int .i64 x200000_26, .int .i64 x200001_26, .int .i64 x200002_26, .int .i64 x200003_26, .int .i64 x200004_26, .int .i64 x200005_26, .int .i64 x200006_26, .int .i64 x200007_26]) ?_ 0 _ rfl; refine bk_ ?_; exact BK199.out)
                 exact rt_ (bw_ HB.out)
               ·rw [if_neg c50] at H
                exact absurd H (by simp)
              ·rw [if_neg c49] at H
               exact absurd H (by simp)
            ·replace c45 := Bool.eq_false_iff.mpr c45
             subst c45
             rw [if_neg (show ¬ (false = true) by decide)] at H
             replace H := Option.bind_eq_some_iff.mp H
             obtain ⟨t218, A620, H⟩ := H
             try dsimp only at H
             have A62 := Aside0.mk A620
             clear A620
             by_cases c63 : t218 = true
             ·subst c63
              rw [if_pos rfl] at H
              simp only [Option.some.injEq, Prod.mk.injEq] at H
              obtain ⟨rfl, rfl, rfl, rfl, rfl, rfl, rfl, rfl, rfl, rfl⟩ := H
              have hnb64 := NB212_199.out
              have hnc64 := NB199_212.out
              obtain ⟨hcz65_0, hcz65_1, hcz65_2, hcz65_3, hcz65_4, hcz65_5, hcz65_6, hcz65_7, hfz65_0, hfz65_1, hfz65_2, hfz65_3, hfz65_4, hfz65_5, hfz65_6, hfz65_7⟩ := cz8_ BK212.out
              go_wp2_with (first | ((with_reducible refine gate_callee (f := 19) rfl ?_); refine gL_ (some 74) Try.func19 #[.agg #[.int .i64 t204, .int .i64 t205, .int .i64 t206, .int .i64 x213003_26, .int .i64 t208, .int .i64 t209, .int .i64 t210, .int .i64 t211]] ?_; (with_reducible refine (spec_InsOk.calls kj36 t204 t205 t206 x213003_26 t208 t209 t210 t211 true _ A62.out).mono ?_); rintro e w66 ⟨rfl, hb⟩; refine ⟨_, rfl, ?_⟩; have n0_ := Aside0.mk (blk_below (bk_ BK199.out) hb); have n1_ := Aside0.mk (blk_below (bk_ BK212.out) hb); have n2_ := Aside0.mk (below_step (bw_ HB.out) hb); clear BK199; clear BK212; clear HB; have BK199 := n0_; have BK212 := n1_; have HB := n2_; clear n0_ n1_ n2_; (try clear hb); (try clear hb2); (try clear hk); (try clear hi); have hcz67_0 : w66.cell? ⟨gb212, 0, none⟩ = some (.int .i64 t204) := (blk_cell BK212.out 0).trans rfl; have hcz67_1 : w66.cell? ⟨gb212, 1, none⟩ = some (.int .i64 t205) := (blk_cell BK212.out 1).trans rfl; have hcz67_2 : w66.cell? ⟨gb212, 2, none⟩ = some (.int .i64 t206) := (blk_cell BK212.out 2).trans rfl; have hcz67_3 : w66.cell? ⟨gb212, 3, none⟩ = some (.int .i64 x213003_26) := (blk_cell BK212.out 3).trans rfl; have hcz67_4 : w66.cell? ⟨gb212, 4, none⟩ = some (.int .i64 t208) := (blk_cell BK212.out 4).trans rfl; have hcz67_5 : w66.cell? ⟨gb212, 5, none⟩ = some (.int .i64 t209) := (blk_cell BK212.out 5).trans rfl; have hcz67_6 : w66.cell? ⟨gb212, 6, none⟩ = some (.int .i64 t210) := (blk_cell BK212.out 6).trans rfl; have hcz67_7 : w66.cell? ⟨gb212, 7, none⟩ = some (.int .i64 t211) := (blk_cell BK212.out 7).trans rfl; have hfz67_0 := blk_frozen BK212.out 0; have hfz67_1 := blk_frozen BK212.out 1; have hfz67_2 := blk_frozen BK212.out 2; have hfz67_3 := blk_frozen BK212.out 3; have hfz67_4 := blk_frozen BK212.out 4; have hfz67_5 := blk_frozen BK212.out 5; have hfz67_6 := blk_frozen BK212.out 6; have hfz67_7 := blk_frozen BK212.out 7; have hcz68_0 : w66.cell? ⟨gb199, 0, none⟩ = some (.int .i64 x200000_26) := (blk_cell BK199.out 0).trans rfl; have hcz68_1 : w66.cell? ⟨gb199, 1, none⟩ = some (.int .i64 x200001_26) := (blk_cell BK199.out 1).trans rfl; have hcz68_2 : w66.cell? ⟨gb199, 2, none⟩ = some (.int .i64 x200002_26) := (blk_cell BK199.out 2).trans rfl; have hcz68_3 : w66.cell? ⟨gb199, 3, none⟩ = some (.int .i64 x200003_26) := (blk_cell BK199.out 3).trans rfl; have hcz68_4 : w66.cell? ⟨gb199, 4, none⟩ = some (.int .i64 x200004_26) := (blk_cell BK199.out 4).trans rfl; have hcz68_5 : w66.cell? ⟨gb199, 5, none⟩ = some (.int .i64 x200005_26) := (blk_cell BK199.out 5).trans rfl; have hcz68_6 : w66.cell? ⟨gb199, 6, none⟩ = some (.int .i64 x200006_26) := (blk_cell BK199.out 6).trans rfl; have hcz68_7 : w66.cell? ⟨gb199, 7, none⟩ = some (.int .i64 x200007_26) := (blk_cell BK199.out 7).trans rfl; have hfz68_0 := blk_frozen BK199.out 0; have hfz68_1 := blk_frozen BK199.out 1; have hfz68_2 := blk_frozen BK199.out 2; have hfz68_3 := blk_frozen BK199.out 3; have hfz68_4 := blk_frozen BK199.out 4; have hfz68_5 := blk_frozen BK199.out 5; have hfz68_6 := blk_frozen BK199.out 6; have hfz68_7 := blk_frozen BK199.out 7))
              refine bodyPost_ret (results_ctt rfl _ _ gb199 32 #[.int .i64 t204, .int .i64 t205, .int .i64 t206, .int .i64 x213003_26, .int .i64 t208, .int .i64 t209, .int .i64 t210, .int .i64 t211] (0, 0) _ rfl ?hb_ Try.underlying32 rfl (by kernel_rfl)) rfl ?_
              (case hb_ => refine bk_ ?_; refine blk_put (cs := #[.int .i64 t204, .int .i64 t205, .int .i64 t206, .int .i64 x213003_26, .int .i64 t208, .int .i64 t209, .int .i64 t210, .int .i64 x200007_26]) ?_ 7 _ rfl; refine bk_ ?_; refine blk_put (cs := #[.int .i64 t204, .int .i64 t205, .int .i64 t206, .int .i64 x213003_26, .int .i64 t208, .int .i64 t209, .int .i64 x200006_26, .int .i64 x200007_26]) ?_ 6 _ rfl; refine bk_ ?_; refine blk_put (cs := #[.int .i64 t204, .int .i64 t205, .int .i64 t206, .int .i64 x213003_26, .int .i64 t208, .int .i64 x200005_26, .int .i64 x200006_26, .int .i64 x200007_26]) ?_ 5 _ rfl; refine bk_ ?_; refine blk_put (cs := #[.int .i64 t204, .int .i64 t205, .int .i64 t206, .int .i64 x213003_26, .int .i64 x200004_26, .int .i64 x200005_26, .int .i64 x200006_26, .int .i64 x200007_26]) ?_ 4 _ rfl; refine bk_ ?_; refine blk_put (cs := #[.int .i64 t204, .int .i64 t205, .int .i64 t206, .int .i64 x200003_26, .int .i64 x200004_26, .int .i64 x200005_26, .int .i64 x200006_26, .int .i64 x200007_26]) ?_ 3 _ rfl; refine bk_ ?_; refine blk_put (cs := #[.int .i64 t204, .int .i64 t205, .int .i64 x200002_26, .int .i64 x200003_26, .int .i64 x200004_26, .int .i64 x200005_26, .int .i64 x200006_26, .int .i64 x200007_26]) ?_ 2 _ rfl; refine bk_ ?_; refine blk_put (cs := #[.int .i64 t204, .int .i64 x200001_26, .int .i64 x200002_26, .int .i64 x200003_26, .int .i64 x200004_26, .int .i64 x200005_26, .int .i64 x200006_26, .int .i64 x200007_26]) ?_ 1 _ rfl; refine bk_ ?_; refine blk_put (cs := #[.int .i64 x200000_26, .int .i64 x200001_26, .int .i64 x200002_26, .int .i64 x200003_26, .int .i64 x200004_26, .int .i64 x200005_26, .int .i64 x200006_26, .int .i64 x200007_26]) ?_ 0 _ rfl; refine bk_ ?_; exact BK199.out)
              exact rt_ (bw_ HB.out)
             ·replace c63 := Bool.eq_false_iff.mpr c63
              subst c63
              rw [if_neg (show ¬ (false = true) by decide)] at H
              simp only [Option.some.injEq, Prod.mk.injEq] at H
              obtain ⟨rfl, rfl, rfl, rfl, rfl, rfl, rfl, rfl, rfl, rfl⟩ := H
              have hnb69 := NB212_199.out
              have hnc69 := NB199_212.out
              obtain ⟨hcz70_0, hcz70_1, hcz70_2, hcz70_3, hcz70_4, hcz70_5, hcz70_6, hcz70_7, hfz70_0, hfz70_1, hfz70_2, hfz70_3, hfz70_4, hfz70_5, hfz70_6, hfz70_7⟩ := cz8_ BK212.out
              go_wp2_with (first | ((with_reducible refine gate_callee (f := 19) rfl ?_); refine gL_ (some 74) Try.func19 #[.agg #[.int .i64 t204, .int .i64 t205, .int .i64 t206, .int .i64 x213003_26, .int .i64 t208, .int .i64 t209, .int .i64 t210, .int .i64 t211]] ?_; (with_reducible refine (spec_InsOk.calls kj36 t204 t205 t206 x213003_26 t208 t209 t210 t211 false _ A62.out).mono ?_); rintro e w71 ⟨rfl, hb⟩; refine ⟨_, rfl, ?_⟩; have n0_ := Aside0.mk (blk_below (bk_ BK199.out) hb); have n1_ := Aside0.mk (blk_below (bk_ BK212.out) hb); have n2_ := Aside0.mk (below_step (bw_ HB.out) hb); clear BK199; clear BK212; clear HB; have BK199 := n0_; have BK212 := n1_; have HB := n2_; clear n0_ n1_ n2_; (try clear hb); (try clear hb2); (try clear hk); (try clear hi); have hcz72_0 : w71.cell? ⟨gb199, 0, none⟩ = some (.int .i64 x200000_26) := (blk_cell BK199.out 0).trans rfl; have hcz72_1 : w71.cell? ⟨gb199, 1, none⟩ = some (.int .i64 x200001_26) := (blk_cell BK199.out 1).trans rfl; have hcz72_2 : w71.cell? ⟨gb199, 2, none⟩ = some (.int .i64 x200002_26) := (blk_cell BK199.out 2).trans rfl; have hcz72_3 : w71.cell? ⟨gb199, 3, none⟩ = some (.int .i64 x200003_26) := (blk_cell BK199.out 3).trans rfl; have hcz72_4 : w71.cell? ⟨gb199, 4, none⟩ = some (.int .i64 x200004_26) := (blk_cell BK199.out 4).trans rfl; have hcz72_5 : w71.cell? ⟨gb199, 5, none⟩ = some (.int .i64 x200005_26) := (blk_cell BK199.out 5).trans rfl; have hcz72_6 : w71.cell? ⟨gb199, 6, none⟩ = some (.int .i64 x200006_26) := (blk_cell BK199.out 6).trans rfl; have hcz72_7 : w71.cell? ⟨gb199, 7, none⟩ = some (.int .i64 x200007_26) := (blk_cell BK199.out 7).trans rfl; have hfz72_0 := blk_frozen BK199.out 0; have hfz72_1 := blk_frozen BK199.out 1; have hfz72_2 := blk_frozen BK199.out 2; have hfz72_3 := blk_frozen BK199.out 3; have hfz72_4 := blk_frozen BK199.out 4; have hfz72_5 := blk_frozen BK199.out 5; have hfz72_6 := blk_frozen BK199.out 6; have hfz72_7 := blk_frozen BK199.out 7))
              refine bodyPost_ret (results_ctt rfl _ _ gb199 32 #[.int .i64 0, .int .i64 0, .int .i64 0, .int .i64 0, .int .i64 0, .int .i64 0, .int .i64 0, .int .i64 0] (0, 0) _ rfl ?hb_ Try.underlying32 rfl (by kernel_rfl)) rfl ?_
              (case hb_ => refine bk_ ?_; refine blk_put (cs := #[.int .i64 0, .int .i64 0, .int .i64 0, .int .i64 0, .int .i64 0, .int .i64 0, .int .i64 0, .int .i64 x200007_26]) ?_ 7 _ rfl; refine bk_ ?_; refine blk_put (cs := #[.int .i64 0, .int .i64 0, .int .i64 0, .int .i64 0, .int .i64 0, .int .i64 0, .int .i64 x200006_26, .int .i64 x200007_26]) ?_ 6 _ rfl; refine bk_ ?_; refine blk_put (cs := #[.int .i64 0, .int .i64 0, .int .i64 0, .int .i64 0, .int .i64 0, .int .i64 x200005_26, .int .i64 x200006_26, .int .i64 x200007_26]) ?_ 5 _ rfl; refine bk_ ?_; refine blk_put (cs := #[.int .i64 0, .int .i64 0, .int .i64 0, .int .i64 0, .int .i64 x200004_26, .int .i64 x200005_26, .int .i64 x200006_26, .int .i64 x200007_26]) ?_ 4 _ rfl; refine bk_ ?_; refine blk_put (cs := #[.int .i64 0, .int .i64 0, .int .i64 0, .int .i64 x200003_26, .int .i64 x200004_26, .int .i64 x200005_26, .int .i64 x200006_26, .int .i64 x200007_26]) ?_ 3 _ rfl; refine bk_ ?_; refine blk_put (cs := #[.int .i64 0, .int .i64 0, .int .i64 x200002_26, .int .i64 x200003_26, .int .i64 x200004_26, .int .i64 x200005_26, .int .i64 x200006_26, .int .i64 x200007_26]) ?_ 2 _ rfl; refine bk_ ?_; refine blk_put (cs := #[.int .i64 0, .int .i64 x200001_26, .int .i64 x200002_26, .int .i64 x200003_26, .int .i64 x200004_26, .int .i64 x200005_26, .int .i64 x200006_26, .int .i64 x200007_26]) ?_ 1 _ rfl; refine bk_ ?_; refine blk_put (cs := #[.int .i64 x200000_26, .int .i64 x200001_26, .int .i64 x200002_26, .int .i64 x200003_26, .int .i64 x200004_26, .int .i64 x200005_26, .int .i64 x200006_26, .int .i64 x200007_26]) ?_ 0 _ rfl; refine bk_ ?_; exact BK199.out)
              exact rt_ (bw_ HB.out)
     ·rw [if_neg c13] at H
      exact absurd H (by simp)
    ·rw [if_neg c12] at H
     exact absurd H (by simp)

end Go.Proofs.Ytajkjkdfcegdpaa.PFnCodes
