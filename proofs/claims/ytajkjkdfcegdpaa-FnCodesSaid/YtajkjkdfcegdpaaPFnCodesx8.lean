-- Laid by a program of this session (a changed copy of the kit's printer); Lean checks every line.
import Derived.Test.YtajkjkdfcegdpaaPFnCodesx0
import Derived.Test.YtajkjkdfcegdpaaPFnCodesx3
import Derived.Test.YtajkjkdfcegdpaaPFnCodesx4
import Derived.Test.YtajkjkdfcegdpaaPFnCodesx7
namespace Go.Proofs.Ytajkjkdfcegdpaa.PFnCodes
open Go.RowKit Go.Proofs.YtajkjkdfcegdpaaW.PrintWords Go.Proofs.YtajkjkdfcegdpaaW.PrintLast Go.Proofs.YtajkjkdfcegdpaaW.PrintMore
attribute [local go_sem] max2_int min2_int max_two min_two max_three min_three max_four min_four   -- for this text's walks alone
set_option linter.unusedVariables false
set_option linter.unusedSimpArgs false

/-! ### impl_Decode: function 28 -/
mutual
def impl_Decode.j0 : Nat → List Int → Int → Bool → Option (Int × Int × Int × Int × Int × Int × Int × Int × Int × Bool)
 | 0, _, _, _ => none
 | k + 1, x0, x1, x24 => if x24 = true then (some (0, 0, 0, 0, 0, 0, 0, 0, 0, false)) else (if 0 ≤ x1 then (if x1 < (x0.length : Int) then ((impl_opOf.f k (rd x0 x1)).bind fun t240 => (if t240 = 0 then (some (0, 0, 0, 0, 0, 0, 0, 0, 0, false)) else ((impl_insOf.f k (rd x0 x1) t240).bind fun bt242 => ((impl_Words.f k bt242.1 bt242.2.1 bt242.2.2.1 bt242.2.2.2.1 bt242.2.2.2.2.1 bt242.2.2.2.2.2.1 bt242.2.2.2.2.2.2.1 bt242.2.2.2.2.2.2.2).bind fun t251 => (if t251 > (wrap64 ((x0.length : Int) - x1)) then (impl_Decode.j1 k x0 x1 t240 t251 true bt242.1 bt242.2.1 bt242.2.2.1 bt242.2.2.2.1 bt242.2.2.2.2.1 bt242.2.2.2.2.2.1 bt242.2.2.2.2.2.2.1 bt242.2.2.2.2.2.2.2) else (if x1 ≤ (wrap64 (x1 + t251)) then (if (wrap64 (x1 + t251)) ≤ (x0.length : Int) then ((impl_wordsOk.f k ((x0.take ((wrap64 (x1 + t251)) : Int).toNat).drop (x1 : Int).toNat)).bind fun t253 => (impl_Decode.j1 k x0 x1 t240 t251 (!t253) bt242.1 bt242.2.1 bt242.2.2.1 bt242.2.2.2.1 bt242.2.2.2.2.1 bt242.2.2.2.2.2.1 bt242.2.2.2.2.2.2.1 bt242.2.2.2.2.2.2.2)) else (none)) else (none))))))) else (none)) else (none))
def impl_Decode.j1 : Nat → List Int → Int → Int → Int → Bool → Int → Int → Int → Int → Int → Int → Int → Int → Option (Int × Int × Int × Int × Int × Int × Int × Int × Int × Bool)
 | 0, _, _, _, _, _, _, _, _, _, _, _, _, _ => none
 | k + 1, x0, x1, x7, x9, x57, x251000, x251001, x251002, x251003, x251004, x251005, x251006, x251007 => if x57 = true then (some (0, 0, 0, 0, 0, 0, 0, 0, 0, false)) else ((impl_hasSrc.f x7).bind fun t254 => (if t254 = true then ((impl_HasX.f x251001 x251002 x251003).bind fun t255 => (impl_Decode.j2 k x0 x7 x9 (wrap64 (x1 + 1)) t255 x251000 x251001 x251002 x251003 x251004 x251005 x251006 x251007)) else (impl_Decode.j2 k x0 x7 x9 (wrap64 (x1 + 1)) false x251000 x251001 x251002 x251003 x251004 x251005 x251006 x251007)))
def impl_Decode.j2 : Nat → List Int → Int → Int → Int → Bool → Int → Int → Int → Int → Int → Int → Int → Int → Option (Int × Int × Int × Int × Int × Int × Int × Int × Int × Bool)
 | 0, _, _, _, _, _, _, _, _, _, _, _, _, _ => none
 | k + 1, x0, x7, x9, x10, x67, x251000, x251001, x251002, x251003, x251004, x251005, x251006, x251007 => if x67 = true then (if 0 ≤ x10 then (if x10 < (x0.length : Int) then (impl_Decode.j3 k x0 x7 x9 (wrap64 (x10 + 1)) x251000 x251001 x251002 (rd x0 x10) x251004 x251005 x251006 x251007) else (none)) else (none)) else (impl_Decode.j3 k x0 x7 x9 x10 x251000 x251001 x251002 x251003 x251004 x251005 x251006 x251007)
def impl_Decode.j3 : Nat → List Int → Int → Int → Int → Int → Int → Int → Int → Int → Int → Int → Int → Option (Int × Int × Int × Int × Int × Int × Int × Int × Int × Bool)
 | 0, _, _, _, _, _, _, _, _, _, _, _, _ => none
 | k + 1, x0, x7, x9, x10, x251000, x251001, x251002, x251003, x251004, x251005, x251006, x251007 => (impl_hasDst.f x7).bind fun t257 => (if t257 = true then ((impl_HasX.f x251004 x251005 x251006).bind fun t258 => (if t258 = true then (if 0 ≤ x10 then (if x10 < (x0.length : Int) then (some (x251000, x251001, x251002, x251003, x251004, x251005, rd x0 x10, x251007, x9, true)) else (none)) else (none)) else (some (x251000, x251001, x251002, x251003, x251004, x251005, x251006, x251007, x9, true)))) else (some (x251000, x251001, x251002, x251003, x251004, x251005, x251006, x251007, x9, true)))
end
def impl_Decode.f (k : Nat) (l0 : List Int) (a1 : Int) : Option (Int × Int × Int × Int × Int × Int × Int × Int × Int × Bool) := (impl_within.f a1 0 (wrap64 ((l0.length : Int) - 1))).bind fun t236 => (if t236 = true then (if 0 ≤ a1 then (if a1 < (l0.length : Int) then ((impl_isWord.f (rd l0 a1)).bind fun t238 => (impl_Decode.j0 k l0 a1 (!t238))) else (none)) else (none)) else (impl_Decode.j0 k l0 a1 true))
theorem impl_Decode.mono_l : ∀ k, (∀ y0 y1 y2, LeO (impl_Decode.j0 k y0 y1 y2) (impl_Decode.j0 (k + 1) y0 y1 y2)) ∧ (∀ y0 y1 y2 y3 y4 y5 y6 y7 y8 y9 y10 y11 y12, LeO (impl_Decode.j1 k y0 y1 y2 y3 y4 y5 y6 y7 y8 y9 y10 y11 y12) (impl_Decode.j1 (k + 1) y0 y1 y2 y3 y4 y5 y6 y7 y8 y9 y10 y11 y12)) ∧ (∀ y0 y1 y2 y3 y4 y5 y6 y7 y8 y9 y10 y11 y12, LeO (impl_Decode.j2 k y0 y1 y2 y3 y4 y5 y6 y7 y8 y9 y10 y11 y12) (impl_Decode.j2 (k + 1) y0 y1 y2 y3 y4 y5 y6 y7 y8 y9 y10 y11 y12)) ∧ (∀ y0 y1 y2 y3 y4 y5 y6 y7 y8 y9 y10 y11, LeO (impl_Decode.j3 k y0 y1 y2 y3 y4 y5 y6 y7 y8 y9 y10 y11) (impl_Decode.j3 (k + 1) y0 y1 y2 y3 y4 y5 y6 y7 y8 y9 y10 y11))
 | 0 => ⟨fun _ _ _ r h => by simp [impl_Decode.j0] at h, fun _ _ _ _ _ _ _ _ _ _ _ _ _ r h => by simp [impl_Decode.j1] at h, fun _ _ _ _ _ _ _ _ _ _ _ _ _ r h => by simp [impl_Decode.j2] at h, fun _ _ _ _ _ _ _ _ _ _ _ _ r h => by simp [impl_Decode.j3] at h⟩
 | k + 1 => by
  obtain ⟨ih0, ih1, ih2, ih3⟩ := impl_Decode.mono_l k
  refine ⟨?_, ?_, ?_, ?_⟩
  ·intro y0 y1 y2
   unfold impl_Decode.j0
   repeat' first
   | (with_reducible exact ih0 _ _ _)
   | (with_reducible exact ih1 _ _ _ _ _ _ _ _ _ _ _ _ _)
   | (with_reducible exact ih2 _ _ _ _ _ _ _ _ _ _ _ _ _)
   | (with_reducible exact ih3 _ _ _ _ _ _ _ _ _ _ _ _)
   | (with_reducible exact impl_Words.mono _ _ _ _ _ _ _ _ _)
   | (with_reducible exact impl_insOf.mono _ _ _)
   | (with_reducible exact impl_opOf.mono _ _)
   | (with_reducible exact impl_wordsOk.mono _ _)
   | (with_reducible exact LeO.refl _)
   | (with_reducible exact LeO.none _)
   | (with_reducible refine LeO.ite ?_ ?_)
   | (with_reducible refine LeO.bind ?_ (fun _ => ?_))
   | exact ih0 _ _ _
   | exact ih1 _ _ _ _ _ _ _ _ _ _ _ _ _
   | exact ih2 _ _ _ _ _ _ _ _ _ _ _ _ _
   | exact ih3 _ _ _ _ _ _ _ _ _ _ _ _
   | exact impl_Words.mono _ _ _ _ _ _ _ _ _
   | exact impl_insOf.mono _ _ _
   | exact impl_opOf.mono _ _
   | exact impl_wordsOk.mono _ _
   | exact LeO.none _
   | refine LeO.ite ?_ ?_
   | refine LeO.bind ?_ (fun _ => ?_)
  ·intro y0 y1 y2 y3 y4 y5 y6 y7 y8 y9 y10 y11 y12
   unfold impl_Decode.j1
   repeat' first
   | (with_reducible exact ih0 _ _ _)
   | (with_reducible exact ih1 _ _ _ _ _ _ _ _ _ _ _ _ _)
   | (with_reducible exact ih2 _ _ _ _ _ _ _ _ _ _ _ _ _)
   | (with_reducible exact ih3 _ _ _ _ _ _ _ _ _ _ _ _)
   | (with_reducible exact impl_Words.mono _ _ _ _ _ _ _ _ _)
   | (with_reducible exact impl_insOf.mono _ _ _)
   | (with_reducible exact impl_opOf.mono _ _)
   | (with_reducible exact impl_wordsOk.mono _ _)
   | (with_reducible exact LeO.refl _)
   | (with_reducible exact LeO.none _)
   | (with_reducible refine LeO.ite ?_ ?_)
   | (with_reducible refine LeO.bind ?_ (fun _ => ?_))
   | exact ih0 _ _ _
   | exact ih1 _ _ _ _ _ _ _ _ _ _ _ _ _
   | exact ih2 _ _ _ _ _ _ _ _ _ _ _ _ _
   | exact ih3 _ _ _ _ _ _ _ _ _ _ _ _
   | exact impl_Words.mono _ _ _ _ _ _ _ _ _
   | exact impl_insOf.mono _ _ _
   | exact impl_opOf.mono _ _
   | exact impl_wordsOk.mono _ _
   | exact LeO.none _
   | refine LeO.ite ?_ ?_
   | refine LeO.bind ?_ (fun _ => ?_)
  ·intro y0 y1 y2 y3 y4 y5 y6 y7 y8 y9 y10 y11 y12
   unfold impl_Decode.j2
   repeat' first
   | (with_reducible exact ih0 _ _ _)
   | (with_reducible exact ih1 _ _ _ _ _ _ _ _ _ _ _ _ _)
   | (with_reducible exact ih2 _ _ _ _ _ _ _ _ _ _ _ _ _)
   | (with_reducible exact ih3 _ _ _ _ _ _ _ _ _ _ _ _)
   | (with_reducible exact impl_Words.mono _ _ _ _ _ _ _ _ _)
   | (with_reducible exact impl_insOf.mono _ _ _)
   | (with_reducible exact impl_opOf.mono _ _)
   | (with_reducible exact impl_wordsOk.mono _ _)
   | (with_reducible exact LeO.refl _)
   | (with_reducible exact LeO.none _)
   | (with_reducible refine LeO.ite ?_ ?_)
   | (with_reducible refine LeO.bind ?_ (fun _ => ?_))
   | exact ih0 _ _ _
   | exact ih1 _ _ _ _ _ _ _ _ _ _ _ _ _
   | exact ih2 _ _ _ _ _ _ _ _ _ _ _ _ _
   | exact ih3 _ _ _ _ _ _ _ _ _ _ _ _
   | exact impl_Words.mono _ _ _ _ _ _ _ _ _
   | exact impl_insOf.mono _ _ _
   | exact impl_opOf.mono _ _
   | exact impl_wordsOk.mono _ _
   | exact LeO.none _
   | refine LeO.ite ?_ ?_
   | refine LeO.bind ?_ (fun _ => ?_)
  ·intro y0 y1 y2 y3 y4 y5 y6 y7 y8 y9 y10 y11
   unfold impl_Decode.j3
   repeat' first
   | (with_reducible exact ih0 _ _ _)
   | (with_reducible exact ih1 _ _ _ _ _ _ _ _ _ _ _ _ _)
   | (with_reducible exact ih2 _ _ _ _ _ _ _ _ _ _ _ _ _)
   | (with_reducible exact ih3 _ _ _ _ _ _ _ _ _ _ _ _)
   | (with_reducible exact impl_Words.mono _ _ _ _ _ _ _ _ _)
   | (with_reducible exact impl_insOf.mono _ _ _)
   | (with_reducible exact impl_opOf.mono _ _)
   | (with_reducible exact impl_wordsOk.mono _ _)
   | (with_reducible exact LeO.refl _)
   | (with_reducible exact LeO.none _)
   | (with_reducible refine LeO.ite ?_ ?_)
   | (with_reducible refine LeO.bind ?_ (fun _ => ?_))
   | exact ih0 _ _ _
   | exact ih1 _ _ _ _ _ _ _ _ _ _ _ _ _
   | exact ih2 _ _ _ _ _ _ _ _ _ _ _ _ _
   | exact ih3 _ _ _ _ _ _ _ _ _ _ _ _
   | exact impl_Words.mono _ _ _ _ _ _ _ _ _
   | exact impl_insOf.mono _ _ _
   | exact impl_opOf.mono _ _
   | exact impl_wordsOk.mono _ _
   | exact LeO.none _
   | refine LeO.ite ?_ ?_
   | refine LeO.bind ?_ (fun _ => ?_)
theorem impl_Decode.mono : ∀ a0 a1 k, LeO (impl_Decode.f k a0 a1) (impl_Decode.f (k + 1) a0 a1) := by
 intro a0 a1 k
 obtain ⟨ih0, ih1, ih2, ih3⟩ := impl_Decode.mono_l k
 unfold impl_Decode.f
 repeat' first
   | (with_reducible exact ih0 _ _ _)
   | (with_reducible exact ih1 _ _ _ _ _ _ _ _ _ _ _ _ _)
   | (with_reducible exact ih2 _ _ _ _ _ _ _ _ _ _ _ _ _)
   | (with_reducible exact ih3 _ _ _ _ _ _ _ _ _ _ _ _)
   | (with_reducible exact impl_Words.mono _ _ _ _ _ _ _ _ _)
   | (with_reducible exact impl_insOf.mono _ _ _)
   | (with_reducible exact impl_opOf.mono _ _)
   | (with_reducible exact impl_wordsOk.mono _ _)
   | (with_reducible exact LeO.refl _)
   | (with_reducible exact LeO.none _)
   | (with_reducible refine LeO.ite ?_ ?_)
   | (with_reducible refine LeO.bind ?_ (fun _ => ?_))
   | exact ih0 _ _ _
   | exact ih1 _ _ _ _ _ _ _ _ _ _ _ _ _
   | exact ih2 _ _ _ _ _ _ _ _ _ _ _ _ _
   | exact ih3 _ _ _ _ _ _ _ _ _ _ _ _
   | exact impl_Words.mono _ _ _ _ _ _ _ _ _
   | exact impl_insOf.mono _ _ _
   | exact impl_opOf.mono _ _
   | exact impl_wordsOk.mono _ _
   | exact LeO.none _
   | refine LeO.ite ?_ ?_
   | refine LeO.bind ?_ (fun _ => ?_)
set_option maxHeartbeats 8000000 in
set_option maxRecDepth 100000 in
theorem impl_Decode.calls (k : Nat) (A0 : Option Addr) (c0 : Nat) (l0 : List Int) (a1 : Int) (r1 : Int) (r2 : Int) (r3 : Int) (r4 : Int) (r5 : Int) (r6 : Int) (r7 : Int) (r8 : Int) (r9 : Int) (r10 : Bool) (w : World) (hr0 : Kd.C (Kd.int .i64) w A0 l0.length l0) (hc0 : l0.length ≤ c0) (h : impl_Decode.f k l0 a1 = some (r1, r2, r3, r4, r5, r6, r7, r8, r9, r10)) :
  Calls Try.prog 28 #[.slice A0 l0.length c0, .int .i64 a1] w fun e w' => e = .returned (.tuple #[.agg #[.int .i64 r1, .int .i64 r2, .int .i64 r3, .int .i64 r4, .int .i64 r5, .int .i64 r6, .int .i64 r7, .int .i64 r8], .int .i64 r9, .bool r10]) ∧ Below w.heap.size w w' := by
 have hu32 := Try.underlying32
 have hu25 := Try.underlying25
 have HR0 := Aside0.mk hr0
 have HC0 := Aside0.mk hc0
 clear hr0 hc0
 have HB := Aside0.mk (Below.refl w.heap.size w)
 have H : ((impl_within.f a1 0 (wrap64 ((l0.length : Int) - 1))).bind fun t236 => (if t236 = true then (if 0 ≤ a1 then (if a1 < (l0.length : Int) then ((impl_isWord.f (rd l0 a1)).bind fun t238 => (impl_Decode.j0 k l0 a1 (!t238))) else (none)) else (none)) else (impl_Decode.j0 k l0 a1 true))) = some (r1, r2, r3, r4, r5, r6, r7, r8, r9, r10) := h
 clear h
 have HC3 := Aside0.mk H
 clear H
 go_enter Try.func28, Try.ntmps28
 go_upto_region 1 with (first | ((with_reducible refine gate_dst (N := 4) rfl ?_); refine box_event ?hg (N := 4) ?hd (cs := #[.int .i64 0, .int .i64 0, .int .i64 0, .int .i64 0, .int .i64 0, .int .i64 0, .int .i64 0, .int .i64 0]) (t := 32) ?hr ?_; (case hd => rfl); (case hg => rfl); (case hr => first | (go_simp; done) | (go_simp; rfl)); intro gb235 hg w4 hbox hb; have n0_ := Aside0.mk (below_step (bw_ HB.out) hb); have n1_ := Aside0.mk (hbox); have n2_ := Aside0.mk ((by rw [hg]; exact (below_size (bw_ HB.out)) : w.heap.size ≤ gb235)); have n3_ := n2_; clear HB; have HB := n0_; have BK235 := n1_; have GW235 := n2_; have GE235 := n3_; have GI235 := GeI.mk GE235.out; clear n0_ n1_ n2_ n3_; clear hb hbox hg))
 (try simp only [Act.put, List.setIfInBounds_toArray, List.set_cons_zero, List.set_cons_succ])
 go_cut [24] (fun v24 wc => ∃ (kq : Nat) (x24_2 : Bool), v24 = .bool x24_2 ∧ Aside0 (impl_Decode.j0 kq l0 a1 x24_2 = some (r1, r2, r3, r4, r5, r6, r7, r8, r9, r10)) ∧ Aside0 (kq ≤ k) ∧ Aside0 (wc.heap[gb235]? = some (.cells #[.int .i64 0, .int .i64 0, .int .i64 0, .int .i64 0, .int .i64 0, .int .i64 0, .int .i64 0, .int .i64 0] 32 (0, 0))) ∧ Aside0 (Below w.heap.size w wc))
 case first =>
  have H := HC3.out
  clear HC3
  replace H := Option.bind_eq_some_iff.mp H
  obtain ⟨t236, A50, H⟩ := H
  try dsimp only at H
  have A5 := Aside0.mk A50
  clear A50
  by_cases c6 : t236 = true
  ·subst c6
   rw [if_pos rfl] at H
   by_cases c7 : 0 ≤ a1
   ·rw [if_pos c7] at H
    have c7b0 : decide (0 ≤ a1) = true := decide_eq_true c7
    clear c7
    (first | rw [c7b0] | (simp only [i64_w, i32_w]; rw [c7b0]) | skip)
    by_cases c8 : a1 < (l0.length : Int)
    ·rw [if_pos c8] at H
     have c8b0 : decide (a1 < (l0.length : Int)) = true := decide_eq_true c8
     clear c8
     replace H := Option.bind_eq_some_iff.mp H
     obtain ⟨t238, A90, H⟩ := H
     try dsimp only at H
     have A9 := Aside0.mk A90
     clear A90
     have H' := Aside0.mk H
     clear H
     go_wp2_with (first | ((with_reducible refine gate_callee (f := 36) rfl ?_); refine gL_ (some 15) Try.func36 #[.int .i64 a1, .int .i64 0, .int .i64 (wrap64 ((l0.length : Int) - 1))] ?_; (with_reducible refine (impl_within.calls a1 0 (wrap64 ((l0.length : Int) - 1)) true _ A5.out).mono ?_); rintro e w' ⟨rfl, ⟨nd, rfl⟩⟩; refine ⟨_, rfl, ?_⟩; have p237 : 0 ≤ (a1 : Int) := of_decide_eq_true (by first | (with_reducible assumption) | assumption); have q237 : a1 < (l0.length : Int) := of_decide_eq_true (by first | (with_reducible assumption) | assumption); obtain ⟨ad237, e237, hx237_0⟩ := Kd.at_int HR0.out a1 p237 q237; cases e237; replace hx237_0 := (HB.out.cell (World.block_lt_of_cell? w _ hx237_0)).trans hx237_0; replace p237 := eq_true p237; replace q237 := eq_true q237) | (go_at_call 38; (with_reducible refine (impl_isWord.calls (rd l0 a1) t238 _ A9.out).mono ?_); rintro e w' ⟨rfl, ⟨nd, rfl⟩⟩))
     go_meet
     case rel => exact ⟨_, (!t238), (by first | rfl | (simp; done) | (simp [*]; done) | (simp [wrap64]; done)), H', ⟨by first | omega | exact Nat.le_refl _⟩, ⟨by refine bk_ ?_; exact BK235.out⟩, ⟨bw_ HB.out⟩⟩
    ·rw [if_neg c8] at H
     exact absurd H (by simp)
   ·rw [if_neg c7] at H
    exact absurd H (by simp)
  ·replace c6 := Bool.eq_false_iff.mpr c6
   subst c6
   rw [if_neg (show ¬ (false = true) by decide)] at H
   have H' := Aside0.mk H
   clear H
   go_wp2_with (first | ((with_reducible refine gate_callee (f := 36) rfl ?_); refine gL_ (some 15) Try.func36 #[.int .i64 a1, .int .i64 0, .int .i64 (wrap64 ((l0.length : Int) - 1))] ?_; (with_reducible refine (impl_within.calls a1 0 (wrap64 ((l0.length : Int) - 1)) false _ A5.out).mono ?_); rintro e w' ⟨rfl, ⟨nd, rfl⟩⟩; refine ⟨_, rfl, ?_⟩))
   go_meet
   case rel => exact ⟨_, (true), (by first | rfl | (simp; done) | (simp [*]; done) | (simp [wrap64]; done)), H', ⟨by first | omega | exact Nat.le_refl _⟩, ⟨by refine bk_ ?_; exact BK235.out⟩, ⟨bw_ HB.out⟩⟩
 case rest =>
  clear HC3
  try clear c2
  try clear p2
  try clear q2
  try clear hx2
  try clear c3
  try clear c6
  try clear p6
  try clear c7
  try clear c7b0
  try clear c8
  try clear c8b0
  try clear hx237_0
  try clear p237
  try clear q237
  obtain ⟨kq, x24_2, rfl, HA, HJ2, BK235, HB⟩ := hcut
  cases kq with
  | zero => exact absurd HA.out (by simp [impl_Decode.j0])
  | succ kj2 =>
   have H := HA.out
   clear HA
   simp only [impl_Decode.j0] at H
   by_cases c10 : x24_2 = true
   ·subst c10
    rw [if_pos rfl] at H
    simp only [Option.some.injEq, Prod.mk.injEq] at H
    obtain ⟨rfl, rfl, rfl, rfl, rfl, rfl, rfl, rfl, rfl, rfl⟩ := H
    obtain ⟨hcz11_0, hcz11_1, hcz11_2, hcz11_3, hcz11_4, hcz11_5, hcz11_6, hcz11_7, hfz11_0, hfz11_1, hfz11_2, hfz11_3, hfz11_4, hfz11_5, hfz11_6, hfz11_7⟩ := cz8_ BK235.out
    go_wp2
    refine bodyPost_ret (results_ctt rfl _ _ gb235 32 #[.int .i64 0, .int .i64 0, .int .i64 0, .int .i64 0, .int .i64 0, .int .i64 0, .int .i64 0, .int .i64 0] (0, 0) _ rfl ?hb_ Try.underlying32 rfl (by kernel_rfl)) rfl ?_
    (case hb_ => refine bk_ ?_; refine blk_put (cs := #[.int .i64 0, .int .i64 0, .int .i64 0, .int .i64 0, .int .i64 0, .int .i64 0, .int .i64 0, .int .i64 0]) ?_ 7 _ rfl; refine bk_ ?_; refine blk_put (cs := #[.int .i64 0, .int .i64 0, .int .i64 0, .int .i64 0, .int .i64 0, .int .i64 0, .int .i64 0, .int .i64 0]) ?_ 6 _ rfl; refine bk_ ?_; refine blk_put (cs := #[.int .i64 0, .int .i64 0, .int .i64 0, .int .i64 0, .int .i64 0, .int .i64 0, .int .i64 0, .int .i64 0]) ?_ 5 _ rfl; refine bk_ ?_; refine blk_put (cs := #[.int .i64 0, .int .i64 0, .int .i64 0, .int .i64 0, .int .i64 0, .int .i64 0, .int .i64 0, .int .i64 0]) ?_ 4 _ rfl; refine bk_ ?_; refine blk_put (cs := #[.int .i64 0, .int .i64 0, .int .i64 0, .int .i64 0, .int .i64 0, .int .i64 0, .int .i64 0, .int .i64 0]) ?_ 3 _ rfl; refine bk_ ?_; refine blk_put (cs := #[.int .i64 0, .int .i64 0, .int .i64 0, .int .i64 0, .int .i64 0, .int .i64 0, .int .i64 0, .int .i64 0]) ?_ 2 _ rfl; refine bk_ ?_; refine blk_put (cs := #[.int .i64 0, .int .i64 0, .int .i64 0, .int .i64 0, .int .i64 0, .int .i64 0, .int .i64 0, .int .i64 0]) ?_ 1 _ rfl; refine bk_ ?_; refine blk_put (cs := #[.int .i64 0, .int .i64 0, .int .i64 0, .int .i64 0, .int .i64 0, .int .i64 0, .int .i64 0, .int .i64 0]) ?_ 0 _ rfl; refine bk_ ?_; exact BK235.out)
    exact rt_ (bw_ HB.out)
   ·replace c10 := Bool.eq_false_iff.mpr c10
    subst c10
    rw [if_neg (show ¬ (false = true) by decide)] at H
    by_cases c12 : 0 ≤ a1
    ·rw [if_pos c12] at H
     have c12b0 : decide (0 ≤ a1) = true := decide_eq_true c12
     clear c12
     by_cases c13 : a1 < (l0.length : Int)
     ·rw [if_pos c13] at H
      have c13b0 : decide (a1 < (l0.length : Int)) = true := decide_eq_true c13
      clear c13
      replace H := Option.bind_eq_some_iff.mp H
      obtain ⟨t240, A140, H⟩ := H
      try dsimp only at H
      have A14 := Aside0.mk A140
      clear A140
      by_cases c15 : t240 = 0
      ·rw [if_pos c15] at H
       have c15b0 : (t240 == 0) = true := beq_iff_eq.mpr c15
       have c15b1 : (t240 != 0) = false := bne_eq_false_iff_eq.mpr c15
       clear c15
       simp only [Option.some.injEq, Prod.mk.injEq] at H
       obtain ⟨rfl, rfl, rfl, rfl, rfl, rfl, rfl, rfl, rfl, rfl⟩ := H
       have p239 : 0 ≤ (a1 : Int) := of_decide_eq_true (by first | (with_reducible assumption) | assumption)
       have q239 : a1 < (l0.length : Int) := of_decide_eq_true (by first | (with_reducible assumption) | assumption)
       obtain ⟨ad239, e239, hx239_0⟩ := Kd.at_int HR0.out a1 p239 q239
       cases e239
       replace hx239_0 := (HB.out.cell (World.block_lt_of_cell? w _ hx239_0)).trans hx239_0
       replace p239 := eq_true p239
       replace q239 := eq_true q239
       go_wp2_with (first | ((with_reducible refine gate_callee (f := 47) rfl ?_); refine gL_ (some 30) Try.func47 #[.int .i64 (rd l0 a1)] ?_; (with_reducible refine (impl_opOf.calls kj2 (rd l0 a1) t240 _ A14.out).mono ?_); rintro e w16 ⟨rfl, hb⟩; refine ⟨_, rfl, ?_⟩; have n0_ := Aside0.mk (blk_below (bk_ BK235.out) hb); have n1_ := Aside0.mk (below_step (bw_ HB.out) hb); clear BK235; clear HB; have BK235 := n0_; have HB := n1_; clear n0_ n1_; (try clear hb); (try clear hb2); (try clear hk); (try clear hi); have hcz17_0 : w16.cell? ⟨gb235, 0, none⟩ = some (.int .i64 0) := (blk_cell BK235.out 0).trans rfl; have hcz17_1 : w16.cell? ⟨gb235, 1, none⟩ = some (.int .i64 0) := (blk_cell BK235.out 1).trans rfl; have hcz17_2 : w16.cell? ⟨gb235, 2, none⟩ = some (.int .i64 0) := (blk_cell BK235.out 2).trans rfl; have hcz17_3 : w16.cell? ⟨gb235, 3, none⟩ = some (.int .i64 0) := (blk_cell BK235.out 3).trans rfl; have hcz17_4 : w16.cell? ⟨gb235, 4, none⟩ = some (.int .i64 0) := (blk_cell BK235.out 4).trans rfl; have hcz17_5 : w16.cell? ⟨gb235, 5, none⟩ = some (.int .i64 0) := (blk_cell BK235.out 5).trans rfl; have hcz17_6 : w16.cell? ⟨gb235, 6, none⟩ = some (.int .i64 0) := (blk_cell BK235.out 6).trans rfl; have hcz17_7 : w16.cell? ⟨gb235, 7, none⟩ = some (.int .i64 0) := (blk_cell BK235.out 7).trans rfl; have hfz17_0 := blk_frozen BK235.out 0; have hfz17_1 := blk_frozen BK235.out 1; have hfz17_2 := blk_frozen BK235.out 2; have hfz17_3 := blk_frozen BK235.out 3; have hfz17_4 := blk_frozen BK235.out 4; have hfz17_5 := blk_frozen BK235.out 5; have hfz17_6 := blk_frozen BK235.out 6; have hfz17_7 := blk_frozen BK235.out 7))
       refine bodyPost_ret (results_ctt rfl _ _ gb235 32 #[.int .i64 0, .int .i64 0, .int .i64 0, .int .i64 0, .int .i64 0, .int .i64 0, .int .i64 0, .int .i64 0] (0, 0) _ rfl ?hb_ Try.underlying32 rfl (by kernel_rfl)) rfl ?_
       (case hb_ => refine bk_ ?_; refine blk_put (cs := #[.int .i64 0, .int .i64 0, .int .i64 0, .int .i64 0, .int .i64 0, .int .i64 0, .int .i64 0, .int .i64 0]) ?_ 7 _ rfl; refine bk_ ?_; refine blk_put (cs := #[.int .i64 0, .int .i64 0, .int .i64 0, .int .i64 0, .int .i64 0, .int .i64 0, .int .i64 0, .int .i64 0]) ?_ 6 _ rfl; refine bk_ ?_; refine blk_put (cs := #[.int .i64 0, .int .i64 0, .int .i64 0, .int .i64 0, .int .i64 0, .int .i64 0, .int .i64 0, .int .i64 0]) ?_ 5 _ rfl; refine bk_ ?_; refine blk_put (cs := #[.int .i64 0, .int .i64 0, .int .i64 0, .int .i64 0, .int .i64 0, .int .i64 0, .int .i64 0, .int .i64 0]) ?_ 4 _ rfl; refine bk_ ?_; refine blk_put (cs := #[.int .i64 0, .int .i64 0, .int .i64 0, .int .i64 0, .int .i64 0, .int .i64 0, .int .i64 0, .int .i64 0]) ?_ 3 _ rfl; refine bk_ ?_; refine blk_put (cs := #[.int .i64 0, .int .i64 0, .int .i64 0, .int .i64 0, .int .i64 0, .int .i64 0, .int .i64 0, .int .i64 0]) ?_ 2 _ rfl; refine bk_ ?_; refine blk_put (cs := #[.int .i64 0, .int .i64 0, .int .i64 0, .int .i64 0, .int .i64 0, .int .i64 0, .int .i64 0, .int .i64 0]) ?_ 1 _ rfl; refine bk_ ?_; refine blk_put (cs := #[.int .i64 0, .int .i64 0, .int .i64 0, .int .i64 0, .int .i64 0, .int .i64 0, .int .i64 0, .int .i64 0]) ?_ 0 _ rfl; refine bk_ ?_; exact BK235.out)
       exact rt_ (bw_ HB.out)
      ·rw [if_neg c15] at H
       have c15b0 : (t240 == 0) = false := beq_eq_false_iff_ne.mpr c15
       have c15b1 : (t240 != 0) = true := bne_iff_ne.mpr c15
       replace H := Option.bind_eq_some_iff.mp H
       obtain ⟨⟨t242, t243, t244, t245, t246, t247, t248, t249⟩, A180, H⟩ := H
       try dsimp only at H
       have A18 := Aside0.mk A180
       clear A180
       replace H := Option.bind_eq_some_iff.mp H
       obtain ⟨t251, A190, H⟩ := H
       try dsimp only at H
       have A19 := Aside0.mk A190
       clear A190
       have HC20 := Aside0.mk H
       clear H
       have p239 : 0 ≤ (a1 : Int) := of_decide_eq_true (by first | (with_reducible assumption) | assumption)
       have q239 : a1 < (l0.length : Int) := of_decide_eq_true (by first | (with_reducible assumption) | assumption)
       obtain ⟨ad239, e239, hx239_0⟩ := Kd.at_int HR0.out a1 p239 q239
       cases e239
       replace hx239_0 := (HB.out.cell (World.block_lt_of_cell? w _ hx239_0)).trans hx239_0
       replace p239 := eq_true p239
       replace q239 := eq_true q239
       go_upto_region 8 with (first | ((with_reducible refine gate_callee (f := 47) rfl ?_); refine gL_ (some 30) Try.func47 #[.int .i64 (rd l0 a1)] ?_; (with_reducible refine (impl_opOf.calls kj2 (rd l0 a1) t240 _ A14.out).mono ?_); rintro e w21 ⟨rfl, hb⟩; refine ⟨_, rfl, ?_⟩; have n0_ := Aside0.mk (blk_below (bk_ BK235.out) hb); have n1_ := Aside0.mk (below_step (bw_ HB.out) hb); clear BK235; clear HB; have BK235 := n0_; have HB := n1_; clear n0_ n1_; (try clear hb); (try clear hb2); (try clear hk); (try clear hi); have p241 : 0 ≤ (a1 : Int) := of_decide_eq_true (by first | (with_reducible assumption) | assumption); have q241 : a1 < (l0.length : Int) := of_decide_eq_true (by first | (with_reducible assumption) | assumption); obtain ⟨ad241, e241, hx241_0⟩ := Kd.at_int HR0.out a1 p241 q241; obtain rfl : ad239 = ad241 := (by injection e241); replace hx241_0 := (HB.out.cell (World.block_lt_of_cell? w _ hx241_0)).trans hx241_0; replace p241 := eq_true p241; replace q241 := eq_true q241) | ((with_reducible refine gate_callee (f := 48) rfl ?_); refine gL_ (some 39) Try.func48 #[.int .i64 (rd l0 a1), .int .i64 t240] ?_; (with_reducible refine (impl_insOf.calls kj2 (rd l0 a1) t240 t242 t243 t244 t245 t246 t247 t248 t249 _ A18.out).mono ?_); rintro e w22 ⟨rfl, hb⟩; refine ⟨_, rfl, ?_⟩; have n0_ := Aside0.mk (blk_below (bk_ BK235.out) hb); have n1_ := Aside0.mk (below_step (bw_ HB.out) hb); clear BK235; clear HB; have BK235 := n0_; have HB := n1_; clear n0_ n1_; (try clear hb); (try clear hb2); (try clear hk); (try clear hi)) | ((with_reducible refine gate_dst (N := 8) rfl ?_); refine box_event ?hg (N := 8) ?hd (cs := #[.int .i64 0, .int .i64 0, .int .i64 0, .int .i64 0, .int .i64 0, .int .i64 0, .int .i64 0, .int .i64 0]) (t := 32) ?hr ?_; (case hd => rfl); (case hg => rfl); (case hr => first | (go_simp; done) | (go_simp; rfl)); intro gb250 hg w23 hbox hb; have n0_ := Aside0.mk (blk_below (bk_ BK235.out) hb); have n1_ := Aside0.mk (below_step (bw_ HB.out) hb); have n2_ := Aside0.mk (hbox); have n3_ := Aside0.mk ((by rw [hg]; exact (below_size (bw_ HB.out)) : w.heap.size ≤ gb250)); have n4_ := n3_; have n5_ := Aside0.mk ((by rw [hg]; exact Nat.ne_of_lt (blk_lt (bk_ BK235.out)) : gb235 ≠ gb250)); have n6_ := Aside0.mk n5_.out.symm; clear BK235; clear HB; have BK235 := n0_; have HB := n1_; have BK250 := n2_; have GW250 := n3_; have GE250 := n4_; have GI250 := GeI.mk GE250.out; have NB235_250 := n5_; have NB250_235 := n6_; clear n0_ n1_ n2_ n3_ n4_ n5_ n6_; clear hb hbox hg; have hnb24 := NB250_235.out; have hnc24 := NB235_250.out; have hcz25_0 : w23.cell? ⟨gb250, 0, none⟩ = some (.int .i64 0) := (blk_cell BK250.out 0).trans rfl; have hcz25_1 : w23.cell? ⟨gb250, 1, none⟩ = some (.int .i64 0) := (blk_cell BK250.out 1).trans rfl; have hcz25_2 : w23.cell? ⟨gb250, 2, none⟩ = some (.int .i64 0) := (blk_cell BK250.out 2).trans rfl; have hcz25_3 : w23.cell? ⟨gb250, 3, none⟩ = some (.int .i64 0) := (blk_cell BK250.out 3).trans rfl; have hcz25_4 : w23.cell? ⟨gb250, 4, none⟩ = some (.int .i64 0) := (blk_cell BK250.out 4).trans rfl; have hcz25_5 : w23.cell? ⟨gb250, 5, none⟩ = some (.int .i64 0) := (blk_cell BK250.out 5).trans rfl; have hcz25_6 : w23.cell? ⟨gb250, 6, none⟩ = some (.int .i64 0) := (blk_cell BK250.out 6).trans rfl; have hcz25_7 : w23.cell? ⟨gb250, 7, none⟩ = some (.int .i64 0) := (blk_cell BK250.out 7).trans rfl; have hfz25_0 := blk_frozen BK250.out 0; have hfz25_1 := blk_frozen BK250.out 1; have hfz25_2 := blk_frozen BK250.out 2; have hfz25_3 := blk_frozen BK250.out 3; have hfz25_4 := blk_frozen BK250.out 4; have hfz25_5 := blk_frozen BK250.out 5; have hfz25_6 := blk_frozen BK250.out 6; have hfz25_7 := blk_frozen BK250.out 7) | ((with_reducible refine gate_callee (f := 18) rfl ?_); refine gL_ (some 41) Try.func18 #[.agg #[.int .i64 t242, .int .i64 t243, .int .i64 t244, .int .i64 t245, .int .i64 t246, .int .i64 t247, .int .i64 t248, .int .i64 t249]] ?_; (with_reducible refine (impl_Words.calls kj2 t242 t243 t244 t245 t246 t247 t248 t249 t251 _ A19.out).mono ?_); rintro e w26 ⟨rfl, hb⟩; refine ⟨_, rfl, ?_⟩; have n0_ := Aside0.mk (blk_below (g := gb235) (o := .cells #[.int .i64 0, .int .i64 0, .int .i64 0, .int .i64 0, .int .i64 0, .int .i64 0, .int .i64 0, .int .i64 0] 32 (0, 0)) (by refine bk_ ?_; refine blk_far ?_ NB235_250.out _; refine bk_ ?_; refine blk_far ?_ NB235_250.out _; refine bk_ ?_; refine blk_far ?_ NB235_250.out _; refine bk_ ?_; refine blk_far ?_ NB235_250.out _; refine bk_ ?_; refine blk_far ?_ NB235_250.out _; refine bk_ ?_; refine blk_far ?_ NB235_250.out _; refine bk_ ?_; refine blk_far ?_ NB235_250.out _; refine bk_ ?_; refine blk_far ?_ NB235_250.out _; refine bk_ ?_; exact BK235.out) hb); have n1_ := Aside0.mk (blk_below (g := gb250) (o := .cells #[.int .i64 t242, .int .i64 t243, .int .i64 t244, .int .i64 t245, .int .i64 t246, .int .i64 t247, .int .i64 t248, .int .i64 t249] 32 (0, 0)) (by refine bk_ ?_; refine blk_put (cs := #[.int .i64 t242, .int .i64 t243, .int .i64 t244, .int .i64 t245, .int .i64 t246, .int .i64 t247, .int .i64 t248, .int .i64 0]) ?_ 7 _ rfl; refine bk_ ?_; refine blk_put (cs := #[.int .i64 t242, .int .i64 t243, .int .i64 t244, .int .i64 t245, .int .i64 t246, .int .i64 t247, .int .i64 0, .int .i64 0]) ?_ 6 _ rfl; refine bk_ ?_; refine blk_put (cs := #[.int .i64 t242, .int .i64 t243, .int .i64 t244, .int .i64 t245, .int .i64 t246, .int .i64 0, .int .i64 0, .int .i64 0]) ?_ 5 _ rfl; refine bk_ ?_; refine blk_put (cs := #[.int .i64 t242, .int .i64 t243, .int .i64 t244, .int .i64 t245, .int .i64 0, .int .i64 0, .int .i64 0, .int .i64 0]) ?_ 4 _ rfl; refine bk_ ?_; refine blk_put (cs := #[.int .i64 t242, .int .i64 t243, .int .i64 t244, .int .i64 0, .int .i64 0, .int .i64 0, .int .i64 0, .int .i64 0]) ?_ 3 _ rfl; refine bk_ ?_; refine blk_put (cs := #[.int .i64 t242, .int .i64 t243, .int .i64 0, .int .i64 0, .int .i64 0, .int .i64 0, .int .i64 0, .int .i64 0]) ?_ 2 _ rfl; refine bk_ ?_; refine blk_put (cs := #[.int .i64 t242, .int .i64 0, .int .i64 0, .int .i64 0, .int .i64 0, .int .i64 0, .int .i64 0, .int .i64 0]) ?_ 1 _ rfl; refine bk_ ?_; refine blk_put (cs := #[.int .i64 0, .int .i64 0, .int .i64 0, .int .i64 0, .int .i64 0, .int .i64 0, .int .i64 0, .int .i64 0]) ?_ 0 _ rfl; refine bk_ ?_; exact BK250.out) hb); have n2_ := Aside0.mk (below_step (bw_ HB.out) hb); clear BK235; clear BK250; clear HB; have BK235 := n0_; have BK250 := n1_; have HB := n2_; clear n0_ n1_ n2_; (try clear hb); (try clear hb2); (try clear hk); (try clear hi)))
       (try simp only [Act.put, List.setIfInBounds_toArray, List.set_cons_zero, List.set_cons_succ])
       go_cut [57] (fun v57 wc => ∃ (kq : Nat) (x57_19 : Bool), v57 = .bool x57_19 ∧ Aside0 (impl_Decode.j1 kq l0 a1 t240 t251 x57_19 t242 t243 t244 t245 t246 t247 t248 t249 = some (r1, r2, r3, r4, r5, r6, r7, r8, r9, r10)) ∧ Aside0 (kq ≤ kj2) ∧ Aside0 (wc.heap[gb235]? = some (.cells #[.int .i64 0, .int .i64 0, .int .i64 0, .int .i64 0, .int .i64 0, .int .i64 0, .int .i64 0, .int .i64 0] 32 (0, 0))) ∧ Aside0 (wc.heap[gb250]? = some (.cells #[.int .i64 t242, .int .i64 t243, .int .i64 t244, .int .i64 t245, .int .i64 t246, .int .i64 t247, .int .i64 t248, .int .i64 t249] 32 (0, 0))) ∧ Aside0 (Below w.heap.size w wc))
       case first =>
        have H := HC20.out
        clear HC20
        by_cases c27 : t251 > (wrap64 ((l0.length : Int) - a1))
        ·rw [if_pos c27] at H
         have c27b0 : decide ((wrap64 ((l0.length : Int) - a1)) < t251) = true := decide_eq_true c27
         clear c27
         (first | rw [c27b0] | (simp only [i64_w, i32_w]; rw [c27b0]) | skip)
         have H' := Aside0.mk H
         clear H
         go_wp2
         go_meet
         case rel => exact ⟨_, (true), (by first | rfl | (simp; done) | (simp [*]; done) | (simp [wrap64]; done)), H', ⟨by have := HJ2.out; first | omega | exact Nat.le_refl _⟩, ⟨by refine bk_ ?_; exact BK235.out⟩, ⟨by refine bk_ ?_; exact BK250.out⟩, ⟨bw_ HB.out⟩⟩
        ·rw [if_neg c27] at H
         have c27b0 : decide ((wrap64 ((l0.length : Int) - a1)) < t251) = false := decide_eq_false c27
         clear c27
         (first | rw [c27b0] | (simp only [i64_w, i32_w]; rw [c27b0]) | skip)
         have c28b0 := eq_true (of_decide_eq_true (by first | (with_reducible assumption) | assumption) : 0 ≤ a1)
         by_cases c29 : a1 ≤ (wrap64 (a1 + t251))
         ·rw [if_pos c29] at H
          have c29b0 := eq_true c29
          have c29b1 : decide (a1 ≤ (wrap64 (a1 + t251))) = true := decide_eq_true c29
          by_cases c30 : (wrap64 (a1 + t251)) ≤ (l0.length : Int)
          ·rw [if_pos c30] at H
           have c30b0 := eq_true c30
           have c30b1 : decide ((wrap64 (a1 + t251)) ≤ (l0.length : Int)) = true := decide_eq_true c30
           replace H := Option.bind_eq_some_iff.mp H
           obtain ⟨t253, A310, H⟩ := H
           try dsimp only at H
           have A31 := Aside0.mk A310
           clear A310
           have H' := Aside0.mk H
           clear H
           obtain ⟨i032, hi032, _, hsz32, _⟩ := info_parts info3
           obtain ⟨A32, hcut32, hA32, hC32⟩ := print_mid_of (P := Try.prog) (Value.int .i64) 0 36 3 .i64 .i64 Try.underlying36 hi032 hsz32 (some ad239) c0 l0 a1 (wrap64 (a1 + t251)) (of_decide_eq_true (by first | (with_reducible assumption) | assumption)) (by first | omega | exact of_decide_eq_true (by first | (with_reducible assumption) | assumption)) (of_decide_eq_true (by first | (with_reducible assumption) | assumption)) HC0.out
           have HR252 := Aside0.mk (Kd.C_of_reads (h1 := fun _ => rfl) (hA32 _ (Kd.reads_of_C HR0.out)))
           have HC252 := Aside0.mk hC32
           clear hA32 hC32 hi032 hsz32
           go_wp2_with (first | (go_at_call 49; refine calls_of_args (args' := #[.slice A32 ((l0.take ((wrap64 (a1 + t251)) : Int).toNat).drop (a1 : Int).toNat).length (c0 - a1.toNat)]) (by rw [List.length_drop, List.length_take, Nat.min_eq_left (by omega)]) ?_; (with_reducible refine (impl_wordsOk.calls kj2 _ _ ((l0.take ((wrap64 (a1 + t251)) : Int).toNat).drop (a1 : Int).toNat) t253 _ ?side1 ?side2 A31.out).mono ?_); (case side1 => repeat (first | exact (Kd.C_below HR252.out HB.out) | (with_reducible refine Kd.C_alloc ?_ _) | (with_reducible refine Kd.C_drewN ?_ _) | (with_reducible refine Kd.C_drew ?_))); (case side2 => exact HC252.out); rintro e w' ⟨rfl, ⟨nd, rfl⟩⟩))
           go_meet
           case rel => exact ⟨_, (!t253), (by first | rfl | (simp; done) | (simp [*]; done) | (simp [wrap64]; done)), H', ⟨by have := HJ2.out; first | omega | exact Nat.le_refl _⟩, ⟨by refine bk_ ?_; exact BK235.out⟩, ⟨by refine bk_ ?_; exact BK250.out⟩, ⟨bw_ HB.out⟩⟩
          ·rw [if_neg c30] at H
           exact absurd H (by simp)
         ·rw [if_neg c29] at H
          exact absurd H (by simp)
       case rest =>
        clear HC20
        try clear c1
        try clear c2
        try clear p2
        try clear q2
        try clear hx2
        try clear c3
        try clear c4
        try clear c6
        try clear p6
        try clear c7
        try clear c7b0
        try clear c8
        try clear c8b0
        try clear c10
        try clear c12
        try clear c12b0
        try clear c13
        try clear c13b0
        try clear c15
        try clear c15b0
        try clear c15b1
        try clear c18
        try clear p23
        try clear q23
        try clear hx23
        try clear c24
        try clear p24
        try clear q24
        try clear hx24
        try clear c27
        try clear c27b0
        try clear c28
        try clear c28b0
        try clear c29
        try clear c29b0
        try clear c29b1
        try clear c30
        try clear c30b0
        try clear c30b1
        try clear hcz11_0 hcz11_1 hcz11_2 hcz11_3 hcz11_4 hcz11_5 hcz11_6 hcz11_7 hfz11_0 hfz11_1 hfz11_2 hfz11_3 hfz11_4 hfz11_5 hfz11_6 hfz11_7
        try clear hcz17_0 hcz17_1 hcz17_2 hcz17_3 hcz17_4 hcz17_5 hcz17_6 hcz17_7 hfz17_0 hfz17_1 hfz17_2 hfz17_3 hfz17_4 hfz17_5 hfz17_6 hfz17_7
        try clear hcz25_0 hcz25_1 hcz25_2 hcz25_3 hcz25_4 hcz25_5 hcz25_6 hcz25_7 hfz25_0 hfz25_1 hfz25_2 hfz25_3 hfz25_4 hfz25_5 hfz25_6 hfz25_7
        try clear hx237_0
        try clear hx239_0
        try clear hx241_0
        try clear p2
        try clear p237
        try clear p239
        try clear p241
        try clear p6
        try clear q2
        try clear q237
        try clear q239
        try clear q241
        obtain ⟨kq, x57_19, rfl, HA, HJ19, BK235, BK250, HB⟩ := hcut
        cases kq with
        | zero => exact absurd HA.out (by simp [impl_Decode.j1])
        | succ kj19 =>
         have H := HA.out
         clear HA
         simp only [impl_Decode.j1] at H
         by_cases c33 : x57_19 = true
         ·subst c33
          rw [if_pos rfl] at H
          simp only [Option.some.injEq, Prod.mk.injEq] at H
          obtain ⟨rfl, rfl, rfl, rfl, rfl, rfl, rfl, rfl, rfl, rfl⟩ := H
          have hnb34 := NB235_250.out
          have hnc34 := NB250_235.out
          obtain ⟨hcz35_0, hcz35_1, hcz35_2, hcz35_3, hcz35_4, hcz35_5, hcz35_6, hcz35_7, hfz35_0, hfz35_1, hfz35_2, hfz35_3, hfz35_4, hfz35_5, hfz35_6, hfz35_7⟩ := cz8_ BK235.out
          go_wp2
          refine bodyPost_ret (results_ctt rfl _ _ gb235 32 #[.int .i64 0, .int .i64 0, .int .i64 0, .int .i64 0, .int .i64 0, .int .i64 0, .int .i64 0, .int .i64 0] (0, 0) _ rfl ?hb_ Try.underlying32 rfl (by kernel_rfl)) rfl ?_
          (case hb_ => refine bk_ ?_; refine blk_put (cs := #[.int .i64 0, .int .i64 0, .int .i64 0, .int .i64 0, .int .i64 0, .int .i64 0, .int .i64 0, .int .i64 0]) ?_ 7 _ rfl; refine bk_ ?_; refine blk_put (cs := #[.int .i64 0, .int .i64 0, .int .i64 0, .int .i64 0, .int .i64 0, .int .i64 0, .int .i64 0, .int .i64 0]) ?_ 6 _ rfl; refine bk_ ?_; refine blk_put (cs := #[.int .i64 0, .int .i64 0, .int .i64 0, .int .i64 0, .int .i64 0, .int .i64 0, .int .i64 0, .int .i64 0]) ?_ 5 _ rfl; refine bk_ ?_; refine blk_put (cs := #[.int .i64 0, .int .i64 0, .int .i64 0, .int .i64 0, .int .i64 0, .int .i64 0, .int .i64 0, .int .i64 0]) ?_ 4 _ rfl; refine bk_ ?_; refine blk_put (cs := #[.int .i64 0, .int .i64 0, .int .i64 0, .int .i64 0, .int .i64 0, .int .i64 0, .int .i64 0, .int .i64 0]) ?_ 3 _ rfl; refine bk_ ?_; refine blk_put (cs := #[.int .i64 0, .int .i64 0, .int .i64 0, .int .i64 0, .int .i64 0, .int .i64 0, .int .i64 0, .int .i64 0]) ?_ 2 _ rfl; refine bk_ ?_; refine blk_put (cs := #[.int .i64 0, .int .i64 0, .int .i64 0, .int .i64 0, .int .i64 0, .int .i64 0, .int .i64 0, .int .i64 0]) ?_ 1 _ rfl; refine bk_ ?_; refine blk_put (cs := #[.int .i64 0, .int .i64 0, .int .i64 0, .int .i64 0, .int .i64 0, .int .i64 0, .int .i64 0, .int .i64 0]) ?_ 0 _ rfl; refine bk_ ?_; exact BK235.out)
          exact rt_ (bw_ HB.out)
         ·replace c33 := Bool.eq_false_iff.mpr c33
          subst c33
          rw [if_neg (show ¬ (false = true) by decide)] at H
          have HC36 := Aside0.mk H
          clear H
          go_upto_region 11 with (fail)
          go_cut [67] (fun v67 wc => ∃ (kq : Nat) (x67_35 : Bool), v67 = .bool x67_35 ∧ Aside0 (impl_Decode.j2 kq l0 t240 t251 (wrap64 (a1 + 1)) x67_35 t242 t243 t244 t245 t246 t247 t248 t249 = some (r1, r2, r3, r4, r5, r6, r7, r8, r9, r10)) ∧ Aside0 (kq ≤ kj19) ∧ Aside0 (wc.heap[gb235]? = some (.cells #[.int .i64 0, .int .i64 0, .int .i64 0, .int .i64 0, .int .i64 0, .int .i64 0, .int .i64 0, .int .i64 0] 32 (0, 0))) ∧ Aside0 (wc.heap[gb250]? = some (.cells #[.int .i64 t242, .int .i64 t243, .int .i64 t244, .int .i64 t245, .int .i64 t246, .int .i64 t247, .int .i64 t248, .int .i64 t249] 32 (0, 0))) ∧ Aside0 (Below w.heap.size w wc))
          case first =>
           have H := HC36.out
           clear HC36
           replace H := Option.bind_eq_some_iff.mp H
           obtain ⟨t254, A370, H⟩ := H
           try dsimp only at H
           have A37 := Aside0.mk A370
           clear A370
           by_cases c38 : t254 = true
           ·subst c38
            rw [if_pos rfl] at H
            replace H := Option.bind_eq_some_iff.mp H
            obtain ⟨t255, A390, H⟩ := H
            try dsimp only at H
            have A39 := Aside0.mk A390
            clear A390
            have H' := Aside0.mk H
            clear H
            go_wp2_with (first | ((with_reducible refine gate_callee (f := 39) rfl ?_); refine gL_ (some 62) Try.func39 #[.int .i64 t240] ?_; (with_reducible refine (impl_hasSrc.calls t240 true _ A37.out).mono ?_); rintro e w' ⟨rfl, ⟨nd, rfl⟩⟩; refine ⟨_, rfl, ?_⟩; have hnb40 := NB250_235.out; have hnc40 := NB235_250.out; have hcz41_0 : wc.cell? ⟨gb250, 0, none⟩ = some (.int .i64 t242) := (blk_cell BK250.out 0).trans rfl; have hcz41_1 : wc.cell? ⟨gb250, 1, none⟩ = some (.int .i64 t243) := (blk_cell BK250.out 1).trans rfl; have hcz41_2 : wc.cell? ⟨gb250, 2, none⟩ = some (.int .i64 t244) := (blk_cell BK250.out 2).trans rfl; have hcz41_3 : wc.cell? ⟨gb250, 3, none⟩ = some (.int .i64 t245) := (blk_cell BK250.out 3).trans rfl; have hcz41_4 : wc.cell? ⟨gb250, 4, none⟩ = some (.int .i64 t246) := (blk_cell BK250.out 4).trans rfl; have hcz41_5 : wc.cell? ⟨gb250, 5, none⟩ = some (.int .i64 t247) := (blk_cell BK250.out 5).trans rfl; have hcz41_6 : wc.cell? ⟨gb250, 6, none⟩ = some (.int .i64 t248) := (blk_cell BK250.out 6).trans rfl; have hcz41_7 : wc.cell? ⟨gb250, 7, none⟩ = some (.int .i64 t249) := (blk_cell BK250.out 7).trans rfl; have hfz41_0 := blk_frozen BK250.out 0; have hfz41_1 := blk_frozen BK250.out 1; have hfz41_2 := blk_frozen BK250.out 2; have hfz41_3 := blk_frozen BK250.out 3; have hfz41_4 := blk_frozen BK250.out 4; have hfz41_5 := blk_frozen BK250.out 5; have hfz41_6 := blk_frozen BK250.out 6; have hfz41_7 := blk_frozen BK250.out 7) | (go_at_call 13; (with_reducible refine (impl_HasX.calls t243 t244 t245 t255 _ A39.out).mono ?_); rintro e w42 ⟨rfl, hb⟩; have n0_ := Aside0.mk (blk_below (bk_ BK235.out) hb); have n1_ := Aside0.mk (blk_below (bk_ BK250.out) hb); have n2_ := Aside0.mk (below_step (bw_ HB.out) hb); clear BK235; clear BK250; clear HB; have BK235 := n0_; have BK250 := n1_; have HB := n2_; clear n0_ n1_ n2_; (try clear hb); (try clear hb2); (try clear hk); (try clear hi)))
            go_meet
            case rel => exact ⟨_, (t255), (by first | rfl | (simp; done) | (simp [*]; done) | (simp [wrap64]; done)), H', ⟨by have := HJ2.out; have := HJ19.out; first | omega | exact Nat.le_refl _⟩, ⟨by refine bk_ ?_; exact BK235.out⟩, ⟨by refine bk_ ?_; exact BK250.out⟩, ⟨bw_ HB.out⟩⟩
           ·replace c38 := Bool.eq_false_iff.mpr c38
            subst c38
            rw [if_neg (show ¬ (false = true) by decide)] at H
            have H' := Aside0.mk H
            clear H
            go_wp2_with (first | ((with_reducible refine gate_callee (f := 39) rfl ?_); refine gL_ (some 62) Try.func39 #[.int .i64 t240] ?_; (with_reducible refine (impl_hasSrc.calls t240 false _ A37.out).mono ?_); rintro e w' ⟨rfl, ⟨nd, rfl⟩⟩; refine ⟨_, rfl, ?_⟩))
            go_meet
            case rel => exact ⟨_, (false), (by first | rfl | (simp; done) | (simp [*]; done) | (simp [wrap64]; done)), H', ⟨by have := HJ2.out; have := HJ19.out; first | omega | exact Nat.le_refl _⟩, ⟨by refine bk_ ?_; exact BK235.out⟩, ⟨by refine bk_ ?_; exact BK250.out⟩, ⟨bw_ HB.out⟩⟩
          case rest =>
           clear HC36
           try clear c1
           try clear c2
           try clear p2
           try clear q2
           try clear hx2
           try clear c3
           try clear c4
           try clear c6
           try clear p6
           try clear c7
           try clear c7b0
           try clear c8
           try clear c8b0
           try clear c10
           try clear c12
           try clear c12b0
           try clear c13
           try clear c13b0
           try clear c15
           try clear c15b0
           try clear c15b1
           try clear c18
           try clear p23
           try clear q23
           try clear hx23
           try clear c24
           try clear p24
           try clear q24
           try clear hx24
           try clear c27
           try clear c27b0
           try clear c28
           try clear c28b0
           try clear c29
           try clear c29b0
           try clear c29b1
           try clear c30
           try clear c30b0
           try clear c30b1
           try clear c33
           try clear c34
           try clear c36
           try clear c38
           try clear c39
           try clear c40
           try clear hcz11_0 hcz11_1 hcz11_2 hcz11_3 hcz11_4 hcz11_5 hcz11_6 hcz11_7 hfz11_0 hfz11_1 hfz11_2 hfz11_3 hfz11_4 hfz11_5 hfz11_6 hfz11_7
           try clear hcz17_0 hcz17_1 hcz17_2 hcz17_3 hcz17_4 hcz17_5 hcz17_6 hcz17_7 hfz17_0 hfz17_1 hfz17_2 hfz17_3 hfz17_4 hfz17_5 hfz17_6 hfz17_7
           try clear hcz25_0 hcz25_1 hcz25_2 hcz25_3 hcz25_4 hcz25_5 hcz25_6 hcz25_7 hfz25_0 hfz25_1 hfz25_2 hfz25_3 hfz25_4 hfz25_5 hfz25_6 hfz25_7
           try clear hcz35_0 hcz35_1 hcz35_2 hcz35_3 hcz35_4 hcz35_5 hcz35_6 hcz35_7 hfz35_0 hfz35_1 hfz35_2 hfz35_3 hfz35_4 hfz35_5 hfz35_6 hfz35_7
           try clear hcz41_0 hcz41_1 hcz41_2 hcz41_3 hcz41_4 hcz41_5 hcz41_6 hcz41_7 hfz41_0 hfz41_1 hfz41_2 hfz41_3 hfz41_4 hfz41_5 hfz41_6 hfz41_7
           try clear hx237_0
           try clear hx239_0
           try clear hx241_0
           try clear p2
           try clear p23
           try clear p237
           try clear p239
           try clear p24
           try clear p241
           try clear p6
           try clear q2
           try clear q23
           try clear q237
           try clear q239
           try clear q24
           try clear q241
           obtain ⟨kq, x67_35, rfl, HA, HJ35, BK235, BK250, HB⟩ := hcut
           cases kq with
           | zero => exact absurd HA.out (by simp [impl_Decode.j2])
           | succ kj35 =>
            have H := HA.out
            clear HA
            simp only [impl_Decode.j2] at H
            have HC43 := Aside0.mk H
            clear H
            go_upto_if 67 with (fail)
            go_cut [10] (fun v10 wc => ∃ (kq : Nat) (x10_42 : Int) (x251003_42 : Int), v10 = .int .i64 x10_42 ∧ Aside0 (impl_Decode.j3 kq l0 t240 t251 x10_42 t242 t243 t244 x251003_42 t246 t247 t248 t249 = some (r1, r2, r3, r4, r5, r6, r7, r8, r9, r10)) ∧ Aside0 (kq ≤ kj35) ∧ Aside0 (wc.heap[gb235]? = some (.cells #[.int .i64 0, .int .i64 0, .int .i64 0, .int .i64 0, .int .i64 0, .int .i64 0, .int .i64 0, .int .i64 0] 32 (0, 0))) ∧ Aside0 (wc.heap[gb250]? = some (.cells #[.int .i64 t242, .int .i64 t243, .int .i64 t244, .int .i64 x251003_42, .int .i64 t246, .int .i64 t247, .int .i64 t248, .int .i64 t249] 32 (0, 0))) ∧ Aside0 (Below w.heap.size w wc))
            case first =>
             have H := HC43.out
             clear HC43
             by_cases c44 : x67_35 = true
             ·subst c44
              rw [if_pos rfl] at H
              obtain ⟨ji45, hji45⟩ : ∃ j_ : Int, (wrap64 (a1 + 1)) = j_ := ⟨_, rfl⟩
              replace H : (if 0 ≤ (ji45) then (if (ji45) < (l0.length : Int) then (impl_Decode.j3 kj35 l0 t240 t251 (wrap64 ((ji45) + 1)) t242 t243 t244 (rd l0 (ji45)) t246 t247 t248 t249) else (none)) else (none)) = some (r1, r2, r3, r4, r5, r6, r7, r8, r9, r10) := by first | (rw [hji45] at H; exact H) | (simp only [hji45] at H ⊢; exact H)
              have hji45w : (IntKind.i64.wrap (a1 + 1)) = ji45 := (i64_w _).trans hji45
              by_cases c46 : 0 ≤ (ji45)
              ·rw [if_pos c46] at H
               have c46b0 : decide (0 ≤ (ji45)) = true := decide_eq_true c46
               clear c46
               (first | rw [c46b0] | (simp only [i64_w, i32_w]; rw [c46b0]) | skip)
               by_cases c47 : (ji45) < (l0.length : Int)
               ·rw [if_pos c47] at H
                have c47b0 : decide ((ji45) < (l0.length : Int)) = true := decide_eq_true c47
                clear c47
                have H' := Aside0.mk H
                clear H
                have p256 : 0 ≤ ((ji45) : Int) := of_decide_eq_true (by first | (with_reducible assumption) | assumption)
                have q256 : (ji45) < (l0.length : Int) := of_decide_eq_true (by first | (with_reducible assumption) | assumption)
                obtain ⟨ad256, e256, hx256_0⟩ := Kd.at_int HR0.out (ji45) p256 q256
                obtain rfl : ad239 = ad256 := (by injection e256)
                replace hx256_0 := (HB.out.cell (World.block_lt_of_cell? w _ hx256_0)).trans hx256_0
                replace p256 := eq_true p256
                replace q256 := eq_true q256
                have hnb48 := NB250_235.out
                have hnc48 := NB235_250.out
                obtain ⟨hcz49_0, hcz49_1, hcz49_2, hcz49_3, hcz49_4, hcz49_5, hcz49_6, hcz49_7, hfz49_0, hfz49_1, hfz49_2, hfz49_3, hfz49_4, hfz49_5, hfz49_6, hfz49_7⟩ := cz8_ BK250.out
                go_wp2
                go_meet
                case rel => exact ⟨_, (wrap64 ((ji45) + 1)), (rd l0 (ji45)), (by first | rfl | (simp; done) | (simp only [← hji45] <;> (first | rfl | simp)) | (simp [*]; done)), H', ⟨by have := HJ2.out; have := HJ19.out; have := HJ35.out; first | omega | exact Nat.le_refl _⟩, ⟨by refine bk_ ?_; refine blk_far ?_ NB235_250.out _; refine bk_ ?_; exact BK235.out⟩, ⟨by refine bk_ ?_; refine blk_put (cs := #[.int .i64 t242, .int .i64 t243, .int .i64 t244, .int .i64 t245, .int .i64 t246, .int .i64 t247, .int .i64 t248, .int .i64 t249]) ?_ 3 _ rfl; refine bk_ ?_; exact BK250.out⟩, ⟨bw_ HB.out⟩⟩
               ·rw [if_neg c47] at H
                exact absurd H (by simp)
              ·rw [if_neg c46] at H
               exact absurd H (by simp)
             ·replace c44 := Bool.eq_false_iff.mpr c44
              subst c44
              rw [if_neg (show ¬ (false = true) by decide)] at H
              have H' := Aside0.mk H
              clear H
              go_wp2
              go_meet
              case rel => exact ⟨_, ((wrap64 (a1 + 1))), (t245), (by first | rfl | (simp; done) | (simp [*]; done) | (simp [wrap64]; done)), H', ⟨by have := HJ2.out; have := HJ19.out; have := HJ35.out; first | omega | exact Nat.le_refl _⟩, ⟨by refine bk_ ?_; exact BK235.out⟩, ⟨by refine bk_ ?_; exact BK250.out⟩, ⟨bw_ HB.out⟩⟩
            case rest =>
             clear HC43
             try clear c1
             try clear c2
             try clear p2
             try clear q2
             try clear hx2
             try clear c3
             try clear c4
             try clear c6
             try clear p6
             try clear c7
             try clear c7b0
             try clear c8
             try clear c8b0
             try clear c10
             try clear c12
             try clear c12b0
             try clear c13
             try clear c13b0
             try clear c15
             try clear c15b0
             try clear c15b1
             try clear c18
             try clear p23
             try clear q23
             try clear hx23
             try clear c24
             try clear p24
             try clear q24
             try clear hx24
             try clear p25
             try clear q25
             try clear hx25
             try clear c27
             try clear c27b0
             try clear c28
             try clear c28b0
             try clear c29
             try clear c29b0
             try clear c29b1
             try clear c30
             try clear c30b0
             try clear c30b1
             try clear c33
             try clear c34
             try clear c36
             try clear c38
             try clear c39
             try clear c40
             try clear c44
             try clear c46
             try clear c46b0
             try clear c47
             try clear c47b0
             try clear c48
             try clear hcz11_0 hcz11_1 hcz11_2 hcz11_3 hcz11_4 hcz11_5 hcz11_6 hcz11_7 hfz11_0 hfz11_1 hfz11_2 hfz11_3 hfz11_4 hfz11_5 hfz11_6 hfz11_7
             try clear hcz17_0 hcz17_1 hcz17_2 hcz17_3 hcz17_4 hcz17_5 hcz17_6 hcz17_7 hfz17_0 hfz17_1 hfz17_2 hfz17_3 hfz17_4 hfz17_5 hfz17_6 hfz17_7
             try clear hcz25_0 hcz25_1 hcz25_2 hcz25_3 hcz25_4 hcz25_5 hcz25_6 hcz25_7 hfz25_0 hfz25_1 hfz25_2 hfz25_3 hfz25_4 hfz25_5 hfz25_6 hfz25_7
             try clear hcz35_0 hcz35_1 hcz35_2 hcz35_3 hcz35_4 hcz35_5 hcz35_6 hcz35_7 hfz35_0 hfz35_1 hfz35_2 hfz35_3 hfz35_4 hfz35_5 hfz35_6 hfz35_7
             try clear hcz41_0 hcz41_1 hcz41_2 hcz41_3 hcz41_4 hcz41_5 hcz41_6 hcz41_7 hfz41_0 hfz41_1 hfz41_2 hfz41_3 hfz41_4 hfz41_5 hfz41_6 hfz41_7
             try clear hcz49_0 hcz49_1 hcz49_2 hcz49_3 hcz49_4 hcz49_5 hcz49_6 hcz49_7 hfz49_0 hfz49_1 hfz49_2 hfz49_3 hfz49_4 hfz49_5 hfz49_6 hfz49_7
             try clear hx237_0
             try clear hx239_0
             try clear hx241_0
             try clear hx256_0
             try clear p2
             try clear p23
             try clear p237
             try clear p239
             try clear p24
             try clear p241
             try clear p256
             try clear p6
             try clear q2
             try clear q23
             try clear q237
             try clear q239
             try clear q24
             try clear q241
             try clear q256
             obtain ⟨kq, x10_42, x251003_42, rfl, HA, HJ42, BK235, BK250, HB⟩ := hcut
             cases kq with
             | zero => exact absurd HA.out (by simp [impl_Decode.j3])
             | succ kj42 =>
              have H := HA.out
              clear HA
              simp only [impl_Decode.j3] at H
              replace H := Option.bind_eq_some_iff.mp H
              obtain ⟨t257, A500, H⟩ := H
              try dsimp only at H
              have A50 := Aside0.mk A500
              clear A500
              by_cases c51 : t257 = true
              ·subst c51
               rw [if_pos rfl] at H
               replace H := Option.bind_eq_some_iff.mp H
               obtain ⟨t258, A520, H⟩ := H
               try dsimp only at H
               have A52 := Aside0.mk A520
               clear A520
               by_cases c53 : t258 = true
               ·subst c53
                rw [if_pos rfl] at H
                by_cases c54 : 0 ≤ x10_42
                ·rw [if_pos c54] at H
                 have c54b0 : decide (0 ≤ x10_42) = true := decide_eq_true c54
                 clear c54
                 by_cases c55 : x10_42 < (l0.length : Int)
                 ·rw [if_pos c55] at H
                  have c55b0 : decide (x10_42 < (l0.length : Int)) = true := decide_eq_true c55
                  clear c55
                  simp only [Option.some.injEq, Prod.mk.injEq] at H
                  obtain ⟨rfl, rfl, rfl, rfl, rfl, rfl, rfl, rfl, rfl, rfl⟩ := H
                  go_wp2_with (first | ((with_reducible refine gate_callee (f := 40) rfl ?_); refine gL_ (some 77) Try.func40 #[.int .i64 t240] ?_; (with_reducible refine (impl_hasDst.calls t240 true _ A50.out).mono ?_); rintro e w' ⟨rfl, ⟨nd, rfl⟩⟩; refine ⟨_, rfl, ?_⟩; (try (rw [drewN_self wc]; generalize hq_ : World.drewN wc _ = wc; have n0_ : Aside0 (wc.heap[gb235]? = some (.cells #[.int .i64 0, .int .i64 0, .int .i64 0, .int .i64 0, .int .i64 0, .int .i64 0, .int .i64 0, .int .i64 0] 32 (0, 0))) := ⟨by rw [← hq_]; exact (bk_ BK235.out)⟩; have n1_ : Aside0 (wc.heap[gb250]? = some (.cells #[.int .i64 t242, .int .i64 t243, .int .i64 t244, .int .i64 x251003_42, .int .i64 t246, .int .i64 t247, .int .i64 t248, .int .i64 t249] 32 (0, 0))) := ⟨by rw [← hq_]; exact (bk_ BK250.out)⟩; have n2_ : Aside0 (Below w.heap.size w wc) := ⟨by rw [← hq_]; exact (bw_ HB.out)⟩; clear BK235 BK250 HB hq_; have BK235 := n0_; have BK250 := n1_; have HB := n2_; clear n0_ n1_ n2_)); have hnb56 := NB250_235.out; have hnc56 := NB235_250.out; have hcz57_0 : wc.cell? ⟨gb250, 0, none⟩ = some (.int .i64 t242) := (blk_cell BK250.out 0).trans rfl; have hcz57_1 : wc.cell? ⟨gb250, 1, none⟩ = some (.int .i64 t243) := (blk_cell BK250.out 1).trans rfl; have hcz57_2 : wc.cell? ⟨gb250, 2, none⟩ = some (.int .i64 t244) := (blk_cell BK250.out 2).trans rfl; have hcz57_3 : wc.cell? ⟨gb250, 3, none⟩ = some (.int .i64 x251003_42) := (blk_cell BK250.out 3).trans rfl; have hcz57_4 : wc.cell? ⟨gb250, 4, none⟩ = some (.int .i64 t246) := (blk_cell BK250.out 4).trans rfl; have hcz57_5 : wc.cell? ⟨gb250, 5, none⟩ = some (.int .i64 t247) := (blk_cell BK250.out 5).trans rfl; have hcz57_6 : wc.cell? ⟨gb250, 6, none⟩ = some (.int .i64 t248) := (blk_cell BK250.out 6).trans rfl; have hcz57_7 : wc.cell? ⟨gb250, 7, none⟩ = some (.int .i64 t249) := (blk_cell BK250.out 7).trans rfl; have hfz57_0 := blk_frozen BK250.out 0; have hfz57_1 := blk_frozen BK250.out 1; have hfz57_2 := blk_frozen BK250.out 2; have hfz57_3 := blk_frozen BK250.out 3; have hfz57_4 := blk_frozen BK250.out 4; have hfz57_5 := blk_frozen BK250.out 5; have hfz57_6 := blk_frozen BK250.out 6; have hfz57_7 := blk_frozen BK250.out 7) | (go_at_call 13; (with_reducible refine (impl_HasX.calls t246 t247 t248 true _ A52.out).mono ?_); rintro e w58 ⟨rfl, hb⟩; have n0_ := Aside0.mk (blk_below (bk_ BK235.out) hb); have n1_ := Aside0.mk (blk_below (bk_ BK250.out) hb); have n2_ := Aside0.mk (below_step (bw_ HB.out) hb); clear BK235; clear BK250; clear HB; have BK235 := n0_; have BK250 := n1_; have HB := n2_; clear n0_ n1_ n2_; (try clear hb); (try clear hb2); (try clear hk); (try clear hi); have p259 : 0 ≤ (x10_42 : Int) := of_decide_eq_true (by first | (with_reducible assumption) | assumption); have q259 : x10_42 < (l0.length : Int) := of_decide_eq_true (by first | (with_reducible assumption) | assumption); obtain ⟨ad259, e259, hx259_0⟩ := Kd.at_int HR0.out x10_42 p259 q259; obtain rfl : ad239 = ad259 := (by injection e259); replace hx259_0 := (HB.out.cell (World.block_lt_of_cell? w _ hx259_0)).trans hx259_0; replace p259 := eq_true p259; replace q259 := eq_true q259; have hcz59_0 : w58.cell? ⟨gb250, 0, none⟩ = some (.int .i64 t242) := (blk_cell BK250.out 0).trans rfl; have hcz59_1 : w58.cell? ⟨gb250, 1, none⟩ = some (.int .i64 t243) := (blk_cell BK250.out 1).trans rfl; have hcz59_2 : w58.cell? ⟨gb250, 2, none⟩ = some (.int .i64 t244) := (blk_cell BK250.out 2).trans rfl; have hcz59_3 : w58.cell? ⟨gb250, 3, none⟩ = some (.int .i64 x251003_42) := (blk_cell BK250.out 3).trans rfl; have hcz59_4 : w58.cell? ⟨gb250, 4, none⟩ = some (.int .i64 t246) := (blk_cell BK250.out 4).trans rfl; have hcz59_5 : w58.cell? ⟨gb250, 5, none⟩ = some (.int .i64 t247) := (blk_cell BK250.out 5).trans rfl; have hcz59_6 : w58.cell? ⟨gb250, 6, none⟩ = some (.int .i64 t248) := (blk_cell BK250.out 6).trans rfl; have hcz59_7 : w58.cell? ⟨gb250, 7, none⟩ = some (.int .i64 t249) := (blk_cell BK250.out 7).trans rfl; have hfz59_0 := blk_frozen BK250.out 0; have hfz59_1 := blk_frozen BK250.out 1; have hfz59_2 := blk_frozen BK250.out 2; have hfz59_3 := blk_frozen BK250.out 3; have hfz59_4 := blk_frozen BK250.out 4; have hfz59_5 := blk_frozen BK250.out 5; have hfz59_6 := blk_frozen BK250.out 6; have hfz59_7 := blk_frozen BK250.out 7; have hcz60_0 : w58.cell? ⟨gb235, 0, none⟩ = some (.int .i64 0) := (blk_cell BK235.out 0).trans rfl; have hcz60_1 : w58.cell? ⟨gb235, 1, none⟩ = some (.int .i64 0) := (blk_cell BK235.out 1).trans rfl; have hcz60_2 : w58.cell? ⟨gb235, 2, none⟩ = some (.int .i64 0) := (blk_cell BK235.out 2).trans rfl; have hcz60_3 : w58.cell? ⟨gb235, 3, none⟩ = some (.int .i64 0) := (blk_cell BK235.out 3).trans rfl; have hcz60_4 : w58.cell? ⟨gb235, 4, none⟩ = some (.int .i64 0) := (blk_cell BK235.out 4).trans rfl; have hcz60_5 : w58.cell? ⟨gb235, 5, none⟩ = some (.int .i64 0) := (blk_cell BK235.out 5).trans rfl; have hcz60_6 : w58.cell? ⟨gb235, 6, none⟩ = some (.int .i64 0) := (blk_cell BK235.out 6).trans rfl; have hcz60_7 : w58.cell? ⟨gb235, 7, none⟩ = some (.int .i64 0) := (blk_cell BK235.out 7).trans rfl; have hfz60_0 := blk_frozen BK235.out 0; have hfz60_1 := blk_frozen BK235.out 1; have hfz60_2 := blk_frozen BK235.out 2; have hfz60_3 := blk_frozen BK235.out 3; have hfz60_4 := blk_frozen BK235.out 4; have hfz60_5 := blk_frozen BK235.out 5; have hfz60_6 := blk_frozen BK235.out 6; have hfz60_7 := blk_frozen BK235.out 7))
                  refine bodyPost_ret (results_ctt rfl _ _ gb235 32 #[.int .i64 t242, .int .i64 t243, .int .i64 t244, .int .i64 x251003_42, .int .i64 t246, .int .i64 t247, .int .i64 (rd l0 x10_42), .int .i64 t249] (0, 0) _ rfl ?hb_ Try.underlying32 rfl (by kernel_rfl)) rfl ?_
                  (case hb_ => refine bk_ ?_; refine blk_put (cs := #[.int .i64 t242, .int .i64 t243, .int .i64 t244, .int .i64 x251003_42, .int .i64 t246, .int .i64 t247, .int .i64 (rd l0 x10_42), .int .i64 0]) ?_ 7 _ rfl; refine bk_ ?_; refine blk_put (cs := #[.int .i64 t242, .int .i64 t243, .int .i64 t244, .int .i64 x251003_42, .int .i64 t246, .int .i64 t247, .int .i64 0, .int .i64 0]) ?_ 6 _ rfl; refine bk_ ?_; refine blk_put (cs := #[.int .i64 t242, .int .i64 t243, .int .i64 t244, .int .i64 x251003_42, .int .i64 t246, .int .i64 0, .int .i64 0, .int .i64 0]) ?_ 5 _ rfl; refine bk_ ?_; refine blk_put (cs := #[.int .i64 t242, .int .i64 t243, .int .i64 t244, .int .i64 x251003_42, .int .i64 0, .int .i64 0, .int .i64 0, .int .i64 0]) ?_ 4 _ rfl; refine bk_ ?_; refine blk_put (cs := #[.int .i64 t242, .int .i64 t243, .int .i64 t244, .int .i64 0, .int .i64 0, .int .i64 0, .int .i64 0, .int .i64 0]) ?_ 3 _ rfl; refine bk_ ?_; refine blk_put (cs := #[.int .i64 t242, .int .i64 t243, .int .i64 0, .int .i64 0, .int .i64 0, .int .i64 0, .int .i64 0, .int .i64 0]) ?_ 2 _ rfl; refine bk_ ?_; refine blk_put (cs := #[.int .i64 t242, .int .i64 0, .int .i64 0, .int .i64 0, .int .i64 0, .int .i64 0, .int .i64 0, .int .i64 0]) ?_ 1 _ rfl; refine bk_ ?_; refine blk_put (cs := #[.int .i64 0, .int .i64 0, .int .i64 0, .int .i64 0, .int .i64 0, .int .i64 0, .int .i64 0, .int .i64 0]) ?_ 0 _ rfl; refine bk_ ?_; refine blk_far ?_ NB235_250.out _; refine bk_ ?_; exact BK235.out)
                  exact rt_ (bw_ HB.out)
                 ·rw [if_neg c55] at H
                  exact absurd H (by simp)
                ·rw [if_neg c54] at H
                 exact absurd H (by simp)
               ·replace c53 := Bool.eq_false_iff.mpr c53
                subst c53
                rw [if_neg (show ¬ (false = true) by decide)] at H
                simp only [Option.some.injEq, Prod.mk.injEq] at H
                obtain ⟨rfl, rfl, rfl, rfl, rfl, rfl, rfl, rfl, rfl, rfl⟩ := H
                go_wp2_with (first | ((with_reducible refine gate_callee (f := 40) rfl ?_); refine gL_ (some 77) Try.func40 #[.int .i64 t240] ?_; (with_reducible refine (impl_hasDst.calls t240 true _ A50.out).mono ?_); rintro e w' ⟨rfl, ⟨nd, rfl⟩⟩; refine ⟨_, rfl, ?_⟩; (try (rw [drewN_self wc]; generalize hq_ : World.drewN wc _ = wc; have n0_ : Aside0 (wc.heap[gb235]? = some (.cells #[.int .i64 0, .int .i64 0, .int .i64 0, .int .i64 0, .int .i64 0, .int .i64 0, .int .i64 0, .int .i64 0] 32 (0, 0))) := ⟨by rw [← hq_]; exact (bk_ BK235.out)⟩; have n1_ : Aside0 (wc.heap[gb250]? = some (.cells #[.int .i64 t242, .int .i64 t243, .int .i64 t244, .int .i64 x251003_42, .int .i64 t246, .int .i64 t247, .int .i64 t248, .int .i64 t249] 32 (0, 0))) := ⟨by rw [← hq_]; exact (bk_ BK250.out)⟩; have n2_ : Aside0 (Below w.heap.size w wc) := ⟨by rw [← hq_]; exact (bw_ HB.out)⟩; clear BK235 BK250 HB hq_; have BK235 := n0_; have BK250 := n1_; have HB := n2_; clear n0_ n1_ n2_)); have hnb61 := NB250_235.out; have hnc61 := NB235_250.out; have hcz62_0 : wc.cell? ⟨gb250, 0, none⟩ = some (.int .i64 t242) := (blk_cell BK250.out 0).trans rfl; have hcz62_1 : wc.cell? ⟨gb250, 1, none⟩ = some (.int .i64 t243) := (blk_cell BK250.out 1).trans rfl; have hcz62_2 : wc.cell? ⟨gb250, 2, none⟩ = some (.int .i64 t244) := (blk_cell BK250.out 2).trans rfl; have hcz62_3 : wc.cell? ⟨gb250, 3, none⟩ = some (.int .i64 x251003_42) := (blk_cell BK250.out 3).trans rfl; have hcz62_4 : wc.cell? ⟨gb250, 4, none⟩ = some (.int .i64 t246) := (blk_cell BK250.out 4).trans rfl; have hcz62_5 : wc.cell? ⟨gb250, 5, none⟩ = some (.int .i64 t247) := (blk_cell BK250.out 5).trans rfl; have hcz62_6 : wc.cell? ⟨gb250, 6, none⟩ = some (.int .i64 t248) := (blk_cell BK250.out 6).trans rfl; have hcz62_7 : wc.cell? ⟨gb250, 7, none⟩ = some (.int .i64 t249) := (blk_cell BK250.out 7).trans rfl; have hfz62_0 := blk_frozen BK250.out 0; have hfz62_1 := blk_frozen BK250.out 1; have hfz62_2 := blk_frozen BK250.out 2; have hfz62_3 := blk_frozen BK250.out 3; have hfz62_4 := blk_frozen BK250.out 4; have hfz62_5 := blk_frozen BK250.out 5; have hfz62_6 := blk_frozen BK250.out 6; have hfz62_7 := blk_frozen BK250.out 7) | (go_at_call 13; (with_reducible refine (impl_HasX.calls t246 t247 t248 false _ A52.out).mono ?_); rintro e w63 ⟨rfl, hb⟩; have n0_ := Aside0.mk (blk_below (bk_ BK235.out) hb); have n1_ := Aside0.mk (blk_below (bk_ BK250.out) hb); have n2_ := Aside0.mk (below_step (bw_ HB.out) hb); clear BK235; clear BK250; clear HB; have BK235 := n0_; have BK250 := n1_; have HB := n2_; clear n0_ n1_ n2_; (try clear hb); (try clear hb2); (try clear hk); (try clear hi); have hcz64_0 : w63.cell? ⟨gb250, 0, none⟩ = some (.int .i64 t242) := (blk_cell BK250.out 0).trans rfl; have hcz64_1 : w63.cell? ⟨gb250, 1, none⟩ = some (.int .i64 t243) := (blk_cell BK250.out 1).trans rfl; have hcz64_2 : w63.cell? ⟨gb250, 2, none⟩ = some (.int .i64 t244) := (blk_cell BK250.out 2).trans rfl; have hcz64_3 : w63.cell? ⟨gb250, 3, none⟩ = some (.int .i64 x251003_42) := (blk_cell BK250.out 3).trans rfl; have hcz64_4 : w63.cell? ⟨gb250, 4, none⟩ = some (.int .i64 t246) := (blk_cell BK250.out 4).trans rfl; have hcz64_5 : w63.cell? ⟨gb250, 5, none⟩ = some (.int .i64 t247) := (blk_cell BK250.out 5).trans rfl; have hcz64_6 : w63.cell? ⟨gb250, 6, none⟩ = some (.int .i64 t248) := (blk_cell BK250.out 6).trans rfl; have hcz64_7 : w63.cell? ⟨gb250, 7, none⟩ = some (.int .i64 t249) := (blk_cell BK250.out 7).trans rfl; have hfz64_0 := blk_frozen BK250.out 0; have hfz64_1 := blk_frozen BK250.out 1; have hfz64_2 := blk_frozen BK250.out 2; have hfz64_3 := blk_frozen BK250.out 3; have hfz64_4 := blk_frozen BK250.out 4; have hfz64_5 := blk_frozen BK250.out 5; have hfz64_6 := blk_frozen BK250.out 6; have hfz64_7 := blk_frozen BK250.out 7; have hcz65_0 : w63.cell? ⟨gb235, 0, none⟩ = some (.int .i64 0) := (blk_cell BK235.out 0).trans rfl; have hcz65_1 : w63.cell? ⟨gb235, 1, none⟩ = some (.int .i64 0) := (blk_cell BK235.out 1).trans rfl; have hcz65_2 : w63.cell? ⟨gb235, 2, none⟩ = some (.int .i64 0) := (blk_cell BK235.out 2).trans rfl; have hcz65_3 : w63.cell? ⟨gb235, 3, none⟩ = some (.int .i64 0) := (blk_cell BK235.out 3).trans rfl; have hcz65_4 : w63.cell? ⟨gb235, 4, none⟩ = some (.int .i64 0) := (blk_cell BK235.out 4).trans rfl; have hcz65_5 : w63.cell? ⟨gb235, 5, none⟩ = some (.int .i64 0) := (blk_cell BK235.out 5).trans rfl; have hcz65_6 : w63.cell? ⟨gb235, 6, none⟩ = some (.int .i64 0) := (blk_cell BK235.out 6).trans rfl; have hcz65_7 : w63.cell? ⟨gb235, 7, none⟩ = some (.int .i64 0) := (blk_cell BK235.out 7).trans rfl; have hfz65_0 := blk_frozen BK235.out 0; have hfz65_1 := blk_frozen BK235.out 1; have hfz65_2 := blk_frozen BK235.out 2; have hfz65_3 := blk_frozen BK235.out 3; have hfz65_4 := blk_frozen BK235.out 4; have hfz65_5 := blk_frozen BK235.out 5; have hfz65_6 := blk_frozen BK235.out 6; have hfz65_7 := blk_frozen BK235.out 7))
                refine bodyPost_ret (results_ctt rfl _ _ gb235 32 #[.int .i64 t242, .int .i64 t243, .int .i64 t244, .int .i64 x251003_42, .int .i64 t246, .int .i64 t247, .int .i64 t248, .int .i64 t249] (0, 0) _ rfl ?hb_ Try.underlying32 rfl (by kernel_rfl)) rfl ?_
                (case hb_ => refine bk_ ?_; refine blk_put (cs := #[.int .i64 t242, .int .i64 t243, .int .i64 t244, .int .i64 x251003_42, .int .i64 t246, .int .i64 t247, .int .i64 t248, .int .i64 0]) ?_ 7 _ rfl; refine bk_ ?_; refine blk_put (cs := #[.int .i64 t242, .int .i64 t243, .int .i64 t244, .int .i64 x251003_42, .int .i64 t246, .int .i64 t247, .int .i64 0, .int .i64 0]) ?_ 6 _ rfl; refine bk_ ?_; refine blk_put (cs := #[.int .i64 t242, .int .i64 t243, .int .i64 t244, .int .i64 x251003_42, .int .i64 t246, .int .i64 0, .int .i64 0, .int .i64 0]) ?_ 5 _ rfl; refine bk_ ?_; refine blk_put (cs := #[.int .i64 t242, .int .i64 t243, .int .i64 t244, .int .i64 x251003_42, .int .i64 0, .int .i64 0, .int .i64 0, .int .i64 0]) ?_ 4 _ rfl; refine bk_ ?_; refine blk_put (cs := #[.int .i64 t242, .int .i64 t243, .int .i64 t244, .int .i64 0, .int .i64 0, .int .i64 0, .int .i64 0, .int .i64 0]) ?_ 3 _ rfl; refine bk_ ?_; refine blk_put (cs := #[.int .i64 t242, .int .i64 t243, .int .i64 0, .int .i64 0, .int .i64 0, .int .i64 0, .int .i64 0, .int .i64 0]) ?_ 2 _ rfl; refine bk_ ?_; refine blk_put (cs := #[.int .i64 t242, .int .i64 0, .int .i64 0, .int .i64 0, .int .i64 0, .int .i64 0, .int .i64 0, .int .i64 0]) ?_ 1 _ rfl; refine bk_ ?_; refine blk_put (cs := #[.int .i64 0, .int .i64 0, .int .i64 0, .int .i64 0, .int .i64 0, .int .i64 0, .int .i64 0, .int .i64 0]) ?_ 0 _ rfl; refine bk_ ?_; exact BK235.out)
                exact rt_ (bw_ HB.out)
              ·replace c51 := Bool.eq_false_iff.mpr c51
               subst c51
               rw [if_neg (show ¬ (false = true) by decide)] at H
               simp only [Option.some.injEq, Prod.mk.injEq] at H
               obtain ⟨rfl, rfl, rfl, rfl, rfl, rfl, rfl, rfl, rfl, rfl⟩ := H
               go_wp2_with (first | ((with_reducible refine gate_callee (f := 40) rfl ?_); refine gL_ (some 77) Try.func40 #[.int .i64 t240] ?_; (with_reducible refine (impl_hasDst.calls t240 false _ A50.out).mono ?_); rintro e w' ⟨rfl, ⟨nd, rfl⟩⟩; refine ⟨_, rfl, ?_⟩; (try (rw [drewN_self wc]; generalize hq_ : World.drewN wc _ = wc; have n0_ : Aside0 (wc.heap[gb235]? = some (.cells #[.int .i64 0, .int .i64 0, .int .i64 0, .int .i64 0, .int .i64 0, .int .i64 0, .int .i64 0, .int .i64 0] 32 (0, 0))) := ⟨by rw [← hq_]; exact (bk_ BK235.out)⟩; have n1_ : Aside0 (wc.heap[gb250]? = some (.cells #[.int .i64 t242, .int .i64 t243, .int .i64 t244, .int .i64 x251003_42, .int .i64 t246, .int .i64 t247, .int .i64 t248, .int .i64 t249] 32 (0, 0))) := ⟨by rw [← hq_]; exact (bk_ BK250.out)⟩; have n2_ : Aside0 (Below w.heap.size w wc) := ⟨by rw [← hq_]; exact (bw_ HB.out)⟩; clear BK235 BK250 HB hq_; have BK235 := n0_; have BK250 := n1_; have HB := n2_; clear n0_ n1_ n2_)); have hnb66 := NB250_235.out; have hnc66 := NB235_250.out; have hcz67_0 : wc.cell? ⟨gb250, 0, none⟩ = some (.int .i64 t242) := (blk_cell BK250.out 0).trans rfl; have hcz67_1 : wc.cell? ⟨gb250, 1, none⟩ = some (.int .i64 t243) := (blk_cell BK250.out 1).trans rfl; have hcz67_2 : wc.cell? ⟨gb250, 2, none⟩ = some (.int .i64 t244) := (blk_cell BK250.out 2).trans rfl; have hcz67_3 : wc.cell? ⟨gb250, 3, none⟩ = some (.int .i64 x251003_42) := (blk_cell BK250.out 3).trans rfl; have hcz67_4 : wc.cell? ⟨gb250, 4, none⟩ = some (.int .i64 t246) := (blk_cell BK250.out 4).trans rfl; have hcz67_5 : wc.cell? ⟨gb250, 5, none⟩ = some (.int .i64 t247) := (blk_cell BK250.out 5).trans rfl; have hcz67_6 : wc.cell? ⟨gb250, 6, none⟩ = some (.int .i64 t248) := (blk_cell BK250.out 6).trans rfl; have hcz67_7 : wc.cell? ⟨gb250, 7, none⟩ = some (.int .i64 t249) := (blk_cell BK250.out 7).trans rfl; have hfz67_0 := blk_frozen BK250.out 0; have hfz67_1 := blk_frozen BK250.out 1; have hfz67_2 := blk_frozen BK250.out 2; have hfz67_3 := blk_frozen BK250.out 3; have hfz67_4 := blk_frozen BK250.out 4; have hfz67_5 := blk_frozen BK250.out 5; have hfz67_6 := blk_frozen BK250.out 6; have hfz67_7 := blk_frozen BK250.out 7; have hcz68_0 : wc.cell? ⟨gb235, 0, none⟩ = some (.int .i64 0) := (blk_cell BK235.out 0).trans rfl; have hcz68_1 : wc.cell? ⟨gb235, 1, none⟩ = some (.int .i64 0) := (blk_cell BK235.out 1).trans rfl; have hcz68_2 : wc.cell? ⟨gb235, 2, none⟩ = some (.int .i64 0) := (blk_cell BK235.out 2).trans rfl; have hcz68_3 : wc.cell? ⟨gb235, 3, none⟩ = some (.int .i64 0) := (blk_cell BK235.out 3).trans rfl; have hcz68_4 : wc.cell? ⟨gb235, 4, none⟩ = some (.int .i64 0) := (blk_cell BK235.out 4).trans rfl; have hcz68_5 : wc.cell? ⟨gb235, 5, none⟩ = some (.int .i64 0) := (blk_cell BK235.out 5).trans rfl; have hcz68_6 : wc.cell? ⟨gb235, 6, none⟩ = some (.int .i64 0) := (blk_cell BK235.out 6).trans rfl; have hcz68_7 : wc.cell? ⟨gb235, 7, none⟩ = some (.int .i64 0) := (blk_cell BK235.out 7).trans rfl; have hfz68_0 := blk_frozen BK235.out 0; have hfz68_1 := blk_frozen BK235.out 1; have hfz68_2 := blk_frozen BK235.out 2; have hfz68_3 := blk_frozen BK235.out 3; have hfz68_4 := blk_frozen BK235.out 4; have hfz68_5 := blk_frozen BK235.out 5; have hfz68_6 := blk_frozen BK235.out 6; have hfz68_7 := blk_frozen BK235.out 7))
               refine bodyPost_ret (results_ctt rfl _ _ gb235 32 #[.int .i64 t242, .int .i64 t243, .int .i64 t244, .int .i64 x251003_42, .int .i64 t246, .int .i64 t247, .int .i64 t248, .int .i64 t249] (0, 0) _ rfl ?hb_ Try.underlying32 rfl (by kernel_rfl)) rfl ?_
               (case hb_ => refine bk_ ?_; refine blk_put (cs := #[.int .i64 t242, .int .i64 t243, .int .i64 t244, .int .i64 x251003_42, .int .i64 t246, .int .i64 t247, .int .i64 t248, .int .i64 0]) ?_ 7 _ rfl; refine bk_ ?_; refine blk_put (cs := #[.int .i64 t242, .int .i64 t243, .int .i64 t244, .int .i64 x251003_42, .int .i64 t246, .int .i64 t247, .int .i64 0, .int .i64 0]) ?_ 6 _ rfl; refine bk_ ?_; refine blk_put (cs := #[.int .i64 t242, .int .i64 t243, .int .i64 t244, .int .i64 x251003_42, .int .i64 t246, .int .i64 0, .int .i64 0, .int .i64 0]) ?_ 5 _ rfl; refine bk_ ?_; refine blk_put (cs := #[.int .i64 t242, .int .i64 t243, .int .i64 t244, .int .i64 x251003_42, .int .i64 0, .int .i64 0, .int .i64 0, .int .i64 0]) ?_ 4 _ rfl; refine bk_ ?_; refine blk_put (cs := #[.int .i64 t242, .int .i64 t243, .int .i64 t244, .int .i64 0, .int .i64 0, .int .i64 0, .int .i64 0, .int .i64 0]) ?_ 3 _ rfl; refine bk_ ?_; refine blk_put (cs := #[.int .i64 t242, .int .i64 t243, .int .i64 0, .int .i64 0, .int .i64 0, .int .i64 0, .int .i64 0, .int .i64 0]) ?_ 2 _ rfl; refine bk_ ?_; refine blk_put (cs := #[.int .i64 t242, .int .i64 0, .int .i64 0, .int .i64 0, .int .i64 0, .int .i64 0, .int .i64 0, .int .i64 0]) ?_ 1 _ rfl; refine bk_ ?_; refine blk_put (cs := #[.int .i64 0, .int .i64 0, .int .i64 0, .int .i64 0, .int .i64 0, .int .i64 0, .int .i64 0, .int .i64 0]) ?_ 0 _ rfl; refine bk_ ?_; exact BK235.out)
               exact rt_ (bw_ HB.out)
     ·rw [if_neg c13] at H
      exact absurd H (by simp)
    ·rw [if_neg c12] at H
     exact absurd H (by simp)

/-! ### laws_big: function 30 -/
def laws_big.f (l0 : List Int) : Option (Bool) := some (decide ((l0.length : Int) > 1048576))
set_option maxHeartbeats 8000000 in
set_option maxRecDepth 100000 in
theorem laws_big.calls (A0 : Option Addr) (c0 : Nat) (l0 : List Int) (r : Bool) (w : World) (hr0 : Kd.C (Kd.int .u8) w A0 l0.length l0) (hc0 : l0.length ≤ c0) (h : laws_big.f l0 = some r) :
  Calls Try.prog 30 #[.slice A0 l0.length c0] w fun e w' => e = .returned (.bool r) ∧ Drawn0 w w' := by
 have HR0 := Aside0.mk hr0
 have HC0 := Aside0.mk hc0
 clear hr0 hc0
 have H : (some (decide ((l0.length : Int) > 1048576))) = some r := h
 clear h
 obtain rfl := Option.some.inj H
 go_enter Try.func30, Try.ntmps30
 go_wp2
 go_ret
 exact ⟨by first | rfl | (simp; done) | (simp [*]; done), by repeat (first | exact Drawn0.refl _ | apply Drawn0.step)⟩

end Go.Proofs.Ytajkjkdfcegdpaa.PFnCodes
