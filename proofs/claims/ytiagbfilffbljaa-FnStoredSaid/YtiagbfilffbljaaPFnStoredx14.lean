-- Laid by a program of this session (a changed copy of the kit's printer); Lean checks every line.
import Derived.Test.YtiagbfilffbljaaPFnStoredx11
import Derived.Test.YtiagbfilffbljaaPFnStoredx12
import Derived.Test.YtiagbfilffbljaaPFnStoredx13
namespace Go.Proofs.Ytiagbfilffbljaa.PFnStored
open Go.Proofs.Ytiagbfilffbljaa.Chg Go.RowKit Go.Proofs.YtiagbfilffbljaaW.PrintWords Go.Proofs.YtiagbfilffbljaaW.PrintLast Go.Proofs.YtiagbfilffbljaaW.PrintMore
attribute [local go_sem] max2_int min2_int max_two min_two max_three min_three max_four min_four   -- for this text's walks alone
set_option linter.unusedVariables false
set_option linter.unusedSimpArgs false

theorem k_ch {w w0 w1 : World} {g : Nat} (hk : KeepBut w w1 g none) (h0 : Below w0.heap.size w0 w) (h1 : Below w0.heap.size w0 w1) : Ch w w1 g (g + 1) :=
  ⟨h1.os.trans h0.os.symm, h1.tape.trans h0.tape.symm, h1.output.trans h0.output.symm, hk.1, fun k hlt hne => hk.2 k hlt (by omega) (by simp)⟩
theorem iz_ {w w0 w1 : World} {g : Nat} {f0 : List Int} {f1 f2 : Int} (hc : Ch w w1 0 0) (h : Aside0 (IsS102 w0 w g f0 f1 f2)) : Aside0 (IsS102 w0 w1 g f0 f1 f2) := by
  obtain ⟨A0, c0, h1, h2, h3⟩ := h.out
  exact ⟨A0, c0, blk_ch hc h1 (Or.inr (Nat.zero_le _)), h2, h3⟩
theorem is_ {w w0 w1 : World} {lo hi g : Nat} {f0 : List Int} {f1 f2 : Int} (hc : Ch w w1 lo hi) (h : Aside0 (IsS102 w0 w g f0 f1 f2)) (hg : g < lo ∨ hi ≤ g) : Aside0 (IsS102 w0 w1 g f0 f1 f2) := by
  obtain ⟨A0, c0, h1, h2, h3⟩ := h.out
  exact ⟨A0, c0, blk_ch hc h1 hg, h2, h3⟩
def spec_DrawPlaceOf.f (k : Nat) (l0 : List Int) : Option (List Int × List Int × Bool × Bool × Bool × Bool × List Int × List Int × Int × Int × Int × Int) := (spec_l1New.f k l0).bind fun c => (spec_l5Any.f k c.1 c.2.1 c.2.2).bind fun m => (spec_l3Opd.f c.1 m.2.2.2.2.2.2.2.2.2.1 m.2.2.2.2.2.2.2.2.2.2).bind fun o => (spec_l1Once.f c.1 o.2.2.2.1 o.2.2.2.2 10).bind fun b => if b.1 = true then (spec_l3Any.f k c.1 b.2.1 b.2.2).bind fun x => some (m.1, m.2.1, m.2.2.1, m.2.2.2.1, m.2.2.2.2.1, m.2.2.2.2.2.1, m.2.2.2.2.2.2.1, m.2.2.2.2.2.2.2.1, m.2.2.2.2.2.2.2.2.1, x.2.2.2.2.1, x.2.2.2.2.2.1, x.2.2.2.2.2.2.1) else some (m.1, m.2.1, m.2.2.1, m.2.2.2.1, m.2.2.2.2.1, m.2.2.2.2.2.1, m.2.2.2.2.2.2.1, m.2.2.2.2.2.2.2.1, m.2.2.2.2.2.2.2.2.1, o.1, o.2.1, o.2.2.1)
theorem fld98_ {o : Oper} {a : Act} {w : World} (x0 x1 x2 x3 x4 x5 x6 x7 : Int) (ho : o.op = .field 98 (.tmp 16) 2) (hx : a.eval (.tmp 16) = .agg #[.int .i64 x0, .int .i64 x1, .int .i64 x2, .int .i64 x3, .int .i64 x4, .int .i64 x5, .int .i64 x6, .int .i64 x7]) :
  (execOp a.eval o).run Try.prog w = .ok (.value (.agg #[.int .i64 x4, .int .i64 x5, .int .i64 x6])) w := by
 have hu98 := Try.underlying98
 have hu63 := Try.underlying63
 have hi : (Try.prog.info? 63).map (·.size) = some 3 := by kernel_rfl
 obtain ⟨i, hi1, hi2⟩ := Option.map_eq_some_iff.1 hi
 unfold execOp
 simp [ho, hx, Instr.field, run_underlying hu98, part, isAgg, run_underlying hu63, asAgg, sizeOf, typeInfo, hi1, hi2]
set_option maxHeartbeats 32000000 in
set_option maxRecDepth 100000 in
theorem spec_DrawPlaceOf.p0 (k : Nat) (Ab : Option Addr) (cb : Nat) (lb lc : List Int) (s0 t0 s1 t1 s2 t2 s3 t3 : Int) (lm_0 : List Int) (lm_1 : List Int) (bm_2 : Bool) (bm_3 : Bool) (bm_4 : Bool) (bm_5 : Bool) (lm_6 : List Int) (lm_7 : List Int) (bm_8 : Int) (o0 o1 o2 : Int) (w : World) (hr : Kd.C (Kd.int .u8) w Ab lb.length lb) (hc : lb.length ≤ cb) (hn : spec_l1New.f k lb = some (lc, s0, t0)) (h5 : spec_l5Any.f k lc s0 t0 = some (lm_0, lm_1, bm_2, bm_3, bm_4, bm_5, lm_6, lm_7, bm_8, s1, t1)) (ho : spec_l3Opd.f lc s1 t1 = some (o0, o1, o2, s2, t2)) (hb : spec_l1Once.f lc s2 t2 10 = some (false, s3, t3)) :
    Calls Try.prog 52 #[.slice Ab lb.length cb] w fun e w' => ∃ Ar_0 cr_0 Ar_1 cr_1 Ar_6 cr_6 Ar_7 cr_7 lo hi, e = .returned (.tuple #[.agg #[.slice Ar_0 lm_0.length cr_0, .slice Ar_1 lm_1.length cr_1, .bool bm_2, .bool bm_3, .bool bm_4, .bool bm_5, .slice Ar_6 lm_6.length cr_6, .slice Ar_7 lm_7.length cr_7, .int .i64 bm_8], .agg #[.int .i64 o0, .int .i64 o1, .int .i64 o2]]) ∧ w.heap.size ≤ lo ∧ lo ≤ hi ∧ hi ≤ w'.heap.size ∧ R4 w' lo hi (.slice Ar_0 lm_0.length cr_0) (.slice Ar_1 lm_1.length cr_1) (.slice Ar_6 lm_6.length cr_6) (.slice Ar_7 lm_7.length cr_7) lm_0 lm_1 lm_6 lm_7 ∧ Ch w w' 0 0 := by
  have HR := A_ hr
  have HC := A_ hc
  clear hr hc
  have HB := A_ (Below.refl w.heap.size w)
  have S : Aside0 (w.heap.size ≤ w.heap.size) := A_ (Nat.le_refl _)
  have Hn := A_ hn
  have H5 := A_ h5
  have Ho := A_ ho
  have Hb := A_ hb
  clear hn h5 ho hb
  have hu98 := Try.underlying98
  have hu63 := Try.underlying63
  go_enter Try.func52, Try.ntmps52
  go_wp2_with (first | ((with_reducible refine gate_dst (N := 2) rfl ?_); refine bx_ 2 #[.slice none 0 0, .slice none 0 0, .bool false, .bool false, .bool false, .bool false, .slice none 0 0, .slice none 0 0, .int .i64 0] 28 ?_; intro g2 hg w' hbox hb; have hc := co_ hb; have F1 : w.heap.size ≤ g2 := (by have := S.out; omega); clear hg; replace HB := hz_ hc HB; replace S := t_ hc S; clear S; have S : Aside0 (g2 + 1 ≤ w'.heap.size) := A_ (blk_lt hbox); have BK2 := A_ hbox; clear hbox hb hc) | ((with_reducible refine gate_dst (N := 3) rfl ?_); refine bx_ 3 #[.int .i64 0, .int .i64 0, .int .i64 0] 63 ?_; intro g3 hg w' hbox hb; have hc := co_ hb; have F2 : g2 + 1 ≤ g3 := (by have := S.out; omega); clear hg; replace BK2 := bz_ hc BK2; replace HB := hz_ hc HB; replace S := t_ hc S; clear S; have S : Aside0 (g3 + 1 ≤ w'.heap.size) := A_ (blk_lt hbox); have BK3 := A_ hbox; clear hbox hb hc) | ((with_reducible refine gate_callee (f := 69) rfl ?_); (try (refine gate_guard (by rfl) ?_; dsimp only)); refine gL_ (some 8) Try.func69 #[.slice Ab lb.length cb] ?_; refine (spec_l1New.calls k Ab cb lb lc s0 t0 w _ HB.out HR.out HC.out Hn.out).mono ?_; rintro e w' ⟨gc, rfl, hi, hB1, hb⟩; have hc := co_ hb; refine ⟨_, rfl, ?_⟩; replace BK2 := bz_ hc BK2; replace BK3 := bz_ hc BK3; replace HB := hz_ hc HB; replace S := t_ hc S; have HI := A_ hi; clear hi hB1; have F3 : gc ≠ g2 := (IsS102.ne_blk HI.out BK2.out (by decide)); have F4 : gc ≠ g3 := (IsS102.ne_blk HI.out BK3.out (by decide)); obtain ⟨tp, htp_⟩ : ∃ q_, q_ = w'.heap.size := ⟨_, rfl⟩; have F5 : gc + 1 ≤ tp := (by have := IsS102.lt HI.out; omega); have F6 : w.heap.size ≤ gc := (IsS102.ge HI.out); have F7 : g3 + 1 ≤ tp := (by have := S.out; omega); clear S; have S : Aside0 (tp ≤ w'.heap.size) := A_ (by omega); clear hb hc htp_) | ((with_reducible refine gate_callee (f := 78) rfl ?_); (try (refine gate_guard (by rfl) ?_; dsimp only)); refine gL_ (some 10) Try.func78 #[.pointer (some ⟨gc, 0, none⟩)] ?_; obtain ⟨lom, hlo_⟩ : ∃ q_, q_ = w'.heap.size := ⟨_, rfl⟩; have F8 : tp ≤ lom := (by have := S.out; omega); refine (spec_l5Any.calls k gc lc s0 t0 lm_0 lm_1 bm_2 bm_3 bm_4 bm_5 lm_6 lm_7 bm_8 s1 t1 w _ HI.out HB.out H5.out).mono ?_; rintro e w' ⟨v0, v1, v6, v7, rfl, h0, h1, h6, h7, hi, hB1, hk⟩; obtain ⟨Am_0, cm_0, rfl⟩ := Kd.R_slice h0; obtain ⟨Am_1, cm_1, rfl⟩ := Kd.R_slice h1; obtain ⟨Am_6, cm_6, rfl⟩ := Kd.R_slice h6; obtain ⟨Am_7, cm_7, rfl⟩ := Kd.R_slice h7; have hc := k_ch hk HB.out hB1; have hR := R4_of h0 h1 h6 h7; refine ⟨_, rfl, ?_⟩; rw [← hlo_] at hR; obtain ⟨him, hhi_⟩ : ∃ q_, q_ = w'.heap.size := ⟨_, rfl⟩; rw [← hhi_] at hR; have F9 : lom ≤ him := (by have := hc.size; omega); replace BK2 := bs_ hc BK2 (by have := S.out; omega); replace BK3 := bs_ hc BK3 (by have := S.out; omega); replace HB := hs_ hc HB (by have := S.out; omega); replace S := t_ hc S; clear HI; have HI := A_ hi; clear hi hB1 hk S hc; have S : Aside0 (him ≤ w'.heap.size) := A_ (by omega); have Mm := A_ hR; clear hR hlo_ hhi_ h0 h1 h6 h7) | ((with_reducible refine gate_dst (N := 5) rfl ?_); refine bx_ 5 #[.slice none 0 0, .slice none 0 0, .bool false, .bool false, .bool false, .bool false, .slice none 0 0, .slice none 0 0, .int .i64 0] 28 ?_; intro g5 hg w' hbox hb; have hc := co_ hb; have F10 : him ≤ g5 := (by have := S.out; omega); clear hg; replace BK2 := bz_ hc BK2; replace BK3 := bz_ hc BK3; replace HI := iz_ hc HI; replace Mm := rz_ hc Mm; replace HB := hz_ hc HB; replace S := t_ hc S; clear S; have S : Aside0 (g5 + 1 ≤ w'.heap.size) := A_ (blk_lt hbox); have BK5 := A_ hbox; clear hbox hb hc) | ((with_reducible refine gate_ (.store 28 (.tmp 5) (.tmp 10)) rfl ?_); refine ss_ 28 5 10 #[.slice Am_0 lm_0.length cm_0, .slice Am_1 lm_1.length cm_1, .bool bm_2, .bool bm_3, .bool bm_4, .bool bm_5, .slice Am_6 lm_6.length cm_6, .slice Am_7 lm_7.length cm_7, .int .i64 bm_8] BK5.out ?_; intro w' hbox hc; replace BK2 := bs_ hc BK2 (by have := S.out; omega); replace BK3 := bs_ hc BK3 (by have := S.out; omega); replace HI := is_ hc HI (by have := S.out; omega); replace Mm := rs_ hc Mm (by have := S.out; omega); replace HB := hs_ hc HB (by have := S.out; omega); replace S := t_ hc S; clear BK5; have BK5 := A_ hbox; clear hbox hc) | ((with_reducible refine gate_callee (f := 82) rfl ?_); (try (refine gate_guard (by rfl) ?_; dsimp only)); refine gL_ (some 12) Try.func82 #[.pointer (some ⟨gc, 0, none⟩)] ?_; refine (spec_l3Opd.calls gc lc s1 t1 o0 o1 o2 s2 t2 w _ HI.out HB.out Ho.out).mono ?_; rintro e w' ⟨rfl, hi, hB1, hk⟩; have hc := k_ch hk HB.out hB1; refine ⟨_, rfl, ?_⟩; replace BK2 := bs_ hc BK2 (by have := S.out; omega); replace BK3 := bs_ hc BK3 (by have := S.out; omega); replace Mm := rs_ hc Mm (by have := S.out; omega); replace BK5 := bs_ hc BK5 (by have := S.out; omega); replace HB := hs_ hc HB (by have := S.out; omega); replace S := t_ hc S; clear HI; have HI := A_ hi; clear hi hB1 hk hc) | ((with_reducible refine gate_dst (N := 6) rfl ?_); refine bx_ 6 #[.int .i64 0, .int .i64 0, .int .i64 0] 63 ?_; intro g6 hg w' hbox hb; have hc := co_ hb; have F11 : g5 + 1 ≤ g6 := (by have := S.out; omega); clear hg; replace BK2 := bz_ hc BK2; replace BK3 := bz_ hc BK3; replace HI := iz_ hc HI; replace Mm := rz_ hc Mm; replace BK5 := bz_ hc BK5; replace HB := hz_ hc HB; replace S := t_ hc S; clear S; have S : Aside0 (g6 + 1 ≤ w'.heap.size) := A_ (blk_lt hbox); have BK6 := A_ hbox; clear hbox hb hc) | ((with_reducible refine gate_ (.store 63 (.tmp 6) (.tmp 12)) rfl ?_); refine ss_ 63 6 12 #[.int .i64 o0, .int .i64 o1, .int .i64 o2] BK6.out ?_; intro w' hbox hc; replace BK2 := bs_ hc BK2 (by have := S.out; omega); replace BK3 := bs_ hc BK3 (by have := S.out; omega); replace HI := is_ hc HI (by have := S.out; omega); replace Mm := rs_ hc Mm (by have := S.out; omega); replace BK5 := bs_ hc BK5 (by have := S.out; omega); replace HB := hs_ hc HB (by have := S.out; omega); replace S := t_ hc S; clear BK6; have BK6 := A_ hbox; clear hbox hc) | ((with_reducible refine gate_callee (f := 81) rfl ?_); (try (refine gate_guard (by rfl) ?_; dsimp only)); refine gL_ (some 14) Try.func81 #[.pointer (some ⟨gc, 0, none⟩), .int .i64 10] ?_; refine (spec_l1Once.calls gc lc s2 t2 10 false s3 t3 w _ HI.out HB.out Hb.out).mono ?_; rintro e w' ⟨rfl, hi, hB1, hk⟩; have hc := k_ch hk HB.out hB1; refine ⟨_, rfl, ?_⟩; replace BK2 := bs_ hc BK2 (by have := S.out; omega); replace BK3 := bs_ hc BK3 (by have := S.out; omega); replace Mm := rs_ hc Mm (by have := S.out; omega); replace BK5 := bs_ hc BK5 (by have := S.out; omega); replace BK6 := bs_ hc BK6 (by have := S.out; omega); replace HB := hs_ hc HB (by have := S.out; omega); replace S := t_ hc S; clear HI; have HI := A_ hi; clear hi hB1 hk hc))
  have hc := Ch.drew w'
  replace BK2 := bz_ hc BK2
  replace BK3 := bz_ hc BK3
  replace HI := iz_ hc HI
  replace Mm := rz_ hc Mm
  replace BK5 := bz_ hc BK5
  replace BK6 := bz_ hc BK6
  replace HB := hz_ hc HB
  replace S := t_ hc S
  clear hc
  refine start_ (n := 4) (S := fun w' => w'.heap[g5]? = some (.cells #[.slice Am_0 lm_0.length cm_0, .slice Am_1 lm_1.length cm_1, .bool bm_2, .bool bm_3, .bool bm_4, .bool bm_5, .slice Am_6 lm_6.length cm_6, .slice Am_7 lm_7.length cm_7, .int .i64 bm_8] 28 (0, 0)) ∧ w'.heap[g6]? = some (.cells #[.int .i64 o0, .int .i64 o1, .int .i64 o2] 63 (0, 0))) (ds := []) #[false, false, false, false] (by kernel_rfl) rfl rfl ⟨BK5.out, BK6.out⟩ (fun hHeld => ?_)
  generalize w'.drew = w' at BK2 BK3 HI Mm BK5 BK6 HB S hHeld ⊢
  refine take_ (i := 0) (N := some 18) (v := .agg #[.slice Am_0 lm_0.length cm_0, .slice Am_1 lm_1.length cm_1, .bool bm_2, .bool bm_3, .bool bm_4, .bool bm_5, .slice Am_6 lm_6.length cm_6, .slice Am_7 lm_7.length cm_7, .int .i64 bm_8]) (a' := ?_) #[true, false, false, false] rfl rfl (by kernel_rfl) (fun _ _ _ h => h) (Or.inl ⟨by rfl, ?_⟩) hHeld ?_ ?_
  · rintro w' ⟨s0, s1⟩
    exact load_yields 28 (.tmp 5) (by rfl) g5 (by rfl) 28 _ _ s0 Try.underlying28 rfl (by kernel_rfl)
  rotate_left
  · simp only [Act.put, List.setIfInBounds_toArray, List.set_cons_zero, List.set_cons_succ, i64_w, i32_w]
    rfl
  refine take_ (i := 1) (N := some 19) (v := .agg #[.int .i64 o0, .int .i64 o1, .int .i64 o2]) (a' := ?_) #[true, true, false, false] rfl rfl (by kernel_rfl) (fun _ _ _ h => h) (Or.inl ⟨by rfl, ?_⟩) hHeld ?_ ?_
  · rintro w' ⟨s0, s1⟩
    exact load_yields 63 (.tmp 6) (by rfl) g6 (by rfl) 63 _ _ s1 Try.underlying63 rfl (by kernel_rfl)
  rotate_left
  · simp only [Act.put, List.setIfInBounds_toArray, List.set_cons_zero, List.set_cons_succ, i64_w, i32_w]
    rfl
  refine one_ (i := 2) (N := none) #[true, true, true, false] rfl rfl (by kernel_rfl) (by decide) (fun K hK => ?_)
  refine store_struct_step (by rfl) rfl 28 (.tmp 2) (.tmp 18) rfl (cs := #[.slice Am_0 lm_0.length cm_0, .slice Am_1 lm_1.length cm_1, .bool bm_2, .bool bm_3, .bool bm_4, .bool bm_5, .slice Am_6 lm_6.length cm_6, .slice Am_7 lm_7.length cm_7, .int .i64 bm_8]) (by rfl) (by rfl) BK2.out (by kernel_rfl) rfl (by repeat (first | exact fun _ h => absurd h List.not_mem_nil | refine List.forall_mem_cons.2 ⟨rfl, ?_⟩)) ?_
  intro w' hbox hc
  replace BK3 := bs_ hc BK3 (by have := S.out; omega)
  replace HI := is_ hc HI (by have := S.out; omega)
  replace Mm := rs_ hc Mm (by have := S.out; omega)
  replace BK5 := bs_ hc BK5 (by have := S.out; omega)
  replace BK6 := bs_ hc BK6 (by have := S.out; omega)
  replace HB := hs_ hc HB (by have := S.out; omega)
  replace S := t_ hc S
  clear BK2
  have BK2 := A_ hbox
  clear hbox hc
  refine hK.out _ _ ⟨BK5.out, BK6.out⟩ (fun hHeld => ?_)
  clear hK K
  refine one_ (i := 3) (N := none) #[true, true, true, true] rfl rfl (by kernel_rfl) (by decide) (fun K hK => ?_)
  refine store_struct_step (by rfl) rfl 63 (.tmp 3) (.tmp 19) rfl (cs := #[.int .i64 o0, .int .i64 o1, .int .i64 o2]) (by rfl) (by rfl) BK3.out (by kernel_rfl) rfl (by repeat (first | exact fun _ h => absurd h List.not_mem_nil | refine List.forall_mem_cons.2 ⟨rfl, ?_⟩)) ?_
  intro w' hbox hc
  replace BK2 := bs_ hc BK2 (by have := S.out; omega)
  replace HI := is_ hc HI (by have := S.out; omega)
  replace Mm := rs_ hc Mm (by have := S.out; omega)
  replace BK5 := bs_ hc BK5 (by have := S.out; omega)
  replace BK6 := bs_ hc BK6 (by have := S.out; omega)
  replace HB := hs_ hc HB (by have := S.out; omega)
  replace S := t_ hc S
  clear BK3
  have BK3 := A_ hbox
  clear hbox hc
  refine hK.out _ _ ⟨BK5.out, BK6.out⟩ (fun hHeld => ?_)
  clear hK K
  refine done_ (by kernel_rfl) ?_
  go_wp2
  refine bodyPost_ret (results_list (rs := [.cell 2 28, .cell 3 63]) rfl (by simp) (.cell g2 28 #[.slice Am_0 lm_0.length cm_0, .slice Am_1 lm_1.length cm_1, .bool bm_2, .bool bm_3, .bool bm_4, .bool bm_5, .slice Am_6 lm_6.length cm_6, .slice Am_7 lm_7.length cm_7, .int .i64 bm_8] (0, 0) _ rfl BK2.out Try.underlying28 rfl (by kernel_rfl) (.cell g3 63 #[.int .i64 o0, .int .i64 o1, .int .i64 o2] (0, 0) _ rfl BK3.out Try.underlying63 rfl (by kernel_rfl) .nil))) rfl ?_
  exact ⟨Am_0, cm_0, Am_1, cm_1, Am_6, cm_6, Am_7, cm_7, lom, him, rfl, by omega, by omega, by have := S.out; omega, Mm.out, Ch.of_below HB.out⟩
set_option maxHeartbeats 32000000 in
set_option maxRecDepth 100000 in
theorem spec_DrawPlaceOf.p1 (k : Nat) (Ab : Option Addr) (cb : Nat) (lb lc : List Int) (s0 t0 s1 t1 s2 t2 s3 t3 s4 t4 x0 x1 x2 x3 x4 x5 x6 x7 : Int) (lm_0 : List Int) (lm_1 : List Int) (bm_2 : Bool) (bm_3 : Bool) (bm_4 : Bool) (bm_5 : Bool) (lm_6 : List Int) (lm_7 : List Int) (bm_8 : Int) (o0 o1 o2 : Int) (w : World) (hr : Kd.C (Kd.int .u8) w Ab lb.length lb) (hc : lb.length ≤ cb) (hn : spec_l1New.f k lb = some (lc, s0, t0)) (h5 : spec_l5Any.f k lc s0 t0 = some (lm_0, lm_1, bm_2, bm_3, bm_4, bm_5, lm_6, lm_7, bm_8, s1, t1)) (ho : spec_l3Opd.f lc s1 t1 = some (o0, o1, o2, s2, t2)) (hb : spec_l1Once.f lc s2 t2 10 = some (true, s3, t3)) (hx : spec_l3Any.f k lc s3 t3 = some (x0, x1, x2, x3, x4, x5, x6, x7, s4, t4)) :
    Calls Try.prog 52 #[.slice Ab lb.length cb] w fun e w' => ∃ Ar_0 cr_0 Ar_1 cr_1 Ar_6 cr_6 Ar_7 cr_7 lo hi, e = .returned (.tuple #[.agg #[.slice Ar_0 lm_0.length cr_0, .slice Ar_1 lm_1.length cr_1, .bool bm_2, .bool bm_3, .bool bm_4, .bool bm_5, .slice Ar_6 lm_6.length cr_6, .slice Ar_7 lm_7.length cr_7, .int .i64 bm_8], .agg #[.int .i64 x4, .int .i64 x5, .int .i64 x6]]) ∧ w.heap.size ≤ lo ∧ lo ≤ hi ∧ hi ≤ w'.heap.size ∧ R4 w' lo hi (.slice Ar_0 lm_0.length cr_0) (.slice Ar_1 lm_1.length cr_1) (.slice Ar_6 lm_6.length cr_6) (.slice Ar_7 lm_7.length cr_7) lm_0 lm_1 lm_6 lm_7 ∧ Ch w w' 0 0 := by
  have HR := A_ hr
  have HC := A_ hc
  clear hr hc
  have HB := A_ (Below.refl w.heap.size w)
  have S : Aside0 (w.heap.size ≤ w.heap.size) := A_ (Nat.le_refl _)
  have Hn := A_ hn
  have H5 := A_ h5
  have Ho := A_ ho
  have Hb := A_ hb
  have Hx := A_ hx
  clear hn h5 ho hb hx
  have hu98 := Try.underlying98
  have hu63 := Try.underlying63
  go_enter Try.func52, Try.ntmps52
  go_wp2_with (first | ((with_reducible refine gate_dst (N := 2) rfl ?_); refine bx_ 2 #[.slice none 0 0, .slice none 0 0, .bool false, .bool false, .bool false, .bool false, .slice none 0 0, .slice none 0 0, .int .i64 0] 28 ?_; intro g2 hg w' hbox hb; have hc := co_ hb; have F1 : w.heap.size ≤ g2 := (by have := S.out; omega); clear hg; replace HB := hz_ hc HB; replace S := t_ hc S; clear S; have S : Aside0 (g2 + 1 ≤ w'.heap.size) := A_ (blk_lt hbox); have BK2 := A_ hbox; clear hbox hb hc) | ((with_reducible refine gate_dst (N := 3) rfl ?_); refine bx_ 3 #[.int .i64 0, .int .i64 0, .int .i64 0] 63 ?_; intro g3 hg w' hbox hb; have hc := co_ hb; have F2 : g2 + 1 ≤ g3 := (by have := S.out; omega); clear hg; replace BK2 := bz_ hc BK2; replace HB := hz_ hc HB; replace S := t_ hc S; clear S; have S : Aside0 (g3 + 1 ≤ w'.heap.size) := A_ (blk_lt hbox); have BK3 := A_ hbox; clear hbox hb hc) | ((with_reducible refine gate_callee (f := 69) rfl ?_); (try (refine gate_guard (by rfl) ?_; dsimp only)); refine gL_ (some 8) Try.func69 #[.slice Ab lb.length cb] ?_; refine (spec_l1New.calls k Ab cb lb lc s0 t0 w _ HB.out HR.out HC.out Hn.out).mono ?_; rintro e w' ⟨gc, rfl, hi, hB1, hb⟩; have hc := co_ hb; refine ⟨_, rfl, ?_⟩; replace BK2 := bz_ hc BK2; replace BK3 := bz_ hc BK3; replace HB := hz_ hc HB; replace S := t_ hc S; have HI := A_ hi; clear hi hB1; have F3 : gc ≠ g2 := (IsS102.ne_blk HI.out BK2.out (by decide)); have F4 : gc ≠ g3 := (IsS102.ne_blk HI.out BK3.out (by decide)); obtain ⟨tp, htp_⟩ : ∃ q_, q_ = w'.heap.size := ⟨_, rfl⟩; have F5 : gc + 1 ≤ tp := (by have := IsS102.lt HI.out; omega); have F6 : w.heap.size ≤ gc := (IsS102.ge HI.out); have F7 : g3 + 1 ≤ tp := (by have := S.out; omega); clear S; have S : Aside0 (tp ≤ w'.heap.size) := A_ (by omega); clear hb hc htp_) | ((with_reducible refine gate_callee (f := 78) rfl ?_); (try (refine gate_guard (by rfl) ?_; dsimp only)); refine gL_ (some 10) Try.func78 #[.pointer (some ⟨gc, 0, none⟩)] ?_; obtain ⟨lom, hlo_⟩ : ∃ q_, q_ = w'.heap.size := ⟨_, rfl⟩; have F8 : tp ≤ lom := (by have := S.out; omega); refine (spec_l5Any.calls k gc lc s0 t0 lm_0 lm_1 bm_2 bm_3 bm_4 bm_5 lm_6 lm_7 bm_8 s1 t1 w _ HI.out HB.out H5.out).mono ?_; rintro e w' ⟨v0, v1, v6, v7, rfl, h0, h1, h6, h7, hi, hB1, hk⟩; obtain ⟨Am_0, cm_0, rfl⟩ := Kd.R_slice h0; obtain ⟨Am_1, cm_1, rfl⟩ := Kd.R_slice h1; obtain ⟨Am_6, cm_6, rfl⟩ := Kd.R_slice h6; obtain ⟨Am_7, cm_7, rfl⟩ := Kd.R_slice h7; have hc := k_ch hk HB.out hB1; have hR := R4_of h0 h1 h6 h7; refine ⟨_, rfl, ?_⟩; rw [← hlo_] at hR; obtain ⟨him, hhi_⟩ : ∃ q_, q_ = w'.heap.size := ⟨_, rfl⟩; rw [← hhi_] at hR; have F9 : lom ≤ him := (by have := hc.size; omega); replace BK2 := bs_ hc BK2 (by have := S.out; omega); replace BK3 := bs_ hc BK3 (by have := S.out; omega); replace HB := hs_ hc HB (by have := S.out; omega); replace S := t_ hc S; clear HI; have HI := A_ hi; clear hi hB1 hk S hc; have S : Aside0 (him ≤ w'.heap.size) := A_ (by omega); have Mm := A_ hR; clear hR hlo_ hhi_ h0 h1 h6 h7) | ((with_reducible refine gate_dst (N := 5) rfl ?_); refine bx_ 5 #[.slice none 0 0, .slice none 0 0, .bool false, .bool false, .bool false, .bool false, .slice none 0 0, .slice none 0 0, .int .i64 0] 28 ?_; intro g5 hg w' hbox hb; have hc := co_ hb; have F10 : him ≤ g5 := (by have := S.out; omega); clear hg; replace BK2 := bz_ hc BK2; replace BK3 := bz_ hc BK3; replace HI := iz_ hc HI; replace Mm := rz_ hc Mm; replace HB := hz_ hc HB; replace S := t_ hc S; clear S; have S : Aside0 (g5 + 1 ≤ w'.heap.size) := A_ (blk_lt hbox); have BK5 := A_ hbox; clear hbox hb hc) | ((with_reducible refine gate_ (.store 28 (.tmp 5) (.tmp 10)) rfl ?_); refine ss_ 28 5 10 #[.slice Am_0 lm_0.length cm_0, .slice Am_1 lm_1.length cm_1, .bool bm_2, .bool bm_3, .bool bm_4, .bool bm_5, .slice Am_6 lm_6.length cm_6, .slice Am_7 lm_7.length cm_7, .int .i64 bm_8] BK5.out ?_; intro w' hbox hc; replace BK2 := bs_ hc BK2 (by have := S.out; omega); replace BK3 := bs_ hc BK3 (by have := S.out; omega); replace HI := is_ hc HI (by have := S.out; omega); replace Mm := rs_ hc Mm (by have := S.out; omega); replace HB := hs_ hc HB (by have := S.out; omega); replace S := t_ hc S; clear BK5; have BK5 := A_ hbox; clear hbox hc) | ((with_reducible refine gate_callee (f := 82) rfl ?_); (try (refine gate_guard (by rfl) ?_; dsimp only)); refine gL_ (some 12) Try.func82 #[.pointer (some ⟨gc, 0, none⟩)] ?_; refine (spec_l3Opd.calls gc lc s1 t1 o0 o1 o2 s2 t2 w _ HI.out HB.out Ho.out).mono ?_; rintro e w' ⟨rfl, hi, hB1, hk⟩; have hc := k_ch hk HB.out hB1; refine ⟨_, rfl, ?_⟩; replace BK2 := bs_ hc BK2 (by have := S.out; omega); replace BK3 := bs_ hc BK3 (by have := S.out; omega); replace Mm := rs_ hc Mm (by have := S.out; omega); replace BK5 := bs_ hc BK5 (by have := S.out; omega); replace HB := hs_ hc HB (by have := S.out; omega); replace S := t_ hc S; clear HI; have HI := A_ hi; clear hi hB1 hk hc) | ((with_reducible refine gate_dst (N := 6) rfl ?_); refine bx_ 6 #[.int .i64 0, .int .i64 0, .int .i64 0] 63 ?_; intro g6 hg w' hbox hb; have hc := co_ hb; have F11 : g5 + 1 ≤ g6 := (by have := S.out; omega); clear hg; replace BK2 := bz_ hc BK2; replace BK3 := bz_ hc BK3; replace HI := iz_ hc HI; replace Mm := rz_ hc Mm; replace BK5 := bz_ hc BK5; replace HB := hz_ hc HB; replace S := t_ hc S; clear S; have S : Aside0 (g6 + 1 ≤ w'.heap.size) := A_ (blk_lt hbox); have BK6 := A_ hbox; clear hbox hb hc) | ((with_reducible refine gate_ (.store 63 (.tmp 6) (.tmp 12)) rfl ?_); refine ss_ 63 6 12 #[.int .i64 o0, .int .i64 o1, .int .i64 o2] BK6.out ?_; intro w' hbox hc; replace BK2 := bs_ hc BK2 (by have := S.out; omega); replace BK3 := bs_ hc BK3 (by have := S.out; omega); replace HI := is_ hc HI (by have := S.out; omega); replace Mm := rs_ hc Mm (by have := S.out; omega); replace BK5 := bs_ hc BK5 (by have := S.out; omega); replace HB := hs_ hc HB (by have := S.out; omega); replace S := t_ hc S; clear BK6; have BK6 := A_ hbox; clear hbox hc) | ((with_reducible refine gate_callee (f := 81) rfl ?_); (try (refine gate_guard (by rfl) ?_; dsimp only)); refine gL_ (some 14) Try.func81 #[.pointer (some ⟨gc, 0, none⟩), .int .i64 10] ?_; refine (spec_l1Once.calls gc lc s2 t2 10 true s3 t3 w _ HI.out HB.out Hb.out).mono ?_; rintro e w' ⟨rfl, hi, hB1, hk⟩; have hc := k_ch hk HB.out hB1; refine ⟨_, rfl, ?_⟩; replace BK2 := bs_ hc BK2 (by have := S.out; omega); replace BK3 := bs_ hc BK3 (by have := S.out; omega); replace Mm := rs_ hc Mm (by have := S.out; omega); replace BK5 := bs_ hc BK5 (by have := S.out; omega); replace BK6 := bs_ hc BK6 (by have := S.out; omega); replace HB := hs_ hc HB (by have := S.out; omega); replace S := t_ hc S; clear HI; have HI := A_ hi; clear hi hB1 hk hc) | ((with_reducible refine gate_callee (f := 83) rfl ?_); (try (refine gate_guard (by rfl) ?_; dsimp only)); refine gL_ (some 16) Try.func83 #[.pointer (some ⟨gc, 0, none⟩)] ?_; refine (spec_l3Any.calls k gc lc s3 t3 x0 x1 x2 x3 x4 x5 x6 x7 s4 t4 w _ HI.out HB.out Hx.out).mono ?_; rintro e w' ⟨rfl, hi, hB1, hk⟩; have hc := k_ch hk HB.out hB1; refine ⟨_, rfl, ?_⟩; replace BK2 := bs_ hc BK2 (by have := S.out; omega); replace BK3 := bs_ hc BK3 (by have := S.out; omega); replace Mm := rs_ hc Mm (by have := S.out; omega); replace BK5 := bs_ hc BK5 (by have := S.out; omega); replace BK6 := bs_ hc BK6 (by have := S.out; omega); replace HB := hs_ hc HB (by have := S.out; omega); replace S := t_ hc S; clear HI; have HI := A_ hi; clear hi hB1 hk hc) | ((with_reducible refine gate_ (.field 98 (.tmp 16) 2) rfl ?_); refine Kd.event_run (v := .agg #[.int .i64 x4, .int .i64 x5, .int .i64 x6]) (w1 := w') rfl (fld98_ x0 x1 x2 x3 x4 x5 x6 x7 rfl rfl) ?_) | ((with_reducible refine gate_ (.store 63 (.tmp 6) (.tmp 17)) rfl ?_); refine ss_ 63 6 17 #[.int .i64 x4, .int .i64 x5, .int .i64 x6] BK6.out ?_; intro w' hbox hc; replace BK2 := bs_ hc BK2 (by have := S.out; omega); replace BK3 := bs_ hc BK3 (by have := S.out; omega); replace HI := is_ hc HI (by have := S.out; omega); replace Mm := rs_ hc Mm (by have := S.out; omega); replace BK5 := bs_ hc BK5 (by have := S.out; omega); replace HB := hs_ hc HB (by have := S.out; omega); replace S := t_ hc S; clear BK6; have BK6 := A_ hbox; clear hbox hc))
  have hc := Ch.drew w'
  replace BK2 := bz_ hc BK2
  replace BK3 := bz_ hc BK3
  replace HI := iz_ hc HI
  replace Mm := rz_ hc Mm
  replace BK5 := bz_ hc BK5
  replace BK6 := bz_ hc BK6
  replace HB := hz_ hc HB
  replace S := t_ hc S
  clear hc
  refine start_ (n := 4) (S := fun w' => w'.heap[g5]? = some (.cells #[.slice Am_0 lm_0.length cm_0, .slice Am_1 lm_1.length cm_1, .bool bm_2, .bool bm_3, .bool bm_4, .bool bm_5, .slice Am_6 lm_6.length cm_6, .slice Am_7 lm_7.length cm_7, .int .i64 bm_8] 28 (0, 0)) ∧ w'.heap[g6]? = some (.cells #[.int .i64 x4, .int .i64 x5, .int .i64 x6] 63 (0, 0))) (ds := []) #[false, false, false, false] (by kernel_rfl) rfl rfl ⟨BK5.out, BK6.out⟩ (fun hHeld => ?_)
  generalize w'.drew = w' at BK2 BK3 HI Mm BK5 BK6 HB S hHeld ⊢
  refine take_ (i := 0) (N := some 18) (v := .agg #[.slice Am_0 lm_0.length cm_0, .slice Am_1 lm_1.length cm_1, .bool bm_2, .bool bm_3, .bool bm_4, .bool bm_5, .slice Am_6 lm_6.length cm_6, .slice Am_7 lm_7.length cm_7, .int .i64 bm_8]) (a' := ?_) #[true, false, false, false] rfl rfl (by kernel_rfl) (fun _ _ _ h => h) (Or.inl ⟨by rfl, ?_⟩) hHeld ?_ ?_
  · rintro w' ⟨s0, s1⟩
    exact load_yields 28 (.tmp 5) (by rfl) g5 (by rfl) 28 _ _ s0 Try.underlying28 rfl (by kernel_rfl)
  rotate_left
  · simp only [Act.put, List.setIfInBounds_toArray, List.set_cons_zero, List.set_cons_succ, i64_w, i32_w]
    rfl
  refine take_ (i := 1) (N := some 19) (v := .agg #[.int .i64 x4, .int .i64 x5, .int .i64 x6]) (a' := ?_) #[true, true, false, false] rfl rfl (by kernel_rfl) (fun _ _ _ h => h) (Or.inl ⟨by rfl, ?_⟩) hHeld ?_ ?_
  · rintro w' ⟨s0, s1⟩
    exact load_yields 63 (.tmp 6) (by rfl) g6 (by rfl) 63 _ _ s1 Try.underlying63 rfl (by kernel_rfl)
  rotate_left
  · simp only [Act.put, List.setIfInBounds_toArray, List.set_cons_zero, List.set_cons_succ, i64_w, i32_w]
    rfl
  refine one_ (i := 2) (N := none) #[true, true, true, false] rfl rfl (by kernel_rfl) (by decide) (fun K hK => ?_)
  refine store_struct_step (by rfl) rfl 28 (.tmp 2) (.tmp 18) rfl (cs := #[.slice Am_0 lm_0.length cm_0, .slice Am_1 lm_1.length cm_1, .bool bm_2, .bool bm_3, .bool bm_4, .bool bm_5, .slice Am_6 lm_6.length cm_6, .slice Am_7 lm_7.length cm_7, .int .i64 bm_8]) (by rfl) (by rfl) BK2.out (by kernel_rfl) rfl (by repeat (first | exact fun _ h => absurd h List.not_mem_nil | refine List.forall_mem_cons.2 ⟨rfl, ?_⟩)) ?_
  intro w' hbox hc
  replace BK3 := bs_ hc BK3 (by have := S.out; omega)
  replace HI := is_ hc HI (by have := S.out; omega)
  replace Mm := rs_ hc Mm (by have := S.out; omega)
  replace BK5 := bs_ hc BK5 (by have := S.out; omega)
  replace BK6 := bs_ hc BK6 (by have := S.out; omega)
  replace HB := hs_ hc HB (by have := S.out; omega)
  replace S := t_ hc S
  clear BK2
  have BK2 := A_ hbox
  clear hbox hc
  refine hK.out _ _ ⟨BK5.out, BK6.out⟩ (fun hHeld => ?_)
  clear hK K
  refine one_ (i := 3) (N := none) #[true, true, true, true] rfl rfl (by kernel_rfl) (by decide) (fun K hK => ?_)
  refine store_struct_step (by rfl) rfl 63 (.tmp 3) (.tmp 19) rfl (cs := #[.int .i64 x4, .int .i64 x5, .int .i64 x6]) (by rfl) (by rfl) BK3.out (by kernel_rfl) rfl (by repeat (first | exact fun _ h => absurd h List.not_mem_nil | refine List.forall_mem_cons.2 ⟨rfl, ?_⟩)) ?_
  intro w' hbox hc
  replace BK2 := bs_ hc BK2 (by have := S.out; omega)
  replace HI := is_ hc HI (by have := S.out; omega)
  replace Mm := rs_ hc Mm (by have := S.out; omega)
  replace BK5 := bs_ hc BK5 (by have := S.out; omega)
  replace BK6 := bs_ hc BK6 (by have := S.out; omega)
  replace HB := hs_ hc HB (by have := S.out; omega)
  replace S := t_ hc S
  clear BK3
  have BK3 := A_ hbox
  clear hbox hc
  refine hK.out _ _ ⟨BK5.out, BK6.out⟩ (fun hHeld => ?_)
  clear hK K
  refine done_ (by kernel_rfl) ?_
  go_wp2
  refine bodyPost_ret (results_list (rs := [.cell 2 28, .cell 3 63]) rfl (by simp) (.cell g2 28 #[.slice Am_0 lm_0.length cm_0, .slice Am_1 lm_1.length cm_1, .bool bm_2, .bool bm_3, .bool bm_4, .bool bm_5, .slice Am_6 lm_6.length cm_6, .slice Am_7 lm_7.length cm_7, .int .i64 bm_8] (0, 0) _ rfl BK2.out Try.underlying28 rfl (by kernel_rfl) (.cell g3 63 #[.int .i64 x4, .int .i64 x5, .int .i64 x6] (0, 0) _ rfl BK3.out Try.underlying63 rfl (by kernel_rfl) .nil))) rfl ?_
  exact ⟨Am_0, cm_0, Am_1, cm_1, Am_6, cm_6, Am_7, cm_7, lom, him, rfl, by omega, by omega, by have := S.out; omega, Mm.out, Ch.of_below HB.out⟩
theorem spec_DrawPlaceOf.made (k : Nat) (Ab : Option Addr) (cb : Nat) (lb : List Int) (lm_0 : List Int) (lm_1 : List Int) (bm_2 : Bool) (bm_3 : Bool) (bm_4 : Bool) (bm_5 : Bool) (lm_6 : List Int) (lm_7 : List Int) (bm_8 : Int) (o0 o1 o2 : Int) (w : World) (hr : Kd.C (Kd.int .u8) w Ab lb.length lb) (hc : lb.length ≤ cb) (h : spec_DrawPlaceOf.f k lb = some (lm_0, lm_1, bm_2, bm_3, bm_4, bm_5, lm_6, lm_7, bm_8, o0, o1, o2)) :
    Calls Try.prog 52 #[.slice Ab lb.length cb] w fun e w' => ∃ Ar_0 cr_0 Ar_1 cr_1 Ar_6 cr_6 Ar_7 cr_7 lo hi, e = .returned (.tuple #[.agg #[.slice Ar_0 lm_0.length cr_0, .slice Ar_1 lm_1.length cr_1, .bool bm_2, .bool bm_3, .bool bm_4, .bool bm_5, .slice Ar_6 lm_6.length cr_6, .slice Ar_7 lm_7.length cr_7, .int .i64 bm_8], .agg #[.int .i64 o0, .int .i64 o1, .int .i64 o2]]) ∧ w.heap.size ≤ lo ∧ lo ≤ hi ∧ hi ≤ w'.heap.size ∧ R4 w' lo hi (.slice Ar_0 lm_0.length cr_0) (.slice Ar_1 lm_1.length cr_1) (.slice Ar_6 lm_6.length cr_6) (.slice Ar_7 lm_7.length cr_7) lm_0 lm_1 lm_6 lm_7 ∧ Ch w w' 0 0 := by
  rw [spec_DrawPlaceOf.f] at h
  obtain ⟨⟨lc, s0, t0⟩, hn, h⟩ := Option.bind_eq_some_iff.mp h
  obtain ⟨⟨ld_0, ld_1, bd_2, bd_3, bd_4, bd_5, ld_6, ld_7, bd_8, s1, t1⟩, h5, h⟩ := Option.bind_eq_some_iff.mp h
  obtain ⟨⟨p0, p1, p2, s2, t2⟩, ho, h⟩ := Option.bind_eq_some_iff.mp h
  obtain ⟨⟨b, s3, t3⟩, hb, h⟩ := Option.bind_eq_some_iff.mp h
  dsimp only at h5 ho hb h
  cases b
  · rw [if_neg (by decide)] at h
    simp only [Option.some.injEq, Prod.mk.injEq] at h
    obtain ⟨rfl, rfl, rfl, rfl, rfl, rfl, rfl, rfl, rfl, rfl, rfl, rfl⟩ := h
    exact spec_DrawPlaceOf.p0 k Ab cb lb lc s0 t0 s1 t1 s2 t2 s3 t3 _ _ _ _ _ _ _ _ _ _ _ _ w hr hc hn h5 ho hb
  · rw [if_pos rfl] at h
    obtain ⟨⟨x0, x1, x2, x3, x4, x5, x6, x7, s4, t4⟩, hx, h⟩ := Option.bind_eq_some_iff.mp h
    simp only [Option.some.injEq, Prod.mk.injEq] at h
    obtain ⟨rfl, rfl, rfl, rfl, rfl, rfl, rfl, rfl, rfl, rfl, rfl, rfl⟩ := h
    exact spec_DrawPlaceOf.p1 k Ab cb lb lc s0 t0 s1 t1 s2 t2 s3 t3 s4 t4 x0 x1 x2 x3 x4 x5 x6 x7 _ _ _ _ _ _ _ _ _ _ _ _ w hr hc hn h5 ho hb hx
end Go.Proofs.Ytiagbfilffbljaa.PFnStored
