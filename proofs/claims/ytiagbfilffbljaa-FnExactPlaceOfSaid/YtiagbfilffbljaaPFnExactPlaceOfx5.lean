import Derived.Test.YtiagbfilffbljaaPFnExactPlaceOfx4
import Derived.Test.YtiagbfilffbljaaVGFnExactPlaceOf
namespace Go.Proofs.Ytiagbfilffbljaa.PFnExactPlaceOf
open Go.RowKit Go.Proofs.YtiagbfilffbljaaW.PrintWords Go.Proofs.YtiagbfilffbljaaW.PrintLast Go.Proofs.YtiagbfilffbljaaW.PrintMore Go.Proofs.Ytiagbfilffbljaa.Chg
set_option linter.unusedVariables false
set_option linter.unusedSimpArgs false
attribute [local go_sem] max2_int min2_int max_two min_two max_three min_three max_four min_four
def impl_fetch.f (l0 l1 : List Int) (a2 a3 a4 a5 : Bool) (l6 l7 : List Int) (a8 : Int) : Option (Int × Bool × List Int) := (impl_ReadW.f l0 l1 a2 a3 a4 a5 l6 l7 a8 (rd l1 7)).bind fun t => (impl_Wrap.f (wrap64 (rd l1 7 + 2))).bind fun u => some (t.1, t.2, l1.set 7 u)
section
open Kd
variable {P : Program} {ops : Array Oper} {a : Act} {Q : Exit → Act → World → Prop} {W : World}
theorem row_ptr {e base n : Nat} {ok : Nat → Prop} {v : Value} {xs : List Int} (h : (Kd.int .i64).R e W base ok v xs) (hn : xs.length = n) (hp : 0 < n) : ∃ g cap, v = .slice (some ⟨g, 0, none⟩) n cap ∧ base ≤ g ∧ n ≤ cap := by
  subst hn
  rcases (own_of_R h).2 with ⟨_, h0⟩ | ⟨g, cap, cur, hv, hb, hh, hnc, _⟩
  · omega
  · exact ⟨g, cap, hv, hb, hnc⟩
/-- a number stored into a row of one's own. -/
theorem store_row_step {oi : Oper} {K : Act → World → Prop} (hw : Region.wanted oi (yielded ops a.tmps) = true) (hN : oi.dst = none) (t : TypeId) (p x : Operand) (ho : oi.op = .store t p x) {e base n g j cap : Nat} {ok : Nat → Prop} {u : Int} {xs : List Int}
    (haddr : a.eval p = .pointer (some ⟨g, j, none⟩)) (hx : a.eval x = .int .i64 u) (ht : (P.info? t).map (·.size) = some 1) (HO : (Kd.int .i64).R e W base ok (.slice (some ⟨g, 0, none⟩) n cap) xs) (hj : j < n)
    (h : ∀ w1, (Kd.int .i64).R e w1 base ok (.slice (some ⟨g, 0, none⟩) n cap) (xs.set j u) → W.grownBy w1 (some g) → K a w1) : if Region.wanted oi (yielded ops a.tmps) = true then Oper.wp P oi a W K Q else K (a.put none undef) W := by
  have hnx : n = xs.length := (R_reads' HO).1
  subst hnx
  rcases (own_of_R HO).2 with ⟨hv, _⟩ | ⟨g', cap', cur, hv, hb, hh, hnc, hcm, hcs, _⟩
  · simp at hv
  obtain ⟨rfl, rfl⟩ : g = g' ∧ cap = cap' := by simpa using hv
  have hrun := run_store_run (P := P) (o := j) t (.int .i64 u) [.int .i64 u] hh rfl ht (by simp; omega) (by intro q hq; rw [List.mem_singleton.1 hq]; rfl)
  obtain ⟨h1, h2⟩ := R_put HO (j : Int) u
  refine skip_ hw hN ?_ (h _ h1 h2)
  unfold execOp
  simp only [ho, haddr, hx, Sem.run_bind, Sem.run_pure, Result.andThen_ok, hrun]
  rfl
end
theorem row_cell_ {e base n g cap : Nat} {ok : Nat → Prop} {xs : List Int} {w : World} (h : (Kd.int .i64).R e w base ok (.slice (some ⟨g, 0, none⟩) n cap) xs) (j : Nat) (hj : j < n) : w.cell? ⟨g, j, none⟩ = some (.int .i64 (rd xs (j : Int))) := by
  have hn := (Kd.R_reads' h).1
  subst hn
  have hR := Kd.reads_of_C (d := (0 : Int)) (Kd.R_reads' h).2.2
  obtain ⟨ad, hA, hc⟩ := hR.2.2 (by omega)
  obtain rfl : (⟨g, 0, none⟩ : Addr) = ad := by injection hA
  have := hc j hj
  rcases Nat.eq_zero_or_pos j with h0 | h0
  · subst h0; simpa [Addr.add, rd] using this
  · simpa [Addr.add, rd, Nat.ne_of_gt h0] using this
theorem gb_below {w w1 : World} {g : Nat} (h : Below w.drew.heap.size w.drew w1) : w.grownBy w1 (some g) := ⟨h.os, h.tape, h.output, h.size, fun k hk _ => h.block k hk⟩
theorem gb_drew {w w1 : World} {g : Nat} (h : w.grownBy w1 (some g)) : w.grownBy w1.drew (some g) := ⟨h.os, h.tape, h.output, h.size, h.block⟩
theorem gb_then {w w1 w2 : World} {g : Nat} (h : w.grownBy w1 (some g)) (b : Below w1.heap.size w1 w2) : w.grownBy w2 (some g) := ⟨b.os.trans h.os, b.tape.trans h.tape, b.output.trans h.output, Nat.le_trans h.size b.size, fun k hk hn => (b.block k (Nat.lt_of_lt_of_le hk h.size)).trans (h.block k hk hn)⟩
theorem gb_trans {w w1 w2 : World} {g : Nat} (h : w.grownBy w1 (some g)) (b : w1.grownBy w2 (some g)) : w.grownBy w2 (some g) := ⟨b.os.trans h.os, b.tape.trans h.tape, b.output.trans h.output, Nat.le_trans h.size b.size, fun k hk hn => (b.block k (Nat.lt_of_lt_of_le hk h.size) hn).trans (h.block k hk hn)⟩
noncomputable def f93T1 : Bool × List (List Nat × List Nat) := rtab .any (opsOf Try.f93 1)
noncomputable def f93T2 : Bool × List (List Nat × List Nat) := rtab .any (opsOf Try.f93 2)
theorem f93B2 : waitsOk f93T2.2 [0, 1, 3, 7, 0, 16, 48, 112, 240, 496, 1008, 2032, 4095, 8191] = true := by kernel_rfl
theorem f93B1 : waitsOk f93T1.2 [0, 1, 3, 0, 8, 24, 56, 120, 248, 511, 1023, 2047, 2047, 4095, 16383] = true := by kernel_rfl
set_option maxHeartbeats 8000000 in
set_option maxRecDepth 100000 in
theorem impl_fetch.calls (gb gR : Nat) (A0 : Option Addr) (c0 : Nat) (l0 : List Int) (cR : Nat) (l1 : List Int) (a2 a3 a4 a5 : Bool) (A6 : Option Addr) (c6 : Nat) (l6 : List Int) (A7 : Option Addr) (c7 : Nat) (l7 : List Int) (a8 : Int) (r1 : Int) (r2 : Bool) (r3 : List Int) (w : World)
  (hbox : w.heap[gb]? = some (.cells #[.slice A0 l0.length c0, .slice (some ⟨gR, 0, none⟩) 8 cR, .bool a2, .bool a3, .bool a4, .bool a5, .slice A6 l6.length c6, .slice A7 l7.length c7, .int .i64 a8] 28 (0, 0)))
  (base : Nat) (ok1 : Nat → Prop) (HO1 : (Kd.int .i64).R 3 w base ok1 (.slice (some ⟨gR, 0, none⟩) 8 cR) l1) (hne : gb ≠ gR) (hl : l1.length = 8)
  (hr0_0 : Kd.C (Kd.int .i64) w A0 l0.length l0) (hc0_0 : l0.length ≤ c0) (hr0_6 : Kd.C (Kd.int .i64) w A6 l6.length l6) (hc0_6 : l6.length ≤ c6) (hr0_7 : Kd.C (Kd.int .i64) w A7 l7.length l7) (hc0_7 : l7.length ≤ c7)
  (h : impl_fetch.f l0 l1 a2 a3 a4 a5 l6 l7 a8 = some (r1, r2, r3)) :
  Calls Try.prog 93 #[.pointer (some ⟨gb, 0, none⟩)] w fun e w' => e = .returned (.tuple #[.int .i64 r1, .bool r2]) ∧ (Kd.int .i64).R 3 w' base ok1 (.slice (some ⟨gR, 0, none⟩) 8 cR) r3 ∧ w.grownBy w' (some gR) := by
 obtain ⟨⟨t1, t2⟩, hR, h⟩ := Option.bind_eq_some_iff.mp h
 obtain ⟨u, hU, h⟩ := Option.bind_eq_some_iff.mp h
 simp only [Option.some.injEq, Prod.mk.injEq] at h
 obtain ⟨rfl, rfl, rfl⟩ := h
 go_enter Try.func93, Try.ntmps93
 go_wp2
 have hc7 : w.cell? ⟨gR, 7, none⟩ = some (.int .i64 (rd l1 7)) := row_cell_ HO1 7 (by omega)
 have HBX := A_ (blk_drew hbox)
 have HO := A_ (Kd.R_drew HO1)
 refine start_ (n := 15) (S := fun w' => w'.cell? ⟨gb, 0, none⟩ = some (.slice A0 l0.length c0) ∧ w'.cell? ⟨gb, 1, none⟩ = some (.slice (some ⟨gR, 0, none⟩) 8 cR) ∧ w'.cell? ⟨gb, 2, none⟩ = some (.bool a2) ∧ w'.cell? ⟨gb, 3, none⟩ = some (.bool a3) ∧ w'.cell? ⟨gb, 4, none⟩ = some (.bool a4) ∧ w'.cell? ⟨gb, 5, none⟩ = some (.bool a5) ∧ w'.cell? ⟨gb, 6, none⟩ = some (.slice A6 l6.length c6) ∧ w'.cell? ⟨gb, 7, none⟩ = some (.slice A7 l7.length c7) ∧ w'.cell? ⟨gb, 8, none⟩ = some (.int .i64 a8) ∧ w'.cell? ⟨gR, 7, none⟩ = some (.int .i64 (rd l1 7))) (ds := []) #[false, false, false, false, false, false, false, false, false, false, false, false, false, false, false] (by kernel_rfl) rfl rfl ⟨(blk_cell HBX.out 0).trans rfl, (blk_cell HBX.out 1).trans rfl, (blk_cell HBX.out 2).trans rfl, (blk_cell HBX.out 3).trans rfl, (blk_cell HBX.out 4).trans rfl, (blk_cell HBX.out 5).trans rfl, (blk_cell HBX.out 6).trans rfl, (blk_cell HBX.out 7).trans rfl, (blk_cell HBX.out 8).trans rfl, hc7⟩ (fun hHeld => ?_); refine with_tabW (T := f93T1) rfl f93B1 (fun HT_ HW_ => ?_)
 refine pu_ 0 (some 7) (bm_ 15 1) (any_of HT_.out (by kernel_rfl)) ?_
 refine pu_ 1 (some 8) (bm_ 15 3) (any_of HT_.out (by kernel_rfl)) ?_
 refine pu_ 3 (some 10) (bm_ 15 11) (any_of HT_.out (by kernel_rfl)) ?_
 refine pu_ 4 (some 11) (bm_ 15 27) (any_of HT_.out (by kernel_rfl)) ?_
 refine pu_ 5 (some 12) (bm_ 15 59) (any_of HT_.out (by kernel_rfl)) ?_
 refine take_ (i := 2) (N := some 9) (v := ?_) (a' := ?_) (bm_ 15 63) rfl rfl (take_ofW HT_.out HW_.out (by kernel_rfl)) (fun _ _ _ h => h) (Or.inl ⟨by rfl, ?_⟩) hHeld ?_ ?_
 rotate_left
 · rintro w' ⟨s0, s1, s2, s3, s4, s5, s6, s7, s8, s9⟩
   go_simp
   with_reducible rfl
 rotate_left
 · simp only [Act.put, List.setIfInBounds_toArray, List.set_cons_zero, List.set_cons_succ, i64_w, i32_w]
   rfl
 refine take_ (i := 6) (N := some 13) (v := ?_) (a' := ?_) (bm_ 15 127) rfl rfl (take_ofW HT_.out HW_.out (by kernel_rfl)) (fun _ _ _ h => h) (Or.inl ⟨by rfl, ?_⟩) hHeld ?_ ?_
 rotate_left
 · rintro w' ⟨s0, s1, s2, s3, s4, s5, s6, s7, s8, s9⟩
   go_simp
   with_reducible rfl
 rotate_left
 · simp only [Act.put, List.setIfInBounds_toArray, List.set_cons_zero, List.set_cons_succ, i64_w, i32_w]
   rfl
 refine pu_ 7 (some 14) (bm_ 15 255) (any_of HT_.out (by kernel_rfl)) ?_
 refine take_ (i := 8) (N := some 15) (v := ?_) (a' := ?_) (bm_ 15 511) rfl rfl (take_ofW HT_.out HW_.out (by kernel_rfl)) (fun _ _ _ h => h) (Or.inl ⟨by rfl, ?_⟩) hHeld ?_ ?_
 rotate_left
 · rintro w' ⟨s0, s1, s2, s3, s4, s5, s6, s7, s8, s9⟩
   go_simp
   with_reducible rfl
 rotate_left
 · simp only [Act.put, List.setIfInBounds_toArray, List.set_cons_zero, List.set_cons_succ, i64_w, i32_w]
   rfl
 refine one_ (i := 9) (N := some 16) (bm_ 15 1023) rfl rfl (one_of HT_.out (by kernel_rfl)) (by decide) (fun K hK => ?_)
 refine goes_ Try.func18 (by kernel_rfl) rfl #[.agg #[.slice A0 l0.length c0, .slice (some ⟨gR, 0, none⟩) 8 cR, .bool a2, .bool a3, .bool a4, .bool a5, .slice A6 l6.length c6, .slice A7 l7.length c7, .int .i64 a8], .int .i64 (rd l1 7)] (by rfl) rfl rfl d4_ ?_
 have hrd := impl_ReadW.calls A0 c0 l0 (some ⟨gR, 0, none⟩) cR l1 a2 a3 a4 a5 A6 c6 l6 A7 c7 l7 a8 (rd l1 7) t1 t2 w.drew (Kd.C_drew hr0_0) hc0_0 ((Kd.R_reads' HO.out).2.2) (by have h_ := (Kd.R_reads' HO.out).2.1; have h9_ := (Kd.R_reads' HO.out).1; omega) (Kd.C_drew hr0_6) hc0_6 (Kd.C_drew hr0_7) hc0_7 hR
 rw [hl] at hrd
 refine hrd.mono ?_
 clear hrd
 rintro e w1 ⟨rfl, hb⟩
 refine ⟨_, rfl, ?_⟩
 replace HO := A_ (Kd.R_below HO.out hb)
 replace HBX := A_ (blk_below HBX.out hb)
 have HG : Aside0 (w.grownBy w1 (some gR)) := A_ (gb_below hb)
 clear hb
 refine hK.out _ _ ⟨(blk_cell HBX.out 0).trans rfl, (blk_cell HBX.out 1).trans rfl, (blk_cell HBX.out 2).trans rfl, (blk_cell HBX.out 3).trans rfl, (blk_cell HBX.out 4).trans rfl, (blk_cell HBX.out 5).trans rfl, (blk_cell HBX.out 6).trans rfl, (blk_cell HBX.out 7).trans rfl, (blk_cell HBX.out 8).trans rfl, row_cell_ HO.out 7 (by omega)⟩ (fun hHeld => ?_)
 clear hK K
 refine norm_ (a' := ?_) ?_ ?_
 rotate_left
 · show Act.put _ (some 16) _ = _
   simp only [Act.put, List.setIfInBounds_toArray, List.set_cons_zero, List.set_cons_succ, i64_w, i32_w]
   rfl
 refine pu_ 10 (some 6) (bm_ 15 2047) (any_of HT_.out (by kernel_rfl)) ?_
 refine pu_ 11 (some 17) (bm_ 15 4095) (any_of HT_.out (by kernel_rfl)) ?_
 refine pu_ 12 (some 18) (bm_ 15 8191) (any_of HT_.out (by kernel_rfl)) ?_
 refine pu_ 13 (some 4) (bm_ 15 16383) (any_of HT_.out (by kernel_rfl)) ?_
 refine pu_ 14 (some 5) (bm_ 15 32767) (any_of HT_.out (by kernel_rfl)) ?_
 refine done_ (done_of HT_.out (by kernel_rfl)) ?_
 clear HT_ HW_ hHeld
 go_wp2
 replace HO := A_ (Kd.R_drew HO.out)
 replace HBX := A_ (blk_drew HBX.out)
 replace HG : Aside0 (w.grownBy w1.drew (some gR)) := A_ (gb_drew HG.out)
 refine start_ (n := 14) (S := fun w' => w'.cell? ⟨gb, 1, none⟩ = some (.slice (some ⟨gR, 0, none⟩) 8 cR) ∧ w'.cell? ⟨gR, 7, none⟩ = some (.int .i64 (rd l1 7))) (ds := [13]) #[false, false, false, false, false, false, false, false, false, false, false, false, false, false] (by kernel_rfl) rfl rfl ⟨(blk_cell HBX.out 1).trans rfl, row_cell_ HO.out 7 (by omega)⟩ (fun hHeld => ?_); refine with_tabW (T := f93T2) rfl f93B2 (fun HT_ HW_ => ?_)
 generalize w1.drew = w2 at HO HBX HG hHeld ⊢
 refine pu_ 0 (some 19) (bm_ 14 1) (any_of HT_.out (by kernel_rfl)) ?_
 refine pu_ 1 (some 20) (bm_ 14 3) (any_of HT_.out (by kernel_rfl)) ?_
 refine pu_ 2 (some 21) (bm_ 14 7) (any_of HT_.out (by kernel_rfl)) ?_
 refine pu_ 4 (some 23) (bm_ 14 23) (any_of HT_.out (by kernel_rfl)) ?_
 refine pu_ 5 (some 24) (bm_ 14 55) (any_of HT_.out (by kernel_rfl)) ?_
 refine pu_ 6 (some 25) (bm_ 14 119) (any_of HT_.out (by kernel_rfl)) ?_
 refine take_ (i := 3) (N := some 22) (v := ?_) (a' := ?_) (bm_ 14 127) rfl rfl (take_ofW HT_.out HW_.out (by kernel_rfl)) (fun _ _ _ h => h) (Or.inl ⟨by rfl, ?_⟩) hHeld ?_ ?_
 rotate_left
 · rintro w' ⟨s0, s1⟩
   go_simp
   with_reducible rfl
 rotate_left
 · simp only [Act.put, List.setIfInBounds_toArray, List.set_cons_zero, List.set_cons_succ, i64_w, i32_w]
   rfl
 refine take_ (i := 7) (N := some 26) (v := ?_) (a' := ?_) (bm_ 14 255) rfl rfl (take_ofW HT_.out HW_.out (by kernel_rfl)) (fun _ _ _ h => h) (Or.inl ⟨by rfl, ?_⟩) hHeld ?_ ?_
 rotate_left
 · rintro w' ⟨s0, s1⟩
   go_simp
   with_reducible rfl
 rotate_left
 · simp only [Act.put, List.setIfInBounds_toArray, List.set_cons_zero, List.set_cons_succ, i64_w, i32_w]
   rfl
 refine pu_ 8 (some 27) (bm_ 14 511) (any_of HT_.out (by kernel_rfl)) ?_
 refine take_ (i := 9) (N := some 28) (v := ?_) (a' := ?_) (bm_ 14 1023) rfl rfl (take_ofW HT_.out HW_.out (by kernel_rfl)) (fun _ _ _ h => h) (Or.inl ⟨by rfl, ?_⟩) hHeld ?_ ?_
 rotate_left
 · rintro w' ⟨s0, s1⟩
   go_simp
   with_reducible rfl
 rotate_left
 · simp only [Act.put, List.setIfInBounds_toArray, List.set_cons_zero, List.set_cons_succ, i64_w, i32_w]
   rfl
 refine pu_ 10 (some 29) (bm_ 14 2047) (any_of HT_.out (by kernel_rfl)) ?_
 refine one_ (i := 11) (N := some 30) (bm_ 14 4095) rfl rfl (one_of HT_.out (by kernel_rfl)) (by decide) (fun K hK => ?_)
 refine goes_ Try.func43 (by kernel_rfl) rfl #[.int .i64 (wrap64 (rd l1 7 + 2))] (by rfl) rfl rfl d4_ ?_
 refine (impl_Wrap.calls _ u _ hU).mono ?_
 rintro e w3 ⟨rfl, hb⟩
 refine ⟨_, rfl, ?_⟩
 replace HO := A_ (Kd.R_below HO.out hb.below)
 replace HBX := A_ (blk_below HBX.out hb.below)
 replace HG := A_ (gb_then HG.out hb.below)
 clear hb
 refine hK.out _ _ ⟨(blk_cell HBX.out 1).trans rfl, row_cell_ HO.out 7 (by omega)⟩ (fun hHeld => ?_)
 clear hK K
 refine norm_ (a' := ?_) ?_ ?_
 rotate_left
 · show Act.put _ (some 30) _ = _
   simp only [Act.put, List.setIfInBounds_toArray, List.set_cons_zero, List.set_cons_succ, i64_w, i32_w]
   rfl
 refine pu_ 12 (some 31) (bm_ 14 8191) (any_of HT_.out (by kernel_rfl)) ?_
 refine last_ (i := 13) (N := none) (bm_ 14 16383) rfl rfl (one_of HT_.out (by kernel_rfl)) (by decide) (fun K hK => ?_)
 refine store_row_step (by rfl) rfl 3 _ _ rfl (by rfl) (by rfl) (by rfl) HO.out (by omega : 7 < 8) (fun w4 h1 h2 => ?_)
 refine hK.out _ _ ?_
 clear hK K
 refine done_ (done_of HT_.out (by kernel_rfl)) ?_
 go_wp2
 go_ret2
 exact ⟨rfl, h1, gb_trans HG.out h2⟩
def spec_l6Fetch.f (l0 l1 : List Int) (a2 a3 a4 a5 : Bool) (l6 l7 : List Int) (a8 : Int) : Option (Int × Bool × List Int) := (spec_ReadW.f l0 l1 a2 a3 a4 a5 l6 l7 a8 (rd l1 7)).bind fun t => if t.2 = true then ((spec_Wrap.f (wrap64 (rd l1 7 + 2))).bind fun u => some (t.1, true, l1.set 7 u)) else some (0, false, l1)
noncomputable def f97T1 : Bool × List (List Nat × List Nat) := rtab .any (opsOf Try.f97 1)
noncomputable def f97T2 : Bool × List (List Nat × List Nat) := rtab .any (opsOf Try.f97 4)
theorem f97B2 : waitsOk f97T2.2 [0, 1, 3, 7, 0, 16, 48, 112, 240, 496, 1008, 2032, 4095, 8191] = true := by kernel_rfl
theorem f97B1 : waitsOk f97T1.2 [0, 1, 3, 0, 8, 24, 56, 120, 248, 511, 1023, 2047, 2047, 4095, 16383] = true := by kernel_rfl
set_option maxHeartbeats 8000000 in
set_option maxRecDepth 100000 in
theorem spec_l6Fetch.calls (gb gR : Nat) (A0 : Option Addr) (c0 : Nat) (l0 : List Int) (cR : Nat) (l1 : List Int) (a2 a3 a4 a5 : Bool) (A6 : Option Addr) (c6 : Nat) (l6 : List Int) (A7 : Option Addr) (c7 : Nat) (l7 : List Int) (a8 : Int) (r1 : Int) (r2 : Bool) (r3 : List Int) (w : World)
  (hbox : w.heap[gb]? = some (.cells #[.slice A0 l0.length c0, .slice (some ⟨gR, 0, none⟩) 8 cR, .bool a2, .bool a3, .bool a4, .bool a5, .slice A6 l6.length c6, .slice A7 l7.length c7, .int .i64 a8] 28 (0, 0)))
  (base : Nat) (ok1 : Nat → Prop) (HO1 : (Kd.int .i64).R 3 w base ok1 (.slice (some ⟨gR, 0, none⟩) 8 cR) l1) (hne : gb ≠ gR) (hl : l1.length = 8)
  (hr0_0 : Kd.C (Kd.int .i64) w A0 l0.length l0) (hc0_0 : l0.length ≤ c0) (hr0_6 : Kd.C (Kd.int .i64) w A6 l6.length l6) (hc0_6 : l6.length ≤ c6) (hr0_7 : Kd.C (Kd.int .i64) w A7 l7.length l7) (hc0_7 : l7.length ≤ c7)
  (h : spec_l6Fetch.f l0 l1 a2 a3 a4 a5 l6 l7 a8 = some (r1, r2, r3)) :
  Calls Try.prog 97 #[.pointer (some ⟨gb, 0, none⟩)] w fun e w' => e = .returned (.tuple #[.int .i64 r1, .bool r2]) ∧ (Kd.int .i64).R 3 w' base ok1 (.slice (some ⟨gR, 0, none⟩) 8 cR) r3 ∧ w.grownBy w' (some gR) := by
 obtain ⟨⟨t1, t2⟩, hR, h⟩ := Option.bind_eq_some_iff.mp h
 dsimp only at h
 go_enter Try.func97, Try.ntmps97
 go_wp2
 have hc7 : w.cell? ⟨gR, 7, none⟩ = some (.int .i64 (rd l1 7)) := row_cell_ HO1 7 (by omega)
 have HBX := A_ (blk_drew hbox)
 have HO := A_ (Kd.R_drew HO1)
 refine start_ (n := 15) (S := fun w' => w'.cell? ⟨gb, 0, none⟩ = some (.slice A0 l0.length c0) ∧ w'.cell? ⟨gb, 1, none⟩ = some (.slice (some ⟨gR, 0, none⟩) 8 cR) ∧ w'.cell? ⟨gb, 2, none⟩ = some (.bool a2) ∧ w'.cell? ⟨gb, 3, none⟩ = some (.bool a3) ∧ w'.cell? ⟨gb, 4, none⟩ = some (.bool a4) ∧ w'.cell? ⟨gb, 5, none⟩ = some (.bool a5) ∧ w'.cell? ⟨gb, 6, none⟩ = some (.slice A6 l6.length c6) ∧ w'.cell? ⟨gb, 7, none⟩ = some (.slice A7 l7.length c7) ∧ w'.cell? ⟨gb, 8, none⟩ = some (.int .i64 a8) ∧ w'.cell? ⟨gR, 7, none⟩ = some (.int .i64 (rd l1 7))) (ds := []) #[false, false, false, false, false, false, false, false, false, false, false, false, false, false, false] (by kernel_rfl) rfl rfl ⟨(blk_cell HBX.out 0).trans rfl, (blk_cell HBX.out 1).trans rfl, (blk_cell HBX.out 2).trans rfl, (blk_cell HBX.out 3).trans rfl, (blk_cell HBX.out 4).trans rfl, (blk_cell HBX.out 5).trans rfl, (blk_cell HBX.out 6).trans rfl, (blk_cell HBX.out 7).trans rfl, (blk_cell HBX.out 8).trans rfl, hc7⟩ (fun hHeld => ?_); refine with_tabW (T := f97T1) rfl f97B1 (fun HT_ HW_ => ?_)
 refine pu_ 0 (some 7) (bm_ 15 1) (any_of HT_.out (by kernel_rfl)) ?_
 refine pu_ 1 (some 8) (bm_ 15 3) (any_of HT_.out (by kernel_rfl)) ?_
 refine pu_ 3 (some 10) (bm_ 15 11) (any_of HT_.out (by kernel_rfl)) ?_
 refine pu_ 4 (some 11) (bm_ 15 27) (any_of HT_.out (by kernel_rfl)) ?_
 refine pu_ 5 (some 12) (bm_ 15 59) (any_of HT_.out (by kernel_rfl)) ?_
 refine take_ (i := 2) (N := some 9) (v := ?_) (a' := ?_) (bm_ 15 63) rfl rfl (take_ofW HT_.out HW_.out (by kernel_rfl)) (fun _ _ _ h => h) (Or.inl ⟨by rfl, ?_⟩) hHeld ?_ ?_
 rotate_left
 · rintro w' ⟨s0, s1, s2, s3, s4, s5, s6, s7, s8, s9⟩
   go_simp
   with_reducible rfl
 rotate_left
 · simp only [Act.put, List.setIfInBounds_toArray, List.set_cons_zero, List.set_cons_succ, i64_w, i32_w]
   rfl
 refine take_ (i := 6) (N := some 13) (v := ?_) (a' := ?_) (bm_ 15 127) rfl rfl (take_ofW HT_.out HW_.out (by kernel_rfl)) (fun _ _ _ h => h) (Or.inl ⟨by rfl, ?_⟩) hHeld ?_ ?_
 rotate_left
 · rintro w' ⟨s0, s1, s2, s3, s4, s5, s6, s7, s8, s9⟩
   go_simp
   with_reducible rfl
 rotate_left
 · simp only [Act.put, List.setIfInBounds_toArray, List.set_cons_zero, List.set_cons_succ, i64_w, i32_w]
   rfl
 refine pu_ 7 (some 14) (bm_ 15 255) (any_of HT_.out (by kernel_rfl)) ?_
 refine take_ (i := 8) (N := some 15) (v := ?_) (a' := ?_) (bm_ 15 511) rfl rfl (take_ofW HT_.out HW_.out (by kernel_rfl)) (fun _ _ _ h => h) (Or.inl ⟨by rfl, ?_⟩) hHeld ?_ ?_
 rotate_left
 · rintro w' ⟨s0, s1, s2, s3, s4, s5, s6, s7, s8, s9⟩
   go_simp
   with_reducible rfl
 rotate_left
 · simp only [Act.put, List.setIfInBounds_toArray, List.set_cons_zero, List.set_cons_succ, i64_w, i32_w]
   rfl
 refine one_ (i := 9) (N := some 16) (bm_ 15 1023) rfl rfl (one_of HT_.out (by kernel_rfl)) (by decide) (fun K hK => ?_)
 refine goes_ Try.func16 (by kernel_rfl) rfl #[.agg #[.slice A0 l0.length c0, .slice (some ⟨gR, 0, none⟩) 8 cR, .bool a2, .bool a3, .bool a4, .bool a5, .slice A6 l6.length c6, .slice A7 l7.length c7, .int .i64 a8], .int .i64 (rd l1 7)] (by rfl) rfl rfl d4_ ?_
 have hrd := spec_ReadW.calls A0 c0 l0 (some ⟨gR, 0, none⟩) cR l1 a2 a3 a4 a5 A6 c6 l6 A7 c7 l7 a8 (rd l1 7) t1 t2 w.drew (Kd.C_drew hr0_0) hc0_0 ((Kd.R_reads' HO.out).2.2) (by have h_ := (Kd.R_reads' HO.out).2.1; have h9_ := (Kd.R_reads' HO.out).1; omega) (Kd.C_drew hr0_6) hc0_6 (Kd.C_drew hr0_7) hc0_7 hR
 rw [hl] at hrd
 refine hrd.mono ?_
 clear hrd
 rintro e w1 ⟨rfl, hb⟩
 refine ⟨_, rfl, ?_⟩
 replace HO := A_ (Kd.R_below HO.out hb)
 replace HBX := A_ (blk_below HBX.out hb)
 have HG : Aside0 (w.grownBy w1 (some gR)) := A_ (gb_below hb)
 clear hb
 refine hK.out _ _ ⟨(blk_cell HBX.out 0).trans rfl, (blk_cell HBX.out 1).trans rfl, (blk_cell HBX.out 2).trans rfl, (blk_cell HBX.out 3).trans rfl, (blk_cell HBX.out 4).trans rfl, (blk_cell HBX.out 5).trans rfl, (blk_cell HBX.out 6).trans rfl, (blk_cell HBX.out 7).trans rfl, (blk_cell HBX.out 8).trans rfl, row_cell_ HO.out 7 (by omega)⟩ (fun hHeld => ?_)
 clear hK K
 refine norm_ (a' := ?_) ?_ ?_
 rotate_left
 · show Act.put _ (some 16) _ = _
   simp only [Act.put, List.setIfInBounds_toArray, List.set_cons_zero, List.set_cons_succ, i64_w, i32_w]
   rfl
 refine pu_ 10 (some 6) (bm_ 15 2047) (any_of HT_.out (by kernel_rfl)) ?_
 refine pu_ 11 (some 17) (bm_ 15 4095) (any_of HT_.out (by kernel_rfl)) ?_
 refine pu_ 12 (some 18) (bm_ 15 8191) (any_of HT_.out (by kernel_rfl)) ?_
 refine pu_ 13 (some 4) (bm_ 15 16383) (any_of HT_.out (by kernel_rfl)) ?_
 refine pu_ 14 (some 5) (bm_ 15 32767) (any_of HT_.out (by kernel_rfl)) ?_
 refine done_ (done_of HT_.out (by kernel_rfl)) ?_
 clear HT_ HW_ hHeld
 cases t2
 · rw [if_neg (by decide)] at h
   simp only [Option.some.injEq, Prod.mk.injEq] at h
   obtain ⟨rfl, rfl, rfl⟩ := h
   go_wp2
   go_ret2
   exact ⟨rfl, HO.out, HG.out⟩
 · rw [if_pos rfl] at h
   obtain ⟨u, hU, h⟩ := Option.bind_eq_some_iff.mp h
   simp only [Option.some.injEq, Prod.mk.injEq] at h
   obtain ⟨rfl, rfl, rfl⟩ := h
   go_wp2
   replace HO := A_ (Kd.R_drew HO.out)
   replace HBX := A_ (blk_drew HBX.out)
   replace HG : Aside0 (w.grownBy w1.drew (some gR)) := A_ (gb_drew HG.out)
   refine start_ (n := 14) (S := fun w' => w'.cell? ⟨gb, 1, none⟩ = some (.slice (some ⟨gR, 0, none⟩) 8 cR) ∧ w'.cell? ⟨gR, 7, none⟩ = some (.int .i64 (rd l1 7))) (ds := [13]) #[false, false, false, false, false, false, false, false, false, false, false, false, false, false] (by kernel_rfl) rfl rfl ⟨(blk_cell HBX.out 1).trans rfl, row_cell_ HO.out 7 (by omega)⟩ (fun hHeld => ?_); refine with_tabW (T := f97T2) rfl f97B2 (fun HT_ HW_ => ?_)
   generalize w1.drew = w2 at HO HBX HG hHeld ⊢
   refine pu_ 0 (some 21) (bm_ 14 1) (any_of HT_.out (by kernel_rfl)) ?_
   refine pu_ 1 (some 22) (bm_ 14 3) (any_of HT_.out (by kernel_rfl)) ?_
   refine pu_ 2 (some 23) (bm_ 14 7) (any_of HT_.out (by kernel_rfl)) ?_
   refine pu_ 4 (some 25) (bm_ 14 23) (any_of HT_.out (by kernel_rfl)) ?_
   refine pu_ 5 (some 26) (bm_ 14 55) (any_of HT_.out (by kernel_rfl)) ?_
   refine pu_ 6 (some 27) (bm_ 14 119) (any_of HT_.out (by kernel_rfl)) ?_
   refine take_ (i := 3) (N := some 24) (v := ?_) (a' := ?_) (bm_ 14 127) rfl rfl (take_ofW HT_.out HW_.out (by kernel_rfl)) (fun _ _ _ h => h) (Or.inl ⟨by rfl, ?_⟩) hHeld ?_ ?_
   rotate_left
   · rintro w' ⟨s0, s1⟩
     go_simp
     with_reducible rfl
   rotate_left
   · simp only [Act.put, List.setIfInBounds_toArray, List.set_cons_zero, List.set_cons_succ, i64_w, i32_w]
     rfl
   refine take_ (i := 7) (N := some 28) (v := ?_) (a' := ?_) (bm_ 14 255) rfl rfl (take_ofW HT_.out HW_.out (by kernel_rfl)) (fun _ _ _ h => h) (Or.inl ⟨by rfl, ?_⟩) hHeld ?_ ?_
   rotate_left
   · rintro w' ⟨s0, s1⟩
     go_simp
     with_reducible rfl
   rotate_left
   · simp only [Act.put, List.setIfInBounds_toArray, List.set_cons_zero, List.set_cons_succ, i64_w, i32_w]
     rfl
   refine pu_ 8 (some 29) (bm_ 14 511) (any_of HT_.out (by kernel_rfl)) ?_
   refine take_ (i := 9) (N := some 30) (v := ?_) (a' := ?_) (bm_ 14 1023) rfl rfl (take_ofW HT_.out HW_.out (by kernel_rfl)) (fun _ _ _ h => h) (Or.inl ⟨by rfl, ?_⟩) hHeld ?_ ?_
   rotate_left
   · rintro w' ⟨s0, s1⟩
     go_simp
     with_reducible rfl
   rotate_left
   · simp only [Act.put, List.setIfInBounds_toArray, List.set_cons_zero, List.set_cons_succ, i64_w, i32_w]
     rfl
   refine pu_ 10 (some 31) (bm_ 14 2047) (any_of HT_.out (by kernel_rfl)) ?_
   refine one_ (i := 11) (N := some 32) (bm_ 14 4095) rfl rfl (one_of HT_.out (by kernel_rfl)) (by decide) (fun K hK => ?_)
   refine goes_ Try.func67 (by kernel_rfl) rfl #[.int .i64 (wrap64 (rd l1 7 + 2))] (by rfl) rfl rfl d4_ ?_
   refine (spec_Wrap.calls _ u _ hU).mono ?_
   rintro e w3 ⟨rfl, hb⟩
   refine ⟨_, rfl, ?_⟩
   replace HO := A_ (Kd.R_below HO.out hb.below)
   replace HBX := A_ (blk_below HBX.out hb.below)
   replace HG := A_ (gb_then HG.out hb.below)
   clear hb
   refine hK.out _ _ ⟨(blk_cell HBX.out 1).trans rfl, row_cell_ HO.out 7 (by omega)⟩ (fun hHeld => ?_)
   clear hK K
   refine norm_ (a' := ?_) ?_ ?_
   rotate_left
   · show Act.put _ (some 32) _ = _
     simp only [Act.put, List.setIfInBounds_toArray, List.set_cons_zero, List.set_cons_succ, i64_w, i32_w]
     rfl
   refine pu_ 12 (some 33) (bm_ 14 8191) (any_of HT_.out (by kernel_rfl)) ?_
   refine last_ (i := 13) (N := none) (bm_ 14 16383) rfl rfl (one_of HT_.out (by kernel_rfl)) (by decide) (fun K hK => ?_)
   refine store_row_step (by rfl) rfl 3 _ _ rfl (by rfl) (by rfl) (by rfl) HO.out (by omega : 7 < 8) (fun w4 h1 h2 => ?_)
   refine hK.out _ _ ?_
   clear hK K
   refine done_ (done_of HT_.out (by kernel_rfl)) ?_
   go_wp2
   go_ret2
   exact ⟨rfl, h1, gb_trans HG.out h2⟩
theorem row_cell_r {e base g cap : Nat} {ok : Nat → Prop} {xs : List Int} {w : World} (h : (Kd.int .i64).R e w base ok (.slice (some ⟨g, 0, none⟩) 8 cap) xs) (r : Int) (h0 : 0 ≤ r) (h1 : r < 8) : w.cell? ⟨g, r.toNat, none⟩ = some (.int .i64 (rd xs r)) := by
  have := row_cell_ h r.toNat (by omega)
  rwa [Int.toNat_of_nonneg h0] at this
noncomputable def f90T3 : Bool × List (List Nat × List Nat) := rtab .any (opsOf Try.f90 3)
theorem f90B3 : waitsOk f90T3.2 [0, 1, 3, 7, 0, 16, 63, 127, 255, 511] = true := by kernel_rfl
set_option maxHeartbeats 8000000 in
set_option maxRecDepth 100000 in
theorem spec_l6At.calls1 (gb gR : Nat) (A0 : Option Addr) (c0 : Nat) (l0 : List Int) (cR : Nat) (l1 : List Int) (a2 a3 a4 a5 : Bool) (A6 : Option Addr) (c6 : Nat) (l6 : List Int) (A7 : Option Addr) (c7 : Nat) (l7 : List Int) (a8 : Int) (r x : Int) (hq0 : 0 ≤ r) (hq1 : r < 8) (w : World)
  (hbox : w.heap[gb]? = some (.cells #[.slice A0 l0.length c0, .slice (some ⟨gR, 0, none⟩) 8 cR, .bool a2, .bool a3, .bool a4, .bool a5, .slice A6 l6.length c6, .slice A7 l7.length c7, .int .i64 a8] 28 (0, 0)))
  (base : Nat) (ok1 : Nat → Prop) (HO1 : (Kd.int .i64).R 3 w base ok1 (.slice (some ⟨gR, 0, none⟩) 8 cR) l1) (hne : gb ≠ gR) (hl : l1.length = 8) :
  Calls Try.prog 90 #[.pointer (some ⟨gb, 0, none⟩), .agg #[.int .i64 1, .int .i64 r, .int .i64 x]] w fun e w' => e = .returned (.tuple #[.int .i64 (rd l1 r), .bool true]) ∧ (Kd.int .i64).R 3 w' base ok1 (.slice (some ⟨gR, 0, none⟩) 8 cR) l1 ∧ w.grownBy w' (some gR) := by
 have HO := A_ HO1
 have HBX := A_ hbox
 have HG : Aside0 (w.grownBy w (some gR)) := A_ (World.grownBy.refl w _)
 have q0_ := decide_eq_true hq0
 have q1_ := decide_eq_true hq1
 go_enter Try.func90, Try.ntmps90
 go_wp2_with (first | ((with_reducible refine gate_dst (N := 3) rfl ?_); refine bx_ 3 #[.int .i64 1, .int .i64 r, .int .i64 x] 63 ?_; intro go hgo w1 hbo hb; have n0_ := A_ (Kd.R_below HO.out hb); have n1_ := A_ (blk_below HBX.out hb); have n2_ := A_ (gb_then HG.out hb); have n3_ := A_ hbo; clear HO HBX HG; have HO := n0_; have HBX := n1_; have HG := n2_; have HBO := n3_; have y0 : w1.cell? ⟨go, 0, none⟩ = some (.int .i64 1) := (blk_cell hbo 0).trans rfl; clear n0_ n1_ n2_ n3_ hb hbo hgo))
 replace HO := A_ (Kd.R_drew HO.out)
 replace HBX := A_ (blk_drew HBX.out)
 replace HBO := A_ (blk_drew HBO.out)
 replace HG := A_ (gb_drew HG.out)
 refine start_ (n := 10) (S := fun w' => w'.cell? ⟨gb, 1, none⟩ = some (.slice (some ⟨gR, 0, none⟩) 8 cR) ∧ w'.cell? ⟨go, 1, none⟩ = some (.int .i64 r) ∧ w'.cell? ⟨gR, r.toNat, none⟩ = some (.int .i64 (rd l1 r))) (ds := []) #[false, false, false, false, false, false, false, false, false, false] (by kernel_rfl) rfl rfl ⟨(blk_cell HBX.out 1).trans rfl, (blk_cell HBO.out 1).trans rfl, row_cell_r HO.out r hq0 hq1⟩ (fun hHeld => ?_); refine with_tabW (T := f90T3) rfl f90B3 (fun HT_ HW_ => ?_)
 generalize w1.drew = w1' at HO HBX HBO HG hHeld ⊢
 refine pu_ 0 (some 13) (bm_ 10 1) (any_of HT_.out (by kernel_rfl)) ?_
 refine pu_ 1 (some 14) (bm_ 10 3) (any_of HT_.out (by kernel_rfl)) ?_
 refine pu_ 2 (some 15) (bm_ 10 7) (any_of HT_.out (by kernel_rfl)) ?_
 refine pu_ 4 (some 17) (bm_ 10 23) (any_of HT_.out (by kernel_rfl)) ?_
 refine take_ (i := 3) (N := some 16) (v := ?_) (a' := ?_) (bm_ 10 31) rfl rfl (take_ofW HT_.out HW_.out (by kernel_rfl)) (fun _ _ _ h => h) (Or.inl ⟨by rfl, ?_⟩) hHeld ?_ ?_
 rotate_left
 · rintro w' ⟨s0, s1, s2⟩
   go_simp
   with_reducible rfl
 rotate_left
 · simp only [Act.put, List.setIfInBounds_toArray, List.set_cons_zero, List.set_cons_succ, i64_w, i32_w]
   rfl
 refine take_ (i := 5) (N := some 18) (v := ?_) (a' := ?_) (bm_ 10 63) rfl rfl (take_ofW HT_.out HW_.out (by kernel_rfl)) (fun _ _ _ h => h) (Or.inl ⟨by rfl, ?_⟩) hHeld ?_ ?_
 rotate_left
 · rintro w' ⟨s0, s1, s2⟩
   go_simp
   with_reducible rfl
 rotate_left
 · simp only [Act.put, List.setIfInBounds_toArray, List.set_cons_zero, List.set_cons_succ, i64_w, i32_w]
   rfl
 refine pu_ 6 (some 19) (bm_ 10 127) (any_of HT_.out (by kernel_rfl)) ?_
 refine take_ (i := 7) (N := some 20) (v := ?_) (a' := ?_) (bm_ 10 255) rfl rfl (take_ofW HT_.out HW_.out (by kernel_rfl)) (fun _ _ _ h => h) (Or.inl ⟨by rfl, ?_⟩) hHeld ?_ ?_
 rotate_left
 · rintro w' ⟨s0, s1, s2⟩
   go_simp
   with_reducible rfl
 rotate_left
 · simp only [Act.put, List.setIfInBounds_toArray, List.set_cons_zero, List.set_cons_succ, i64_w, i32_w]
   rfl
 refine pu_ 8 (some 4) (bm_ 10 511) (any_of HT_.out (by kernel_rfl)) ?_
 refine pu_ 9 (some 5) (bm_ 10 1023) (any_of HT_.out (by kernel_rfl)) ?_
 refine done_ (done_of HT_.out (by kernel_rfl)) ?_
 clear HT_ HW_ hHeld
 go_wp2
 go_ret2
 exact ⟨rfl, HO.out, HG.out⟩
noncomputable def f90T6 : Bool × List (List Nat × List Nat) := rtab .any (opsOf Try.f90 6)
theorem f90B6 : waitsOk f90T6.2 [0, 1, 3, 7, 0, 16, 63, 127, 255] = true := by kernel_rfl
noncomputable def f90T7 : Bool × List (List Nat × List Nat) := rtab .any (opsOf Try.f90 7)
theorem f90B7 : waitsOk f90T7.2 [0, 1, 3, 7, 0, 16, 0, 64, 192, 511, 1023] = true := by kernel_rfl
set_option maxHeartbeats 8000000 in
set_option maxRecDepth 100000 in
theorem spec_l6At.calls2 (gb gR : Nat) (A0 : Option Addr) (c0 : Nat) (l0 : List Int) (cR : Nat) (l1 : List Int) (a2 a3 a4 a5 : Bool) (A6 : Option Addr) (c6 : Nat) (l6 : List Int) (A7 : Option Addr) (c7 : Nat) (l7 : List Int) (a8 : Int) (r x : Int) (hq0 : 0 ≤ r) (hq1 : r < 8) (w : World)
  (hbox : w.heap[gb]? = some (.cells #[.slice A0 l0.length c0, .slice (some ⟨gR, 0, none⟩) 8 cR, .bool a2, .bool a3, .bool a4, .bool a5, .slice A6 l6.length c6, .slice A7 l7.length c7, .int .i64 a8] 28 (0, 0)))
  (base : Nat) (ok1 : Nat → Prop) (HO1 : (Kd.int .i64).R 3 w base ok1 (.slice (some ⟨gR, 0, none⟩) 8 cR) l1) (hne : gb ≠ gR) (hl : l1.length = 8) (u : Int) (hU : spec_Wrap.f (wrap64 (rd l1 r + 2)) = some u) :
  Calls Try.prog 90 #[.pointer (some ⟨gb, 0, none⟩), .agg #[.int .i64 2, .int .i64 r, .int .i64 x]] w fun e w' => e = .returned (.tuple #[.int .i64 (rd l1 r), .bool true]) ∧ (Kd.int .i64).R 3 w' base ok1 (.slice (some ⟨gR, 0, none⟩) 8 cR) (l1.set r.toNat u) ∧ w.grownBy w' (some gR) := by
 have HO := A_ HO1
 have HBX := A_ hbox
 have HG : Aside0 (w.grownBy w (some gR)) := A_ (World.grownBy.refl w _)
 have q0_ := decide_eq_true hq0
 have q1_ := decide_eq_true hq1
 go_enter Try.func90, Try.ntmps90
 go_wp2_with (first | ((with_reducible refine gate_dst (N := 3) rfl ?_); refine bx_ 3 #[.int .i64 2, .int .i64 r, .int .i64 x] 63 ?_; intro go hgo w1 hbo hb; have n0_ := A_ (Kd.R_below HO.out hb); have n1_ := A_ (blk_below HBX.out hb); have n2_ := A_ (gb_then HG.out hb); have n3_ := A_ hbo; clear HO HBX HG; have HO := n0_; have HBX := n1_; have HG := n2_; have HBO := n3_; have y0 : w1.cell? ⟨go, 0, none⟩ = some (.int .i64 2) := (blk_cell hbo 0).trans rfl; clear n0_ n1_ n2_ n3_ hb hbo hgo))
 replace HO := A_ (Kd.R_drew HO.out)
 replace HBX := A_ (blk_drew HBX.out)
 replace HBO := A_ (blk_drew HBO.out)
 replace HG := A_ (gb_drew HG.out)
 refine start_ (n := 9) (S := fun w' => w'.cell? ⟨gb, 1, none⟩ = some (.slice (some ⟨gR, 0, none⟩) 8 cR) ∧ w'.cell? ⟨go, 1, none⟩ = some (.int .i64 r) ∧ w'.cell? ⟨gR, r.toNat, none⟩ = some (.int .i64 (rd l1 r))) (ds := []) #[false, false, false, false, false, false, false, false, false] (by kernel_rfl) rfl rfl ⟨(blk_cell HBX.out 1).trans rfl, (blk_cell HBO.out 1).trans rfl, row_cell_r HO.out r hq0 hq1⟩ (fun hHeld => ?_); refine with_tabW (T := f90T6) rfl f90B6 (fun HT_ HW_ => ?_)
 generalize w1.drew = w1' at HO HBX HBO HG hHeld ⊢
 refine pu_ 0 (some 24) (bm_ 9 1) (any_of HT_.out (by kernel_rfl)) ?_
 refine pu_ 1 (some 25) (bm_ 9 3) (any_of HT_.out (by kernel_rfl)) ?_
 refine pu_ 2 (some 26) (bm_ 9 7) (any_of HT_.out (by kernel_rfl)) ?_
 refine pu_ 4 (some 28) (bm_ 9 23) (any_of HT_.out (by kernel_rfl)) ?_
 refine take_ (i := 3) (N := some 27) (v := ?_) (a' := ?_) (bm_ 9 31) rfl rfl (take_ofW HT_.out HW_.out (by kernel_rfl)) (fun _ _ _ h => h) (Or.inl ⟨by rfl, ?_⟩) hHeld ?_ ?_
 rotate_left
 · rintro w' ⟨s0, s1, s2⟩
   go_simp
   with_reducible rfl
 rotate_left
 · simp only [Act.put, List.setIfInBounds_toArray, List.set_cons_zero, List.set_cons_succ, i64_w, i32_w]
   rfl
 refine take_ (i := 5) (N := some 29) (v := ?_) (a' := ?_) (bm_ 9 63) rfl rfl (take_ofW HT_.out HW_.out (by kernel_rfl)) (fun _ _ _ h => h) (Or.inl ⟨by rfl, ?_⟩) hHeld ?_ ?_
 rotate_left
 · rintro w' ⟨s0, s1, s2⟩
   go_simp
   with_reducible rfl
 rotate_left
 · simp only [Act.put, List.setIfInBounds_toArray, List.set_cons_zero, List.set_cons_succ, i64_w, i32_w]
   rfl
 refine pu_ 6 (some 30) (bm_ 9 127) (any_of HT_.out (by kernel_rfl)) ?_
 refine take_ (i := 7) (N := some 31) (v := ?_) (a' := ?_) (bm_ 9 255) rfl rfl (take_ofW HT_.out HW_.out (by kernel_rfl)) (fun _ _ _ h => h) (Or.inl ⟨by rfl, ?_⟩) hHeld ?_ ?_
 rotate_left
 · rintro w' ⟨s0, s1, s2⟩
   go_simp
   with_reducible rfl
 rotate_left
 · simp only [Act.put, List.setIfInBounds_toArray, List.set_cons_zero, List.set_cons_succ, i64_w, i32_w]
   rfl
 refine pu_ 8 (some 6) (bm_ 9 511) (any_of HT_.out (by kernel_rfl)) ?_
 refine done_ (done_of HT_.out (by kernel_rfl)) ?_
 clear HT_ HW_ hHeld
 go_wp2
 replace HO := A_ (Kd.R_drew HO.out)
 replace HBX := A_ (blk_drew HBX.out)
 replace HBO := A_ (blk_drew HBO.out)
 replace HG := A_ (gb_drew HG.out)
 refine start_ (n := 11) (S := fun w' => w'.cell? ⟨gb, 1, none⟩ = some (.slice (some ⟨gR, 0, none⟩) 8 cR) ∧ w'.cell? ⟨go, 1, none⟩ = some (.int .i64 r) ∧ w'.cell? ⟨gR, r.toNat, none⟩ = some (.int .i64 (rd l1 r))) (ds := [10]) #[false, false, false, false, false, false, false, false, false, false, false] (by kernel_rfl) rfl rfl ⟨(blk_cell HBX.out 1).trans rfl, (blk_cell HBO.out 1).trans rfl, row_cell_r HO.out r hq0 hq1⟩ (fun hHeld => ?_); refine with_tabW (T := f90T7) rfl f90B7 (fun HT_ HW_ => ?_)
 generalize w1'.drew = w1'' at HO HBX HBO HG hHeld ⊢
 refine pu_ 0 (some 32) (bm_ 11 1) (any_of HT_.out (by kernel_rfl)) ?_
 refine pu_ 1 (some 33) (bm_ 11 3) (any_of HT_.out (by kernel_rfl)) ?_
 refine pu_ 2 (some 34) (bm_ 11 7) (any_of HT_.out (by kernel_rfl)) ?_
 refine pu_ 4 (some 36) (bm_ 11 23) (any_of HT_.out (by kernel_rfl)) ?_
 refine pu_ 6 (some 38) (bm_ 11 87) (any_of HT_.out (by kernel_rfl)) ?_
 refine pu_ 7 (some 39) (bm_ 11 215) (any_of HT_.out (by kernel_rfl)) ?_
 refine take_ (i := 3) (N := some 35) (v := ?_) (a' := ?_) (bm_ 11 223) rfl rfl (take_ofW HT_.out HW_.out (by kernel_rfl)) (fun _ _ _ h => h) (Or.inl ⟨by rfl, ?_⟩) hHeld ?_ ?_
 rotate_left
 · rintro w' ⟨s0, s1, s2⟩
   go_simp
   with_reducible rfl
 rotate_left
 · simp only [Act.put, List.setIfInBounds_toArray, List.set_cons_zero, List.set_cons_succ, i64_w, i32_w]
   rfl
 refine take_ (i := 5) (N := some 37) (v := ?_) (a' := ?_) (bm_ 11 255) rfl rfl (take_ofW HT_.out HW_.out (by kernel_rfl)) (fun _ _ _ h => h) (Or.inl ⟨by rfl, ?_⟩) hHeld ?_ ?_
 rotate_left
 · rintro w' ⟨s0, s1, s2⟩
   go_simp
   with_reducible rfl
 rotate_left
 · simp only [Act.put, List.setIfInBounds_toArray, List.set_cons_zero, List.set_cons_succ, i64_w, i32_w]
   rfl
 refine one_ (i := 8) (N := some 40) (bm_ 11 511) rfl rfl (one_of HT_.out (by kernel_rfl)) (by decide) (fun K hK => ?_)
 refine goes_ Try.func67 (by kernel_rfl) rfl #[.int .i64 (wrap64 (rd l1 r + 2))] (by rfl) rfl rfl d4_ ?_
 refine (spec_Wrap.calls _ u _ hU).mono ?_
 rintro e w2 ⟨rfl, hb⟩
 refine ⟨_, rfl, ?_⟩
 replace HO := A_ (Kd.R_below HO.out hb.below)
 replace HBX := A_ (blk_below HBX.out hb.below)
 replace HBO := A_ (blk_below HBO.out hb.below)
 replace HG := A_ (gb_then HG.out hb.below)
 clear hb
 refine hK.out _ _ ⟨(blk_cell HBX.out 1).trans rfl, (blk_cell HBO.out 1).trans rfl, row_cell_r HO.out r hq0 hq1⟩ (fun hHeld => ?_)
 clear hK K
 refine norm_ (a' := ?_) ?_ ?_
 rotate_left
 · show Act.put _ (some 40) _ = _
   simp only [Act.put, List.setIfInBounds_toArray, List.set_cons_zero, List.set_cons_succ, i64_w, i32_w]
   rfl
 refine pu_ 9 (some 41) (bm_ 11 1023) (any_of HT_.out (by kernel_rfl)) ?_
 refine last_ (i := 10) (N := none) (bm_ 11 2047) rfl rfl (one_of HT_.out (by kernel_rfl)) (by decide) (fun K hK => ?_)
 refine store_row_step (by rfl) rfl 3 _ _ rfl (by rfl) (by rfl) (by rfl) HO.out (by omega : r.toNat < 8) (fun w4 h1 h2 => ?_)
 refine hK.out _ _ ?_
 clear hK K
 refine done_ (done_of HT_.out (by kernel_rfl)) ?_
 clear HT_ HW_ hHeld
 go_wp2
 go_ret2
 exact ⟨rfl, h1, gb_trans HG.out h2⟩
set_option maxHeartbeats 8000000 in
set_option maxRecDepth 100000 in
theorem spec_l6At.calls3 (gb gR : Nat) (A0 : Option Addr) (c0 : Nat) (l0 : List Int) (cR : Nat) (l1 : List Int) (a2 a3 a4 a5 : Bool) (A6 : Option Addr) (c6 : Nat) (l6 : List Int) (A7 : Option Addr) (c7 : Nat) (l7 : List Int) (a8 : Int) (r x : Int) (hq0 : 0 ≤ r) (hq1 : r < 8) (w : World)
  (hbox : w.heap[gb]? = some (.cells #[.slice A0 l0.length c0, .slice (some ⟨gR, 0, none⟩) 8 cR, .bool a2, .bool a3, .bool a4, .bool a5, .slice A6 l6.length c6, .slice A7 l7.length c7, .int .i64 a8] 28 (0, 0)))
  (base : Nat) (ok1 : Nat → Prop) (HO1 : (Kd.int .i64).R 3 w base ok1 (.slice (some ⟨gR, 0, none⟩) 8 cR) l1) (hne : gb ≠ gR) (hl : l1.length = 8) (u : Int) (hU : spec_Wrap.f (wrap64 (rd l1 r + 2)) = some u) :
  Calls Try.prog 90 #[.pointer (some ⟨gb, 0, none⟩), .agg #[.int .i64 3, .int .i64 r, .int .i64 x]] w fun e w' => e = .returned (.tuple #[.int .i64 (rd l1 r), .bool true]) ∧ (Kd.int .i64).R 3 w' base ok1 (.slice (some ⟨gR, 0, none⟩) 8 cR) (l1.set r.toNat u) ∧ w.grownBy w' (some gR) := by
 have HO := A_ HO1
 have HBX := A_ hbox
 have HG : Aside0 (w.grownBy w (some gR)) := A_ (World.grownBy.refl w _)
 have q0_ := decide_eq_true hq0
 have q1_ := decide_eq_true hq1
 go_enter Try.func90, Try.ntmps90
 go_wp2_with (first | ((with_reducible refine gate_dst (N := 3) rfl ?_); refine bx_ 3 #[.int .i64 3, .int .i64 r, .int .i64 x] 63 ?_; intro go hgo w1 hbo hb; have n0_ := A_ (Kd.R_below HO.out hb); have n1_ := A_ (blk_below HBX.out hb); have n2_ := A_ (gb_then HG.out hb); have n3_ := A_ hbo; clear HO HBX HG; have HO := n0_; have HBX := n1_; have HG := n2_; have HBO := n3_; have y0 : w1.cell? ⟨go, 0, none⟩ = some (.int .i64 3) := (blk_cell hbo 0).trans rfl; clear n0_ n1_ n2_ n3_ hb hbo hgo))
 replace HO := A_ (Kd.R_drew HO.out)
 replace HBX := A_ (blk_drew HBX.out)
 replace HBO := A_ (blk_drew HBO.out)
 replace HG := A_ (gb_drew HG.out)
 refine start_ (n := 9) (S := fun w' => w'.cell? ⟨gb, 1, none⟩ = some (.slice (some ⟨gR, 0, none⟩) 8 cR) ∧ w'.cell? ⟨go, 1, none⟩ = some (.int .i64 r) ∧ w'.cell? ⟨gR, r.toNat, none⟩ = some (.int .i64 (rd l1 r))) (ds := []) #[false, false, false, false, false, false, false, false, false] (by kernel_rfl) rfl rfl ⟨(blk_cell HBX.out 1).trans rfl, (blk_cell HBO.out 1).trans rfl, row_cell_r HO.out r hq0 hq1⟩ (fun hHeld => ?_); refine with_tabW (T := f90T6) rfl f90B6 (fun HT_ HW_ => ?_)
 generalize w1.drew = w1' at HO HBX HBO HG hHeld ⊢
 refine pu_ 0 (some 24) (bm_ 9 1) (any_of HT_.out (by kernel_rfl)) ?_
 refine pu_ 1 (some 25) (bm_ 9 3) (any_of HT_.out (by kernel_rfl)) ?_
 refine pu_ 2 (some 26) (bm_ 9 7) (any_of HT_.out (by kernel_rfl)) ?_
 refine pu_ 4 (some 28) (bm_ 9 23) (any_of HT_.out (by kernel_rfl)) ?_
 refine take_ (i := 3) (N := some 27) (v := ?_) (a' := ?_) (bm_ 9 31) rfl rfl (take_ofW HT_.out HW_.out (by kernel_rfl)) (fun _ _ _ h => h) (Or.inl ⟨by rfl, ?_⟩) hHeld ?_ ?_
 rotate_left
 · rintro w' ⟨s0, s1, s2⟩
   go_simp
   with_reducible rfl
 rotate_left
 · simp only [Act.put, List.setIfInBounds_toArray, List.set_cons_zero, List.set_cons_succ, i64_w, i32_w]
   rfl
 refine take_ (i := 5) (N := some 29) (v := ?_) (a' := ?_) (bm_ 9 63) rfl rfl (take_ofW HT_.out HW_.out (by kernel_rfl)) (fun _ _ _ h => h) (Or.inl ⟨by rfl, ?_⟩) hHeld ?_ ?_
 rotate_left
 · rintro w' ⟨s0, s1, s2⟩
   go_simp
   with_reducible rfl
 rotate_left
 · simp only [Act.put, List.setIfInBounds_toArray, List.set_cons_zero, List.set_cons_succ, i64_w, i32_w]
   rfl
 refine pu_ 6 (some 30) (bm_ 9 127) (any_of HT_.out (by kernel_rfl)) ?_
 refine take_ (i := 7) (N := some 31) (v := ?_) (a' := ?_) (bm_ 9 255) rfl rfl (take_ofW HT_.out HW_.out (by kernel_rfl)) (fun _ _ _ h => h) (Or.inl ⟨by rfl, ?_⟩) hHeld ?_ ?_
 rotate_left
 · rintro w' ⟨s0, s1, s2⟩
   go_simp
   with_reducible rfl
 rotate_left
 · simp only [Act.put, List.setIfInBounds_toArray, List.set_cons_zero, List.set_cons_succ, i64_w, i32_w]
   rfl
 refine pu_ 8 (some 6) (bm_ 9 511) (any_of HT_.out (by kernel_rfl)) ?_
 refine done_ (done_of HT_.out (by kernel_rfl)) ?_
 clear HT_ HW_ hHeld
 go_wp2
 replace HO := A_ (Kd.R_drew HO.out)
 replace HBX := A_ (blk_drew HBX.out)
 replace HBO := A_ (blk_drew HBO.out)
 replace HG := A_ (gb_drew HG.out)
 refine start_ (n := 11) (S := fun w' => w'.cell? ⟨gb, 1, none⟩ = some (.slice (some ⟨gR, 0, none⟩) 8 cR) ∧ w'.cell? ⟨go, 1, none⟩ = some (.int .i64 r) ∧ w'.cell? ⟨gR, r.toNat, none⟩ = some (.int .i64 (rd l1 r))) (ds := [10]) #[false, false, false, false, false, false, false, false, false, false, false] (by kernel_rfl) rfl rfl ⟨(blk_cell HBX.out 1).trans rfl, (blk_cell HBO.out 1).trans rfl, row_cell_r HO.out r hq0 hq1⟩ (fun hHeld => ?_); refine with_tabW (T := f90T7) rfl f90B7 (fun HT_ HW_ => ?_)
 generalize w1'.drew = w1'' at HO HBX HBO HG hHeld ⊢
 refine pu_ 0 (some 32) (bm_ 11 1) (any_of HT_.out (by kernel_rfl)) ?_
 refine pu_ 1 (some 33) (bm_ 11 3) (any_of HT_.out (by kernel_rfl)) ?_
 refine pu_ 2 (some 34) (bm_ 11 7) (any_of HT_.out (by kernel_rfl)) ?_
 refine pu_ 4 (some 36) (bm_ 11 23) (any_of HT_.out (by kernel_rfl)) ?_
 refine pu_ 6 (some 38) (bm_ 11 87) (any_of HT_.out (by kernel_rfl)) ?_
 refine pu_ 7 (some 39) (bm_ 11 215) (any_of HT_.out (by kernel_rfl)) ?_
 refine take_ (i := 3) (N := some 35) (v := ?_) (a' := ?_) (bm_ 11 223) rfl rfl (take_ofW HT_.out HW_.out (by kernel_rfl)) (fun _ _ _ h => h) (Or.inl ⟨by rfl, ?_⟩) hHeld ?_ ?_
 rotate_left
 · rintro w' ⟨s0, s1, s2⟩
   go_simp
   with_reducible rfl
 rotate_left
 · simp only [Act.put, List.setIfInBounds_toArray, List.set_cons_zero, List.set_cons_succ, i64_w, i32_w]
   rfl
 refine take_ (i := 5) (N := some 37) (v := ?_) (a' := ?_) (bm_ 11 255) rfl rfl (take_ofW HT_.out HW_.out (by kernel_rfl)) (fun _ _ _ h => h) (Or.inl ⟨by rfl, ?_⟩) hHeld ?_ ?_
 rotate_left
 · rintro w' ⟨s0, s1, s2⟩
   go_simp
   with_reducible rfl
 rotate_left
 · simp only [Act.put, List.setIfInBounds_toArray, List.set_cons_zero, List.set_cons_succ, i64_w, i32_w]
   rfl
 refine one_ (i := 8) (N := some 40) (bm_ 11 511) rfl rfl (one_of HT_.out (by kernel_rfl)) (by decide) (fun K hK => ?_)
 refine goes_ Try.func67 (by kernel_rfl) rfl #[.int .i64 (wrap64 (rd l1 r + 2))] (by rfl) rfl rfl d4_ ?_
 refine (spec_Wrap.calls _ u _ hU).mono ?_
 rintro e w2 ⟨rfl, hb⟩
 refine ⟨_, rfl, ?_⟩
 replace HO := A_ (Kd.R_below HO.out hb.below)
 replace HBX := A_ (blk_below HBX.out hb.below)
 replace HBO := A_ (blk_below HBO.out hb.below)
 replace HG := A_ (gb_then HG.out hb.below)
 clear hb
 refine hK.out _ _ ⟨(blk_cell HBX.out 1).trans rfl, (blk_cell HBO.out 1).trans rfl, row_cell_r HO.out r hq0 hq1⟩ (fun hHeld => ?_)
 clear hK K
 refine norm_ (a' := ?_) ?_ ?_
 rotate_left
 · show Act.put _ (some 40) _ = _
   simp only [Act.put, List.setIfInBounds_toArray, List.set_cons_zero, List.set_cons_succ, i64_w, i32_w]
   rfl
 refine pu_ 9 (some 41) (bm_ 11 1023) (any_of HT_.out (by kernel_rfl)) ?_
 refine last_ (i := 10) (N := none) (bm_ 11 2047) rfl rfl (one_of HT_.out (by kernel_rfl)) (by decide) (fun K hK => ?_)
 refine store_row_step (by rfl) rfl 3 _ _ rfl (by rfl) (by rfl) (by rfl) HO.out (by omega : r.toNat < 8) (fun w4 h1 h2 => ?_)
 refine hK.out _ _ ?_
 clear hK K
 refine done_ (done_of HT_.out (by kernel_rfl)) ?_
 clear HT_ HW_ hHeld
 go_wp2
 go_ret2
 exact ⟨rfl, h1, gb_trans HG.out h2⟩
theorem row_lt_ {e base n g cap : Nat} {ok : Nat → Prop} {xs : List Int} {w : World} (h : (Kd.int .i64).R e w base ok (.slice (some ⟨g, 0, none⟩) n cap) xs) (hn : 0 < n) : g < w.heap.size := by
  have hnx := (Kd.R_reads' h).1
  subst hnx
  rcases (Kd.own_of_R h).2 with ⟨hv, _⟩ | ⟨g', cap', cur, hv, hb, hh, _⟩
  · simp at hv
  · obtain ⟨rfl, rfl⟩ : g = g' ∧ cap = cap' := by simpa using hv
    exact blk_lt hh
theorem gb_blk {w w1 : World} {g x : Nat} {o : Obj} (hg : w.grownBy w1 (some g)) (h : w.heap[x]? = some o) (hd : x ≠ g) : w1.heap[x]? = some o := (hg.block x (blk_lt h) (fun q => hd (by injection q))).trans h
noncomputable def f90T11 : Bool × List (List Nat × List Nat) := rtab .any (opsOf Try.f90 11)
theorem f90B11 : waitsOk f90T11.2 [0, 1, 3, 7, 0, 16, 0, 64, 192, 448, 0, 1024, 4032, 8128, 16320, 32704, 65535, 131071] = true := by kernel_rfl
noncomputable def f90T12 : Bool × List (List Nat × List Nat) := rtab .any (opsOf Try.f90 12)
theorem f90B12 : waitsOk f90T12.2 [0, 1, 3, 7, 0, 16, 63, 127, 255, 511] = true := by kernel_rfl
set_option maxHeartbeats 8000000 in
set_option maxRecDepth 100000 in
theorem spec_l6At.calls4 (gb gR : Nat) (A0 : Option Addr) (c0 : Nat) (l0 : List Int) (cR : Nat) (l1 : List Int) (a2 a3 a4 a5 : Bool) (A6 : Option Addr) (c6 : Nat) (l6 : List Int) (A7 : Option Addr) (c7 : Nat) (l7 : List Int) (a8 : Int) (r x : Int) (hq0 : 0 ≤ r) (hq1 : r < 8) (w : World)
  (hbox : w.heap[gb]? = some (.cells #[.slice A0 l0.length c0, .slice (some ⟨gR, 0, none⟩) 8 cR, .bool a2, .bool a3, .bool a4, .bool a5, .slice A6 l6.length c6, .slice A7 l7.length c7, .int .i64 a8] 28 (0, 0)))
  (base : Nat) (ok1 : Nat → Prop) (HO1 : (Kd.int .i64).R 3 w base ok1 (.slice (some ⟨gR, 0, none⟩) 8 cR) l1) (hne : gb ≠ gR) (hl : l1.length = 8) (u : Int) (hU : spec_Wrap.f (wrap64 (rd l1 r - 2)) = some u) :
  Calls Try.prog 90 #[.pointer (some ⟨gb, 0, none⟩), .agg #[.int .i64 4, .int .i64 r, .int .i64 x]] w fun e w' => e = .returned (.tuple #[.int .i64 (rd (l1.set r.toNat u) r), .bool true]) ∧ (Kd.int .i64).R 3 w' base ok1 (.slice (some ⟨gR, 0, none⟩) 8 cR) (l1.set r.toNat u) ∧ w.grownBy w' (some gR) := by
 have HO := A_ HO1
 have HBX := A_ hbox
 have HG : Aside0 (w.grownBy w (some gR)) := A_ (World.grownBy.refl w _)
 have q0_ := decide_eq_true hq0
 have q1_ := decide_eq_true hq1
 go_enter Try.func90, Try.ntmps90
 go_wp2_with (first | ((with_reducible refine gate_dst (N := 3) rfl ?_); refine bx_ 3 #[.int .i64 4, .int .i64 r, .int .i64 x] 63 ?_; intro go hgo w1 hbo hb; have HO0 := HO; have n0_ := A_ (Kd.R_below HO.out hb); have n1_ := A_ (blk_below HBX.out hb); have n2_ := A_ (gb_then HG.out hb); have n3_ := A_ hbo; clear HO HBX HG; have HO := n0_; have HBX := n1_; have HG := n2_; have HBO := n3_; have y0 : w1.cell? ⟨go, 0, none⟩ = some (.int .i64 4) := (blk_cell hbo 0).trans rfl; have hgn : go ≠ gR := (by have q_ := row_lt_ HO0.out (by decide); omega); clear n0_ n1_ n2_ n3_ hb hbo hgo HO0))
 replace HO := A_ (Kd.R_drew HO.out)
 replace HBX := A_ (blk_drew HBX.out)
 replace HBO := A_ (blk_drew HBO.out)
 replace HG := A_ (gb_drew HG.out)
 refine start_ (n := 18) (S := fun w' => w'.cell? ⟨gb, 1, none⟩ = some (.slice (some ⟨gR, 0, none⟩) 8 cR) ∧ w'.cell? ⟨go, 1, none⟩ = some (.int .i64 r) ∧ w'.cell? ⟨gR, r.toNat, none⟩ = some (.int .i64 (rd l1 r))) (ds := [17]) #[false, false, false, false, false, false, false, false, false, false, false, false, false, false, false, false, false, false] (by kernel_rfl) rfl rfl ⟨(blk_cell HBX.out 1).trans rfl, (blk_cell HBO.out 1).trans rfl, row_cell_r HO.out r hq0 hq1⟩ (fun hHeld => ?_); refine with_tabW (T := f90T11) rfl f90B11 (fun HT_ HW_ => ?_)
 generalize w1.drew = w1' at HO HBX HBO HG hHeld ⊢
 refine pu_ 0 (some 46) (bm_ 18 1) (any_of HT_.out (by kernel_rfl)) ?_
 refine pu_ 1 (some 47) (bm_ 18 3) (any_of HT_.out (by kernel_rfl)) ?_
 refine pu_ 2 (some 48) (bm_ 18 7) (any_of HT_.out (by kernel_rfl)) ?_
 refine pu_ 4 (some 50) (bm_ 18 23) (any_of HT_.out (by kernel_rfl)) ?_
 refine pu_ 6 (some 52) (bm_ 18 87) (any_of HT_.out (by kernel_rfl)) ?_
 refine pu_ 7 (some 53) (bm_ 18 215) (any_of HT_.out (by kernel_rfl)) ?_
 refine pu_ 8 (some 54) (bm_ 18 471) (any_of HT_.out (by kernel_rfl)) ?_
 refine pu_ 10 (some 56) (bm_ 18 1495) (any_of HT_.out (by kernel_rfl)) ?_
 refine take_ (i := 3) (N := some 49) (v := ?_) (a' := ?_) (bm_ 18 1503) rfl rfl (take_ofW HT_.out HW_.out (by kernel_rfl)) (fun _ _ _ h => h) (Or.inl ⟨by rfl, ?_⟩) hHeld ?_ ?_
 rotate_left
 · rintro w' ⟨s0, s1, s2⟩
   go_simp
   with_reducible rfl
 rotate_left
 · simp only [Act.put, List.setIfInBounds_toArray, List.set_cons_zero, List.set_cons_succ, i64_w, i32_w]
   rfl
 refine take_ (i := 5) (N := some 51) (v := ?_) (a' := ?_) (bm_ 18 1535) rfl rfl (take_ofW HT_.out HW_.out (by kernel_rfl)) (fun _ _ _ h => h) (Or.inl ⟨by rfl, ?_⟩) hHeld ?_ ?_
 rotate_left
 · rintro w' ⟨s0, s1, s2⟩
   go_simp
   with_reducible rfl
 rotate_left
 · simp only [Act.put, List.setIfInBounds_toArray, List.set_cons_zero, List.set_cons_succ, i64_w, i32_w]
   rfl
 refine take_ (i := 9) (N := some 55) (v := ?_) (a' := ?_) (bm_ 18 2047) rfl rfl (take_ofW HT_.out HW_.out (by kernel_rfl)) (fun _ _ _ h => h) (Or.inl ⟨by rfl, ?_⟩) hHeld ?_ ?_
 rotate_left
 · rintro w' ⟨s0, s1, s2⟩
   go_simp
   with_reducible rfl
 rotate_left
 · simp only [Act.put, List.setIfInBounds_toArray, List.set_cons_zero, List.set_cons_succ, i64_w, i32_w]
   rfl
 refine take_ (i := 11) (N := some 57) (v := ?_) (a' := ?_) (bm_ 18 4095) rfl rfl (take_ofW HT_.out HW_.out (by kernel_rfl)) (fun _ _ _ h => h) (Or.inl ⟨by rfl, ?_⟩) hHeld ?_ ?_
 rotate_left
 · rintro w' ⟨s0, s1, s2⟩
   go_simp
   with_reducible rfl
 rotate_left
 · simp only [Act.put, List.setIfInBounds_toArray, List.set_cons_zero, List.set_cons_succ, i64_w, i32_w]
   rfl
 refine pu_ 12 (some 58) (bm_ 18 8191) (any_of HT_.out (by kernel_rfl)) ?_
 refine take_ (i := 13) (N := some 59) (v := ?_) (a' := ?_) (bm_ 18 16383) rfl rfl (take_ofW HT_.out HW_.out (by kernel_rfl)) (fun _ _ _ h => h) (Or.inl ⟨by rfl, ?_⟩) hHeld ?_ ?_
 rotate_left
 · rintro w' ⟨s0, s1, s2⟩
   go_simp
   with_reducible rfl
 rotate_left
 · simp only [Act.put, List.setIfInBounds_toArray, List.set_cons_zero, List.set_cons_succ, i64_w, i32_w]
   rfl
 refine pu_ 14 (some 60) (bm_ 18 32767) (any_of HT_.out (by kernel_rfl)) ?_
 refine one_ (i := 15) (N := some 61) (bm_ 18 65535) rfl rfl (one_of HT_.out (by kernel_rfl)) (by decide) (fun K hK => ?_)
 refine goes_ Try.func67 (by kernel_rfl) rfl #[.int .i64 (wrap64 (rd l1 r - 2))] (by rfl) rfl rfl d4_ ?_
 refine (spec_Wrap.calls _ u _ hU).mono ?_
 rintro e w2 ⟨rfl, hb⟩
 refine ⟨_, rfl, ?_⟩
 replace HO := A_ (Kd.R_below HO.out hb.below)
 replace HBX := A_ (blk_below HBX.out hb.below)
 replace HBO := A_ (blk_below HBO.out hb.below)
 replace HG := A_ (gb_then HG.out hb.below)
 clear hb
 refine hK.out _ _ ⟨(blk_cell HBX.out 1).trans rfl, (blk_cell HBO.out 1).trans rfl, row_cell_r HO.out r hq0 hq1⟩ (fun hHeld => ?_)
 clear hK K
 refine norm_ (a' := ?_) ?_ ?_
 rotate_left
 · show Act.put _ (some 61) _ = _
   simp only [Act.put, List.setIfInBounds_toArray, List.set_cons_zero, List.set_cons_succ, i64_w, i32_w]
   rfl
 refine pu_ 16 (some 62) (bm_ 18 131071) (any_of HT_.out (by kernel_rfl)) ?_
 refine last_ (i := 17) (N := none) (bm_ 18 262143) rfl rfl (one_of HT_.out (by kernel_rfl)) (by decide) (fun K hK => ?_)
 refine store_row_step (by rfl) rfl 3 _ _ rfl (by rfl) (by rfl) (by rfl) HO.out (by omega : r.toNat < 8) (fun w4 h1 h2 => ?_)
 refine hK.out _ _ ?_
 clear hK K
 replace HO := A_ h1
 replace HBX := A_ (gb_blk h2 HBX.out hne)
 replace HBO := A_ (gb_blk h2 HBO.out hgn)
 replace HG := A_ (gb_trans HG.out h2)
 clear h1 h2
 refine done_ (done_of HT_.out (by kernel_rfl)) ?_
 clear HT_ HW_ hHeld
 go_wp2
 replace HO := A_ (Kd.R_drew HO.out)
 replace HBX := A_ (blk_drew HBX.out)
 replace HBO := A_ (blk_drew HBO.out)
 replace HG := A_ (gb_drew HG.out)
 refine start_ (n := 10) (S := fun w' => w'.cell? ⟨gb, 1, none⟩ = some (.slice (some ⟨gR, 0, none⟩) 8 cR) ∧ w'.cell? ⟨go, 1, none⟩ = some (.int .i64 r) ∧ w'.cell? ⟨gR, r.toNat, none⟩ = some (.int .i64 (rd (l1.set r.toNat u) r))) (ds := []) #[false, false, false, false, false, false, false, false, false, false] (by kernel_rfl) rfl rfl ⟨(blk_cell HBX.out 1).trans rfl, (blk_cell HBO.out 1).trans rfl, row_cell_r HO.out r hq0 hq1⟩ (fun hHeld => ?_); refine with_tabW (T := f90T12) rfl f90B12 (fun HT_ HW_ => ?_)
 generalize w4.drew = w4' at HO HBX HBO HG hHeld ⊢
 refine pu_ 0 (some 63) (bm_ 10 1) (any_of HT_.out (by kernel_rfl)) ?_
 refine pu_ 1 (some 64) (bm_ 10 3) (any_of HT_.out (by kernel_rfl)) ?_
 refine pu_ 2 (some 65) (bm_ 10 7) (any_of HT_.out (by kernel_rfl)) ?_
 refine pu_ 4 (some 67) (bm_ 10 23) (any_of HT_.out (by kernel_rfl)) ?_
 refine take_ (i := 3) (N := some 66) (v := ?_) (a' := ?_) (bm_ 10 31) rfl rfl (take_ofW HT_.out HW_.out (by kernel_rfl)) (fun _ _ _ h => h) (Or.inl ⟨by rfl, ?_⟩) hHeld ?_ ?_
 rotate_left
 · rintro w' ⟨s0, s1, s2⟩
   go_simp
   with_reducible rfl
 rotate_left
 · simp only [Act.put, List.setIfInBounds_toArray, List.set_cons_zero, List.set_cons_succ, i64_w, i32_w]
   rfl
 refine take_ (i := 5) (N := some 68) (v := ?_) (a' := ?_) (bm_ 10 63) rfl rfl (take_ofW HT_.out HW_.out (by kernel_rfl)) (fun _ _ _ h => h) (Or.inl ⟨by rfl, ?_⟩) hHeld ?_ ?_
 rotate_left
 · rintro w' ⟨s0, s1, s2⟩
   go_simp
   with_reducible rfl
 rotate_left
 · simp only [Act.put, List.setIfInBounds_toArray, List.set_cons_zero, List.set_cons_succ, i64_w, i32_w]
   rfl
 refine pu_ 6 (some 69) (bm_ 10 127) (any_of HT_.out (by kernel_rfl)) ?_
 refine take_ (i := 7) (N := some 70) (v := ?_) (a' := ?_) (bm_ 10 255) rfl rfl (take_ofW HT_.out HW_.out (by kernel_rfl)) (fun _ _ _ h => h) (Or.inl ⟨by rfl, ?_⟩) hHeld ?_ ?_
 rotate_left
 · rintro w' ⟨s0, s1, s2⟩
   go_simp
   with_reducible rfl
 rotate_left
 · simp only [Act.put, List.setIfInBounds_toArray, List.set_cons_zero, List.set_cons_succ, i64_w, i32_w]
   rfl
 refine pu_ 8 (some 4) (bm_ 10 511) (any_of HT_.out (by kernel_rfl)) ?_
 refine pu_ 9 (some 5) (bm_ 10 1023) (any_of HT_.out (by kernel_rfl)) ?_
 refine done_ (done_of HT_.out (by kernel_rfl)) ?_
 clear HT_ HW_ hHeld
 go_wp2
 go_ret2
 exact ⟨rfl, HO.out, HG.out⟩
set_option maxHeartbeats 8000000 in
set_option maxRecDepth 100000 in
theorem spec_l6At.calls5 (gb gR : Nat) (A0 : Option Addr) (c0 : Nat) (l0 : List Int) (cR : Nat) (l1 : List Int) (a2 a3 a4 a5 : Bool) (A6 : Option Addr) (c6 : Nat) (l6 : List Int) (A7 : Option Addr) (c7 : Nat) (l7 : List Int) (a8 : Int) (r x : Int) (hq0 : 0 ≤ r) (hq1 : r < 8) (w : World)
  (hbox : w.heap[gb]? = some (.cells #[.slice A0 l0.length c0, .slice (some ⟨gR, 0, none⟩) 8 cR, .bool a2, .bool a3, .bool a4, .bool a5, .slice A6 l6.length c6, .slice A7 l7.length c7, .int .i64 a8] 28 (0, 0)))
  (base : Nat) (ok1 : Nat → Prop) (HO1 : (Kd.int .i64).R 3 w base ok1 (.slice (some ⟨gR, 0, none⟩) 8 cR) l1) (hne : gb ≠ gR) (hl : l1.length = 8) (u : Int) (hU : spec_Wrap.f (wrap64 (rd l1 r - 2)) = some u) :
  Calls Try.prog 90 #[.pointer (some ⟨gb, 0, none⟩), .agg #[.int .i64 5, .int .i64 r, .int .i64 x]] w fun e w' => e = .returned (.tuple #[.int .i64 (rd (l1.set r.toNat u) r), .bool true]) ∧ (Kd.int .i64).R 3 w' base ok1 (.slice (some ⟨gR, 0, none⟩) 8 cR) (l1.set r.toNat u) ∧ w.grownBy w' (some gR) := by
 have HO := A_ HO1
 have HBX := A_ hbox
 have HG : Aside0 (w.grownBy w (some gR)) := A_ (World.grownBy.refl w _)
 have q0_ := decide_eq_true hq0
 have q1_ := decide_eq_true hq1
 go_enter Try.func90, Try.ntmps90
 go_wp2_with (first | ((with_reducible refine gate_dst (N := 3) rfl ?_); refine bx_ 3 #[.int .i64 5, .int .i64 r, .int .i64 x] 63 ?_; intro go hgo w1 hbo hb; have HO0 := HO; have n0_ := A_ (Kd.R_below HO.out hb); have n1_ := A_ (blk_below HBX.out hb); have n2_ := A_ (gb_then HG.out hb); have n3_ := A_ hbo; clear HO HBX HG; have HO := n0_; have HBX := n1_; have HG := n2_; have HBO := n3_; have y0 : w1.cell? ⟨go, 0, none⟩ = some (.int .i64 5) := (blk_cell hbo 0).trans rfl; have hgn : go ≠ gR := (by have q_ := row_lt_ HO0.out (by decide); omega); clear n0_ n1_ n2_ n3_ hb hbo hgo HO0))
 replace HO := A_ (Kd.R_drew HO.out)
 replace HBX := A_ (blk_drew HBX.out)
 replace HBO := A_ (blk_drew HBO.out)
 replace HG := A_ (gb_drew HG.out)
 refine start_ (n := 18) (S := fun w' => w'.cell? ⟨gb, 1, none⟩ = some (.slice (some ⟨gR, 0, none⟩) 8 cR) ∧ w'.cell? ⟨go, 1, none⟩ = some (.int .i64 r) ∧ w'.cell? ⟨gR, r.toNat, none⟩ = some (.int .i64 (rd l1 r))) (ds := [17]) #[false, false, false, false, false, false, false, false, false, false, false, false, false, false, false, false, false, false] (by kernel_rfl) rfl rfl ⟨(blk_cell HBX.out 1).trans rfl, (blk_cell HBO.out 1).trans rfl, row_cell_r HO.out r hq0 hq1⟩ (fun hHeld => ?_); refine with_tabW (T := f90T11) rfl f90B11 (fun HT_ HW_ => ?_)
 generalize w1.drew = w1' at HO HBX HBO HG hHeld ⊢
 refine pu_ 0 (some 46) (bm_ 18 1) (any_of HT_.out (by kernel_rfl)) ?_
 refine pu_ 1 (some 47) (bm_ 18 3) (any_of HT_.out (by kernel_rfl)) ?_
 refine pu_ 2 (some 48) (bm_ 18 7) (any_of HT_.out (by kernel_rfl)) ?_
 refine pu_ 4 (some 50) (bm_ 18 23) (any_of HT_.out (by kernel_rfl)) ?_
 refine pu_ 6 (some 52) (bm_ 18 87) (any_of HT_.out (by kernel_rfl)) ?_
 refine pu_ 7 (some 53) (bm_ 18 215) (any_of HT_.out (by kernel_rfl)) ?_
 refine pu_ 8 (some 54) (bm_ 18 471) (any_of HT_.out (by kernel_rfl)) ?_
 refine pu_ 10 (some 56) (bm_ 18 1495) (any_of HT_.out (by kernel_rfl)) ?_
 refine take_ (i := 3) (N := some 49) (v := ?_) (a' := ?_) (bm_ 18 1503) rfl rfl (take_ofW HT_.out HW_.out (by kernel_rfl)) (fun _ _ _ h => h) (Or.inl ⟨by rfl, ?_⟩) hHeld ?_ ?_
 rotate_left
 · rintro w' ⟨s0, s1, s2⟩
   go_simp
   with_reducible rfl
 rotate_left
 · simp only [Act.put, List.setIfInBounds_toArray, List.set_cons_zero, List.set_cons_succ, i64_w, i32_w]
   rfl
 refine take_ (i := 5) (N := some 51) (v := ?_) (a' := ?_) (bm_ 18 1535) rfl rfl (take_ofW HT_.out HW_.out (by kernel_rfl)) (fun _ _ _ h => h) (Or.inl ⟨by rfl, ?_⟩) hHeld ?_ ?_
 rotate_left
 · rintro w' ⟨s0, s1, s2⟩
   go_simp
   with_reducible rfl
 rotate_left
 · simp only [Act.put, List.setIfInBounds_toArray, List.set_cons_zero, List.set_cons_succ, i64_w, i32_w]
   rfl
 refine take_ (i := 9) (N := some 55) (v := ?_) (a' := ?_) (bm_ 18 2047) rfl rfl (take_ofW HT_.out HW_.out (by kernel_rfl)) (fun _ _ _ h => h) (Or.inl ⟨by rfl, ?_⟩) hHeld ?_ ?_
 rotate_left
 · rintro w' ⟨s0, s1, s2⟩
   go_simp
   with_reducible rfl
 rotate_left
 · simp only [Act.put, List.setIfInBounds_toArray, List.set_cons_zero, List.set_cons_succ, i64_w, i32_w]
   rfl
 refine take_ (i := 11) (N := some 57) (v := ?_) (a' := ?_) (bm_ 18 4095) rfl rfl (take_ofW HT_.out HW_.out (by kernel_rfl)) (fun _ _ _ h => h) (Or.inl ⟨by rfl, ?_⟩) hHeld ?_ ?_
 rotate_left
 · rintro w' ⟨s0, s1, s2⟩
   go_simp
   with_reducible rfl
 rotate_left
 · simp only [Act.put, List.setIfInBounds_toArray, List.set_cons_zero, List.set_cons_succ, i64_w, i32_w]
   rfl
 refine pu_ 12 (some 58) (bm_ 18 8191) (any_of HT_.out (by kernel_rfl)) ?_
 refine take_ (i := 13) (N := some 59) (v := ?_) (a' := ?_) (bm_ 18 16383) rfl rfl (take_ofW HT_.out HW_.out (by kernel_rfl)) (fun _ _ _ h => h) (Or.inl ⟨by rfl, ?_⟩) hHeld ?_ ?_
 rotate_left
 · rintro w' ⟨s0, s1, s2⟩
   go_simp
   with_reducible rfl
 rotate_left
 · simp only [Act.put, List.setIfInBounds_toArray, List.set_cons_zero, List.set_cons_succ, i64_w, i32_w]
   rfl
 refine pu_ 14 (some 60) (bm_ 18 32767) (any_of HT_.out (by kernel_rfl)) ?_
 refine one_ (i := 15) (N := some 61) (bm_ 18 65535) rfl rfl (one_of HT_.out (by kernel_rfl)) (by decide) (fun K hK => ?_)
 refine goes_ Try.func67 (by kernel_rfl) rfl #[.int .i64 (wrap64 (rd l1 r - 2))] (by rfl) rfl rfl d4_ ?_
 refine (spec_Wrap.calls _ u _ hU).mono ?_
 rintro e w2 ⟨rfl, hb⟩
 refine ⟨_, rfl, ?_⟩
 replace HO := A_ (Kd.R_below HO.out hb.below)
 replace HBX := A_ (blk_below HBX.out hb.below)
 replace HBO := A_ (blk_below HBO.out hb.below)
 replace HG := A_ (gb_then HG.out hb.below)
 clear hb
 refine hK.out _ _ ⟨(blk_cell HBX.out 1).trans rfl, (blk_cell HBO.out 1).trans rfl, row_cell_r HO.out r hq0 hq1⟩ (fun hHeld => ?_)
 clear hK K
 refine norm_ (a' := ?_) ?_ ?_
 rotate_left
 · show Act.put _ (some 61) _ = _
   simp only [Act.put, List.setIfInBounds_toArray, List.set_cons_zero, List.set_cons_succ, i64_w, i32_w]
   rfl
 refine pu_ 16 (some 62) (bm_ 18 131071) (any_of HT_.out (by kernel_rfl)) ?_
 refine last_ (i := 17) (N := none) (bm_ 18 262143) rfl rfl (one_of HT_.out (by kernel_rfl)) (by decide) (fun K hK => ?_)
 refine store_row_step (by rfl) rfl 3 _ _ rfl (by rfl) (by rfl) (by rfl) HO.out (by omega : r.toNat < 8) (fun w4 h1 h2 => ?_)
 refine hK.out _ _ ?_
 clear hK K
 replace HO := A_ h1
 replace HBX := A_ (gb_blk h2 HBX.out hne)
 replace HBO := A_ (gb_blk h2 HBO.out hgn)
 replace HG := A_ (gb_trans HG.out h2)
 clear h1 h2
 refine done_ (done_of HT_.out (by kernel_rfl)) ?_
 clear HT_ HW_ hHeld
 go_wp2
 replace HO := A_ (Kd.R_drew HO.out)
 replace HBX := A_ (blk_drew HBX.out)
 replace HBO := A_ (blk_drew HBO.out)
 replace HG := A_ (gb_drew HG.out)
 refine start_ (n := 10) (S := fun w' => w'.cell? ⟨gb, 1, none⟩ = some (.slice (some ⟨gR, 0, none⟩) 8 cR) ∧ w'.cell? ⟨go, 1, none⟩ = some (.int .i64 r) ∧ w'.cell? ⟨gR, r.toNat, none⟩ = some (.int .i64 (rd (l1.set r.toNat u) r))) (ds := []) #[false, false, false, false, false, false, false, false, false, false] (by kernel_rfl) rfl rfl ⟨(blk_cell HBX.out 1).trans rfl, (blk_cell HBO.out 1).trans rfl, row_cell_r HO.out r hq0 hq1⟩ (fun hHeld => ?_); refine with_tabW (T := f90T12) rfl f90B12 (fun HT_ HW_ => ?_)
 generalize w4.drew = w4' at HO HBX HBO HG hHeld ⊢
 refine pu_ 0 (some 63) (bm_ 10 1) (any_of HT_.out (by kernel_rfl)) ?_
 refine pu_ 1 (some 64) (bm_ 10 3) (any_of HT_.out (by kernel_rfl)) ?_
 refine pu_ 2 (some 65) (bm_ 10 7) (any_of HT_.out (by kernel_rfl)) ?_
 refine pu_ 4 (some 67) (bm_ 10 23) (any_of HT_.out (by kernel_rfl)) ?_
 refine take_ (i := 3) (N := some 66) (v := ?_) (a' := ?_) (bm_ 10 31) rfl rfl (take_ofW HT_.out HW_.out (by kernel_rfl)) (fun _ _ _ h => h) (Or.inl ⟨by rfl, ?_⟩) hHeld ?_ ?_
 rotate_left
 · rintro w' ⟨s0, s1, s2⟩
   go_simp
   with_reducible rfl
 rotate_left
 · simp only [Act.put, List.setIfInBounds_toArray, List.set_cons_zero, List.set_cons_succ, i64_w, i32_w]
   rfl
 refine take_ (i := 5) (N := some 68) (v := ?_) (a' := ?_) (bm_ 10 63) rfl rfl (take_ofW HT_.out HW_.out (by kernel_rfl)) (fun _ _ _ h => h) (Or.inl ⟨by rfl, ?_⟩) hHeld ?_ ?_
 rotate_left
 · rintro w' ⟨s0, s1, s2⟩
   go_simp
   with_reducible rfl
 rotate_left
 · simp only [Act.put, List.setIfInBounds_toArray, List.set_cons_zero, List.set_cons_succ, i64_w, i32_w]
   rfl
 refine pu_ 6 (some 69) (bm_ 10 127) (any_of HT_.out (by kernel_rfl)) ?_
 refine take_ (i := 7) (N := some 70) (v := ?_) (a' := ?_) (bm_ 10 255) rfl rfl (take_ofW HT_.out HW_.out (by kernel_rfl)) (fun _ _ _ h => h) (Or.inl ⟨by rfl, ?_⟩) hHeld ?_ ?_
 rotate_left
 · rintro w' ⟨s0, s1, s2⟩
   go_simp
   with_reducible rfl
 rotate_left
 · simp only [Act.put, List.setIfInBounds_toArray, List.set_cons_zero, List.set_cons_succ, i64_w, i32_w]
   rfl
 refine pu_ 8 (some 4) (bm_ 10 511) (any_of HT_.out (by kernel_rfl)) ?_
 refine pu_ 9 (some 5) (bm_ 10 1023) (any_of HT_.out (by kernel_rfl)) ?_
 refine done_ (done_of HT_.out (by kernel_rfl)) ?_
 clear HT_ HW_ hHeld
 go_wp2
 go_ret2
 exact ⟨rfl, HO.out, HG.out⟩
noncomputable def f90T14 : Bool × List (List Nat × List Nat) := rtab .any (opsOf Try.f90 14)
theorem f90B14 : waitsOk f90T14.2 [0, 0, 2, 6, 14, 0, 32, 126, 254, 511, 1023, 0, 2047, 8191] = true := by kernel_rfl
def spec_l6At.f (l0 l1 : List Int) (a2 a3 a4 a5 : Bool) (l6 l7 : List Int) (a8 m r : Int) : Option (Int × Bool × List Int) := if m = 1 then some (rd l1 r, true, l1) else if m = 2 ∨ m = 3 then (spec_Wrap.f (wrap64 (rd l1 r + 2))).bind fun u => some (rd l1 r, true, l1.set r.toNat u) else if m = 4 ∨ m = 5 then (spec_Wrap.f (wrap64 (rd l1 r - 2))).bind fun u => some (rd (l1.set r.toNat u) r, true, l1.set r.toNat u) else (spec_l6Fetch.f l0 l1 a2 a3 a4 a5 l6 l7 a8).bind fun t => (spec_Wrap.f (wrap64 (t.1 + rd t.2.2 r))).bind fun u => some (u, t.2.1, t.2.2)
set_option maxHeartbeats 8000000 in
set_option maxRecDepth 100000 in
theorem spec_l6At.calls67 (gb gR : Nat) (A0 : Option Addr) (c0 : Nat) (l0 : List Int) (cR : Nat) (l1 : List Int) (a2 a3 a4 a5 : Bool) (A6 : Option Addr) (c6 : Nat) (l6 : List Int) (A7 : Option Addr) (c7 : Nat) (l7 : List Int) (a8 : Int) (r x : Int) (hq0 : 0 ≤ r) (hq1 : r < 8) (w : World)
  (hbox : w.heap[gb]? = some (.cells #[.slice A0 l0.length c0, .slice (some ⟨gR, 0, none⟩) 8 cR, .bool a2, .bool a3, .bool a4, .bool a5, .slice A6 l6.length c6, .slice A7 l7.length c7, .int .i64 a8] 28 (0, 0)))
  (base : Nat) (ok1 : Nat → Prop) (HO1 : (Kd.int .i64).R 3 w base ok1 (.slice (some ⟨gR, 0, none⟩) 8 cR) l1) (hne : gb ≠ gR) (hl : l1.length = 8) (hk0 : ∀ w', w.grownBy w' (some gR) → Kd.C (Kd.int .i64) w' A0 l0.length l0) (hc0 : l0.length ≤ c0) (hk6 : ∀ w', w.grownBy w' (some gR) → Kd.C (Kd.int .i64) w' A6 l6.length l6) (hc6 : l6.length ≤ c6) (hk7 : ∀ w', w.grownBy w' (some gR) → Kd.C (Kd.int .i64) w' A7 l7.length l7) (hc7 : l7.length ≤ c7) (m : Int) (hm : m = 6 ∨ m = 7) (q1 : Int) (q2 : Bool) (q3 : List Int) (h : ((spec_l6Fetch.f l0 l1 a2 a3 a4 a5 l6 l7 a8).bind fun t => (spec_Wrap.f (wrap64 (t.1 + rd t.2.2 r))).bind fun u => some (u, t.2.1, t.2.2)) = some (q1, q2, q3)) :
  Calls Try.prog 90 #[.pointer (some ⟨gb, 0, none⟩), .agg #[.int .i64 m, .int .i64 r, .int .i64 x]] w fun e w' => e = .returned (.tuple #[.int .i64 q1, .bool q2]) ∧ (Kd.int .i64).R 3 w' base ok1 (.slice (some ⟨gR, 0, none⟩) 8 cR) q3 ∧ w.grownBy w' (some gR) := by
 obtain ⟨⟨t1, t2, t3⟩, hF, h⟩ := Option.bind_eq_some_iff.mp h
 obtain ⟨u, hU, h⟩ := Option.bind_eq_some_iff.mp h
 dsimp only at hU h
 simp only [Option.some.injEq, Prod.mk.injEq] at h
 obtain ⟨rfl, rfl, rfl⟩ := h
 have HO := A_ HO1
 have HBX := A_ hbox
 have HG : Aside0 (w.grownBy w (some gR)) := A_ (World.grownBy.refl w _)
 have q0_ := decide_eq_true hq0
 have q1_ := decide_eq_true hq1
 go_enter Try.func90, Try.ntmps90
 rcases hm with rfl | rfl
 · go_wp2_with (first | ((with_reducible refine gate_dst (N := 3) rfl ?_); refine bx_ 3 #[.int .i64 6, .int .i64 r, .int .i64 x] 63 ?_; intro go hgo w1 hbo hb; have HO0 := HO; have n0_ := A_ (Kd.R_below HO.out hb); have n1_ := A_ (blk_below HBX.out hb); have n2_ := A_ (gb_then HG.out hb); have n3_ := A_ hbo; clear HO HBX HG; have HO := n0_; have HBX := n1_; have HG := n2_; have HBO := n3_; have y0 : w1.cell? ⟨go, 0, none⟩ = some (.int .i64 6) := (blk_cell hbo 0).trans rfl; have hgn : go ≠ gR := (by have q_ := row_lt_ HO0.out (by decide); omega); clear n0_ n1_ n2_ n3_ hb hbo hgo HO0) | ((with_reducible refine gate_callee (f := 97) rfl ?_); refine gL_ (some 73) Try.func97 #[.pointer (some ⟨gb, 0, none⟩)] ?_; refine (spec_l6Fetch.calls gb gR A0 c0 l0 cR l1 a2 a3 a4 a5 A6 c6 l6 A7 c7 l7 a8 t1 t2 t3 _ HBX.out base ok1 HO.out hne hl (hk0 _ HG.out) hc0 (hk6 _ HG.out) hc6 (hk7 _ HG.out) hc7 hF).mono ?_; rintro e w2 ⟨rfl, h1, h2⟩; refine ⟨_, rfl, ?_⟩; have n0_ := A_ h1; have n1_ := A_ (gb_blk h2 HBX.out hne); have n2_ := A_ (gb_trans HG.out h2); have n3_ := A_ (gb_blk h2 HBO.out hgn); clear HO HBX HG HBO; have HO := n0_; have HBX := n1_; have HG := n2_; have HBO := n3_; clear n0_ n1_ n2_ n3_ h1 h2))
   replace HO := A_ (Kd.R_drew HO.out)
   replace HBX := A_ (blk_drew HBX.out)
   replace HBO := A_ (blk_drew HBO.out)
   replace HG := A_ (gb_drew HG.out)
   refine start_ (n := 14) (S := fun w' => w'.cell? ⟨gb, 1, none⟩ = some (.slice (some ⟨gR, 0, none⟩) 8 cR) ∧ w'.cell? ⟨go, 1, none⟩ = some (.int .i64 r) ∧ w'.cell? ⟨gR, r.toNat, none⟩ = some (.int .i64 (rd t3 r))) (ds := []) #[false, false, false, false, false, false, false, false, false, false, false, false, false, false] (by kernel_rfl) rfl rfl ⟨(blk_cell HBX.out 1).trans rfl, (blk_cell HBO.out 1).trans rfl, row_cell_r HO.out r hq0 hq1⟩ (fun hHeld => ?_); refine with_tabW (T := f90T14) rfl f90B14 (fun HT_ HW_ => ?_)
   generalize w2.drew = w2' at HO HBX HBO HG hHeld ⊢
   refine pu_ 0 (some 76) (bm_ 14 1) (any_of HT_.out (by kernel_rfl)) ?_
   refine pu_ 1 (some 77) (bm_ 14 3) (any_of HT_.out (by kernel_rfl)) ?_
   refine pu_ 2 (some 78) (bm_ 14 7) (any_of HT_.out (by kernel_rfl)) ?_
   refine pu_ 3 (some 79) (bm_ 14 15) (any_of HT_.out (by kernel_rfl)) ?_
   refine pu_ 5 (some 81) (bm_ 14 47) (any_of HT_.out (by kernel_rfl)) ?_
   refine pu_ 11 (some 87) (bm_ 14 2095) (any_of HT_.out (by kernel_rfl)) ?_
   refine take_ (i := 4) (N := some 80) (v := ?_) (a' := ?_) (bm_ 14 2111) rfl rfl (take_ofW HT_.out HW_.out (by kernel_rfl)) (fun _ _ _ h => h) (Or.inl ⟨by rfl, ?_⟩) hHeld ?_ ?_
   rotate_left
   · rintro w' ⟨s0, s1, s2⟩
     go_simp
     with_reducible rfl
   rotate_left
   · simp only [Act.put, List.setIfInBounds_toArray, List.set_cons_zero, List.set_cons_succ, i64_w, i32_w]
     rfl
   refine take_ (i := 6) (N := some 82) (v := ?_) (a' := ?_) (bm_ 14 2175) rfl rfl (take_ofW HT_.out HW_.out (by kernel_rfl)) (fun _ _ _ h => h) (Or.inl ⟨by rfl, ?_⟩) hHeld ?_ ?_
   rotate_left
   · rintro w' ⟨s0, s1, s2⟩
     go_simp
     with_reducible rfl
   rotate_left
   · simp only [Act.put, List.setIfInBounds_toArray, List.set_cons_zero, List.set_cons_succ, i64_w, i32_w]
     rfl
   refine pu_ 7 (some 83) (bm_ 14 2303) (any_of HT_.out (by kernel_rfl)) ?_
   refine take_ (i := 8) (N := some 84) (v := ?_) (a' := ?_) (bm_ 14 2559) rfl rfl (take_ofW HT_.out HW_.out (by kernel_rfl)) (fun _ _ _ h => h) (Or.inl ⟨by rfl, ?_⟩) hHeld ?_ ?_
   rotate_left
   · rintro w' ⟨s0, s1, s2⟩
     go_simp
     with_reducible rfl
   rotate_left
   · simp only [Act.put, List.setIfInBounds_toArray, List.set_cons_zero, List.set_cons_succ, i64_w, i32_w]
     rfl
   refine pu_ 9 (some 85) (bm_ 14 3071) (any_of HT_.out (by kernel_rfl)) ?_
   refine one_ (i := 10) (N := some 86) (bm_ 14 4095) rfl rfl (one_of HT_.out (by kernel_rfl)) (by decide) (fun K hK => ?_)
   refine goes_ Try.func67 (by kernel_rfl) rfl #[.int .i64 (wrap64 (t1 + rd t3 r))] (by rfl) rfl rfl d4_ ?_
   refine (spec_Wrap.calls _ u _ hU).mono ?_
   rintro e w3 ⟨rfl, hb⟩
   refine ⟨_, rfl, ?_⟩
   replace HO := A_ (Kd.R_below HO.out hb.below)
   replace HBX := A_ (blk_below HBX.out hb.below)
   replace HBO := A_ (blk_below HBO.out hb.below)
   replace HG := A_ (gb_then HG.out hb.below)
   clear hb
   refine hK.out _ _ ⟨(blk_cell HBX.out 1).trans rfl, (blk_cell HBO.out 1).trans rfl, row_cell_r HO.out r hq0 hq1⟩ (fun hHeld => ?_)
   clear hK K
   refine norm_ (a' := ?_) ?_ ?_
   rotate_left
   · show Act.put _ (some 86) _ = _
     simp only [Act.put, List.setIfInBounds_toArray, List.set_cons_zero, List.set_cons_succ, i64_w, i32_w]
     rfl
   refine pu_ 12 (some 4) (bm_ 14 8191) (any_of HT_.out (by kernel_rfl)) ?_
   refine pu_ 13 (some 5) (bm_ 14 16383) (any_of HT_.out (by kernel_rfl)) ?_
   refine done_ (done_of HT_.out (by kernel_rfl)) ?_
   clear HT_ HW_ hHeld
   go_wp2
   go_ret2
   exact ⟨rfl, HO.out, HG.out⟩
 · go_wp2_with (first | ((with_reducible refine gate_dst (N := 3) rfl ?_); refine bx_ 3 #[.int .i64 7, .int .i64 r, .int .i64 x] 63 ?_; intro go hgo w1 hbo hb; have HO0 := HO; have n0_ := A_ (Kd.R_below HO.out hb); have n1_ := A_ (blk_below HBX.out hb); have n2_ := A_ (gb_then HG.out hb); have n3_ := A_ hbo; clear HO HBX HG; have HO := n0_; have HBX := n1_; have HG := n2_; have HBO := n3_; have y0 : w1.cell? ⟨go, 0, none⟩ = some (.int .i64 7) := (blk_cell hbo 0).trans rfl; have hgn : go ≠ gR := (by have q_ := row_lt_ HO0.out (by decide); omega); clear n0_ n1_ n2_ n3_ hb hbo hgo HO0) | ((with_reducible refine gate_callee (f := 97) rfl ?_); refine gL_ (some 73) Try.func97 #[.pointer (some ⟨gb, 0, none⟩)] ?_; refine (spec_l6Fetch.calls gb gR A0 c0 l0 cR l1 a2 a3 a4 a5 A6 c6 l6 A7 c7 l7 a8 t1 t2 t3 _ HBX.out base ok1 HO.out hne hl (hk0 _ HG.out) hc0 (hk6 _ HG.out) hc6 (hk7 _ HG.out) hc7 hF).mono ?_; rintro e w2 ⟨rfl, h1, h2⟩; refine ⟨_, rfl, ?_⟩; have n0_ := A_ h1; have n1_ := A_ (gb_blk h2 HBX.out hne); have n2_ := A_ (gb_trans HG.out h2); have n3_ := A_ (gb_blk h2 HBO.out hgn); clear HO HBX HG HBO; have HO := n0_; have HBX := n1_; have HG := n2_; have HBO := n3_; clear n0_ n1_ n2_ n3_ h1 h2))
   replace HO := A_ (Kd.R_drew HO.out)
   replace HBX := A_ (blk_drew HBX.out)
   replace HBO := A_ (blk_drew HBO.out)
   replace HG := A_ (gb_drew HG.out)
   refine start_ (n := 14) (S := fun w' => w'.cell? ⟨gb, 1, none⟩ = some (.slice (some ⟨gR, 0, none⟩) 8 cR) ∧ w'.cell? ⟨go, 1, none⟩ = some (.int .i64 r) ∧ w'.cell? ⟨gR, r.toNat, none⟩ = some (.int .i64 (rd t3 r))) (ds := []) #[false, false, false, false, false, false, false, false, false, false, false, false, false, false] (by kernel_rfl) rfl rfl ⟨(blk_cell HBX.out 1).trans rfl, (blk_cell HBO.out 1).trans rfl, row_cell_r HO.out r hq0 hq1⟩ (fun hHeld => ?_); refine with_tabW (T := f90T14) rfl f90B14 (fun HT_ HW_ => ?_)
   generalize w2.drew = w2' at HO HBX HBO HG hHeld ⊢
   refine pu_ 0 (some 76) (bm_ 14 1) (any_of HT_.out (by kernel_rfl)) ?_
   refine pu_ 1 (some 77) (bm_ 14 3) (any_of HT_.out (by kernel_rfl)) ?_
   refine pu_ 2 (some 78) (bm_ 14 7) (any_of HT_.out (by kernel_rfl)) ?_
   refine pu_ 3 (some 79) (bm_ 14 15) (any_of HT_.out (by kernel_rfl)) ?_
   refine pu_ 5 (some 81) (bm_ 14 47) (any_of HT_.out (by kernel_rfl)) ?_
   refine pu_ 11 (some 87) (bm_ 14 2095) (any_of HT_.out (by kernel_rfl)) ?_
   refine take_ (i := 4) (N := some 80) (v := ?_) (a' := ?_) (bm_ 14 2111) rfl rfl (take_ofW HT_.out HW_.out (by kernel_rfl)) (fun _ _ _ h => h) (Or.inl ⟨by rfl, ?_⟩) hHeld ?_ ?_
   rotate_left
   · rintro w' ⟨s0, s1, s2⟩
     go_simp
     with_reducible rfl
   rotate_left
   · simp only [Act.put, List.setIfInBounds_toArray, List.set_cons_zero, List.set_cons_succ, i64_w, i32_w]
     rfl
   refine take_ (i := 6) (N := some 82) (v := ?_) (a' := ?_) (bm_ 14 2175) rfl rfl (take_ofW HT_.out HW_.out (by kernel_rfl)) (fun _ _ _ h => h) (Or.inl ⟨by rfl, ?_⟩) hHeld ?_ ?_
   rotate_left
   · rintro w' ⟨s0, s1, s2⟩
     go_simp
     with_reducible rfl
   rotate_left
   · simp only [Act.put, List.setIfInBounds_toArray, List.set_cons_zero, List.set_cons_succ, i64_w, i32_w]
     rfl
   refine pu_ 7 (some 83) (bm_ 14 2303) (any_of HT_.out (by kernel_rfl)) ?_
   refine take_ (i := 8) (N := some 84) (v := ?_) (a' := ?_) (bm_ 14 2559) rfl rfl (take_ofW HT_.out HW_.out (by kernel_rfl)) (fun _ _ _ h => h) (Or.inl ⟨by rfl, ?_⟩) hHeld ?_ ?_
   rotate_left
   · rintro w' ⟨s0, s1, s2⟩
     go_simp
     with_reducible rfl
   rotate_left
   · simp only [Act.put, List.setIfInBounds_toArray, List.set_cons_zero, List.set_cons_succ, i64_w, i32_w]
     rfl
   refine pu_ 9 (some 85) (bm_ 14 3071) (any_of HT_.out (by kernel_rfl)) ?_
   refine one_ (i := 10) (N := some 86) (bm_ 14 4095) rfl rfl (one_of HT_.out (by kernel_rfl)) (by decide) (fun K hK => ?_)
   refine goes_ Try.func67 (by kernel_rfl) rfl #[.int .i64 (wrap64 (t1 + rd t3 r))] (by rfl) rfl rfl d4_ ?_
   refine (spec_Wrap.calls _ u _ hU).mono ?_
   rintro e w3 ⟨rfl, hb⟩
   refine ⟨_, rfl, ?_⟩
   replace HO := A_ (Kd.R_below HO.out hb.below)
   replace HBX := A_ (blk_below HBX.out hb.below)
   replace HBO := A_ (blk_below HBO.out hb.below)
   replace HG := A_ (gb_then HG.out hb.below)
   clear hb
   refine hK.out _ _ ⟨(blk_cell HBX.out 1).trans rfl, (blk_cell HBO.out 1).trans rfl, row_cell_r HO.out r hq0 hq1⟩ (fun hHeld => ?_)
   clear hK K
   refine norm_ (a' := ?_) ?_ ?_
   rotate_left
   · show Act.put _ (some 86) _ = _
     simp only [Act.put, List.setIfInBounds_toArray, List.set_cons_zero, List.set_cons_succ, i64_w, i32_w]
     rfl
   refine pu_ 12 (some 4) (bm_ 14 8191) (any_of HT_.out (by kernel_rfl)) ?_
   refine pu_ 13 (some 5) (bm_ 14 16383) (any_of HT_.out (by kernel_rfl)) ?_
   refine done_ (done_of HT_.out (by kernel_rfl)) ?_
   clear HT_ HW_ hHeld
   go_wp2
   go_ret2
   exact ⟨rfl, HO.out, HG.out⟩
section
open Kd
variable {P : Program} {ops : Array Oper} {rest : List Oper} {a : Act} {Q : Exit → Act → World → Prop} {W : World}
/-- a number stored into a row of one's own: an operation in its place. -/
theorem store_row_list {oi : Oper} (hgd : oi.guard = none) (hN : oi.dst = none) (t : TypeId) (p x : Operand) (ho : oi.op = .store t p x) {e base n g j cap : Nat} {ok : Nat → Prop} {xs : List Int} {u : Int}
  (haddr : a.eval p = .pointer (some ⟨g, j, none⟩)) (hx : a.eval x = .int .i64 u) (ht : (P.info? t).map (·.size) = some 1) (HO : (Kd.int .i64).R e W base ok (.slice (some ⟨g, 0, none⟩) n cap) xs) (hj : j < n)
  (h : ∀ w1, (Kd.int .i64).R e w1 base ok (.slice (some ⟨g, 0, none⟩) n cap) (xs.set j u) → W.grownBy w1 (some g) → wpList P ops Q rest a w1) : wpList P ops Q (oi :: rest) a W := by
 have hnx : n = xs.length := (R_reads' HO).1
 subst hnx
 rcases (own_of_R HO).2 with ⟨hv, _⟩ | ⟨g', cap', cur, hv, hb, hh, hnc, hcm, hcs, _⟩
 · simp at hv
 obtain ⟨rfl, rfl⟩ : g = g' ∧ cap = cap' := by simpa using hv
 have hrun := run_store_run (P := P) (o := j) t (.int .i64 u) [.int .i64 u] hh rfl ht (by simp; omega) (by intro q hq; rw [List.mem_singleton.1 hq]; rfl)
 obtain ⟨h1, h2⟩ := R_put HO (j : Int) u
 have hK2 := h _ h1 h2
 refine wpList_plain hgd fun K hK => ?_
 unfold Oper.wp execOp
 simp only [ho, haddr, hx, Sem.run_bind, Sem.run_pure, Result.andThen_ok, hrun]
 show K (a.put oi.dst undef) _
 rw [hN]
 exact hK a _ hK2
end
theorem gb_ch {w w1 w2 : World} {gR g : Nat} (h : w.grownBy w1 (some gR)) (c : Ch w1 w2 g (g + 1)) (hg : w.heap.size ≤ g) : w.grownBy w2 (some gR) :=
 ⟨c.os.trans h.os, c.tape.trans h.tape, c.output.trans h.output, Nat.le_trans h.size c.size, fun k hk hn => (c.block k (Nat.lt_of_lt_of_le hk h.size) (by omega)).trans (h.block k hk hn)⟩
theorem row_ch_ {e base n g gp cap : Nat} {ok : Nat → Prop} {xs : List Int} {w w1 : World} (h : (Kd.int .i64).R e w base ok (.slice (some ⟨g, 0, none⟩) n cap) xs) (c : Ch w w1 gp (gp + 1)) (hd : gp ≠ g) : (Kd.int .i64).R e w1 base ok (.slice (some ⟨g, 0, none⟩) n cap) xs := by
 refine R_own1' (Kd.R_step (R_own1 h) (fun k hk hlt => c.block k hlt ?_)) (fun _ q => q) h.1
 have : g = k := by simpa [Value.ownBlock] using hk
 omega
theorem gb_pt {w w1 : World} {g x : Nat} (h : w.grownBy w1 (some g)) {A : Addr} (hx : A.block = x) (hd : x ≠ g) {v : Value} (hc : w.cell? A = some v) : w1.cell? A = some v := by
 subst hx
 have hlt := World.block_lt_of_cell? w _ hc
 have := h.block A.block hlt (fun q => hd (by injection q))
 simp only [World.cell?, this] at hc ⊢
 exact hc
def impl_place.f (l0 l1 : List Int) (a2 a3 a4 a5 : Bool) (l6 l7 : List Int) (a8 m r : Int) : Option (Int × Int × Bool × List Int) := if m = 0 then some (r, -1, true, l1) else (if m = 1 then some (rd l1 r, true, l1) else if m = 2 ∨ m = 3 then (impl_Wrap.f (wrap64 (rd l1 r + 2))).bind fun u => some (rd l1 r, true, l1.set r.toNat u) else if m = 4 ∨ m = 5 then (impl_Wrap.f (wrap64 (rd l1 r - 2))).bind fun u => some (u, true, l1.set r.toNat u) else (impl_fetch.f l0 l1 a2 a3 a4 a5 l6 l7 a8).bind fun t => (impl_Wrap.f (wrap64 (t.1 + rd t.2.2 r))).bind fun u => some (u, t.2.1, t.2.2)).bind fun s => if s.2.1 = true ∧ (m = 3 ∨ m = 5 ∨ m = 7) then (impl_ReadW.f l0 s.2.2 a2 a3 a4 a5 l6 l7 a8 s.1).bind fun q => some (-1, q.1, q.2, s.2.2) else some (-1, s.1, s.2.1, s.2.2)
noncomputable def f77T1 : Bool × List (List Nat × List Nat) := rtab .any (opsOf Try.f77 1)
theorem f77B1 : waitsOk f77T1.2 [0, 1, 3, 7, 0, 16, 63, 127] = true := by kernel_rfl
set_option maxHeartbeats 16000000 in
set_option maxRecDepth 100000 in
theorem impl_place.calls (gb gR : Nat) (A0 : Option Addr) (c0 : Nat) (l0 : List Int) (cR : Nat) (l1 : List Int) (a2 a3 a4 a5 : Bool) (A6 : Option Addr) (c6 : Nat) (l6 : List Int) (A7 : Option Addr) (c7 : Nat) (l7 : List Int) (a8 : Int) (r x : Int) (hq0 : 0 ≤ r) (hq1 : r < 8) (w : World)
  (hbox : w.heap[gb]? = some (.cells #[.slice A0 l0.length c0, .slice (some ⟨gR, 0, none⟩) 8 cR, .bool a2, .bool a3, .bool a4, .bool a5, .slice A6 l6.length c6, .slice A7 l7.length c7, .int .i64 a8] 28 (0, 0)))
  (base : Nat) (ok1 : Nat → Prop) (HO1 : (Kd.int .i64).R 3 w base ok1 (.slice (some ⟨gR, 0, none⟩) 8 cR) l1) (hne : gb ≠ gR) (hl : l1.length = 8) (hk0 : ∀ w', w.grownBy w' (some gR) → Kd.C (Kd.int .i64) w' A0 l0.length l0) (hc0 : l0.length ≤ c0) (hk6 : ∀ w', w.grownBy w' (some gR) → Kd.C (Kd.int .i64) w' A6 l6.length l6) (hc6 : l6.length ≤ c6) (hk7 : ∀ w', w.grownBy w' (some gR) → Kd.C (Kd.int .i64) w' A7 l7.length l7) (hc7 : l7.length ≤ c7) (m : Int) (hm0 : 0 ≤ m) (hm7 : m < 8) (q0 q1 : Int) (q2 : Bool) (q3 : List Int) (h : impl_place.f l0 l1 a2 a3 a4 a5 l6 l7 a8 m r = some (q0, q1, q2, q3)) :
  Calls Try.prog 77 #[.pointer (some ⟨gb, 0, none⟩), .agg #[.int .i64 m, .int .i64 r, .int .i64 x]] w fun e w' => e = .returned (.tuple #[.agg #[.int .i64 q0, .int .i64 q1], .bool q2]) ∧ (Kd.int .i64).R 3 w' base ok1 (.slice (some ⟨gR, 0, none⟩) 8 cR) q3 ∧ w.grownBy w' (some gR) := by
 have HO := A_ HO1
 have HBX := A_ hbox
 have HG : Aside0 (w.grownBy w (some gR)) := A_ (World.grownBy.refl w _)
 have q0_ := decide_eq_true hq0
 have q1_ := decide_eq_true hq1
 go_enter Try.func77, Try.ntmps77
 go_wp2_with (first | ((with_reducible refine gate_dst (N := 3) rfl ?_); refine bx_ 3 #[.int .i64 m, .int .i64 r, .int .i64 x] 63 ?_; intro go hgo w1 hbo hb; have hgn : go ≠ gR := (by have q_ := row_lt_ HO.out (by decide); omega); have hgb : gb ≠ go := (by have q_ := blk_lt HBX.out; omega); have n0_ := A_ (Kd.R_below HO.out hb); have n1_ := A_ (blk_below HBX.out hb); have n2_ := A_ (gb_then HG.out hb); have n3_ := A_ (hbo); clear HO HBX HG; have HO := n0_; have HBX := n1_; have HG := n2_; have HBO := n3_; clear n0_ n1_ n2_ n3_; clear hb hbo hgo) | ((with_reducible refine gate_dst (N := 4) rfl ?_); refine bx_ 4 #[.int .i64 0, .int .i64 0] 38 ?_; intro gp hgp_ w2 hbp hb; have hpn : gp ≠ gR := (by have q_ := row_lt_ HO.out (by decide); omega); have hop : go ≠ gp := (by have q_ := blk_lt HBO.out; omega); have hbp_ : gb ≠ gp := (by have q_ := blk_lt HBX.out; omega); have hgp : w.heap.size ≤ gp := (by have q_ := HG.out.size; omega); have n0_ := A_ (Kd.R_below HO.out hb); have n1_ := A_ (blk_below HBX.out hb); have n2_ := A_ (gb_then HG.out hb); have n3_ := A_ (blk_below HBO.out hb); have n4_ := A_ (hbp); clear HO HBX HG HBO; have HO := n0_; have HBX := n1_; have HG := n2_; have HBO := n3_; have HBP := n4_; clear n0_ n1_ n2_ n3_ n4_; clear hb hbp hgp_))
 replace HO := A_ (Kd.R_drew HO.out)
 replace HBX := A_ (blk_drew HBX.out)
 replace HG := A_ (gb_drew HG.out)
 replace HBO := A_ (blk_drew HBO.out)
 replace HBP := A_ (blk_drew HBP.out)
 refine start_ (n := 8) (S := fun w' => w'.cell? ⟨gb, 1, none⟩ = some (.slice (some ⟨gR, 0, none⟩) 8 cR) ∧ w'.cell? ⟨go, 1, none⟩ = some (.int .i64 r)) (ds := []) #[false, false, false, false, false, false, false, false] (by kernel_rfl) rfl rfl ⟨(blk_cell HBX.out 1).trans rfl, (blk_cell HBO.out 1).trans rfl⟩ (fun hHeld => ?_); refine with_tabW (T := f77T1) rfl f77B1 (fun HT_ HW_ => ?_)
 generalize w2.drew = w3 at HO HBX HG HBO HBP hHeld ⊢
 refine pu_ 0 (some 11) (bm_ 8 1) (any_of HT_.out (by kernel_rfl)) ?_
 refine pu_ 1 (some 12) (bm_ 8 3) (any_of HT_.out (by kernel_rfl)) ?_
 refine pu_ 2 (some 13) (bm_ 8 7) (any_of HT_.out (by kernel_rfl)) ?_
 refine pu_ 4 (some 15) (bm_ 8 23) (any_of HT_.out (by kernel_rfl)) ?_
 refine take_ (i := 3) (N := some 14) (v := ?_) (a' := ?_) (bm_ 8 31) rfl rfl (take_ofW HT_.out HW_.out (by kernel_rfl)) (fun _ _ _ h => h) (Or.inl ⟨by rfl, ?_⟩) hHeld ?_ ?_
 rotate_left
 · rintro w' ⟨s0, s1⟩
   go_simp
   with_reducible rfl
 rotate_left
 · simp only [Act.put, List.setIfInBounds_toArray, List.set_cons_zero, List.set_cons_succ, i64_w, i32_w]
   rfl
 refine take_ (i := 5) (N := some 16) (v := ?_) (a' := ?_) (bm_ 8 63) rfl rfl (take_ofW HT_.out HW_.out (by kernel_rfl)) (fun _ _ _ h => h) (Or.inl ⟨by rfl, ?_⟩) hHeld ?_ ?_
 rotate_left
 · rintro w' ⟨s0, s1⟩
   go_simp
   with_reducible rfl
 rotate_left
 · simp only [Act.put, List.setIfInBounds_toArray, List.set_cons_zero, List.set_cons_succ, i64_w, i32_w]
   rfl
 refine pu_ 6 (some 17) (bm_ 8 127) (any_of HT_.out (by kernel_rfl)) ?_
 refine pu_ 7 (some 6) (bm_ 8 255) (any_of HT_.out (by kernel_rfl)) ?_
 refine done_ (done_of HT_.out (by kernel_rfl)) ?_
 clear HT_ HW_ hHeld
 have y_m : World.cell? w3 ⟨go, 0, none⟩ = some (.int .i64 m) := (blk_cell HBO.out 0).trans rfl
 have y_r : World.cell? w3 ⟨go, 1, none⟩ = some (.int .i64 r) := (blk_cell HBO.out 1).trans rfl
 have y_R : World.cell? w3 ⟨gR, r.toNat, none⟩ = some (.int .i64 (rd l1 r)) := row_cell_r HO.out r hq0 hq1
 rcases (by omega : m = 0 ∨ m = 1 ∨ m = 2 ∨ m = 3 ∨ m = 4 ∨ m = 5 ∨ m = 6 ∨ m = 7) with rfl | rfl | rfl | rfl | rfl | rfl | rfl | rfl
 · rw [impl_place.f, if_pos rfl] at h
   simp only [Option.some.injEq, Prod.mk.injEq] at h
   obtain ⟨rfl, rfl, rfl, rfl⟩ := h
   go_wp2_with (first | ((with_reducible refine gate_ (.store 38 (.tmp 4) (.tmp 27)) rfl ?_); refine store_struct rfl rfl 38 (.tmp 4) (.tmp 27) rfl (cs := #[.int .i64 r, .int .i64 (-1)]) (by rfl) (by rfl) HBP.out (by kernel_rfl) rfl (by repeat (first | exact fun _ h => absurd h List.not_mem_nil | refine List.forall_mem_cons.2 ⟨rfl, ?_⟩)) ?_; intro w5 hbp hc; clear y_m y_r y_R; have n0_ := A_ (row_ch_ HO.out hc hpn); have n1_ := A_ (blk_ch hc HBX.out (by omega)); have n2_ := A_ (gb_ch HG.out hc hgp); have n3_ := A_ (blk_ch hc HBO.out (by omega)); have n4_ := A_ (hbp); clear HO HBX HG HBO HBP; have HO := n0_; have HBX := n1_; have HG := n2_; have HBO := n3_; have HBP := n4_; clear n0_ n1_ n2_ n3_ n4_; clear hbp hc; have y_m : World.cell? w5 ⟨go, 0, none⟩ = some (.int .i64 0) := (blk_cell HBO.out 0).trans rfl; have y_r : World.cell? w5 ⟨go, 1, none⟩ = some (.int .i64 r) := (blk_cell HBO.out 1).trans rfl; have y_R : World.cell? w5 ⟨gR, r.toNat, none⟩ = some (.int .i64 (rd l1 r)) := row_cell_r HO.out r hq0 hq1))
   refine bodyPost_ret (results_ct rfl _ _ gp 38 #[.int .i64 r, .int .i64 (-1)] (0, 0) _ rfl HBP.out Try.underlying38 rfl (by kernel_rfl)) rfl ?_
   exact ⟨rfl, HO.out, HG.out⟩
 · rw [impl_place.f, if_neg (by decide)] at h
   obtain ⟨⟨at_, ok_, l_⟩, hs, h⟩ := Option.bind_eq_some_iff.mp h
   dsimp only at h
   rw [if_pos (by decide)] at hs
   simp only [Option.some.injEq, Prod.mk.injEq] at hs
   obtain ⟨rfl, rfl, rfl⟩ := hs
   rw [if_neg (fun h_ => absurd h_.2 (by decide))] at h
   simp only [Option.some.injEq, Prod.mk.injEq] at h
   obtain ⟨rfl, rfl, rfl, rfl⟩ := h
   go_wp2_with (first | ((with_reducible refine gate_ (.store 38 (.tmp 4) (.tmp 81)) rfl ?_); refine store_struct rfl rfl 38 (.tmp 4) (.tmp 81) rfl (cs := #[.int .i64 (-1), .int .i64 (rd l1 r)]) (by rfl) (by rfl) HBP.out (by kernel_rfl) rfl (by repeat (first | exact fun _ h => absurd h List.not_mem_nil | refine List.forall_mem_cons.2 ⟨rfl, ?_⟩)) ?_; intro w9 hbp hc; clear y_m y_r y_R; have n0_ := A_ (row_ch_ HO.out hc hpn); have n1_ := A_ (blk_ch hc HBX.out (by omega)); have n2_ := A_ (gb_ch HG.out hc hgp); have n3_ := A_ (blk_ch hc HBO.out (by omega)); have n4_ := A_ (hbp); clear HO HBX HG HBO HBP; have HO := n0_; have HBX := n1_; have HG := n2_; have HBO := n3_; have HBP := n4_; clear n0_ n1_ n2_ n3_ n4_; clear hbp hc; have y_m : World.cell? w9 ⟨go, 0, none⟩ = some (.int .i64 1) := (blk_cell HBO.out 0).trans rfl; have y_r : World.cell? w9 ⟨go, 1, none⟩ = some (.int .i64 r) := (blk_cell HBO.out 1).trans rfl; have y_R : World.cell? w9 ⟨gR, r.toNat, none⟩ = some (.int .i64 (rd l1 r)) := row_cell_r HO.out r hq0 hq1))
   refine bodyPost_ret (results_ct rfl _ _ gp 38 #[.int .i64 (-1), .int .i64 (rd l1 r)] (0, 0) _ rfl HBP.out Try.underlying38 rfl (by kernel_rfl)) rfl ?_
   exact ⟨rfl, HO.out, HG.out⟩
 · rw [impl_place.f, if_neg (by decide)] at h
   obtain ⟨⟨at_, ok_, l_⟩, hs, h⟩ := Option.bind_eq_some_iff.mp h
   dsimp only at h
   rw [if_neg (by decide), if_pos (by decide)] at hs
   obtain ⟨u, hU, hs⟩ := Option.bind_eq_some_iff.mp hs
   simp only [Option.some.injEq, Prod.mk.injEq] at hs
   obtain ⟨rfl, rfl, rfl⟩ := hs
   rw [if_neg (fun h_ => absurd h_.2 (by decide))] at h
   simp only [Option.some.injEq, Prod.mk.injEq] at h
   obtain ⟨rfl, rfl, rfl, rfl⟩ := h
   go_wp2_with (first | ((with_reducible refine gate_callee (f := 43) rfl ?_); refine gL_ (some 34) Try.func43 #[.int .i64 (wrap64 (rd l1 r + 2))] ?_; refine (impl_Wrap.calls _ u _ hU).mono ?_; rintro e w5 ⟨rfl, hb⟩; refine ⟨_, rfl, ?_⟩; clear y_m y_r y_R; have n0_ := A_ (Kd.R_below HO.out hb.below); have n1_ := A_ (blk_below HBX.out hb.below); have n2_ := A_ (gb_then HG.out hb.below); have n3_ := A_ (blk_below HBO.out hb.below); have n4_ := A_ (blk_below HBP.out hb.below); clear HO HBX HG HBO HBP; have HO := n0_; have HBX := n1_; have HG := n2_; have HBO := n3_; have HBP := n4_; clear n0_ n1_ n2_ n3_ n4_; clear hb; have y_m : World.cell? w5 ⟨go, 0, none⟩ = some (.int .i64 2) := (blk_cell HBO.out 0).trans rfl; have y_r : World.cell? w5 ⟨go, 1, none⟩ = some (.int .i64 r) := (blk_cell HBO.out 1).trans rfl; have y_R : World.cell? w5 ⟨gR, r.toNat, none⟩ = some (.int .i64 (rd l1 r)) := row_cell_r HO.out r hq0 hq1) | ((with_reducible refine gate_ (.store 3 (.tmp 35) (.tmp 34)) rfl ?_); refine store_row_list rfl rfl 3 (.tmp 35) (.tmp 34) rfl (by rfl) (by rfl) (by rfl) HO.out (by omega : r.toNat < 8) (fun w6 h1 h2 => ?_); clear y_m y_r y_R; have n0_ := A_ (h1); have n1_ := A_ (gb_blk h2 HBX.out hne); have n2_ := A_ (gb_trans HG.out h2); have n3_ := A_ (gb_blk h2 HBO.out hgn); have n4_ := A_ (gb_blk h2 HBP.out hpn); clear HO HBX HG HBO HBP; have HO := n0_; have HBX := n1_; have HG := n2_; have HBO := n3_; have HBP := n4_; clear n0_ n1_ n2_ n3_ n4_; clear h1 h2; have y_m : World.cell? w6 ⟨go, 0, none⟩ = some (.int .i64 2) := (blk_cell HBO.out 0).trans rfl; have y_r : World.cell? w6 ⟨go, 1, none⟩ = some (.int .i64 r) := (blk_cell HBO.out 1).trans rfl; have y_R : World.cell? w6 ⟨gR, r.toNat, none⟩ = some (.int .i64 (rd (l1.set r.toNat u) r)) := row_cell_r HO.out r hq0 hq1) | ((with_reducible refine gate_ (.store 38 (.tmp 4) (.tmp 81)) rfl ?_); refine store_struct rfl rfl 38 (.tmp 4) (.tmp 81) rfl (cs := #[.int .i64 (-1), .int .i64 (rd l1 r)]) (by rfl) (by rfl) HBP.out (by kernel_rfl) rfl (by repeat (first | exact fun _ h => absurd h List.not_mem_nil | refine List.forall_mem_cons.2 ⟨rfl, ?_⟩)) ?_; intro w9 hbp hc; clear y_m y_r y_R; have n0_ := A_ (row_ch_ HO.out hc hpn); have n1_ := A_ (blk_ch hc HBX.out (by omega)); have n2_ := A_ (gb_ch HG.out hc hgp); have n3_ := A_ (blk_ch hc HBO.out (by omega)); have n4_ := A_ (hbp); clear HO HBX HG HBO HBP; have HO := n0_; have HBX := n1_; have HG := n2_; have HBO := n3_; have HBP := n4_; clear n0_ n1_ n2_ n3_ n4_; clear hbp hc; have y_m : World.cell? w9 ⟨go, 0, none⟩ = some (.int .i64 2) := (blk_cell HBO.out 0).trans rfl; have y_r : World.cell? w9 ⟨go, 1, none⟩ = some (.int .i64 r) := (blk_cell HBO.out 1).trans rfl; have y_R : World.cell? w9 ⟨gR, r.toNat, none⟩ = some (.int .i64 (rd (l1.set r.toNat u) r)) := row_cell_r HO.out r hq0 hq1))
   refine bodyPost_ret (results_ct rfl _ _ gp 38 #[.int .i64 (-1), .int .i64 (rd l1 r)] (0, 0) _ rfl HBP.out Try.underlying38 rfl (by kernel_rfl)) rfl ?_
   exact ⟨rfl, HO.out, HG.out⟩
 · rw [impl_place.f, if_neg (by decide)] at h
   obtain ⟨⟨at_, ok_, l_⟩, hs, h⟩ := Option.bind_eq_some_iff.mp h
   dsimp only at h
   rw [if_neg (by decide), if_pos (by decide)] at hs
   obtain ⟨u, hU, hs⟩ := Option.bind_eq_some_iff.mp hs
   simp only [Option.some.injEq, Prod.mk.injEq] at hs
   obtain ⟨rfl, rfl, rfl⟩ := hs
   rw [if_pos ⟨rfl, by decide⟩] at h
   obtain ⟨⟨q1, q2⟩, hQ, h⟩ := Option.bind_eq_some_iff.mp h
   simp only [Option.some.injEq, Prod.mk.injEq] at h
   obtain ⟨rfl, rfl, rfl, rfl⟩ := h
   go_wp2_with (first | ((with_reducible refine gate_callee (f := 43) rfl ?_); refine gL_ (some 34) Try.func43 #[.int .i64 (wrap64 (rd l1 r + 2))] ?_; refine (impl_Wrap.calls _ u _ hU).mono ?_; rintro e w5 ⟨rfl, hb⟩; refine ⟨_, rfl, ?_⟩; clear y_m y_r y_R; have n0_ := A_ (Kd.R_below HO.out hb.below); have n1_ := A_ (blk_below HBX.out hb.below); have n2_ := A_ (gb_then HG.out hb.below); have n3_ := A_ (blk_below HBO.out hb.below); have n4_ := A_ (blk_below HBP.out hb.below); clear HO HBX HG HBO HBP; have HO := n0_; have HBX := n1_; have HG := n2_; have HBO := n3_; have HBP := n4_; clear n0_ n1_ n2_ n3_ n4_; clear hb; have y_m : World.cell? w5 ⟨go, 0, none⟩ = some (.int .i64 3) := (blk_cell HBO.out 0).trans rfl; have y_r : World.cell? w5 ⟨go, 1, none⟩ = some (.int .i64 r) := (blk_cell HBO.out 1).trans rfl; have y_R : World.cell? w5 ⟨gR, r.toNat, none⟩ = some (.int .i64 (rd l1 r)) := row_cell_r HO.out r hq0 hq1) | ((with_reducible refine gate_ (.store 3 (.tmp 35) (.tmp 34)) rfl ?_); refine store_row_list rfl rfl 3 (.tmp 35) (.tmp 34) rfl (by rfl) (by rfl) (by rfl) HO.out (by omega : r.toNat < 8) (fun w6 h1 h2 => ?_); clear y_m y_r y_R; have n0_ := A_ (h1); have n1_ := A_ (gb_blk h2 HBX.out hne); have n2_ := A_ (gb_trans HG.out h2); have n3_ := A_ (gb_blk h2 HBO.out hgn); have n4_ := A_ (gb_blk h2 HBP.out hpn); clear HO HBX HG HBO HBP; have HO := n0_; have HBX := n1_; have HG := n2_; have HBO := n3_; have HBP := n4_; clear n0_ n1_ n2_ n3_ n4_; clear h1 h2; have y_m : World.cell? w6 ⟨go, 0, none⟩ = some (.int .i64 3) := (blk_cell HBO.out 0).trans rfl; have y_r : World.cell? w6 ⟨go, 1, none⟩ = some (.int .i64 r) := (blk_cell HBO.out 1).trans rfl; have y_R : World.cell? w6 ⟨gR, r.toNat, none⟩ = some (.int .i64 (rd (l1.set r.toNat u) r)) := row_cell_r HO.out r hq0 hq1) | ((with_reducible refine gate_ (.load 28 (.tmp 74)) rfl ?_); refine wpList_load_row rfl 28 (.tmp 74) rfl gb rfl 28 _ _ _ HBX.out Try.underlying28 rfl (by kernel_rfl) ?_) | ((with_reducible refine gate_callee (f := 18) rfl ?_); refine gL_ (some 77) Try.func18 #[.agg #[.slice A0 l0.length c0, .slice (some ⟨gR, 0, none⟩) 8 cR, .bool a2, .bool a3, .bool a4, .bool a5, .slice A6 l6.length c6, .slice A7 l7.length c7, .int .i64 a8], .int .i64 (rd l1 r)] ?_; have hrd := impl_ReadW.calls A0 c0 l0 (some ⟨gR, 0, none⟩) cR (l1.set r.toNat u) a2 a3 a4 a5 A6 c6 l6 A7 c7 l7 a8 (rd l1 r) _ _ _ (hk0 _ HG.out) hc0 ((Kd.R_reads' HO.out).2.2) (by have h_ := (Kd.R_reads' HO.out).2.1; have h9_ := (Kd.R_reads' HO.out).1; omega) (hk6 _ HG.out) hc6 (hk7 _ HG.out) hc7 hQ; rw [← (Kd.R_reads' HO.out).1] at hrd; refine hrd.mono ?_; clear hrd; rintro e w8 ⟨rfl, hb⟩; refine ⟨_, rfl, ?_⟩; clear y_m y_r y_R; have n0_ := A_ (Kd.R_below HO.out hb); have n1_ := A_ (blk_below HBX.out hb); have n2_ := A_ (gb_then HG.out hb); have n3_ := A_ (blk_below HBO.out hb); have n4_ := A_ (blk_below HBP.out hb); clear HO HBX HG HBO HBP; have HO := n0_; have HBX := n1_; have HG := n2_; have HBO := n3_; have HBP := n4_; clear n0_ n1_ n2_ n3_ n4_; clear hb; have y_m : World.cell? w8 ⟨go, 0, none⟩ = some (.int .i64 3) := (blk_cell HBO.out 0).trans rfl; have y_r : World.cell? w8 ⟨go, 1, none⟩ = some (.int .i64 r) := (blk_cell HBO.out 1).trans rfl; have y_R : World.cell? w8 ⟨gR, r.toNat, none⟩ = some (.int .i64 (rd (l1.set r.toNat u) r)) := row_cell_r HO.out r hq0 hq1) | ((with_reducible refine gate_ (.store 38 (.tmp 4) (.tmp 81)) rfl ?_); refine store_struct rfl rfl 38 (.tmp 4) (.tmp 81) rfl (cs := #[.int .i64 (-1), .int .i64 q1]) (by rfl) (by rfl) HBP.out (by kernel_rfl) rfl (by repeat (first | exact fun _ h => absurd h List.not_mem_nil | refine List.forall_mem_cons.2 ⟨rfl, ?_⟩)) ?_; intro w9 hbp hc; clear y_m y_r y_R; have n0_ := A_ (row_ch_ HO.out hc hpn); have n1_ := A_ (blk_ch hc HBX.out (by omega)); have n2_ := A_ (gb_ch HG.out hc hgp); have n3_ := A_ (blk_ch hc HBO.out (by omega)); have n4_ := A_ (hbp); clear HO HBX HG HBO HBP; have HO := n0_; have HBX := n1_; have HG := n2_; have HBO := n3_; have HBP := n4_; clear n0_ n1_ n2_ n3_ n4_; clear hbp hc; have y_m : World.cell? w9 ⟨go, 0, none⟩ = some (.int .i64 3) := (blk_cell HBO.out 0).trans rfl; have y_r : World.cell? w9 ⟨go, 1, none⟩ = some (.int .i64 r) := (blk_cell HBO.out 1).trans rfl; have y_R : World.cell? w9 ⟨gR, r.toNat, none⟩ = some (.int .i64 (rd (l1.set r.toNat u) r)) := row_cell_r HO.out r hq0 hq1))
   refine bodyPost_ret (results_ct rfl _ _ gp 38 #[.int .i64 (-1), .int .i64 q1] (0, 0) _ rfl HBP.out Try.underlying38 rfl (by kernel_rfl)) rfl ?_
   exact ⟨rfl, HO.out, HG.out⟩
 · rw [impl_place.f, if_neg (by decide)] at h
   obtain ⟨⟨at_, ok_, l_⟩, hs, h⟩ := Option.bind_eq_some_iff.mp h
   dsimp only at h
   rw [if_neg (by decide), if_neg (by decide), if_pos (by decide)] at hs
   obtain ⟨u, hU, hs⟩ := Option.bind_eq_some_iff.mp hs
   simp only [Option.some.injEq, Prod.mk.injEq] at hs
   obtain ⟨rfl, rfl, rfl⟩ := hs
   rw [if_neg (fun h_ => absurd h_.2 (by decide))] at h
   simp only [Option.some.injEq, Prod.mk.injEq] at h
   obtain ⟨rfl, rfl, rfl, rfl⟩ := h
   go_wp2_with (first | ((with_reducible refine gate_callee (f := 43) rfl ?_); refine gL_ (some 41) Try.func43 #[.int .i64 (wrap64 (rd l1 r - 2))] ?_; refine (impl_Wrap.calls _ u _ hU).mono ?_; rintro e w5 ⟨rfl, hb⟩; refine ⟨_, rfl, ?_⟩; clear y_m y_r y_R; have n0_ := A_ (Kd.R_below HO.out hb.below); have n1_ := A_ (blk_below HBX.out hb.below); have n2_ := A_ (gb_then HG.out hb.below); have n3_ := A_ (blk_below HBO.out hb.below); have n4_ := A_ (blk_below HBP.out hb.below); clear HO HBX HG HBO HBP; have HO := n0_; have HBX := n1_; have HG := n2_; have HBO := n3_; have HBP := n4_; clear n0_ n1_ n2_ n3_ n4_; clear hb; have y_m : World.cell? w5 ⟨go, 0, none⟩ = some (.int .i64 4) := (blk_cell HBO.out 0).trans rfl; have y_r : World.cell? w5 ⟨go, 1, none⟩ = some (.int .i64 r) := (blk_cell HBO.out 1).trans rfl; have y_R : World.cell? w5 ⟨gR, r.toNat, none⟩ = some (.int .i64 (rd l1 r)) := row_cell_r HO.out r hq0 hq1) | ((with_reducible refine gate_ (.store 3 (.tmp 44) (.tmp 43)) rfl ?_); refine store_row_list rfl rfl 3 (.tmp 44) (.tmp 43) rfl (by rfl) (by rfl) (by rfl) HO.out (by omega : r.toNat < 8) (fun w6 h1 h2 => ?_); clear y_m y_r y_R; have n0_ := A_ (h1); have n1_ := A_ (gb_blk h2 HBX.out hne); have n2_ := A_ (gb_trans HG.out h2); have n3_ := A_ (gb_blk h2 HBO.out hgn); have n4_ := A_ (gb_blk h2 HBP.out hpn); clear HO HBX HG HBO HBP; have HO := n0_; have HBX := n1_; have HG := n2_; have HBO := n3_; have HBP := n4_; clear n0_ n1_ n2_ n3_ n4_; clear h1 h2; have y_m : World.cell? w6 ⟨go, 0, none⟩ = some (.int .i64 4) := (blk_cell HBO.out 0).trans rfl; have y_r : World.cell? w6 ⟨go, 1, none⟩ = some (.int .i64 r) := (blk_cell HBO.out 1).trans rfl; have y_R : World.cell? w6 ⟨gR, r.toNat, none⟩ = some (.int .i64 (rd (l1.set r.toNat u) r)) := row_cell_r HO.out r hq0 hq1) | ((with_reducible refine gate_ (.store 38 (.tmp 4) (.tmp 81)) rfl ?_); refine store_struct rfl rfl 38 (.tmp 4) (.tmp 81) rfl (cs := #[.int .i64 (-1), .int .i64 u]) (by rfl) (by rfl) HBP.out (by kernel_rfl) rfl (by repeat (first | exact fun _ h => absurd h List.not_mem_nil | refine List.forall_mem_cons.2 ⟨rfl, ?_⟩)) ?_; intro w9 hbp hc; clear y_m y_r y_R; have n0_ := A_ (row_ch_ HO.out hc hpn); have n1_ := A_ (blk_ch hc HBX.out (by omega)); have n2_ := A_ (gb_ch HG.out hc hgp); have n3_ := A_ (blk_ch hc HBO.out (by omega)); have n4_ := A_ (hbp); clear HO HBX HG HBO HBP; have HO := n0_; have HBX := n1_; have HG := n2_; have HBO := n3_; have HBP := n4_; clear n0_ n1_ n2_ n3_ n4_; clear hbp hc; have y_m : World.cell? w9 ⟨go, 0, none⟩ = some (.int .i64 4) := (blk_cell HBO.out 0).trans rfl; have y_r : World.cell? w9 ⟨go, 1, none⟩ = some (.int .i64 r) := (blk_cell HBO.out 1).trans rfl; have y_R : World.cell? w9 ⟨gR, r.toNat, none⟩ = some (.int .i64 (rd (l1.set r.toNat u) r)) := row_cell_r HO.out r hq0 hq1))
   refine bodyPost_ret (results_ct rfl _ _ gp 38 #[.int .i64 (-1), .int .i64 u] (0, 0) _ rfl HBP.out Try.underlying38 rfl (by kernel_rfl)) rfl ?_
   exact ⟨rfl, HO.out, HG.out⟩
 · rw [impl_place.f, if_neg (by decide)] at h
   obtain ⟨⟨at_, ok_, l_⟩, hs, h⟩ := Option.bind_eq_some_iff.mp h
   dsimp only at h
   rw [if_neg (by decide), if_neg (by decide), if_pos (by decide)] at hs
   obtain ⟨u, hU, hs⟩ := Option.bind_eq_some_iff.mp hs
   simp only [Option.some.injEq, Prod.mk.injEq] at hs
   obtain ⟨rfl, rfl, rfl⟩ := hs
   rw [if_pos ⟨rfl, by decide⟩] at h
   obtain ⟨⟨q1, q2⟩, hQ, h⟩ := Option.bind_eq_some_iff.mp h
   simp only [Option.some.injEq, Prod.mk.injEq] at h
   obtain ⟨rfl, rfl, rfl, rfl⟩ := h
   go_wp2_with (first | ((with_reducible refine gate_callee (f := 43) rfl ?_); refine gL_ (some 41) Try.func43 #[.int .i64 (wrap64 (rd l1 r - 2))] ?_; refine (impl_Wrap.calls _ u _ hU).mono ?_; rintro e w5 ⟨rfl, hb⟩; refine ⟨_, rfl, ?_⟩; clear y_m y_r y_R; have n0_ := A_ (Kd.R_below HO.out hb.below); have n1_ := A_ (blk_below HBX.out hb.below); have n2_ := A_ (gb_then HG.out hb.below); have n3_ := A_ (blk_below HBO.out hb.below); have n4_ := A_ (blk_below HBP.out hb.below); clear HO HBX HG HBO HBP; have HO := n0_; have HBX := n1_; have HG := n2_; have HBO := n3_; have HBP := n4_; clear n0_ n1_ n2_ n3_ n4_; clear hb; have y_m : World.cell? w5 ⟨go, 0, none⟩ = some (.int .i64 5) := (blk_cell HBO.out 0).trans rfl; have y_r : World.cell? w5 ⟨go, 1, none⟩ = some (.int .i64 r) := (blk_cell HBO.out 1).trans rfl; have y_R : World.cell? w5 ⟨gR, r.toNat, none⟩ = some (.int .i64 (rd l1 r)) := row_cell_r HO.out r hq0 hq1) | ((with_reducible refine gate_ (.store 3 (.tmp 44) (.tmp 43)) rfl ?_); refine store_row_list rfl rfl 3 (.tmp 44) (.tmp 43) rfl (by rfl) (by rfl) (by rfl) HO.out (by omega : r.toNat < 8) (fun w6 h1 h2 => ?_); clear y_m y_r y_R; have n0_ := A_ (h1); have n1_ := A_ (gb_blk h2 HBX.out hne); have n2_ := A_ (gb_trans HG.out h2); have n3_ := A_ (gb_blk h2 HBO.out hgn); have n4_ := A_ (gb_blk h2 HBP.out hpn); clear HO HBX HG HBO HBP; have HO := n0_; have HBX := n1_; have HG := n2_; have HBO := n3_; have HBP := n4_; clear n0_ n1_ n2_ n3_ n4_; clear h1 h2; have y_m : World.cell? w6 ⟨go, 0, none⟩ = some (.int .i64 5) := (blk_cell HBO.out 0).trans rfl; have y_r : World.cell? w6 ⟨go, 1, none⟩ = some (.int .i64 r) := (blk_cell HBO.out 1).trans rfl; have y_R : World.cell? w6 ⟨gR, r.toNat, none⟩ = some (.int .i64 (rd (l1.set r.toNat u) r)) := row_cell_r HO.out r hq0 hq1) | ((with_reducible refine gate_ (.load 28 (.tmp 74)) rfl ?_); refine wpList_load_row rfl 28 (.tmp 74) rfl gb rfl 28 _ _ _ HBX.out Try.underlying28 rfl (by kernel_rfl) ?_) | ((with_reducible refine gate_callee (f := 18) rfl ?_); refine gL_ (some 77) Try.func18 #[.agg #[.slice A0 l0.length c0, .slice (some ⟨gR, 0, none⟩) 8 cR, .bool a2, .bool a3, .bool a4, .bool a5, .slice A6 l6.length c6, .slice A7 l7.length c7, .int .i64 a8], .int .i64 u] ?_; have hrd := impl_ReadW.calls A0 c0 l0 (some ⟨gR, 0, none⟩) cR (l1.set r.toNat u) a2 a3 a4 a5 A6 c6 l6 A7 c7 l7 a8 u _ _ _ (hk0 _ HG.out) hc0 ((Kd.R_reads' HO.out).2.2) (by have h_ := (Kd.R_reads' HO.out).2.1; have h9_ := (Kd.R_reads' HO.out).1; omega) (hk6 _ HG.out) hc6 (hk7 _ HG.out) hc7 hQ; rw [← (Kd.R_reads' HO.out).1] at hrd; refine hrd.mono ?_; clear hrd; rintro e w8 ⟨rfl, hb⟩; refine ⟨_, rfl, ?_⟩; clear y_m y_r y_R; have n0_ := A_ (Kd.R_below HO.out hb); have n1_ := A_ (blk_below HBX.out hb); have n2_ := A_ (gb_then HG.out hb); have n3_ := A_ (blk_below HBO.out hb); have n4_ := A_ (blk_below HBP.out hb); clear HO HBX HG HBO HBP; have HO := n0_; have HBX := n1_; have HG := n2_; have HBO := n3_; have HBP := n4_; clear n0_ n1_ n2_ n3_ n4_; clear hb; have y_m : World.cell? w8 ⟨go, 0, none⟩ = some (.int .i64 5) := (blk_cell HBO.out 0).trans rfl; have y_r : World.cell? w8 ⟨go, 1, none⟩ = some (.int .i64 r) := (blk_cell HBO.out 1).trans rfl; have y_R : World.cell? w8 ⟨gR, r.toNat, none⟩ = some (.int .i64 (rd (l1.set r.toNat u) r)) := row_cell_r HO.out r hq0 hq1) | ((with_reducible refine gate_ (.store 38 (.tmp 4) (.tmp 81)) rfl ?_); refine store_struct rfl rfl 38 (.tmp 4) (.tmp 81) rfl (cs := #[.int .i64 (-1), .int .i64 q1]) (by rfl) (by rfl) HBP.out (by kernel_rfl) rfl (by repeat (first | exact fun _ h => absurd h List.not_mem_nil | refine List.forall_mem_cons.2 ⟨rfl, ?_⟩)) ?_; intro w9 hbp hc; clear y_m y_r y_R; have n0_ := A_ (row_ch_ HO.out hc hpn); have n1_ := A_ (blk_ch hc HBX.out (by omega)); have n2_ := A_ (gb_ch HG.out hc hgp); have n3_ := A_ (blk_ch hc HBO.out (by omega)); have n4_ := A_ (hbp); clear HO HBX HG HBO HBP; have HO := n0_; have HBX := n1_; have HG := n2_; have HBO := n3_; have HBP := n4_; clear n0_ n1_ n2_ n3_ n4_; clear hbp hc; have y_m : World.cell? w9 ⟨go, 0, none⟩ = some (.int .i64 5) := (blk_cell HBO.out 0).trans rfl; have y_r : World.cell? w9 ⟨go, 1, none⟩ = some (.int .i64 r) := (blk_cell HBO.out 1).trans rfl; have y_R : World.cell? w9 ⟨gR, r.toNat, none⟩ = some (.int .i64 (rd (l1.set r.toNat u) r)) := row_cell_r HO.out r hq0 hq1))
   refine bodyPost_ret (results_ct rfl _ _ gp 38 #[.int .i64 (-1), .int .i64 q1] (0, 0) _ rfl HBP.out Try.underlying38 rfl (by kernel_rfl)) rfl ?_
   exact ⟨rfl, HO.out, HG.out⟩
 · rw [impl_place.f, if_neg (by decide)] at h
   obtain ⟨⟨at_, ok_, l_⟩, hs, h⟩ := Option.bind_eq_some_iff.mp h
   dsimp only at h
   rw [if_neg (by decide), if_neg (by decide), if_neg (by decide)] at hs
   obtain ⟨⟨t1, t2, t3⟩, hF, hs⟩ := Option.bind_eq_some_iff.mp hs
   dsimp only at hs
   obtain ⟨u, hU, hs⟩ := Option.bind_eq_some_iff.mp hs
   simp only [Option.some.injEq, Prod.mk.injEq] at hs
   obtain ⟨rfl, rfl, rfl⟩ := hs
   cases t2
   · rw [if_neg (fun h_ => absurd h_.2 (by decide))] at h
     simp only [Option.some.injEq, Prod.mk.injEq] at h
     obtain ⟨rfl, rfl, rfl, rfl⟩ := h
     go_wp2_with (first | ((with_reducible refine gate_callee (f := 93) rfl ?_); refine gL_ (some 50) Try.func93 #[.pointer (some ⟨gb, 0, none⟩)] ?_; refine (impl_fetch.calls gb gR A0 c0 l0 cR l1 a2 a3 a4 a5 A6 c6 l6 A7 c7 l7 a8 _ _ _ _ HBX.out base ok1 HO.out hne hl (hk0 _ HG.out) hc0 (hk6 _ HG.out) hc6 (hk7 _ HG.out) hc7 hF).mono ?_; rintro e w5 ⟨rfl, h1, h2⟩; refine ⟨_, rfl, ?_⟩; clear y_m y_r y_R; have n0_ := A_ (h1); have n1_ := A_ (gb_blk h2 HBX.out hne); have n2_ := A_ (gb_trans HG.out h2); have n3_ := A_ (gb_blk h2 HBO.out hgn); have n4_ := A_ (gb_blk h2 HBP.out hpn); clear HO HBX HG HBO HBP; have HO := n0_; have HBX := n1_; have HG := n2_; have HBO := n3_; have HBP := n4_; clear n0_ n1_ n2_ n3_ n4_; clear h1 h2; have y_m : World.cell? w5 ⟨go, 0, none⟩ = some (.int .i64 6) := (blk_cell HBO.out 0).trans rfl; have y_r : World.cell? w5 ⟨go, 1, none⟩ = some (.int .i64 r) := (blk_cell HBO.out 1).trans rfl; have y_R : World.cell? w5 ⟨gR, r.toNat, none⟩ = some (.int .i64 (rd t3 r)) := row_cell_r HO.out r hq0 hq1) | ((with_reducible refine gate_callee (f := 43) rfl ?_); refine gL_ (some 58) Try.func43 #[.int .i64 (wrap64 (t1 + rd t3 r))] ?_; refine (impl_Wrap.calls _ u _ hU).mono ?_; rintro e w6 ⟨rfl, hb⟩; refine ⟨_, rfl, ?_⟩; clear y_m y_r y_R; have n0_ := A_ (Kd.R_below HO.out hb.below); have n1_ := A_ (blk_below HBX.out hb.below); have n2_ := A_ (gb_then HG.out hb.below); have n3_ := A_ (blk_below HBO.out hb.below); have n4_ := A_ (blk_below HBP.out hb.below); clear HO HBX HG HBO HBP; have HO := n0_; have HBX := n1_; have HG := n2_; have HBO := n3_; have HBP := n4_; clear n0_ n1_ n2_ n3_ n4_; clear hb; have y_m : World.cell? w6 ⟨go, 0, none⟩ = some (.int .i64 6) := (blk_cell HBO.out 0).trans rfl; have y_r : World.cell? w6 ⟨go, 1, none⟩ = some (.int .i64 r) := (blk_cell HBO.out 1).trans rfl; have y_R : World.cell? w6 ⟨gR, r.toNat, none⟩ = some (.int .i64 (rd t3 r)) := row_cell_r HO.out r hq0 hq1) | ((with_reducible refine gate_ (.store 38 (.tmp 4) (.tmp 81)) rfl ?_); refine store_struct rfl rfl 38 (.tmp 4) (.tmp 81) rfl (cs := #[.int .i64 (-1), .int .i64 u]) (by rfl) (by rfl) HBP.out (by kernel_rfl) rfl (by repeat (first | exact fun _ h => absurd h List.not_mem_nil | refine List.forall_mem_cons.2 ⟨rfl, ?_⟩)) ?_; intro w9 hbp hc; clear y_m y_r y_R; have n0_ := A_ (row_ch_ HO.out hc hpn); have n1_ := A_ (blk_ch hc HBX.out (by omega)); have n2_ := A_ (gb_ch HG.out hc hgp); have n3_ := A_ (blk_ch hc HBO.out (by omega)); have n4_ := A_ (hbp); clear HO HBX HG HBO HBP; have HO := n0_; have HBX := n1_; have HG := n2_; have HBO := n3_; have HBP := n4_; clear n0_ n1_ n2_ n3_ n4_; clear hbp hc; have y_m : World.cell? w9 ⟨go, 0, none⟩ = some (.int .i64 6) := (blk_cell HBO.out 0).trans rfl; have y_r : World.cell? w9 ⟨go, 1, none⟩ = some (.int .i64 r) := (blk_cell HBO.out 1).trans rfl; have y_R : World.cell? w9 ⟨gR, r.toNat, none⟩ = some (.int .i64 (rd t3 r)) := row_cell_r HO.out r hq0 hq1))
     refine bodyPost_ret (results_ct rfl _ _ gp 38 #[.int .i64 (-1), .int .i64 u] (0, 0) _ rfl HBP.out Try.underlying38 rfl (by kernel_rfl)) rfl ?_
     exact ⟨rfl, HO.out, HG.out⟩
   · rw [if_neg (fun h_ => absurd h_.2 (by decide))] at h
     simp only [Option.some.injEq, Prod.mk.injEq] at h
     obtain ⟨rfl, rfl, rfl, rfl⟩ := h
     go_wp2_with (first | ((with_reducible refine gate_callee (f := 93) rfl ?_); refine gL_ (some 50) Try.func93 #[.pointer (some ⟨gb, 0, none⟩)] ?_; refine (impl_fetch.calls gb gR A0 c0 l0 cR l1 a2 a3 a4 a5 A6 c6 l6 A7 c7 l7 a8 _ _ _ _ HBX.out base ok1 HO.out hne hl (hk0 _ HG.out) hc0 (hk6 _ HG.out) hc6 (hk7 _ HG.out) hc7 hF).mono ?_; rintro e w5 ⟨rfl, h1, h2⟩; refine ⟨_, rfl, ?_⟩; clear y_m y_r y_R; have n0_ := A_ (h1); have n1_ := A_ (gb_blk h2 HBX.out hne); have n2_ := A_ (gb_trans HG.out h2); have n3_ := A_ (gb_blk h2 HBO.out hgn); have n4_ := A_ (gb_blk h2 HBP.out hpn); clear HO HBX HG HBO HBP; have HO := n0_; have HBX := n1_; have HG := n2_; have HBO := n3_; have HBP := n4_; clear n0_ n1_ n2_ n3_ n4_; clear h1 h2; have y_m : World.cell? w5 ⟨go, 0, none⟩ = some (.int .i64 6) := (blk_cell HBO.out 0).trans rfl; have y_r : World.cell? w5 ⟨go, 1, none⟩ = some (.int .i64 r) := (blk_cell HBO.out 1).trans rfl; have y_R : World.cell? w5 ⟨gR, r.toNat, none⟩ = some (.int .i64 (rd t3 r)) := row_cell_r HO.out r hq0 hq1) | ((with_reducible refine gate_callee (f := 43) rfl ?_); refine gL_ (some 58) Try.func43 #[.int .i64 (wrap64 (t1 + rd t3 r))] ?_; refine (impl_Wrap.calls _ u _ hU).mono ?_; rintro e w6 ⟨rfl, hb⟩; refine ⟨_, rfl, ?_⟩; clear y_m y_r y_R; have n0_ := A_ (Kd.R_below HO.out hb.below); have n1_ := A_ (blk_below HBX.out hb.below); have n2_ := A_ (gb_then HG.out hb.below); have n3_ := A_ (blk_below HBO.out hb.below); have n4_ := A_ (blk_below HBP.out hb.below); clear HO HBX HG HBO HBP; have HO := n0_; have HBX := n1_; have HG := n2_; have HBO := n3_; have HBP := n4_; clear n0_ n1_ n2_ n3_ n4_; clear hb; have y_m : World.cell? w6 ⟨go, 0, none⟩ = some (.int .i64 6) := (blk_cell HBO.out 0).trans rfl; have y_r : World.cell? w6 ⟨go, 1, none⟩ = some (.int .i64 r) := (blk_cell HBO.out 1).trans rfl; have y_R : World.cell? w6 ⟨gR, r.toNat, none⟩ = some (.int .i64 (rd t3 r)) := row_cell_r HO.out r hq0 hq1) | ((with_reducible refine gate_ (.store 38 (.tmp 4) (.tmp 81)) rfl ?_); refine store_struct rfl rfl 38 (.tmp 4) (.tmp 81) rfl (cs := #[.int .i64 (-1), .int .i64 u]) (by rfl) (by rfl) HBP.out (by kernel_rfl) rfl (by repeat (first | exact fun _ h => absurd h List.not_mem_nil | refine List.forall_mem_cons.2 ⟨rfl, ?_⟩)) ?_; intro w9 hbp hc; clear y_m y_r y_R; have n0_ := A_ (row_ch_ HO.out hc hpn); have n1_ := A_ (blk_ch hc HBX.out (by omega)); have n2_ := A_ (gb_ch HG.out hc hgp); have n3_ := A_ (blk_ch hc HBO.out (by omega)); have n4_ := A_ (hbp); clear HO HBX HG HBO HBP; have HO := n0_; have HBX := n1_; have HG := n2_; have HBO := n3_; have HBP := n4_; clear n0_ n1_ n2_ n3_ n4_; clear hbp hc; have y_m : World.cell? w9 ⟨go, 0, none⟩ = some (.int .i64 6) := (blk_cell HBO.out 0).trans rfl; have y_r : World.cell? w9 ⟨go, 1, none⟩ = some (.int .i64 r) := (blk_cell HBO.out 1).trans rfl; have y_R : World.cell? w9 ⟨gR, r.toNat, none⟩ = some (.int .i64 (rd t3 r)) := row_cell_r HO.out r hq0 hq1))
     refine bodyPost_ret (results_ct rfl _ _ gp 38 #[.int .i64 (-1), .int .i64 u] (0, 0) _ rfl HBP.out Try.underlying38 rfl (by kernel_rfl)) rfl ?_
     exact ⟨rfl, HO.out, HG.out⟩
 · rw [impl_place.f, if_neg (by decide)] at h
   obtain ⟨⟨at_, ok_, l_⟩, hs, h⟩ := Option.bind_eq_some_iff.mp h
   dsimp only at h
   rw [if_neg (by decide), if_neg (by decide), if_neg (by decide)] at hs
   obtain ⟨⟨t1, t2, t3⟩, hF, hs⟩ := Option.bind_eq_some_iff.mp hs
   dsimp only at hs
   obtain ⟨u, hU, hs⟩ := Option.bind_eq_some_iff.mp hs
   simp only [Option.some.injEq, Prod.mk.injEq] at hs
   obtain ⟨rfl, rfl, rfl⟩ := hs
   cases t2
   · rw [if_neg (fun h_ => absurd h_.1 (by decide))] at h
     simp only [Option.some.injEq, Prod.mk.injEq] at h
     obtain ⟨rfl, rfl, rfl, rfl⟩ := h
     go_wp2_with (first | ((with_reducible refine gate_callee (f := 93) rfl ?_); refine gL_ (some 50) Try.func93 #[.pointer (some ⟨gb, 0, none⟩)] ?_; refine (impl_fetch.calls gb gR A0 c0 l0 cR l1 a2 a3 a4 a5 A6 c6 l6 A7 c7 l7 a8 _ _ _ _ HBX.out base ok1 HO.out hne hl (hk0 _ HG.out) hc0 (hk6 _ HG.out) hc6 (hk7 _ HG.out) hc7 hF).mono ?_; rintro e w5 ⟨rfl, h1, h2⟩; refine ⟨_, rfl, ?_⟩; clear y_m y_r y_R; have n0_ := A_ (h1); have n1_ := A_ (gb_blk h2 HBX.out hne); have n2_ := A_ (gb_trans HG.out h2); have n3_ := A_ (gb_blk h2 HBO.out hgn); have n4_ := A_ (gb_blk h2 HBP.out hpn); clear HO HBX HG HBO HBP; have HO := n0_; have HBX := n1_; have HG := n2_; have HBO := n3_; have HBP := n4_; clear n0_ n1_ n2_ n3_ n4_; clear h1 h2; have y_m : World.cell? w5 ⟨go, 0, none⟩ = some (.int .i64 7) := (blk_cell HBO.out 0).trans rfl; have y_r : World.cell? w5 ⟨go, 1, none⟩ = some (.int .i64 r) := (blk_cell HBO.out 1).trans rfl; have y_R : World.cell? w5 ⟨gR, r.toNat, none⟩ = some (.int .i64 (rd t3 r)) := row_cell_r HO.out r hq0 hq1) | ((with_reducible refine gate_callee (f := 43) rfl ?_); refine gL_ (some 58) Try.func43 #[.int .i64 (wrap64 (t1 + rd t3 r))] ?_; refine (impl_Wrap.calls _ u _ hU).mono ?_; rintro e w6 ⟨rfl, hb⟩; refine ⟨_, rfl, ?_⟩; clear y_m y_r y_R; have n0_ := A_ (Kd.R_below HO.out hb.below); have n1_ := A_ (blk_below HBX.out hb.below); have n2_ := A_ (gb_then HG.out hb.below); have n3_ := A_ (blk_below HBO.out hb.below); have n4_ := A_ (blk_below HBP.out hb.below); clear HO HBX HG HBO HBP; have HO := n0_; have HBX := n1_; have HG := n2_; have HBO := n3_; have HBP := n4_; clear n0_ n1_ n2_ n3_ n4_; clear hb; have y_m : World.cell? w6 ⟨go, 0, none⟩ = some (.int .i64 7) := (blk_cell HBO.out 0).trans rfl; have y_r : World.cell? w6 ⟨go, 1, none⟩ = some (.int .i64 r) := (blk_cell HBO.out 1).trans rfl; have y_R : World.cell? w6 ⟨gR, r.toNat, none⟩ = some (.int .i64 (rd t3 r)) := row_cell_r HO.out r hq0 hq1) | ((with_reducible refine gate_ (.store 38 (.tmp 4) (.tmp 81)) rfl ?_); refine store_struct rfl rfl 38 (.tmp 4) (.tmp 81) rfl (cs := #[.int .i64 (-1), .int .i64 u]) (by rfl) (by rfl) HBP.out (by kernel_rfl) rfl (by repeat (first | exact fun _ h => absurd h List.not_mem_nil | refine List.forall_mem_cons.2 ⟨rfl, ?_⟩)) ?_; intro w9 hbp hc; clear y_m y_r y_R; have n0_ := A_ (row_ch_ HO.out hc hpn); have n1_ := A_ (blk_ch hc HBX.out (by omega)); have n2_ := A_ (gb_ch HG.out hc hgp); have n3_ := A_ (blk_ch hc HBO.out (by omega)); have n4_ := A_ (hbp); clear HO HBX HG HBO HBP; have HO := n0_; have HBX := n1_; have HG := n2_; have HBO := n3_; have HBP := n4_; clear n0_ n1_ n2_ n3_ n4_; clear hbp hc; have y_m : World.cell? w9 ⟨go, 0, none⟩ = some (.int .i64 7) := (blk_cell HBO.out 0).trans rfl; have y_r : World.cell? w9 ⟨go, 1, none⟩ = some (.int .i64 r) := (blk_cell HBO.out 1).trans rfl; have y_R : World.cell? w9 ⟨gR, r.toNat, none⟩ = some (.int .i64 (rd t3 r)) := row_cell_r HO.out r hq0 hq1))
     refine bodyPost_ret (results_ct rfl _ _ gp 38 #[.int .i64 (-1), .int .i64 u] (0, 0) _ rfl HBP.out Try.underlying38 rfl (by kernel_rfl)) rfl ?_
     exact ⟨rfl, HO.out, HG.out⟩
   · rw [if_pos ⟨rfl, by decide⟩] at h
     obtain ⟨⟨q1, q2⟩, hQ, h⟩ := Option.bind_eq_some_iff.mp h
     simp only [Option.some.injEq, Prod.mk.injEq] at h
     obtain ⟨rfl, rfl, rfl, rfl⟩ := h
     go_wp2_with (first | ((with_reducible refine gate_callee (f := 93) rfl ?_); refine gL_ (some 50) Try.func93 #[.pointer (some ⟨gb, 0, none⟩)] ?_; refine (impl_fetch.calls gb gR A0 c0 l0 cR l1 a2 a3 a4 a5 A6 c6 l6 A7 c7 l7 a8 _ _ _ _ HBX.out base ok1 HO.out hne hl (hk0 _ HG.out) hc0 (hk6 _ HG.out) hc6 (hk7 _ HG.out) hc7 hF).mono ?_; rintro e w5 ⟨rfl, h1, h2⟩; refine ⟨_, rfl, ?_⟩; clear y_m y_r y_R; have n0_ := A_ (h1); have n1_ := A_ (gb_blk h2 HBX.out hne); have n2_ := A_ (gb_trans HG.out h2); have n3_ := A_ (gb_blk h2 HBO.out hgn); have n4_ := A_ (gb_blk h2 HBP.out hpn); clear HO HBX HG HBO HBP; have HO := n0_; have HBX := n1_; have HG := n2_; have HBO := n3_; have HBP := n4_; clear n0_ n1_ n2_ n3_ n4_; clear h1 h2; have y_m : World.cell? w5 ⟨go, 0, none⟩ = some (.int .i64 7) := (blk_cell HBO.out 0).trans rfl; have y_r : World.cell? w5 ⟨go, 1, none⟩ = some (.int .i64 r) := (blk_cell HBO.out 1).trans rfl; have y_R : World.cell? w5 ⟨gR, r.toNat, none⟩ = some (.int .i64 (rd t3 r)) := row_cell_r HO.out r hq0 hq1) | ((with_reducible refine gate_callee (f := 43) rfl ?_); refine gL_ (some 58) Try.func43 #[.int .i64 (wrap64 (t1 + rd t3 r))] ?_; refine (impl_Wrap.calls _ u _ hU).mono ?_; rintro e w6 ⟨rfl, hb⟩; refine ⟨_, rfl, ?_⟩; clear y_m y_r y_R; have n0_ := A_ (Kd.R_below HO.out hb.below); have n1_ := A_ (blk_below HBX.out hb.below); have n2_ := A_ (gb_then HG.out hb.below); have n3_ := A_ (blk_below HBO.out hb.below); have n4_ := A_ (blk_below HBP.out hb.below); clear HO HBX HG HBO HBP; have HO := n0_; have HBX := n1_; have HG := n2_; have HBO := n3_; have HBP := n4_; clear n0_ n1_ n2_ n3_ n4_; clear hb; have y_m : World.cell? w6 ⟨go, 0, none⟩ = some (.int .i64 7) := (blk_cell HBO.out 0).trans rfl; have y_r : World.cell? w6 ⟨go, 1, none⟩ = some (.int .i64 r) := (blk_cell HBO.out 1).trans rfl; have y_R : World.cell? w6 ⟨gR, r.toNat, none⟩ = some (.int .i64 (rd t3 r)) := row_cell_r HO.out r hq0 hq1) | ((with_reducible refine gate_ (.load 28 (.tmp 74)) rfl ?_); refine wpList_load_row rfl 28 (.tmp 74) rfl gb rfl 28 _ _ _ HBX.out Try.underlying28 rfl (by kernel_rfl) ?_) | ((with_reducible refine gate_callee (f := 18) rfl ?_); refine gL_ (some 77) Try.func18 #[.agg #[.slice A0 l0.length c0, .slice (some ⟨gR, 0, none⟩) 8 cR, .bool a2, .bool a3, .bool a4, .bool a5, .slice A6 l6.length c6, .slice A7 l7.length c7, .int .i64 a8], .int .i64 u] ?_; have hrd := impl_ReadW.calls A0 c0 l0 (some ⟨gR, 0, none⟩) cR t3 a2 a3 a4 a5 A6 c6 l6 A7 c7 l7 a8 u _ _ _ (hk0 _ HG.out) hc0 ((Kd.R_reads' HO.out).2.2) (by have h_ := (Kd.R_reads' HO.out).2.1; have h9_ := (Kd.R_reads' HO.out).1; omega) (hk6 _ HG.out) hc6 (hk7 _ HG.out) hc7 hQ; rw [← (Kd.R_reads' HO.out).1] at hrd; refine hrd.mono ?_; clear hrd; rintro e w8 ⟨rfl, hb⟩; refine ⟨_, rfl, ?_⟩; clear y_m y_r y_R; have n0_ := A_ (Kd.R_below HO.out hb); have n1_ := A_ (blk_below HBX.out hb); have n2_ := A_ (gb_then HG.out hb); have n3_ := A_ (blk_below HBO.out hb); have n4_ := A_ (blk_below HBP.out hb); clear HO HBX HG HBO HBP; have HO := n0_; have HBX := n1_; have HG := n2_; have HBO := n3_; have HBP := n4_; clear n0_ n1_ n2_ n3_ n4_; clear hb; have y_m : World.cell? w8 ⟨go, 0, none⟩ = some (.int .i64 7) := (blk_cell HBO.out 0).trans rfl; have y_r : World.cell? w8 ⟨go, 1, none⟩ = some (.int .i64 r) := (blk_cell HBO.out 1).trans rfl; have y_R : World.cell? w8 ⟨gR, r.toNat, none⟩ = some (.int .i64 (rd t3 r)) := row_cell_r HO.out r hq0 hq1) | ((with_reducible refine gate_ (.store 38 (.tmp 4) (.tmp 81)) rfl ?_); refine store_struct rfl rfl 38 (.tmp 4) (.tmp 81) rfl (cs := #[.int .i64 (-1), .int .i64 q1]) (by rfl) (by rfl) HBP.out (by kernel_rfl) rfl (by repeat (first | exact fun _ h => absurd h List.not_mem_nil | refine List.forall_mem_cons.2 ⟨rfl, ?_⟩)) ?_; intro w9 hbp hc; clear y_m y_r y_R; have n0_ := A_ (row_ch_ HO.out hc hpn); have n1_ := A_ (blk_ch hc HBX.out (by omega)); have n2_ := A_ (gb_ch HG.out hc hgp); have n3_ := A_ (blk_ch hc HBO.out (by omega)); have n4_ := A_ (hbp); clear HO HBX HG HBO HBP; have HO := n0_; have HBX := n1_; have HG := n2_; have HBO := n3_; have HBP := n4_; clear n0_ n1_ n2_ n3_ n4_; clear hbp hc; have y_m : World.cell? w9 ⟨go, 0, none⟩ = some (.int .i64 7) := (blk_cell HBO.out 0).trans rfl; have y_r : World.cell? w9 ⟨go, 1, none⟩ = some (.int .i64 r) := (blk_cell HBO.out 1).trans rfl; have y_R : World.cell? w9 ⟨gR, r.toNat, none⟩ = some (.int .i64 (rd t3 r)) := row_cell_r HO.out r hq0 hq1))
     refine bodyPost_ret (results_ct rfl _ _ gp 38 #[.int .i64 (-1), .int .i64 q1] (0, 0) _ rfl HBP.out Try.underlying38 rfl (by kernel_rfl)) rfl ?_
     exact ⟨rfl, HO.out, HG.out⟩
theorem spec_l6At.calls (gb gR : Nat) (A0 : Option Addr) (c0 : Nat) (l0 : List Int) (cR : Nat) (l1 : List Int) (a2 a3 a4 a5 : Bool) (A6 : Option Addr) (c6 : Nat) (l6 : List Int) (A7 : Option Addr) (c7 : Nat) (l7 : List Int) (a8 : Int) (r x : Int) (hq0 : 0 ≤ r) (hq1 : r < 8) (w : World)
  (hbox : w.heap[gb]? = some (.cells #[.slice A0 l0.length c0, .slice (some ⟨gR, 0, none⟩) 8 cR, .bool a2, .bool a3, .bool a4, .bool a5, .slice A6 l6.length c6, .slice A7 l7.length c7, .int .i64 a8] 28 (0, 0)))
  (base : Nat) (ok1 : Nat → Prop) (HO1 : (Kd.int .i64).R 3 w base ok1 (.slice (some ⟨gR, 0, none⟩) 8 cR) l1) (hne : gb ≠ gR) (hl : l1.length = 8) (hk0 : ∀ w', w.grownBy w' (some gR) → Kd.C (Kd.int .i64) w' A0 l0.length l0) (hc0 : l0.length ≤ c0) (hk6 : ∀ w', w.grownBy w' (some gR) → Kd.C (Kd.int .i64) w' A6 l6.length l6) (hc6 : l6.length ≤ c6) (hk7 : ∀ w', w.grownBy w' (some gR) → Kd.C (Kd.int .i64) w' A7 l7.length l7) (hc7 : l7.length ≤ c7) (m : Int) (hm0 : 1 ≤ m) (hm7 : m < 8) (p1 : Int) (p2 : Bool) (p3 : List Int) (h : spec_l6At.f l0 l1 a2 a3 a4 a5 l6 l7 a8 m r = some (p1, p2, p3)) :
  Calls Try.prog 90 #[.pointer (some ⟨gb, 0, none⟩), .agg #[.int .i64 m, .int .i64 r, .int .i64 x]] w fun e w' => e = .returned (.tuple #[.int .i64 p1, .bool p2]) ∧ (Kd.int .i64).R 3 w' base ok1 (.slice (some ⟨gR, 0, none⟩) 8 cR) p3 ∧ w.grownBy w' (some gR) := by
 rcases (by omega : m = 1 ∨ m = 2 ∨ m = 3 ∨ m = 4 ∨ m = 5 ∨ m = 6 ∨ m = 7) with rfl | rfl | rfl | rfl | rfl | rfl | rfl
 · rw [spec_l6At.f, if_pos rfl] at h
   simp only [Option.some.injEq, Prod.mk.injEq] at h
   obtain ⟨rfl, rfl, rfl⟩ := h
   exact spec_l6At.calls1 gb gR A0 c0 l0 cR l1 a2 a3 a4 a5 A6 c6 l6 A7 c7 l7 a8 r x hq0 hq1 w hbox base ok1 HO1 hne hl
 · rw [spec_l6At.f, if_neg (by decide), if_pos (by decide)] at h
   obtain ⟨u, hU, h⟩ := Option.bind_eq_some_iff.mp h
   simp only [Option.some.injEq, Prod.mk.injEq] at h
   obtain ⟨rfl, rfl, rfl⟩ := h
   exact spec_l6At.calls2 gb gR A0 c0 l0 cR l1 a2 a3 a4 a5 A6 c6 l6 A7 c7 l7 a8 r x hq0 hq1 w hbox base ok1 HO1 hne hl u hU
 · rw [spec_l6At.f, if_neg (by decide), if_pos (by decide)] at h
   obtain ⟨u, hU, h⟩ := Option.bind_eq_some_iff.mp h
   simp only [Option.some.injEq, Prod.mk.injEq] at h
   obtain ⟨rfl, rfl, rfl⟩ := h
   exact spec_l6At.calls3 gb gR A0 c0 l0 cR l1 a2 a3 a4 a5 A6 c6 l6 A7 c7 l7 a8 r x hq0 hq1 w hbox base ok1 HO1 hne hl u hU
 · rw [spec_l6At.f, if_neg (by decide), if_neg (by decide), if_pos (by decide)] at h
   obtain ⟨u, hU, h⟩ := Option.bind_eq_some_iff.mp h
   simp only [Option.some.injEq, Prod.mk.injEq] at h
   obtain ⟨rfl, rfl, rfl⟩ := h
   exact spec_l6At.calls4 gb gR A0 c0 l0 cR l1 a2 a3 a4 a5 A6 c6 l6 A7 c7 l7 a8 r x hq0 hq1 w hbox base ok1 HO1 hne hl u hU
 · rw [spec_l6At.f, if_neg (by decide), if_neg (by decide), if_pos (by decide)] at h
   obtain ⟨u, hU, h⟩ := Option.bind_eq_some_iff.mp h
   simp only [Option.some.injEq, Prod.mk.injEq] at h
   obtain ⟨rfl, rfl, rfl⟩ := h
   exact spec_l6At.calls5 gb gR A0 c0 l0 cR l1 a2 a3 a4 a5 A6 c6 l6 A7 c7 l7 a8 r x hq0 hq1 w hbox base ok1 HO1 hne hl u hU
 · rw [spec_l6At.f, if_neg (by decide), if_neg (by decide), if_neg (by decide)] at h
   exact spec_l6At.calls67 gb gR A0 c0 l0 cR l1 a2 a3 a4 a5 A6 c6 l6 A7 c7 l7 a8 r x hq0 hq1 w hbox base ok1 HO1 hne hl hk0 hc0 hk6 hc6 hk7 hc7 6 (by decide) p1 p2 p3 h
 · rw [spec_l6At.f, if_neg (by decide), if_neg (by decide), if_neg (by decide)] at h
   exact spec_l6At.calls67 gb gR A0 c0 l0 cR l1 a2 a3 a4 a5 A6 c6 l6 A7 c7 l7 a8 r x hq0 hq1 w hbox base ok1 HO1 hne hl hk0 hc0 hk6 hc6 hk7 hc7 7 (by decide) p1 p2 p3 h
def spec_l6Place.f (l0 l1 : List Int) (a2 a3 a4 a5 : Bool) (l6 l7 : List Int) (a8 m r : Int) : Option (Int × Int × Bool × List Int) := if m = 0 then some (r, -1, true, l1) else (spec_l6At.f l0 l1 a2 a3 a4 a5 l6 l7 a8 m r).bind fun s => if s.2.1 = true then (if m = 3 ∨ m = 5 ∨ m = 7 then (spec_ReadW.f l0 s.2.2 a2 a3 a4 a5 l6 l7 a8 s.1).bind fun q => if q.2 = true then some (-1, q.1, true, s.2.2) else some (0, 0, false, s.2.2) else some (-1, s.1, true, s.2.2)) else some (0, 0, false, s.2.2)
set_option maxHeartbeats 16000000 in
set_option maxRecDepth 100000 in
theorem spec_l6Place.calls (gb gR : Nat) (A0 : Option Addr) (c0 : Nat) (l0 : List Int) (cR : Nat) (l1 : List Int) (a2 a3 a4 a5 : Bool) (A6 : Option Addr) (c6 : Nat) (l6 : List Int) (A7 : Option Addr) (c7 : Nat) (l7 : List Int) (a8 : Int) (r x : Int) (hq0 : 0 ≤ r) (hq1 : r < 8) (w : World)
  (hbox : w.heap[gb]? = some (.cells #[.slice A0 l0.length c0, .slice (some ⟨gR, 0, none⟩) 8 cR, .bool a2, .bool a3, .bool a4, .bool a5, .slice A6 l6.length c6, .slice A7 l7.length c7, .int .i64 a8] 28 (0, 0)))
  (base : Nat) (ok1 : Nat → Prop) (HO1 : (Kd.int .i64).R 3 w base ok1 (.slice (some ⟨gR, 0, none⟩) 8 cR) l1) (hne : gb ≠ gR) (hl : l1.length = 8) (hk0 : ∀ w', w.grownBy w' (some gR) → Kd.C (Kd.int .i64) w' A0 l0.length l0) (hc0 : l0.length ≤ c0) (hk6 : ∀ w', w.grownBy w' (some gR) → Kd.C (Kd.int .i64) w' A6 l6.length l6) (hc6 : l6.length ≤ c6) (hk7 : ∀ w', w.grownBy w' (some gR) → Kd.C (Kd.int .i64) w' A7 l7.length l7) (hc7 : l7.length ≤ c7) (m : Int) (hm0 : 0 ≤ m) (hm7 : m < 8) (q0 q1 : Int) (q2 : Bool) (q3 : List Int) (h : spec_l6Place.f l0 l1 a2 a3 a4 a5 l6 l7 a8 m r = some (q0, q1, q2, q3)) :
  Calls Try.prog 75 #[.pointer (some ⟨gb, 0, none⟩), .agg #[.int .i64 m, .int .i64 r, .int .i64 x]] w fun e w' => e = .returned (.tuple #[.agg #[.int .i64 q0, .int .i64 q1], .bool q2]) ∧ (Kd.int .i64).R 3 w' base ok1 (.slice (some ⟨gR, 0, none⟩) 8 cR) q3 ∧ w.grownBy w' (some gR) := by
 have HO := A_ HO1
 have HBX := A_ hbox
 have HG : Aside0 (w.grownBy w (some gR)) := A_ (World.grownBy.refl w _)
 have q0_ := decide_eq_true hq0
 have q1_ := decide_eq_true hq1
 rcases (by omega : m = 0 ∨ 1 ≤ m) with hm | hm
 · subst hm
   rw [spec_l6Place.f, if_pos rfl] at h
   simp only [Option.some.injEq, Prod.mk.injEq] at h
   obtain ⟨rfl, rfl, rfl, rfl⟩ := h
   go_enter Try.func75, Try.ntmps75
   go_wp2_with (first | ((with_reducible refine gate_dst (N := 3) rfl ?_); refine bx_ 3 #[.int .i64 0, .int .i64 r, .int .i64 x] 63 ?_; intro go hgo w1 hbo hb; have hgn : go ≠ gR := (by have q_ := row_lt_ HO.out (by decide); omega); have hgb : gb ≠ go := (by have q_ := blk_lt HBX.out; omega); have n0_ := A_ (Kd.R_below HO.out hb); have n1_ := A_ (blk_below HBX.out hb); have n2_ := A_ (gb_then HG.out hb); have n3_ := A_ (hbo); clear HO HBX HG; have HO := n0_; have HBX := n1_; have HG := n2_; have HBO := n3_; clear n0_ n1_ n2_ n3_; clear hb hbo hgo; have y_m : World.cell? w1 ⟨go, 0, none⟩ = some (.int .i64 0) := (blk_cell HBO.out 0).trans rfl; have y_r : World.cell? w1 ⟨go, 1, none⟩ = some (.int .i64 r) := (blk_cell HBO.out 1).trans rfl) | ((with_reducible refine gate_dst (N := 4) rfl ?_); refine bx_ 4 #[.int .i64 0, .int .i64 0] 38 ?_; intro gp hgp_ w2 hbp hb; have hpn : gp ≠ gR := (by have q_ := row_lt_ HO.out (by decide); omega); have hop : go ≠ gp := (by have q_ := blk_lt HBO.out; omega); have hbp_ : gb ≠ gp := (by have q_ := blk_lt HBX.out; omega); have hgp : w.heap.size ≤ gp := (by have q_ := HG.out.size; omega); clear y_m y_r; have n0_ := A_ (Kd.R_below HO.out hb); have n1_ := A_ (blk_below HBX.out hb); have n2_ := A_ (gb_then HG.out hb); have n3_ := A_ (blk_below HBO.out hb); have n4_ := A_ (hbp); clear HO HBX HG HBO; have HO := n0_; have HBX := n1_; have HG := n2_; have HBO := n3_; have HBP := n4_; clear n0_ n1_ n2_ n3_ n4_; clear hb hbp hgp_; have y_m : World.cell? w2 ⟨go, 0, none⟩ = some (.int .i64 0) := (blk_cell HBO.out 0).trans rfl; have y_r : World.cell? w2 ⟨go, 1, none⟩ = some (.int .i64 r) := (blk_cell HBO.out 1).trans rfl) | ((with_reducible refine gate_ (.store 38 (.tmp 4) (.tmp 15)) rfl ?_); refine store_struct rfl rfl 38 (.tmp 4) (.tmp 15) rfl (cs := #[.int .i64 r, .int .i64 (-1)]) (by rfl) (by rfl) HBP.out (by kernel_rfl) rfl (by repeat (first | exact fun _ h => absurd h List.not_mem_nil | refine List.forall_mem_cons.2 ⟨rfl, ?_⟩)) ?_; intro w3 hbp hc; clear y_m y_r; have n0_ := A_ (row_ch_ HO.out hc hpn); have n1_ := A_ (blk_ch hc HBX.out (by omega)); have n2_ := A_ (gb_ch HG.out hc hgp); have n3_ := A_ (blk_ch hc HBO.out (by omega)); have n4_ := A_ (hbp); clear HO HBX HG HBO HBP; have HO := n0_; have HBX := n1_; have HG := n2_; have HBO := n3_; have HBP := n4_; clear n0_ n1_ n2_ n3_ n4_; clear hbp hc; have y_m : World.cell? w3 ⟨go, 0, none⟩ = some (.int .i64 0) := (blk_cell HBO.out 0).trans rfl; have y_r : World.cell? w3 ⟨go, 1, none⟩ = some (.int .i64 r) := (blk_cell HBO.out 1).trans rfl))
   refine bodyPost_ret (results_ct rfl _ _ gp 38 #[.int .i64 r, .int .i64 (-1)] (0, 0) _ rfl HBP.out Try.underlying38 rfl (by kernel_rfl)) rfl ?_
   exact ⟨rfl, HO.out, HG.out⟩
 · have e0_ : (m == 0) = false := beq_eq_false_iff_ne.mpr (by omega)
   rw [spec_l6Place.f, if_neg (by omega)] at h
   obtain ⟨⟨t1, t2, t3⟩, hA, h⟩ := Option.bind_eq_some_iff.mp h
   dsimp only at h
   cases t2
   · rw [if_neg (by decide)] at h
     simp only [Option.some.injEq, Prod.mk.injEq] at h
     obtain ⟨rfl, rfl, rfl, rfl⟩ := h
     go_enter Try.func75, Try.ntmps75
     go_wp2_with (first | ((with_reducible refine gate_dst (N := 3) rfl ?_); refine bx_ 3 #[.int .i64 m, .int .i64 r, .int .i64 x] 63 ?_; intro go hgo w1 hbo hb; have hgn : go ≠ gR := (by have q_ := row_lt_ HO.out (by decide); omega); have hgb : gb ≠ go := (by have q_ := blk_lt HBX.out; omega); have n0_ := A_ (Kd.R_below HO.out hb); have n1_ := A_ (blk_below HBX.out hb); have n2_ := A_ (gb_then HG.out hb); have n3_ := A_ (hbo); clear HO HBX HG; have HO := n0_; have HBX := n1_; have HG := n2_; have HBO := n3_; clear n0_ n1_ n2_ n3_; clear hb hbo hgo; have y_m : World.cell? w1 ⟨go, 0, none⟩ = some (.int .i64 m) := (blk_cell HBO.out 0).trans rfl; have y_r : World.cell? w1 ⟨go, 1, none⟩ = some (.int .i64 r) := (blk_cell HBO.out 1).trans rfl) | ((with_reducible refine gate_dst (N := 4) rfl ?_); refine bx_ 4 #[.int .i64 0, .int .i64 0] 38 ?_; intro gp hgp_ w2 hbp hb; have hpn : gp ≠ gR := (by have q_ := row_lt_ HO.out (by decide); omega); have hop : go ≠ gp := (by have q_ := blk_lt HBO.out; omega); have hbp_ : gb ≠ gp := (by have q_ := blk_lt HBX.out; omega); have hgp : w.heap.size ≤ gp := (by have q_ := HG.out.size; omega); clear y_m y_r; have n0_ := A_ (Kd.R_below HO.out hb); have n1_ := A_ (blk_below HBX.out hb); have n2_ := A_ (gb_then HG.out hb); have n3_ := A_ (blk_below HBO.out hb); have n4_ := A_ (hbp); clear HO HBX HG HBO; have HO := n0_; have HBX := n1_; have HG := n2_; have HBO := n3_; have HBP := n4_; clear n0_ n1_ n2_ n3_ n4_; clear hb hbp hgp_; have y_m : World.cell? w2 ⟨go, 0, none⟩ = some (.int .i64 m) := (blk_cell HBO.out 0).trans rfl; have y_r : World.cell? w2 ⟨go, 1, none⟩ = some (.int .i64 r) := (blk_cell HBO.out 1).trans rfl) | ((with_reducible refine gate_ (.load 63 (.tmp 3)) rfl ?_); refine wpList_load_row rfl 63 (.tmp 3) rfl go rfl 63 _ _ _ HBO.out Try.underlying63 rfl (by kernel_rfl) ?_) | ((with_reducible refine gate_callee (f := 90) rfl ?_); refine gL_ (some 19) Try.func90 #[.pointer (some ⟨gb, 0, none⟩), .agg #[.int .i64 m, .int .i64 r, .int .i64 x]] ?_; refine (spec_l6At.calls gb gR A0 c0 l0 cR l1 a2 a3 a4 a5 A6 c6 l6 A7 c7 l7 a8 r x hq0 hq1 _ HBX.out base ok1 HO.out hne hl (fun w_ h_ => hk0 w_ (gb_trans HG.out h_)) hc0 (fun w_ h_ => hk6 w_ (gb_trans HG.out h_)) hc6 (fun w_ h_ => hk7 w_ (gb_trans HG.out h_)) hc7 m hm hm7 _ _ _ hA).mono ?_; rintro e w3 ⟨rfl, h1, h2⟩; refine ⟨_, rfl, ?_⟩; clear y_m y_r; have n0_ := A_ (h1); have n1_ := A_ (gb_blk h2 HBX.out hne); have n2_ := A_ (gb_trans HG.out h2); have n3_ := A_ (gb_blk h2 HBO.out hgn); have n4_ := A_ (gb_blk h2 HBP.out hpn); clear HO HBX HG HBO HBP; have HO := n0_; have HBX := n1_; have HG := n2_; have HBO := n3_; have HBP := n4_; clear n0_ n1_ n2_ n3_ n4_; clear h1 h2; have y_m : World.cell? w3 ⟨go, 0, none⟩ = some (.int .i64 m) := (blk_cell HBO.out 0).trans rfl; have y_r : World.cell? w3 ⟨go, 1, none⟩ = some (.int .i64 r) := (blk_cell HBO.out 1).trans rfl) | ((with_reducible refine gate_ (.store 38 (.tmp 4) (.tmp 24)) rfl ?_); refine store_struct rfl rfl 38 (.tmp 4) (.tmp 24) rfl (cs := #[.int .i64 0, .int .i64 0]) (by rfl) (by rfl) HBP.out (by kernel_rfl) rfl (by repeat (first | exact fun _ h => absurd h List.not_mem_nil | refine List.forall_mem_cons.2 ⟨rfl, ?_⟩)) ?_; intro w4 hbp hc; clear y_m y_r; have n0_ := A_ (row_ch_ HO.out hc hpn); have n1_ := A_ (blk_ch hc HBX.out (by omega)); have n2_ := A_ (gb_ch HG.out hc hgp); have n3_ := A_ (blk_ch hc HBO.out (by omega)); have n4_ := A_ (hbp); clear HO HBX HG HBO HBP; have HO := n0_; have HBX := n1_; have HG := n2_; have HBO := n3_; have HBP := n4_; clear n0_ n1_ n2_ n3_ n4_; clear hbp hc; have y_m : World.cell? w4 ⟨go, 0, none⟩ = some (.int .i64 m) := (blk_cell HBO.out 0).trans rfl; have y_r : World.cell? w4 ⟨go, 1, none⟩ = some (.int .i64 r) := (blk_cell HBO.out 1).trans rfl))
     refine bodyPost_ret (results_ct rfl _ _ gp 38 #[.int .i64 0, .int .i64 0] (0, 0) _ rfl HBP.out Try.underlying38 rfl (by kernel_rfl)) rfl ?_
     exact ⟨rfl, HO.out, HG.out⟩
   · rw [if_pos rfl] at h
     by_cases hodd : m = 3 ∨ m = 5 ∨ m = 7
     · rw [if_pos hodd] at h
       obtain ⟨⟨q1, q2⟩, hQ, h⟩ := Option.bind_eq_some_iff.mp h
       dsimp only at h
       cases q2
       · rw [if_neg (by decide)] at h
         simp only [Option.some.injEq, Prod.mk.injEq] at h
         obtain ⟨rfl, rfl, rfl, rfl⟩ := h
         rcases hodd with he | he | he
         · have e3_ : (m == 3) = true := beq_iff_eq.mpr he
           go_enter Try.func75, Try.ntmps75
           go_wp2_with (first | ((with_reducible refine gate_dst (N := 3) rfl ?_); refine bx_ 3 #[.int .i64 m, .int .i64 r, .int .i64 x] 63 ?_; intro go hgo w1 hbo hb; have hgn : go ≠ gR := (by have q_ := row_lt_ HO.out (by decide); omega); have hgb : gb ≠ go := (by have q_ := blk_lt HBX.out; omega); have n0_ := A_ (Kd.R_below HO.out hb); have n1_ := A_ (blk_below HBX.out hb); have n2_ := A_ (gb_then HG.out hb); have n3_ := A_ (hbo); clear HO HBX HG; have HO := n0_; have HBX := n1_; have HG := n2_; have HBO := n3_; clear n0_ n1_ n2_ n3_; clear hb hbo hgo; have y_m : World.cell? w1 ⟨go, 0, none⟩ = some (.int .i64 m) := (blk_cell HBO.out 0).trans rfl; have y_r : World.cell? w1 ⟨go, 1, none⟩ = some (.int .i64 r) := (blk_cell HBO.out 1).trans rfl) | ((with_reducible refine gate_dst (N := 4) rfl ?_); refine bx_ 4 #[.int .i64 0, .int .i64 0] 38 ?_; intro gp hgp_ w2 hbp hb; have hpn : gp ≠ gR := (by have q_ := row_lt_ HO.out (by decide); omega); have hop : go ≠ gp := (by have q_ := blk_lt HBO.out; omega); have hbp_ : gb ≠ gp := (by have q_ := blk_lt HBX.out; omega); have hgp : w.heap.size ≤ gp := (by have q_ := HG.out.size; omega); clear y_m y_r; have n0_ := A_ (Kd.R_below HO.out hb); have n1_ := A_ (blk_below HBX.out hb); have n2_ := A_ (gb_then HG.out hb); have n3_ := A_ (blk_below HBO.out hb); have n4_ := A_ (hbp); clear HO HBX HG HBO; have HO := n0_; have HBX := n1_; have HG := n2_; have HBO := n3_; have HBP := n4_; clear n0_ n1_ n2_ n3_ n4_; clear hb hbp hgp_; have y_m : World.cell? w2 ⟨go, 0, none⟩ = some (.int .i64 m) := (blk_cell HBO.out 0).trans rfl; have y_r : World.cell? w2 ⟨go, 1, none⟩ = some (.int .i64 r) := (blk_cell HBO.out 1).trans rfl) | ((with_reducible refine gate_ (.load 63 (.tmp 3)) rfl ?_); refine wpList_load_row rfl 63 (.tmp 3) rfl go rfl 63 _ _ _ HBO.out Try.underlying63 rfl (by kernel_rfl) ?_) | ((with_reducible refine gate_callee (f := 90) rfl ?_); refine gL_ (some 19) Try.func90 #[.pointer (some ⟨gb, 0, none⟩), .agg #[.int .i64 m, .int .i64 r, .int .i64 x]] ?_; refine (spec_l6At.calls gb gR A0 c0 l0 cR l1 a2 a3 a4 a5 A6 c6 l6 A7 c7 l7 a8 r x hq0 hq1 _ HBX.out base ok1 HO.out hne hl (fun w_ h_ => hk0 w_ (gb_trans HG.out h_)) hc0 (fun w_ h_ => hk6 w_ (gb_trans HG.out h_)) hc6 (fun w_ h_ => hk7 w_ (gb_trans HG.out h_)) hc7 m hm hm7 _ _ _ hA).mono ?_; rintro e w3 ⟨rfl, h1, h2⟩; refine ⟨_, rfl, ?_⟩; clear y_m y_r; have n0_ := A_ (h1); have n1_ := A_ (gb_blk h2 HBX.out hne); have n2_ := A_ (gb_trans HG.out h2); have n3_ := A_ (gb_blk h2 HBO.out hgn); have n4_ := A_ (gb_blk h2 HBP.out hpn); clear HO HBX HG HBO HBP; have HO := n0_; have HBX := n1_; have HG := n2_; have HBO := n3_; have HBP := n4_; clear n0_ n1_ n2_ n3_ n4_; clear h1 h2; have y_m : World.cell? w3 ⟨go, 0, none⟩ = some (.int .i64 m) := (blk_cell HBO.out 0).trans rfl; have y_r : World.cell? w3 ⟨go, 1, none⟩ = some (.int .i64 r) := (blk_cell HBO.out 1).trans rfl) | ((with_reducible refine gate_ (.load 28 (.tmp 40)) rfl ?_); refine wpList_load_row rfl 28 (.tmp 40) rfl gb rfl 28 _ _ _ HBX.out Try.underlying28 rfl (by kernel_rfl) ?_) | ((with_reducible refine gate_callee (f := 16) rfl ?_); refine gL_ (some 43) Try.func16 #[.agg #[.slice A0 l0.length c0, .slice (some ⟨gR, 0, none⟩) 8 cR, .bool a2, .bool a3, .bool a4, .bool a5, .slice A6 l6.length c6, .slice A7 l7.length c7, .int .i64 a8], .int .i64 t1] ?_; have hrd := spec_ReadW.calls A0 c0 l0 (some ⟨gR, 0, none⟩) cR t3 a2 a3 a4 a5 A6 c6 l6 A7 c7 l7 a8 t1 _ _ _ (hk0 _ HG.out) hc0 ((Kd.R_reads' HO.out).2.2) (by have h_ := (Kd.R_reads' HO.out).2.1; have h9_ := (Kd.R_reads' HO.out).1; omega) (hk6 _ HG.out) hc6 (hk7 _ HG.out) hc7 hQ; rw [← (Kd.R_reads' HO.out).1] at hrd; refine hrd.mono ?_; clear hrd; rintro e w4 ⟨rfl, hb⟩; refine ⟨_, rfl, ?_⟩; clear y_m y_r; have n0_ := A_ (Kd.R_below HO.out hb); have n1_ := A_ (blk_below HBX.out hb); have n2_ := A_ (gb_then HG.out hb); have n3_ := A_ (blk_below HBO.out hb); have n4_ := A_ (blk_below HBP.out hb); clear HO HBX HG HBO HBP; have HO := n0_; have HBX := n1_; have HG := n2_; have HBO := n3_; have HBP := n4_; clear n0_ n1_ n2_ n3_ n4_; clear hb; have y_m : World.cell? w4 ⟨go, 0, none⟩ = some (.int .i64 m) := (blk_cell HBO.out 0).trans rfl; have y_r : World.cell? w4 ⟨go, 1, none⟩ = some (.int .i64 r) := (blk_cell HBO.out 1).trans rfl) | ((with_reducible refine gate_ (.store 38 (.tmp 4) (.tmp 48)) rfl ?_); refine store_struct rfl rfl 38 (.tmp 4) (.tmp 48) rfl (cs := #[.int .i64 0, .int .i64 0]) (by rfl) (by rfl) HBP.out (by kernel_rfl) rfl (by repeat (first | exact fun _ h => absurd h List.not_mem_nil | refine List.forall_mem_cons.2 ⟨rfl, ?_⟩)) ?_; intro w5 hbp hc; clear y_m y_r; have n0_ := A_ (row_ch_ HO.out hc hpn); have n1_ := A_ (blk_ch hc HBX.out (by omega)); have n2_ := A_ (gb_ch HG.out hc hgp); have n3_ := A_ (blk_ch hc HBO.out (by omega)); have n4_ := A_ (hbp); clear HO HBX HG HBO HBP; have HO := n0_; have HBX := n1_; have HG := n2_; have HBO := n3_; have HBP := n4_; clear n0_ n1_ n2_ n3_ n4_; clear hbp hc; have y_m : World.cell? w5 ⟨go, 0, none⟩ = some (.int .i64 m) := (blk_cell HBO.out 0).trans rfl; have y_r : World.cell? w5 ⟨go, 1, none⟩ = some (.int .i64 r) := (blk_cell HBO.out 1).trans rfl))
           refine bodyPost_ret (results_ct rfl _ _ gp 38 #[.int .i64 0, .int .i64 0] (0, 0) _ rfl HBP.out Try.underlying38 rfl (by kernel_rfl)) rfl ?_
           exact ⟨rfl, HO.out, HG.out⟩
         · have e3_ : (m == 3) = false := beq_eq_false_iff_ne.mpr (by omega)
           have e5_ : (m == 5) = true := beq_iff_eq.mpr he
           go_enter Try.func75, Try.ntmps75
           go_wp2_with (first | ((with_reducible refine gate_dst (N := 3) rfl ?_); refine bx_ 3 #[.int .i64 m, .int .i64 r, .int .i64 x] 63 ?_; intro go hgo w1 hbo hb; have hgn : go ≠ gR := (by have q_ := row_lt_ HO.out (by decide); omega); have hgb : gb ≠ go := (by have q_ := blk_lt HBX.out; omega); have n0_ := A_ (Kd.R_below HO.out hb); have n1_ := A_ (blk_below HBX.out hb); have n2_ := A_ (gb_then HG.out hb); have n3_ := A_ (hbo); clear HO HBX HG; have HO := n0_; have HBX := n1_; have HG := n2_; have HBO := n3_; clear n0_ n1_ n2_ n3_; clear hb hbo hgo; have y_m : World.cell? w1 ⟨go, 0, none⟩ = some (.int .i64 m) := (blk_cell HBO.out 0).trans rfl; have y_r : World.cell? w1 ⟨go, 1, none⟩ = some (.int .i64 r) := (blk_cell HBO.out 1).trans rfl) | ((with_reducible refine gate_dst (N := 4) rfl ?_); refine bx_ 4 #[.int .i64 0, .int .i64 0] 38 ?_; intro gp hgp_ w2 hbp hb; have hpn : gp ≠ gR := (by have q_ := row_lt_ HO.out (by decide); omega); have hop : go ≠ gp := (by have q_ := blk_lt HBO.out; omega); have hbp_ : gb ≠ gp := (by have q_ := blk_lt HBX.out; omega); have hgp : w.heap.size ≤ gp := (by have q_ := HG.out.size; omega); clear y_m y_r; have n0_ := A_ (Kd.R_below HO.out hb); have n1_ := A_ (blk_below HBX.out hb); have n2_ := A_ (gb_then HG.out hb); have n3_ := A_ (blk_below HBO.out hb); have n4_ := A_ (hbp); clear HO HBX HG HBO; have HO := n0_; have HBX := n1_; have HG := n2_; have HBO := n3_; have HBP := n4_; clear n0_ n1_ n2_ n3_ n4_; clear hb hbp hgp_; have y_m : World.cell? w2 ⟨go, 0, none⟩ = some (.int .i64 m) := (blk_cell HBO.out 0).trans rfl; have y_r : World.cell? w2 ⟨go, 1, none⟩ = some (.int .i64 r) := (blk_cell HBO.out 1).trans rfl) | ((with_reducible refine gate_ (.load 63 (.tmp 3)) rfl ?_); refine wpList_load_row rfl 63 (.tmp 3) rfl go rfl 63 _ _ _ HBO.out Try.underlying63 rfl (by kernel_rfl) ?_) | ((with_reducible refine gate_callee (f := 90) rfl ?_); refine gL_ (some 19) Try.func90 #[.pointer (some ⟨gb, 0, none⟩), .agg #[.int .i64 m, .int .i64 r, .int .i64 x]] ?_; refine (spec_l6At.calls gb gR A0 c0 l0 cR l1 a2 a3 a4 a5 A6 c6 l6 A7 c7 l7 a8 r x hq0 hq1 _ HBX.out base ok1 HO.out hne hl (fun w_ h_ => hk0 w_ (gb_trans HG.out h_)) hc0 (fun w_ h_ => hk6 w_ (gb_trans HG.out h_)) hc6 (fun w_ h_ => hk7 w_ (gb_trans HG.out h_)) hc7 m hm hm7 _ _ _ hA).mono ?_; rintro e w3 ⟨rfl, h1, h2⟩; refine ⟨_, rfl, ?_⟩; clear y_m y_r; have n0_ := A_ (h1); have n1_ := A_ (gb_blk h2 HBX.out hne); have n2_ := A_ (gb_trans HG.out h2); have n3_ := A_ (gb_blk h2 HBO.out hgn); have n4_ := A_ (gb_blk h2 HBP.out hpn); clear HO HBX HG HBO HBP; have HO := n0_; have HBX := n1_; have HG := n2_; have HBO := n3_; have HBP := n4_; clear n0_ n1_ n2_ n3_ n4_; clear h1 h2; have y_m : World.cell? w3 ⟨go, 0, none⟩ = some (.int .i64 m) := (blk_cell HBO.out 0).trans rfl; have y_r : World.cell? w3 ⟨go, 1, none⟩ = some (.int .i64 r) := (blk_cell HBO.out 1).trans rfl) | ((with_reducible refine gate_ (.load 28 (.tmp 40)) rfl ?_); refine wpList_load_row rfl 28 (.tmp 40) rfl gb rfl 28 _ _ _ HBX.out Try.underlying28 rfl (by kernel_rfl) ?_) | ((with_reducible refine gate_callee (f := 16) rfl ?_); refine gL_ (some 43) Try.func16 #[.agg #[.slice A0 l0.length c0, .slice (some ⟨gR, 0, none⟩) 8 cR, .bool a2, .bool a3, .bool a4, .bool a5, .slice A6 l6.length c6, .slice A7 l7.length c7, .int .i64 a8], .int .i64 t1] ?_; have hrd := spec_ReadW.calls A0 c0 l0 (some ⟨gR, 0, none⟩) cR t3 a2 a3 a4 a5 A6 c6 l6 A7 c7 l7 a8 t1 _ _ _ (hk0 _ HG.out) hc0 ((Kd.R_reads' HO.out).2.2) (by have h_ := (Kd.R_reads' HO.out).2.1; have h9_ := (Kd.R_reads' HO.out).1; omega) (hk6 _ HG.out) hc6 (hk7 _ HG.out) hc7 hQ; rw [← (Kd.R_reads' HO.out).1] at hrd; refine hrd.mono ?_; clear hrd; rintro e w4 ⟨rfl, hb⟩; refine ⟨_, rfl, ?_⟩; clear y_m y_r; have n0_ := A_ (Kd.R_below HO.out hb); have n1_ := A_ (blk_below HBX.out hb); have n2_ := A_ (gb_then HG.out hb); have n3_ := A_ (blk_below HBO.out hb); have n4_ := A_ (blk_below HBP.out hb); clear HO HBX HG HBO HBP; have HO := n0_; have HBX := n1_; have HG := n2_; have HBO := n3_; have HBP := n4_; clear n0_ n1_ n2_ n3_ n4_; clear hb; have y_m : World.cell? w4 ⟨go, 0, none⟩ = some (.int .i64 m) := (blk_cell HBO.out 0).trans rfl; have y_r : World.cell? w4 ⟨go, 1, none⟩ = some (.int .i64 r) := (blk_cell HBO.out 1).trans rfl) | ((with_reducible refine gate_ (.store 38 (.tmp 4) (.tmp 48)) rfl ?_); refine store_struct rfl rfl 38 (.tmp 4) (.tmp 48) rfl (cs := #[.int .i64 0, .int .i64 0]) (by rfl) (by rfl) HBP.out (by kernel_rfl) rfl (by repeat (first | exact fun _ h => absurd h List.not_mem_nil | refine List.forall_mem_cons.2 ⟨rfl, ?_⟩)) ?_; intro w5 hbp hc; clear y_m y_r; have n0_ := A_ (row_ch_ HO.out hc hpn); have n1_ := A_ (blk_ch hc HBX.out (by omega)); have n2_ := A_ (gb_ch HG.out hc hgp); have n3_ := A_ (blk_ch hc HBO.out (by omega)); have n4_ := A_ (hbp); clear HO HBX HG HBO HBP; have HO := n0_; have HBX := n1_; have HG := n2_; have HBO := n3_; have HBP := n4_; clear n0_ n1_ n2_ n3_ n4_; clear hbp hc; have y_m : World.cell? w5 ⟨go, 0, none⟩ = some (.int .i64 m) := (blk_cell HBO.out 0).trans rfl; have y_r : World.cell? w5 ⟨go, 1, none⟩ = some (.int .i64 r) := (blk_cell HBO.out 1).trans rfl))
           refine bodyPost_ret (results_ct rfl _ _ gp 38 #[.int .i64 0, .int .i64 0] (0, 0) _ rfl HBP.out Try.underlying38 rfl (by kernel_rfl)) rfl ?_
           exact ⟨rfl, HO.out, HG.out⟩
         · have e3_ : (m == 3) = false := beq_eq_false_iff_ne.mpr (by omega)
           have e5_ : (m == 5) = false := beq_eq_false_iff_ne.mpr (by omega)
           have e7_ : (m == 7) = true := beq_iff_eq.mpr he
           go_enter Try.func75, Try.ntmps75
           go_wp2_with (first | ((with_reducible refine gate_dst (N := 3) rfl ?_); refine bx_ 3 #[.int .i64 m, .int .i64 r, .int .i64 x] 63 ?_; intro go hgo w1 hbo hb; have hgn : go ≠ gR := (by have q_ := row_lt_ HO.out (by decide); omega); have hgb : gb ≠ go := (by have q_ := blk_lt HBX.out; omega); have n0_ := A_ (Kd.R_below HO.out hb); have n1_ := A_ (blk_below HBX.out hb); have n2_ := A_ (gb_then HG.out hb); have n3_ := A_ (hbo); clear HO HBX HG; have HO := n0_; have HBX := n1_; have HG := n2_; have HBO := n3_; clear n0_ n1_ n2_ n3_; clear hb hbo hgo; have y_m : World.cell? w1 ⟨go, 0, none⟩ = some (.int .i64 m) := (blk_cell HBO.out 0).trans rfl; have y_r : World.cell? w1 ⟨go, 1, none⟩ = some (.int .i64 r) := (blk_cell HBO.out 1).trans rfl) | ((with_reducible refine gate_dst (N := 4) rfl ?_); refine bx_ 4 #[.int .i64 0, .int .i64 0] 38 ?_; intro gp hgp_ w2 hbp hb; have hpn : gp ≠ gR := (by have q_ := row_lt_ HO.out (by decide); omega); have hop : go ≠ gp := (by have q_ := blk_lt HBO.out; omega); have hbp_ : gb ≠ gp := (by have q_ := blk_lt HBX.out; omega); have hgp : w.heap.size ≤ gp := (by have q_ := HG.out.size; omega); clear y_m y_r; have n0_ := A_ (Kd.R_below HO.out hb); have n1_ := A_ (blk_below HBX.out hb); have n2_ := A_ (gb_then HG.out hb); have n3_ := A_ (blk_below HBO.out hb); have n4_ := A_ (hbp); clear HO HBX HG HBO; have HO := n0_; have HBX := n1_; have HG := n2_; have HBO := n3_; have HBP := n4_; clear n0_ n1_ n2_ n3_ n4_; clear hb hbp hgp_; have y_m : World.cell? w2 ⟨go, 0, none⟩ = some (.int .i64 m) := (blk_cell HBO.out 0).trans rfl; have y_r : World.cell? w2 ⟨go, 1, none⟩ = some (.int .i64 r) := (blk_cell HBO.out 1).trans rfl) | ((with_reducible refine gate_ (.load 63 (.tmp 3)) rfl ?_); refine wpList_load_row rfl 63 (.tmp 3) rfl go rfl 63 _ _ _ HBO.out Try.underlying63 rfl (by kernel_rfl) ?_) | ((with_reducible refine gate_callee (f := 90) rfl ?_); refine gL_ (some 19) Try.func90 #[.pointer (some ⟨gb, 0, none⟩), .agg #[.int .i64 m, .int .i64 r, .int .i64 x]] ?_; refine (spec_l6At.calls gb gR A0 c0 l0 cR l1 a2 a3 a4 a5 A6 c6 l6 A7 c7 l7 a8 r x hq0 hq1 _ HBX.out base ok1 HO.out hne hl (fun w_ h_ => hk0 w_ (gb_trans HG.out h_)) hc0 (fun w_ h_ => hk6 w_ (gb_trans HG.out h_)) hc6 (fun w_ h_ => hk7 w_ (gb_trans HG.out h_)) hc7 m hm hm7 _ _ _ hA).mono ?_; rintro e w3 ⟨rfl, h1, h2⟩; refine ⟨_, rfl, ?_⟩; clear y_m y_r; have n0_ := A_ (h1); have n1_ := A_ (gb_blk h2 HBX.out hne); have n2_ := A_ (gb_trans HG.out h2); have n3_ := A_ (gb_blk h2 HBO.out hgn); have n4_ := A_ (gb_blk h2 HBP.out hpn); clear HO HBX HG HBO HBP; have HO := n0_; have HBX := n1_; have HG := n2_; have HBO := n3_; have HBP := n4_; clear n0_ n1_ n2_ n3_ n4_; clear h1 h2; have y_m : World.cell? w3 ⟨go, 0, none⟩ = some (.int .i64 m) := (blk_cell HBO.out 0).trans rfl; have y_r : World.cell? w3 ⟨go, 1, none⟩ = some (.int .i64 r) := (blk_cell HBO.out 1).trans rfl) | ((with_reducible refine gate_ (.load 28 (.tmp 40)) rfl ?_); refine wpList_load_row rfl 28 (.tmp 40) rfl gb rfl 28 _ _ _ HBX.out Try.underlying28 rfl (by kernel_rfl) ?_) | ((with_reducible refine gate_callee (f := 16) rfl ?_); refine gL_ (some 43) Try.func16 #[.agg #[.slice A0 l0.length c0, .slice (some ⟨gR, 0, none⟩) 8 cR, .bool a2, .bool a3, .bool a4, .bool a5, .slice A6 l6.length c6, .slice A7 l7.length c7, .int .i64 a8], .int .i64 t1] ?_; have hrd := spec_ReadW.calls A0 c0 l0 (some ⟨gR, 0, none⟩) cR t3 a2 a3 a4 a5 A6 c6 l6 A7 c7 l7 a8 t1 _ _ _ (hk0 _ HG.out) hc0 ((Kd.R_reads' HO.out).2.2) (by have h_ := (Kd.R_reads' HO.out).2.1; have h9_ := (Kd.R_reads' HO.out).1; omega) (hk6 _ HG.out) hc6 (hk7 _ HG.out) hc7 hQ; rw [← (Kd.R_reads' HO.out).1] at hrd; refine hrd.mono ?_; clear hrd; rintro e w4 ⟨rfl, hb⟩; refine ⟨_, rfl, ?_⟩; clear y_m y_r; have n0_ := A_ (Kd.R_below HO.out hb); have n1_ := A_ (blk_below HBX.out hb); have n2_ := A_ (gb_then HG.out hb); have n3_ := A_ (blk_below HBO.out hb); have n4_ := A_ (blk_below HBP.out hb); clear HO HBX HG HBO HBP; have HO := n0_; have HBX := n1_; have HG := n2_; have HBO := n3_; have HBP := n4_; clear n0_ n1_ n2_ n3_ n4_; clear hb; have y_m : World.cell? w4 ⟨go, 0, none⟩ = some (.int .i64 m) := (blk_cell HBO.out 0).trans rfl; have y_r : World.cell? w4 ⟨go, 1, none⟩ = some (.int .i64 r) := (blk_cell HBO.out 1).trans rfl) | ((with_reducible refine gate_ (.store 38 (.tmp 4) (.tmp 48)) rfl ?_); refine store_struct rfl rfl 38 (.tmp 4) (.tmp 48) rfl (cs := #[.int .i64 0, .int .i64 0]) (by rfl) (by rfl) HBP.out (by kernel_rfl) rfl (by repeat (first | exact fun _ h => absurd h List.not_mem_nil | refine List.forall_mem_cons.2 ⟨rfl, ?_⟩)) ?_; intro w5 hbp hc; clear y_m y_r; have n0_ := A_ (row_ch_ HO.out hc hpn); have n1_ := A_ (blk_ch hc HBX.out (by omega)); have n2_ := A_ (gb_ch HG.out hc hgp); have n3_ := A_ (blk_ch hc HBO.out (by omega)); have n4_ := A_ (hbp); clear HO HBX HG HBO HBP; have HO := n0_; have HBX := n1_; have HG := n2_; have HBO := n3_; have HBP := n4_; clear n0_ n1_ n2_ n3_ n4_; clear hbp hc; have y_m : World.cell? w5 ⟨go, 0, none⟩ = some (.int .i64 m) := (blk_cell HBO.out 0).trans rfl; have y_r : World.cell? w5 ⟨go, 1, none⟩ = some (.int .i64 r) := (blk_cell HBO.out 1).trans rfl))
           refine bodyPost_ret (results_ct rfl _ _ gp 38 #[.int .i64 0, .int .i64 0] (0, 0) _ rfl HBP.out Try.underlying38 rfl (by kernel_rfl)) rfl ?_
           exact ⟨rfl, HO.out, HG.out⟩
       · rw [if_pos rfl] at h
         simp only [Option.some.injEq, Prod.mk.injEq] at h
         obtain ⟨rfl, rfl, rfl, rfl⟩ := h
         rcases hodd with he | he | he
         · have e3_ : (m == 3) = true := beq_iff_eq.mpr he
           go_enter Try.func75, Try.ntmps75
           go_wp2_with (first | ((with_reducible refine gate_dst (N := 3) rfl ?_); refine bx_ 3 #[.int .i64 m, .int .i64 r, .int .i64 x] 63 ?_; intro go hgo w1 hbo hb; have hgn : go ≠ gR := (by have q_ := row_lt_ HO.out (by decide); omega); have hgb : gb ≠ go := (by have q_ := blk_lt HBX.out; omega); have n0_ := A_ (Kd.R_below HO.out hb); have n1_ := A_ (blk_below HBX.out hb); have n2_ := A_ (gb_then HG.out hb); have n3_ := A_ (hbo); clear HO HBX HG; have HO := n0_; have HBX := n1_; have HG := n2_; have HBO := n3_; clear n0_ n1_ n2_ n3_; clear hb hbo hgo; have y_m : World.cell? w1 ⟨go, 0, none⟩ = some (.int .i64 m) := (blk_cell HBO.out 0).trans rfl; have y_r : World.cell? w1 ⟨go, 1, none⟩ = some (.int .i64 r) := (blk_cell HBO.out 1).trans rfl) | ((with_reducible refine gate_dst (N := 4) rfl ?_); refine bx_ 4 #[.int .i64 0, .int .i64 0] 38 ?_; intro gp hgp_ w2 hbp hb; have hpn : gp ≠ gR := (by have q_ := row_lt_ HO.out (by decide); omega); have hop : go ≠ gp := (by have q_ := blk_lt HBO.out; omega); have hbp_ : gb ≠ gp := (by have q_ := blk_lt HBX.out; omega); have hgp : w.heap.size ≤ gp := (by have q_ := HG.out.size; omega); clear y_m y_r; have n0_ := A_ (Kd.R_below HO.out hb); have n1_ := A_ (blk_below HBX.out hb); have n2_ := A_ (gb_then HG.out hb); have n3_ := A_ (blk_below HBO.out hb); have n4_ := A_ (hbp); clear HO HBX HG HBO; have HO := n0_; have HBX := n1_; have HG := n2_; have HBO := n3_; have HBP := n4_; clear n0_ n1_ n2_ n3_ n4_; clear hb hbp hgp_; have y_m : World.cell? w2 ⟨go, 0, none⟩ = some (.int .i64 m) := (blk_cell HBO.out 0).trans rfl; have y_r : World.cell? w2 ⟨go, 1, none⟩ = some (.int .i64 r) := (blk_cell HBO.out 1).trans rfl) | ((with_reducible refine gate_ (.load 63 (.tmp 3)) rfl ?_); refine wpList_load_row rfl 63 (.tmp 3) rfl go rfl 63 _ _ _ HBO.out Try.underlying63 rfl (by kernel_rfl) ?_) | ((with_reducible refine gate_callee (f := 90) rfl ?_); refine gL_ (some 19) Try.func90 #[.pointer (some ⟨gb, 0, none⟩), .agg #[.int .i64 m, .int .i64 r, .int .i64 x]] ?_; refine (spec_l6At.calls gb gR A0 c0 l0 cR l1 a2 a3 a4 a5 A6 c6 l6 A7 c7 l7 a8 r x hq0 hq1 _ HBX.out base ok1 HO.out hne hl (fun w_ h_ => hk0 w_ (gb_trans HG.out h_)) hc0 (fun w_ h_ => hk6 w_ (gb_trans HG.out h_)) hc6 (fun w_ h_ => hk7 w_ (gb_trans HG.out h_)) hc7 m hm hm7 _ _ _ hA).mono ?_; rintro e w3 ⟨rfl, h1, h2⟩; refine ⟨_, rfl, ?_⟩; clear y_m y_r; have n0_ := A_ (h1); have n1_ := A_ (gb_blk h2 HBX.out hne); have n2_ := A_ (gb_trans HG.out h2); have n3_ := A_ (gb_blk h2 HBO.out hgn); have n4_ := A_ (gb_blk h2 HBP.out hpn); clear HO HBX HG HBO HBP; have HO := n0_; have HBX := n1_; have HG := n2_; have HBO := n3_; have HBP := n4_; clear n0_ n1_ n2_ n3_ n4_; clear h1 h2; have y_m : World.cell? w3 ⟨go, 0, none⟩ = some (.int .i64 m) := (blk_cell HBO.out 0).trans rfl; have y_r : World.cell? w3 ⟨go, 1, none⟩ = some (.int .i64 r) := (blk_cell HBO.out 1).trans rfl) | ((with_reducible refine gate_ (.load 28 (.tmp 40)) rfl ?_); refine wpList_load_row rfl 28 (.tmp 40) rfl gb rfl 28 _ _ _ HBX.out Try.underlying28 rfl (by kernel_rfl) ?_) | ((with_reducible refine gate_callee (f := 16) rfl ?_); refine gL_ (some 43) Try.func16 #[.agg #[.slice A0 l0.length c0, .slice (some ⟨gR, 0, none⟩) 8 cR, .bool a2, .bool a3, .bool a4, .bool a5, .slice A6 l6.length c6, .slice A7 l7.length c7, .int .i64 a8], .int .i64 t1] ?_; have hrd := spec_ReadW.calls A0 c0 l0 (some ⟨gR, 0, none⟩) cR t3 a2 a3 a4 a5 A6 c6 l6 A7 c7 l7 a8 t1 _ _ _ (hk0 _ HG.out) hc0 ((Kd.R_reads' HO.out).2.2) (by have h_ := (Kd.R_reads' HO.out).2.1; have h9_ := (Kd.R_reads' HO.out).1; omega) (hk6 _ HG.out) hc6 (hk7 _ HG.out) hc7 hQ; rw [← (Kd.R_reads' HO.out).1] at hrd; refine hrd.mono ?_; clear hrd; rintro e w4 ⟨rfl, hb⟩; refine ⟨_, rfl, ?_⟩; clear y_m y_r; have n0_ := A_ (Kd.R_below HO.out hb); have n1_ := A_ (blk_below HBX.out hb); have n2_ := A_ (gb_then HG.out hb); have n3_ := A_ (blk_below HBO.out hb); have n4_ := A_ (blk_below HBP.out hb); clear HO HBX HG HBO HBP; have HO := n0_; have HBX := n1_; have HG := n2_; have HBO := n3_; have HBP := n4_; clear n0_ n1_ n2_ n3_ n4_; clear hb; have y_m : World.cell? w4 ⟨go, 0, none⟩ = some (.int .i64 m) := (blk_cell HBO.out 0).trans rfl; have y_r : World.cell? w4 ⟨go, 1, none⟩ = some (.int .i64 r) := (blk_cell HBO.out 1).trans rfl) | ((with_reducible refine gate_ (.store 38 (.tmp 4) (.tmp 51)) rfl ?_); refine store_struct rfl rfl 38 (.tmp 4) (.tmp 51) rfl (cs := #[.int .i64 (-1), .int .i64 q1]) (by rfl) (by rfl) HBP.out (by kernel_rfl) rfl (by repeat (first | exact fun _ h => absurd h List.not_mem_nil | refine List.forall_mem_cons.2 ⟨rfl, ?_⟩)) ?_; intro w5 hbp hc; clear y_m y_r; have n0_ := A_ (row_ch_ HO.out hc hpn); have n1_ := A_ (blk_ch hc HBX.out (by omega)); have n2_ := A_ (gb_ch HG.out hc hgp); have n3_ := A_ (blk_ch hc HBO.out (by omega)); have n4_ := A_ (hbp); clear HO HBX HG HBO HBP; have HO := n0_; have HBX := n1_; have HG := n2_; have HBO := n3_; have HBP := n4_; clear n0_ n1_ n2_ n3_ n4_; clear hbp hc; have y_m : World.cell? w5 ⟨go, 0, none⟩ = some (.int .i64 m) := (blk_cell HBO.out 0).trans rfl; have y_r : World.cell? w5 ⟨go, 1, none⟩ = some (.int .i64 r) := (blk_cell HBO.out 1).trans rfl))
           refine bodyPost_ret (results_ct rfl _ _ gp 38 #[.int .i64 (-1), .int .i64 q1] (0, 0) _ rfl HBP.out Try.underlying38 rfl (by kernel_rfl)) rfl ?_
           exact ⟨rfl, HO.out, HG.out⟩
         · have e3_ : (m == 3) = false := beq_eq_false_iff_ne.mpr (by omega)
           have e5_ : (m == 5) = true := beq_iff_eq.mpr he
           go_enter Try.func75, Try.ntmps75
           go_wp2_with (first | ((with_reducible refine gate_dst (N := 3) rfl ?_); refine bx_ 3 #[.int .i64 m, .int .i64 r, .int .i64 x] 63 ?_; intro go hgo w1 hbo hb; have hgn : go ≠ gR := (by have q_ := row_lt_ HO.out (by decide); omega); have hgb : gb ≠ go := (by have q_ := blk_lt HBX.out; omega); have n0_ := A_ (Kd.R_below HO.out hb); have n1_ := A_ (blk_below HBX.out hb); have n2_ := A_ (gb_then HG.out hb); have n3_ := A_ (hbo); clear HO HBX HG; have HO := n0_; have HBX := n1_; have HG := n2_; have HBO := n3_; clear n0_ n1_ n2_ n3_; clear hb hbo hgo; have y_m : World.cell? w1 ⟨go, 0, none⟩ = some (.int .i64 m) := (blk_cell HBO.out 0).trans rfl; have y_r : World.cell? w1 ⟨go, 1, none⟩ = some (.int .i64 r) := (blk_cell HBO.out 1).trans rfl) | ((with_reducible refine gate_dst (N := 4) rfl ?_); refine bx_ 4 #[.int .i64 0, .int .i64 0] 38 ?_; intro gp hgp_ w2 hbp hb; have hpn : gp ≠ gR := (by have q_ := row_lt_ HO.out (by decide); omega); have hop : go ≠ gp := (by have q_ := blk_lt HBO.out; omega); have hbp_ : gb ≠ gp := (by have q_ := blk_lt HBX.out; omega); have hgp : w.heap.size ≤ gp := (by have q_ := HG.out.size; omega); clear y_m y_r; have n0_ := A_ (Kd.R_below HO.out hb); have n1_ := A_ (blk_below HBX.out hb); have n2_ := A_ (gb_then HG.out hb); have n3_ := A_ (blk_below HBO.out hb); have n4_ := A_ (hbp); clear HO HBX HG HBO; have HO := n0_; have HBX := n1_; have HG := n2_; have HBO := n3_; have HBP := n4_; clear n0_ n1_ n2_ n3_ n4_; clear hb hbp hgp_; have y_m : World.cell? w2 ⟨go, 0, none⟩ = some (.int .i64 m) := (blk_cell HBO.out 0).trans rfl; have y_r : World.cell? w2 ⟨go, 1, none⟩ = some (.int .i64 r) := (blk_cell HBO.out 1).trans rfl) | ((with_reducible refine gate_ (.load 63 (.tmp 3)) rfl ?_); refine wpList_load_row rfl 63 (.tmp 3) rfl go rfl 63 _ _ _ HBO.out Try.underlying63 rfl (by kernel_rfl) ?_) | ((with_reducible refine gate_callee (f := 90) rfl ?_); refine gL_ (some 19) Try.func90 #[.pointer (some ⟨gb, 0, none⟩), .agg #[.int .i64 m, .int .i64 r, .int .i64 x]] ?_; refine (spec_l6At.calls gb gR A0 c0 l0 cR l1 a2 a3 a4 a5 A6 c6 l6 A7 c7 l7 a8 r x hq0 hq1 _ HBX.out base ok1 HO.out hne hl (fun w_ h_ => hk0 w_ (gb_trans HG.out h_)) hc0 (fun w_ h_ => hk6 w_ (gb_trans HG.out h_)) hc6 (fun w_ h_ => hk7 w_ (gb_trans HG.out h_)) hc7 m hm hm7 _ _ _ hA).mono ?_; rintro e w3 ⟨rfl, h1, h2⟩; refine ⟨_, rfl, ?_⟩; clear y_m y_r; have n0_ := A_ (h1); have n1_ := A_ (gb_blk h2 HBX.out hne); have n2_ := A_ (gb_trans HG.out h2); have n3_ := A_ (gb_blk h2 HBO.out hgn); have n4_ := A_ (gb_blk h2 HBP.out hpn); clear HO HBX HG HBO HBP; have HO := n0_; have HBX := n1_; have HG := n2_; have HBO := n3_; have HBP := n4_; clear n0_ n1_ n2_ n3_ n4_; clear h1 h2; have y_m : World.cell? w3 ⟨go, 0, none⟩ = some (.int .i64 m) := (blk_cell HBO.out 0).trans rfl; have y_r : World.cell? w3 ⟨go, 1, none⟩ = some (.int .i64 r) := (blk_cell HBO.out 1).trans rfl) | ((with_reducible refine gate_ (.load 28 (.tmp 40)) rfl ?_); refine wpList_load_row rfl 28 (.tmp 40) rfl gb rfl 28 _ _ _ HBX.out Try.underlying28 rfl (by kernel_rfl) ?_) | ((with_reducible refine gate_callee (f := 16) rfl ?_); refine gL_ (some 43) Try.func16 #[.agg #[.slice A0 l0.length c0, .slice (some ⟨gR, 0, none⟩) 8 cR, .bool a2, .bool a3, .bool a4, .bool a5, .slice A6 l6.length c6, .slice A7 l7.length c7, .int .i64 a8], .int .i64 t1] ?_; have hrd := spec_ReadW.calls A0 c0 l0 (some ⟨gR, 0, none⟩) cR t3 a2 a3 a4 a5 A6 c6 l6 A7 c7 l7 a8 t1 _ _ _ (hk0 _ HG.out) hc0 ((Kd.R_reads' HO.out).2.2) (by have h_ := (Kd.R_reads' HO.out).2.1; have h9_ := (Kd.R_reads' HO.out).1; omega) (hk6 _ HG.out) hc6 (hk7 _ HG.out) hc7 hQ; rw [← (Kd.R_reads' HO.out).1] at hrd; refine hrd.mono ?_; clear hrd; rintro e w4 ⟨rfl, hb⟩; refine ⟨_, rfl, ?_⟩; clear y_m y_r; have n0_ := A_ (Kd.R_below HO.out hb); have n1_ := A_ (blk_below HBX.out hb); have n2_ := A_ (gb_then HG.out hb); have n3_ := A_ (blk_below HBO.out hb); have n4_ := A_ (blk_below HBP.out hb); clear HO HBX HG HBO HBP; have HO := n0_; have HBX := n1_; have HG := n2_; have HBO := n3_; have HBP := n4_; clear n0_ n1_ n2_ n3_ n4_; clear hb; have y_m : World.cell? w4 ⟨go, 0, none⟩ = some (.int .i64 m) := (blk_cell HBO.out 0).trans rfl; have y_r : World.cell? w4 ⟨go, 1, none⟩ = some (.int .i64 r) := (blk_cell HBO.out 1).trans rfl) | ((with_reducible refine gate_ (.store 38 (.tmp 4) (.tmp 51)) rfl ?_); refine store_struct rfl rfl 38 (.tmp 4) (.tmp 51) rfl (cs := #[.int .i64 (-1), .int .i64 q1]) (by rfl) (by rfl) HBP.out (by kernel_rfl) rfl (by repeat (first | exact fun _ h => absurd h List.not_mem_nil | refine List.forall_mem_cons.2 ⟨rfl, ?_⟩)) ?_; intro w5 hbp hc; clear y_m y_r; have n0_ := A_ (row_ch_ HO.out hc hpn); have n1_ := A_ (blk_ch hc HBX.out (by omega)); have n2_ := A_ (gb_ch HG.out hc hgp); have n3_ := A_ (blk_ch hc HBO.out (by omega)); have n4_ := A_ (hbp); clear HO HBX HG HBO HBP; have HO := n0_; have HBX := n1_; have HG := n2_; have HBO := n3_; have HBP := n4_; clear n0_ n1_ n2_ n3_ n4_; clear hbp hc; have y_m : World.cell? w5 ⟨go, 0, none⟩ = some (.int .i64 m) := (blk_cell HBO.out 0).trans rfl; have y_r : World.cell? w5 ⟨go, 1, none⟩ = some (.int .i64 r) := (blk_cell HBO.out 1).trans rfl))
           refine bodyPost_ret (results_ct rfl _ _ gp 38 #[.int .i64 (-1), .int .i64 q1] (0, 0) _ rfl HBP.out Try.underlying38 rfl (by kernel_rfl)) rfl ?_
           exact ⟨rfl, HO.out, HG.out⟩
         · have e3_ : (m == 3) = false := beq_eq_false_iff_ne.mpr (by omega)
           have e5_ : (m == 5) = false := beq_eq_false_iff_ne.mpr (by omega)
           have e7_ : (m == 7) = true := beq_iff_eq.mpr he
           go_enter Try.func75, Try.ntmps75
           go_wp2_with (first | ((with_reducible refine gate_dst (N := 3) rfl ?_); refine bx_ 3 #[.int .i64 m, .int .i64 r, .int .i64 x] 63 ?_; intro go hgo w1 hbo hb; have hgn : go ≠ gR := (by have q_ := row_lt_ HO.out (by decide); omega); have hgb : gb ≠ go := (by have q_ := blk_lt HBX.out; omega); have n0_ := A_ (Kd.R_below HO.out hb); have n1_ := A_ (blk_below HBX.out hb); have n2_ := A_ (gb_then HG.out hb); have n3_ := A_ (hbo); clear HO HBX HG; have HO := n0_; have HBX := n1_; have HG := n2_; have HBO := n3_; clear n0_ n1_ n2_ n3_; clear hb hbo hgo; have y_m : World.cell? w1 ⟨go, 0, none⟩ = some (.int .i64 m) := (blk_cell HBO.out 0).trans rfl; have y_r : World.cell? w1 ⟨go, 1, none⟩ = some (.int .i64 r) := (blk_cell HBO.out 1).trans rfl) | ((with_reducible refine gate_dst (N := 4) rfl ?_); refine bx_ 4 #[.int .i64 0, .int .i64 0] 38 ?_; intro gp hgp_ w2 hbp hb; have hpn : gp ≠ gR := (by have q_ := row_lt_ HO.out (by decide); omega); have hop : go ≠ gp := (by have q_ := blk_lt HBO.out; omega); have hbp_ : gb ≠ gp := (by have q_ := blk_lt HBX.out; omega); have hgp : w.heap.size ≤ gp := (by have q_ := HG.out.size; omega); clear y_m y_r; have n0_ := A_ (Kd.R_below HO.out hb); have n1_ := A_ (blk_below HBX.out hb); have n2_ := A_ (gb_then HG.out hb); have n3_ := A_ (blk_below HBO.out hb); have n4_ := A_ (hbp); clear HO HBX HG HBO; have HO := n0_; have HBX := n1_; have HG := n2_; have HBO := n3_; have HBP := n4_; clear n0_ n1_ n2_ n3_ n4_; clear hb hbp hgp_; have y_m : World.cell? w2 ⟨go, 0, none⟩ = some (.int .i64 m) := (blk_cell HBO.out 0).trans rfl; have y_r : World.cell? w2 ⟨go, 1, none⟩ = some (.int .i64 r) := (blk_cell HBO.out 1).trans rfl) | ((with_reducible refine gate_ (.load 63 (.tmp 3)) rfl ?_); refine wpList_load_row rfl 63 (.tmp 3) rfl go rfl 63 _ _ _ HBO.out Try.underlying63 rfl (by kernel_rfl) ?_) | ((with_reducible refine gate_callee (f := 90) rfl ?_); refine gL_ (some 19) Try.func90 #[.pointer (some ⟨gb, 0, none⟩), .agg #[.int .i64 m, .int .i64 r, .int .i64 x]] ?_; refine (spec_l6At.calls gb gR A0 c0 l0 cR l1 a2 a3 a4 a5 A6 c6 l6 A7 c7 l7 a8 r x hq0 hq1 _ HBX.out base ok1 HO.out hne hl (fun w_ h_ => hk0 w_ (gb_trans HG.out h_)) hc0 (fun w_ h_ => hk6 w_ (gb_trans HG.out h_)) hc6 (fun w_ h_ => hk7 w_ (gb_trans HG.out h_)) hc7 m hm hm7 _ _ _ hA).mono ?_; rintro e w3 ⟨rfl, h1, h2⟩; refine ⟨_, rfl, ?_⟩; clear y_m y_r; have n0_ := A_ (h1); have n1_ := A_ (gb_blk h2 HBX.out hne); have n2_ := A_ (gb_trans HG.out h2); have n3_ := A_ (gb_blk h2 HBO.out hgn); have n4_ := A_ (gb_blk h2 HBP.out hpn); clear HO HBX HG HBO HBP; have HO := n0_; have HBX := n1_; have HG := n2_; have HBO := n3_; have HBP := n4_; clear n0_ n1_ n2_ n3_ n4_; clear h1 h2; have y_m : World.cell? w3 ⟨go, 0, none⟩ = some (.int .i64 m) := (blk_cell HBO.out 0).trans rfl; have y_r : World.cell? w3 ⟨go, 1, none⟩ = some (.int .i64 r) := (blk_cell HBO.out 1).trans rfl) | ((with_reducible refine gate_ (.load 28 (.tmp 40)) rfl ?_); refine wpList_load_row rfl 28 (.tmp 40) rfl gb rfl 28 _ _ _ HBX.out Try.underlying28 rfl (by kernel_rfl) ?_) | ((with_reducible refine gate_callee (f := 16) rfl ?_); refine gL_ (some 43) Try.func16 #[.agg #[.slice A0 l0.length c0, .slice (some ⟨gR, 0, none⟩) 8 cR, .bool a2, .bool a3, .bool a4, .bool a5, .slice A6 l6.length c6, .slice A7 l7.length c7, .int .i64 a8], .int .i64 t1] ?_; have hrd := spec_ReadW.calls A0 c0 l0 (some ⟨gR, 0, none⟩) cR t3 a2 a3 a4 a5 A6 c6 l6 A7 c7 l7 a8 t1 _ _ _ (hk0 _ HG.out) hc0 ((Kd.R_reads' HO.out).2.2) (by have h_ := (Kd.R_reads' HO.out).2.1; have h9_ := (Kd.R_reads' HO.out).1; omega) (hk6 _ HG.out) hc6 (hk7 _ HG.out) hc7 hQ; rw [← (Kd.R_reads' HO.out).1] at hrd; refine hrd.mono ?_; clear hrd; rintro e w4 ⟨rfl, hb⟩; refine ⟨_, rfl, ?_⟩; clear y_m y_r; have n0_ := A_ (Kd.R_below HO.out hb); have n1_ := A_ (blk_below HBX.out hb); have n2_ := A_ (gb_then HG.out hb); have n3_ := A_ (blk_below HBO.out hb); have n4_ := A_ (blk_below HBP.out hb); clear HO HBX HG HBO HBP; have HO := n0_; have HBX := n1_; have HG := n2_; have HBO := n3_; have HBP := n4_; clear n0_ n1_ n2_ n3_ n4_; clear hb; have y_m : World.cell? w4 ⟨go, 0, none⟩ = some (.int .i64 m) := (blk_cell HBO.out 0).trans rfl; have y_r : World.cell? w4 ⟨go, 1, none⟩ = some (.int .i64 r) := (blk_cell HBO.out 1).trans rfl) | ((with_reducible refine gate_ (.store 38 (.tmp 4) (.tmp 51)) rfl ?_); refine store_struct rfl rfl 38 (.tmp 4) (.tmp 51) rfl (cs := #[.int .i64 (-1), .int .i64 q1]) (by rfl) (by rfl) HBP.out (by kernel_rfl) rfl (by repeat (first | exact fun _ h => absurd h List.not_mem_nil | refine List.forall_mem_cons.2 ⟨rfl, ?_⟩)) ?_; intro w5 hbp hc; clear y_m y_r; have n0_ := A_ (row_ch_ HO.out hc hpn); have n1_ := A_ (blk_ch hc HBX.out (by omega)); have n2_ := A_ (gb_ch HG.out hc hgp); have n3_ := A_ (blk_ch hc HBO.out (by omega)); have n4_ := A_ (hbp); clear HO HBX HG HBO HBP; have HO := n0_; have HBX := n1_; have HG := n2_; have HBO := n3_; have HBP := n4_; clear n0_ n1_ n2_ n3_ n4_; clear hbp hc; have y_m : World.cell? w5 ⟨go, 0, none⟩ = some (.int .i64 m) := (blk_cell HBO.out 0).trans rfl; have y_r : World.cell? w5 ⟨go, 1, none⟩ = some (.int .i64 r) := (blk_cell HBO.out 1).trans rfl))
           refine bodyPost_ret (results_ct rfl _ _ gp 38 #[.int .i64 (-1), .int .i64 q1] (0, 0) _ rfl HBP.out Try.underlying38 rfl (by kernel_rfl)) rfl ?_
           exact ⟨rfl, HO.out, HG.out⟩
     · rw [if_neg hodd] at h
       simp only [Option.some.injEq, Prod.mk.injEq] at h
       obtain ⟨rfl, rfl, rfl, rfl⟩ := h
       have e3_ : (m == 3) = false := beq_eq_false_iff_ne.mpr (by omega)
       have e5_ : (m == 5) = false := beq_eq_false_iff_ne.mpr (by omega)
       have e7_ : (m == 7) = false := beq_eq_false_iff_ne.mpr (by omega)
       go_enter Try.func75, Try.ntmps75
       go_wp2_with (first | ((with_reducible refine gate_dst (N := 3) rfl ?_); refine bx_ 3 #[.int .i64 m, .int .i64 r, .int .i64 x] 63 ?_; intro go hgo w1 hbo hb; have hgn : go ≠ gR := (by have q_ := row_lt_ HO.out (by decide); omega); have hgb : gb ≠ go := (by have q_ := blk_lt HBX.out; omega); have n0_ := A_ (Kd.R_below HO.out hb); have n1_ := A_ (blk_below HBX.out hb); have n2_ := A_ (gb_then HG.out hb); have n3_ := A_ (hbo); clear HO HBX HG; have HO := n0_; have HBX := n1_; have HG := n2_; have HBO := n3_; clear n0_ n1_ n2_ n3_; clear hb hbo hgo; have y_m : World.cell? w1 ⟨go, 0, none⟩ = some (.int .i64 m) := (blk_cell HBO.out 0).trans rfl; have y_r : World.cell? w1 ⟨go, 1, none⟩ = some (.int .i64 r) := (blk_cell HBO.out 1).trans rfl) | ((with_reducible refine gate_dst (N := 4) rfl ?_); refine bx_ 4 #[.int .i64 0, .int .i64 0] 38 ?_; intro gp hgp_ w2 hbp hb; have hpn : gp ≠ gR := (by have q_ := row_lt_ HO.out (by decide); omega); have hop : go ≠ gp := (by have q_ := blk_lt HBO.out; omega); have hbp_ : gb ≠ gp := (by have q_ := blk_lt HBX.out; omega); have hgp : w.heap.size ≤ gp := (by have q_ := HG.out.size; omega); clear y_m y_r; have n0_ := A_ (Kd.R_below HO.out hb); have n1_ := A_ (blk_below HBX.out hb); have n2_ := A_ (gb_then HG.out hb); have n3_ := A_ (blk_below HBO.out hb); have n4_ := A_ (hbp); clear HO HBX HG HBO; have HO := n0_; have HBX := n1_; have HG := n2_; have HBO := n3_; have HBP := n4_; clear n0_ n1_ n2_ n3_ n4_; clear hb hbp hgp_; have y_m : World.cell? w2 ⟨go, 0, none⟩ = some (.int .i64 m) := (blk_cell HBO.out 0).trans rfl; have y_r : World.cell? w2 ⟨go, 1, none⟩ = some (.int .i64 r) := (blk_cell HBO.out 1).trans rfl) | ((with_reducible refine gate_ (.load 63 (.tmp 3)) rfl ?_); refine wpList_load_row rfl 63 (.tmp 3) rfl go rfl 63 _ _ _ HBO.out Try.underlying63 rfl (by kernel_rfl) ?_) | ((with_reducible refine gate_callee (f := 90) rfl ?_); refine gL_ (some 19) Try.func90 #[.pointer (some ⟨gb, 0, none⟩), .agg #[.int .i64 m, .int .i64 r, .int .i64 x]] ?_; refine (spec_l6At.calls gb gR A0 c0 l0 cR l1 a2 a3 a4 a5 A6 c6 l6 A7 c7 l7 a8 r x hq0 hq1 _ HBX.out base ok1 HO.out hne hl (fun w_ h_ => hk0 w_ (gb_trans HG.out h_)) hc0 (fun w_ h_ => hk6 w_ (gb_trans HG.out h_)) hc6 (fun w_ h_ => hk7 w_ (gb_trans HG.out h_)) hc7 m hm hm7 _ _ _ hA).mono ?_; rintro e w3 ⟨rfl, h1, h2⟩; refine ⟨_, rfl, ?_⟩; clear y_m y_r; have n0_ := A_ (h1); have n1_ := A_ (gb_blk h2 HBX.out hne); have n2_ := A_ (gb_trans HG.out h2); have n3_ := A_ (gb_blk h2 HBO.out hgn); have n4_ := A_ (gb_blk h2 HBP.out hpn); clear HO HBX HG HBO HBP; have HO := n0_; have HBX := n1_; have HG := n2_; have HBO := n3_; have HBP := n4_; clear n0_ n1_ n2_ n3_ n4_; clear h1 h2; have y_m : World.cell? w3 ⟨go, 0, none⟩ = some (.int .i64 m) := (blk_cell HBO.out 0).trans rfl; have y_r : World.cell? w3 ⟨go, 1, none⟩ = some (.int .i64 r) := (blk_cell HBO.out 1).trans rfl) | ((with_reducible refine gate_ (.store 38 (.tmp 4) (.tmp 51)) rfl ?_); refine store_struct rfl rfl 38 (.tmp 4) (.tmp 51) rfl (cs := #[.int .i64 (-1), .int .i64 t1]) (by rfl) (by rfl) HBP.out (by kernel_rfl) rfl (by repeat (first | exact fun _ h => absurd h List.not_mem_nil | refine List.forall_mem_cons.2 ⟨rfl, ?_⟩)) ?_; intro w5 hbp hc; clear y_m y_r; have n0_ := A_ (row_ch_ HO.out hc hpn); have n1_ := A_ (blk_ch hc HBX.out (by omega)); have n2_ := A_ (gb_ch HG.out hc hgp); have n3_ := A_ (blk_ch hc HBO.out (by omega)); have n4_ := A_ (hbp); clear HO HBX HG HBO HBP; have HO := n0_; have HBX := n1_; have HG := n2_; have HBO := n3_; have HBP := n4_; clear n0_ n1_ n2_ n3_ n4_; clear hbp hc; have y_m : World.cell? w5 ⟨go, 0, none⟩ = some (.int .i64 m) := (blk_cell HBO.out 0).trans rfl; have y_r : World.cell? w5 ⟨go, 1, none⟩ = some (.int .i64 r) := (blk_cell HBO.out 1).trans rfl))
       refine bodyPost_ret (results_ct rfl _ _ gp 38 #[.int .i64 (-1), .int .i64 t1] (0, 0) _ rfl HBP.out Try.underlying38 rfl (by kernel_rfl)) rfl ?_
       exact ⟨rfl, HO.out, HG.out⟩
end Go.Proofs.Ytiagbfilffbljaa.PFnExactPlaceOf
