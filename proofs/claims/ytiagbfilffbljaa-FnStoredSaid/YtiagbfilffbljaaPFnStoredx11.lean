-- Laid by a program of this session (a changed copy of the kit's printer); Lean checks every line.
import Derived.Test.YtiagbfilffbljaaPFnStoredx0
import Derived.Test.YtiagbfilffbljaaPFnStoredx2
import Derived.Test.YtiagbfilffbljaaPFnStoredx3
import Derived.Test.YtiagbfilffbljaaPFnStoredx10
namespace Go.Proofs.Ytiagbfilffbljaa.PFnStored
open Go.RowKit Go.Proofs.YtiagbfilffbljaaW.PrintWords Go.Proofs.YtiagbfilffbljaaW.PrintLast Go.Proofs.YtiagbfilffbljaaW.PrintMore
attribute [local go_sem] max2_int min2_int max_two min_two max_three min_three max_four min_four   -- for this text's walks alone
set_option linter.unusedVariables false
set_option linter.unusedSimpArgs false


/-! ### impl_PlaceOf: function 46 -/
section
open Go.Proofs.Ytiagbfilffbljaa.Chg
theorem dA_ {p : Prop} (h : p := by (try simp only [List.map_toArray, List.map_cons, List.map_nil]); first | done | rfl | (simp only [List.length_drop, List.length_take]; rfl)) : p := h
theorem row_cell_ {e base n g cap : Nat} {ok : Nat → Prop} {xs : List Int} {w : World} (h : (Kd.int .i64).R e w base ok (.slice (some ⟨g, 0, none⟩) n cap) xs) (j : Nat) (hj : j < n) : w.cell? ⟨g, j, none⟩ = some (.int .i64 (rd xs (j : Int))) := by
  have hn := (Kd.R_reads' h).1
  subst hn
  have hR := Kd.reads_of_C (d := (0 : Int)) (Kd.R_reads' h).2.2
  obtain ⟨ad, hA, hc⟩ := hR.2.2 (by omega)
  obtain rfl : (⟨g, 0, none⟩ : Addr) = ad := by injection hA
  have := hc j hj
  rcases Nat.eq_zero_or_pos j with h0 | h0
  · subst h0; simpa [Addr.add, rd] using this
  · simpa [Addr.add, rd, Nat.ne_of_gt h0] using this
theorem gb_below {w w1 : World} {g : Nat} (h : Below w.drew.heap.size w.drew w1) : w.grownBy w1 (some g) := ⟨h.os, h.tape, h.output, h.size, fun k hk _ => h.block k hk⟩
theorem gb_drew {w w1 : World} {g : Nat} (h : w.grownBy w1 (some g)) : w.grownBy w1.drew (some g) := ⟨h.os, h.tape, h.output, h.size, h.block⟩
theorem gb_then {w w1 w2 : World} {g : Nat} (h : w.grownBy w1 (some g)) (b : Below w1.heap.size w1 w2) : w.grownBy w2 (some g) := ⟨b.os.trans h.os, b.tape.trans h.tape, b.output.trans h.output, Nat.le_trans h.size b.size, fun k hk hn => (b.block k (Nat.lt_of_lt_of_le hk h.size)).trans (h.block k hk hn)⟩
theorem gb_trans {w w1 w2 : World} {g : Nat} (h : w.grownBy w1 (some g)) (b : w1.grownBy w2 (some g)) : w.grownBy w2 (some g) := ⟨b.os.trans h.os, b.tape.trans h.tape, b.output.trans h.output, Nat.le_trans h.size b.size, fun k hk hn => (b.block k (Nat.lt_of_lt_of_le hk h.size) hn).trans (h.block k hk hn)⟩
theorem row_cell_r {e base g cap : Nat} {ok : Nat → Prop} {xs : List Int} {w : World} (h : (Kd.int .i64).R e w base ok (.slice (some ⟨g, 0, none⟩) 8 cap) xs) (r : Int) (h0 : 0 ≤ r) (h1 : r < 8) : w.cell? ⟨g, r.toNat, none⟩ = some (.int .i64 (rd xs r)) := by
  have := row_cell_ h r.toNat (by omega)
  rwa [Int.toNat_of_nonneg h0] at this
theorem row_lt_ {e base n g cap : Nat} {ok : Nat → Prop} {xs : List Int} {w : World} (h : (Kd.int .i64).R e w base ok (.slice (some ⟨g, 0, none⟩) n cap) xs) (hn : 0 < n) : g < w.heap.size := by
  have hnx := (Kd.R_reads' h).1
  subst hnx
  rcases (Kd.own_of_R h).2 with ⟨hv, _⟩ | ⟨g', cap', cur, hv, hb, hh, _⟩
  · simp at hv
  · obtain ⟨rfl, rfl⟩ : g = g' ∧ cap = cap' := by simpa using hv
    exact blk_lt hh
theorem gb_blk {w w1 : World} {g x : Nat} {o : Obj} (hg : w.grownBy w1 (some g)) (h : w.heap[x]? = some o) (hd : x ≠ g) : w1.heap[x]? = some o := (hg.block x (blk_lt h) (fun q => hd (by injection q))).trans h
section
open Kd
variable {P : Program} {ops : Array Oper} {rest : List Oper} {a : Act} {Q : Exit → Act → World → Prop} {W : World}
/-- a number stored into a row of one's own: an operation in its place. -/
theorem store_row_list {oi : Oper} (hgd : oi.guard = none) (hN : oi.dst = none) (t : TypeId) (p x : Operand) (ho : oi.op = .store t p x) {e base n g j cap : Nat} {ok : Nat → Prop} {xs : List Int} {u : Int}
  (haddr : a.eval p = .pointer (some ⟨g, j, none⟩)) (hx : a.eval x = .int .i64 u) (ht : (P.info? t).map (·.size) = some 1) (HO : (Kd.int .i64).R e W base ok (.slice (some ⟨g, 0, none⟩) n cap) xs) (hj : j < n)
  (h : ∀ w1, (Kd.int .i64).R e w1 base ok (.slice (some ⟨g, 0, none⟩) n cap) (xs.set j u) → W.grownBy w1 (some g) → wpList P ops Q rest a w1) : wpList P ops Q (oi :: rest) a W := by
 have hnx : n = xs.length := (R_reads' HO).1
 subst hnx
 rcases (own_of_R HO).2 with ⟨hv, _⟩ | ⟨g', cap', cur, hv, hb, hh, hnc, hcm, hcs, _⟩
 · simp at hv
 obtain ⟨rfl, rfl⟩ : g = g' ∧ cap = cap' := by simpa using hv
 have hrun := run_store_run (P := P) (o := j) t (.int .i64 u) [.int .i64 u] hh rfl ht (by simp; omega) (by intro q hq; rw [List.mem_singleton.1 hq]; rfl)
 obtain ⟨h1, h2⟩ := R_put HO (j : Int) u
 have hK2 := h _ h1 h2
 refine wpList_plain hgd fun K hK => ?_
 unfold Oper.wp execOp
 simp only [ho, haddr, hx, Sem.run_bind, Sem.run_pure, Result.andThen_ok, hrun]
 show K (a.put oi.dst undef) _
 rw [hN]
 exact hK a _ hK2
end
theorem gb_ch {w w1 w2 : World} {gR g : Nat} (h : w.grownBy w1 (some gR)) (c : Ch w1 w2 g (g + 1)) (hg : w.heap.size ≤ g) : w.grownBy w2 (some gR) :=
 ⟨c.os.trans h.os, c.tape.trans h.tape, c.output.trans h.output, Nat.le_trans h.size c.size, fun k hk hn => (c.block k (Nat.lt_of_lt_of_le hk h.size) (by omega)).trans (h.block k hk hn)⟩
theorem row_ch_ {e base n g gp cap : Nat} {ok : Nat → Prop} {xs : List Int} {w w1 : World} (h : (Kd.int .i64).R e w base ok (.slice (some ⟨g, 0, none⟩) n cap) xs) (c : Ch w w1 gp (gp + 1)) (hd : gp ≠ g) : (Kd.int .i64).R e w1 base ok (.slice (some ⟨g, 0, none⟩) n cap) xs := by
 refine R_own1' (Kd.R_step (R_own1 h) (fun k hk hlt => c.block k hlt ?_)) (fun _ q => q) h.1
 have : g = k := by simpa [Value.ownBlock] using hk
 omega
theorem gb_pt {w w1 : World} {g x : Nat} (h : w.grownBy w1 (some g)) {A : Addr} (hx : A.block = x) (hd : x ≠ g) {v : Value} (hc : w.cell? A = some v) : w1.cell? A = some v := by
 subst hx
 have hlt := World.block_lt_of_cell? w _ hc
 have := h.block A.block hlt (fun q => hd (by injection q))
 simp only [World.cell?, this] at hc ⊢
 exact hc
section
variable {w w0 w1 : World} {lo hi lo' hi' n : Nat}
theorem co_ (h : Below w.heap.size w w1) : Ch w w1 0 0 := Ch.of_below h
theorem bz_ {g : Nat} {o : Obj} (hc : Ch w w1 0 0) (h : Aside0 (w.heap[g]? = some o)) : Aside0 (w1.heap[g]? = some o) := ⟨blk_ch hc h.out (Or.inr (Nat.zero_le _))⟩
theorem bs_ {g : Nat} {o : Obj} (hc : Ch w w1 lo hi) (h : Aside0 (w.heap[g]? = some o)) (hg : g < lo ∨ hi ≤ g) : Aside0 (w1.heap[g]? = some o) := ⟨blk_ch hc h.out hg⟩
theorem rz_ {v0 v1 v6 v7 : Value} {l0 l1 l6 l7 : List Int} (hc : Ch w w1 0 0) (h : Aside0 (R4 w lo hi v0 v1 v6 v7 l0 l1 l6 l7)) : Aside0 (R4 w1 lo hi v0 v1 v6 v7 l0 l1 l6 l7) := ⟨R4_ch h.out hc (Or.inr (Or.inr (Nat.zero_le _)))⟩
theorem rs_ {v0 v1 v6 v7 : Value} {l0 l1 l6 l7 : List Int} (hc : Ch w w1 lo' hi') (h : Aside0 (R4 w lo hi v0 v1 v6 v7 l0 l1 l6 l7)) (hd : hi ≤ lo' ∨ hi' ≤ lo ∨ hi' ≤ lo') : Aside0 (R4 w1 lo hi v0 v1 v6 v7 l0 l1 l6 l7) := ⟨R4_ch h.out hc hd⟩
theorem hz_ (hc : Ch w w1 0 0) (hb : Aside0 (Below w0.heap.size w0 w)) : Aside0 (Below w0.heap.size w0 w1) := ⟨below_ch hb.out hc (Or.inl (Nat.le_refl _))⟩
theorem hs_ (hc : Ch w w1 lo hi) (hb : Aside0 (Below w0.heap.size w0 w)) (h : w0.heap.size ≤ lo) : Aside0 (Below w0.heap.size w0 w1) := ⟨below_ch hb.out hc (Or.inr h)⟩
theorem t_ (hc : Ch w w1 lo hi) (h : Aside0 (n ≤ w.heap.size)) : Aside0 (n ≤ w1.heap.size) := ⟨Nat.le_trans h.out hc.size⟩
end
/-- a whole struct stored into its box, told by itself. -/
theorem ss_ {P : Program} {ops : Array Oper} {rest : List Oper} {o : Oper} {a : Act} {Q : Exit → Act → World → Prop} {W : World} (t : TypeId) (p x : Tmp) (cs : Array Value) {g : Nat} {t' : TypeId} {old : Array Value} (hb : W.heap[g]? = some (.cells old t' (0, 0)))
  (h : ∀ w1, w1.heap[g]? = some (.cells cs t' (0, 0)) → Ch W w1 g (g + 1) → wpList P ops Q rest a w1)
  (hgd : o.guard = none := by exact rfl) (hN : o.dst = none := by exact rfl) (ho : o.op = .store t (.tmp p) (.tmp x) := by exact rfl) (haddr : a.eval (.tmp p) = .pointer (some ⟨g, 0, none⟩) := by exact rfl) (hx : a.eval (.tmp x) = .agg cs := by exact rfl)
  (ht : (P.info? t).map (·.size) = some cs.size := by kernel_rfl) (hsz : old.size = cs.size := by exact rfl) (h1 : ∀ q ∈ cs.toList, q.oneCell' = true := by repeat (first | exact fun _ h => absurd h List.not_mem_nil | refine List.forall_mem_cons.2 ⟨rfl, ?_⟩)) :
  wpList P ops Q (o :: rest) a W := store_struct hgd hN t (.tmp p) (.tmp x) ho haddr hx hb ht hsz h1 h
/-- a whole struct read out of its box, told by itself. -/
theorem ld_ {P : Program} {ops : Array Oper} {rest : List Oper} {o : Oper} {a : Act} {w : World} {Q : Exit → Act → World → Prop} (ty : TypeId) (N : Tmp) {g : Nat} {t : TypeId} {cs : Array Value} {d : TypeDesc} (hg : w.heap[g]? = some (.cells cs t (0, 0))) (hu : P.underlying ty = some d) (h : wpList P ops Q rest (a.put o.dst (.agg cs)) w)
  (hgd : o.guard = none := by exact rfl) (ho : o.op = .load ty (.tmp N) := by exact rfl) (hx : a.eval (.tmp N) = .pointer (some ⟨g, 0, none⟩) := by exact rfl) (hd : (match d with | .struct _ | .array _ _ => true | _ => false) = true := by exact rfl) (hi : (P.info? ty).map (·.size) = some cs.size := by kernel_rfl) :
  wpList P ops Q (o :: rest) a w := wpList_load_row hgd ty (.tmp N) ho g hx t cs (0, 0) d hg hu hd hi h
theorem R4_back {w w' : World} {lo hi : Nat} {v0 v1 v6 v7 : Value} {l0 l1 l6 l7 : List Int} (h : R4 w' lo hi v0 v1 v6 v7 l0 l1 l6 l7) (hlo : w.heap.size ≤ lo) :
  Kd.R (Kd.int .i64) 3 w' w.heap.size (fun k_ => some k_ ≠ v1.ownBlock ∧ some k_ ≠ v6.ownBlock ∧ some k_ ≠ v7.ownBlock) v0 l0 ∧ Kd.R (Kd.int .i64) 3 w' w.heap.size (fun k_ => some k_ ≠ v0.ownBlock ∧ some k_ ≠ v6.ownBlock ∧ some k_ ≠ v7.ownBlock) v1 l1 ∧ Kd.R (Kd.int .i64) 3 w' w.heap.size (fun k_ => some k_ ≠ v0.ownBlock ∧ some k_ ≠ v1.ownBlock ∧ some k_ ≠ v7.ownBlock) v6 l6 ∧ Kd.R (Kd.int .i64) 3 w' w.heap.size (fun k_ => some k_ ≠ v0.ownBlock ∧ some k_ ≠ v1.ownBlock ∧ some k_ ≠ v6.ownBlock) v7 l7 :=
 ⟨Kd.R_mono (Kd.R_lower h.1 hlo) (fun _ k => k.2), Kd.R_mono (Kd.R_lower h.2.1 hlo) (fun _ k => k.2), Kd.R_mono (Kd.R_lower h.2.2.1 hlo) (fun _ k => k.2), Kd.R_mono (Kd.R_lower h.2.2.2 hlo) (fun _ k => k.2)⟩
def impl_fetch.f (l0 l1 : List Int) (a2 a3 a4 a5 : Bool) (l6 l7 : List Int) (a8 : Int) : Option (Int × Bool × List Int) := (impl_ReadW.f l0 l1 a2 a3 a4 a5 l6 l7 a8 (rd l1 7)).bind fun t => (impl_Wrap.f (wrap64 (rd l1 7 + 2))).bind fun u => some (t.1, t.2, l1.set 7 u)
noncomputable def f93T1 : Bool × List (List Nat × List Nat) := rtab .any (opsOf Try.f93 1)
noncomputable def f93T2 : Bool × List (List Nat × List Nat) := rtab .any (opsOf Try.f93 2)
theorem f93B2 : waitsOk f93T2.2 [0, 1, 3, 7, 0, 16, 48, 112, 240, 496, 1008, 2032, 4095, 8191] = true := by kernel_rfl
theorem f93B1 : waitsOk f93T1.2 [0, 1, 3, 0, 8, 24, 56, 120, 248, 511, 1023, 2047, 2047, 4095, 16383] = true := by kernel_rfl
set_option maxHeartbeats 8000000 in
set_option maxRecDepth 100000 in
theorem impl_fetch.calls (gb gR : Nat) (A0 : Option Addr) (c0 : Nat) (l0 : List Int) (cR : Nat) (l1 : List Int) (a2 a3 a4 a5 : Bool) (A6 : Option Addr) (c6 : Nat) (l6 : List Int) (A7 : Option Addr) (c7 : Nat) (l7 : List Int) (a8 : Int) (r1 : Int) (r2 : Bool) (r3 : List Int) (w : World)
  (hbox : w.heap[gb]? = some (.cells #[.slice A0 l0.length c0, .slice (some ⟨gR, 0, none⟩) 8 cR, .bool a2, .bool a3, .bool a4, .bool a5, .slice A6 l6.length c6, .slice A7 l7.length c7, .int .i64 a8] 28 (0, 0)))
  (base : Nat) (ok1 : Nat → Prop) (HO1 : (Kd.int .i64).R 3 w base ok1 (.slice (some ⟨gR, 0, none⟩) 8 cR) l1) (hne : gb ≠ gR) (hl : l1.length = 8)
  (hr0_0 : Kd.C (Kd.int .i64) w A0 l0.length l0) (hc0_0 : l0.length ≤ c0) (hr0_6 : Kd.C (Kd.int .i64) w A6 l6.length l6) (hc0_6 : l6.length ≤ c6) (hr0_7 : Kd.C (Kd.int .i64) w A7 l7.length l7) (hc0_7 : l7.length ≤ c7)
  (h : impl_fetch.f l0 l1 a2 a3 a4 a5 l6 l7 a8 = some (r1, r2, r3)) :
  Calls Try.prog 93 #[.pointer (some ⟨gb, 0, none⟩)] w fun e w' => e = .returned (.tuple #[.int .i64 r1, .bool r2]) ∧ (Kd.int .i64).R 3 w' base ok1 (.slice (some ⟨gR, 0, none⟩) 8 cR) r3 ∧ w.grownBy w' (some gR) := by
 obtain ⟨⟨t1, t2⟩, hR, h⟩ := Option.bind_eq_some_iff.mp h
 obtain ⟨u, hU, h⟩ := Option.bind_eq_some_iff.mp h
 simp only [Option.some.injEq, Prod.mk.injEq] at h
 obtain ⟨rfl, rfl, rfl⟩ := h
 go_enter Try.func93, Try.ntmps93
 go_wp2
 have hc7 : w.cell? ⟨gR, 7, none⟩ = some (.int .i64 (rd l1 7)) := row_cell_ HO1 7 (by omega)
 have HBX := A_ (blk_drew hbox)
 have HO := A_ (Kd.R_drew HO1)
 refine start_ (n := 15) (S := fun w' => w'.cell? ⟨gb, 0, none⟩ = some (.slice A0 l0.length c0) ∧ w'.cell? ⟨gb, 1, none⟩ = some (.slice (some ⟨gR, 0, none⟩) 8 cR) ∧ w'.cell? ⟨gb, 2, none⟩ = some (.bool a2) ∧ w'.cell? ⟨gb, 3, none⟩ = some (.bool a3) ∧ w'.cell? ⟨gb, 4, none⟩ = some (.bool a4) ∧ w'.cell? ⟨gb, 5, none⟩ = some (.bool a5) ∧ w'.cell? ⟨gb, 6, none⟩ = some (.slice A6 l6.length c6) ∧ w'.cell? ⟨gb, 7, none⟩ = some (.slice A7 l7.length c7) ∧ w'.cell? ⟨gb, 8, none⟩ = some (.int .i64 a8) ∧ w'.cell? ⟨gR, 7, none⟩ = some (.int .i64 (rd l1 7))) (ds := []) #[false, false, false, false, false, false, false, false, false, false, false, false, false, false, false] (by kernel_rfl) rfl rfl ⟨(blk_cell HBX.out 0).trans rfl, (blk_cell HBX.out 1).trans rfl, (blk_cell HBX.out 2).trans rfl, (blk_cell HBX.out 3).trans rfl, (blk_cell HBX.out 4).trans rfl, (blk_cell HBX.out 5).trans rfl, (blk_cell HBX.out 6).trans rfl, (blk_cell HBX.out 7).trans rfl, (blk_cell HBX.out 8).trans rfl, hc7⟩ (fun hHeld => ?_); refine with_tabW (T := f93T1) rfl f93B1 (fun HT_ HW_ => ?_)
 refine pu_ 0 (some 7) (bm_ 15 1) (any_of HT_.out (by kernel_rfl)) ?_
 refine pu_ 1 (some 8) (bm_ 15 3) (any_of HT_.out (by kernel_rfl)) ?_
 refine pu_ 3 (some 10) (bm_ 15 11) (any_of HT_.out (by kernel_rfl)) ?_
 refine pu_ 4 (some 11) (bm_ 15 27) (any_of HT_.out (by kernel_rfl)) ?_
 refine pu_ 5 (some 12) (bm_ 15 59) (any_of HT_.out (by kernel_rfl)) ?_
 refine take_ (i := 2) (N := some 9) (v := ?_) (a' := ?_) (bm_ 15 63) rfl rfl (take_ofW HT_.out HW_.out (by kernel_rfl)) (fun _ _ _ h => h) (Or.inl ⟨by rfl, ?_⟩) hHeld ?_ ?_
 rotate_left
 · rintro w' ⟨s0, s1, s2, s3, s4, s5, s6, s7, s8, s9⟩
   go_simp
   with_reducible rfl
 rotate_left
 · simp only [Act.put, List.setIfInBounds_toArray, List.set_cons_zero, List.set_cons_succ, i64_w, i32_w]
   rfl
 refine take_ (i := 6) (N := some 13) (v := ?_) (a' := ?_) (bm_ 15 127) rfl rfl (take_ofW HT_.out HW_.out (by kernel_rfl)) (fun _ _ _ h => h) (Or.inl ⟨by rfl, ?_⟩) hHeld ?_ ?_
 rotate_left
 · rintro w' ⟨s0, s1, s2, s3, s4, s5, s6, s7, s8, s9⟩
   go_simp
   with_reducible rfl
 rotate_left
 · simp only [Act.put, List.setIfInBounds_toArray, List.set_cons_zero, List.set_cons_succ, i64_w, i32_w]
   rfl
 refine pu_ 7 (some 14) (bm_ 15 255) (any_of HT_.out (by kernel_rfl)) ?_
 refine take_ (i := 8) (N := some 15) (v := ?_) (a' := ?_) (bm_ 15 511) rfl rfl (take_ofW HT_.out HW_.out (by kernel_rfl)) (fun _ _ _ h => h) (Or.inl ⟨by rfl, ?_⟩) hHeld ?_ ?_
 rotate_left
 · rintro w' ⟨s0, s1, s2, s3, s4, s5, s6, s7, s8, s9⟩
   go_simp
   with_reducible rfl
 rotate_left
 · simp only [Act.put, List.setIfInBounds_toArray, List.set_cons_zero, List.set_cons_succ, i64_w, i32_w]
   rfl
 refine one_ (i := 9) (N := some 16) (bm_ 15 1023) rfl rfl (one_of HT_.out (by kernel_rfl)) (by decide) (fun K hK => ?_)
 refine goes_ Try.func18 (by kernel_rfl) rfl #[.agg #[.slice A0 l0.length c0, .slice (some ⟨gR, 0, none⟩) 8 cR, .bool a2, .bool a3, .bool a4, .bool a5, .slice A6 l6.length c6, .slice A7 l7.length c7, .int .i64 a8], .int .i64 (rd l1 7)] (by rfl) rfl rfl dA_ ?_
 have hrd := impl_ReadW.calls A0 c0 l0 (some ⟨gR, 0, none⟩) cR l1 a2 a3 a4 a5 A6 c6 l6 A7 c7 l7 a8 (rd l1 7) t1 t2 w.drew (Kd.C_drew hr0_0) hc0_0 ((Kd.R_reads' HO.out).2.2) d43_ (Kd.C_drew hr0_6) hc0_6 (Kd.C_drew hr0_7) hc0_7 hR
 rw [hl] at hrd
 refine hrd.mono ?_
 clear hrd
 rintro e w1 ⟨rfl, hb⟩
 refine ⟨_, rfl, ?_⟩
 replace HO := A_ (Kd.R_below HO.out hb)
 replace HBX := A_ (blk_below HBX.out hb)
 have HG : Aside0 (w.grownBy w1 (some gR)) := A_ (gb_below hb)
 clear hb
 refine hK.out _ _ ⟨(blk_cell HBX.out 0).trans rfl, (blk_cell HBX.out 1).trans rfl, (blk_cell HBX.out 2).trans rfl, (blk_cell HBX.out 3).trans rfl, (blk_cell HBX.out 4).trans rfl, (blk_cell HBX.out 5).trans rfl, (blk_cell HBX.out 6).trans rfl, (blk_cell HBX.out 7).trans rfl, (blk_cell HBX.out 8).trans rfl, row_cell_ HO.out 7 (by omega)⟩ (fun hHeld => ?_)
 clear hK K
 refine norm_ (a' := ?_) ?_ ?_
 rotate_left
 · show Act.put _ (some 16) _ = _
   simp only [Act.put, List.setIfInBounds_toArray, List.set_cons_zero, List.set_cons_succ, i64_w, i32_w]
   rfl
 refine pu_ 10 (some 6) (bm_ 15 2047) (any_of HT_.out (by kernel_rfl)) ?_
 refine pu_ 11 (some 17) (bm_ 15 4095) (any_of HT_.out (by kernel_rfl)) ?_
 refine pu_ 12 (some 18) (bm_ 15 8191) (any_of HT_.out (by kernel_rfl)) ?_
 refine pu_ 13 (some 4) (bm_ 15 16383) (any_of HT_.out (by kernel_rfl)) ?_
 refine pu_ 14 (some 5) (bm_ 15 32767) (any_of HT_.out (by kernel_rfl)) ?_
 refine done_ (done_of HT_.out (by kernel_rfl)) ?_
 clear HT_ HW_ hHeld
 go_wp2
 replace HO := A_ (Kd.R_drew HO.out)
 replace HBX := A_ (blk_drew HBX.out)
 replace HG : Aside0 (w.grownBy w1.drew (some gR)) := A_ (gb_drew HG.out)
 refine start_ (n := 14) (S := fun w' => w'.cell? ⟨gb, 1, none⟩ = some (.slice (some ⟨gR, 0, none⟩) 8 cR) ∧ w'.cell? ⟨gR, 7, none⟩ = some (.int .i64 (rd l1 7))) (ds := [13]) #[false, false, false, false, false, false, false, false, false, false, false, false, false, false] (by kernel_rfl) rfl rfl ⟨(blk_cell HBX.out 1).trans rfl, row_cell_ HO.out 7 (by omega)⟩ (fun hHeld => ?_); refine with_tabW (T := f93T2) rfl f93B2 (fun HT_ HW_ => ?_)
 generalize w1.drew = w2 at HO HBX HG hHeld ⊢
 refine pu_ 0 (some 19) (bm_ 14 1) (any_of HT_.out (by kernel_rfl)) ?_
 refine pu_ 1 (some 20) (bm_ 14 3) (any_of HT_.out (by kernel_rfl)) ?_
 refine pu_ 2 (some 21) (bm_ 14 7) (any_of HT_.out (by kernel_rfl)) ?_
 refine pu_ 4 (some 23) (bm_ 14 23) (any_of HT_.out (by kernel_rfl)) ?_
 refine pu_ 5 (some 24) (bm_ 14 55) (any_of HT_.out (by kernel_rfl)) ?_
 refine pu_ 6 (some 25) (bm_ 14 119) (any_of HT_.out (by kernel_rfl)) ?_
 refine take_ (i := 3) (N := some 22) (v := ?_) (a' := ?_) (bm_ 14 127) rfl rfl (take_ofW HT_.out HW_.out (by kernel_rfl)) (fun _ _ _ h => h) (Or.inl ⟨by rfl, ?_⟩) hHeld ?_ ?_
 rotate_left
 · rintro w' ⟨s0, s1⟩
   go_simp
   with_reducible rfl
 rotate_left
 · simp only [Act.put, List.setIfInBounds_toArray, List.set_cons_zero, List.set_cons_succ, i64_w, i32_w]
   rfl
 refine take_ (i := 7) (N := some 26) (v := ?_) (a' := ?_) (bm_ 14 255) rfl rfl (take_ofW HT_.out HW_.out (by kernel_rfl)) (fun _ _ _ h => h) (Or.inl ⟨by rfl, ?_⟩) hHeld ?_ ?_
 rotate_left
 · rintro w' ⟨s0, s1⟩
   go_simp
   with_reducible rfl
 rotate_left
 · simp only [Act.put, List.setIfInBounds_toArray, List.set_cons_zero, List.set_cons_succ, i64_w, i32_w]
   rfl
 refine pu_ 8 (some 27) (bm_ 14 511) (any_of HT_.out (by kernel_rfl)) ?_
 refine take_ (i := 9) (N := some 28) (v := ?_) (a' := ?_) (bm_ 14 1023) rfl rfl (take_ofW HT_.out HW_.out (by kernel_rfl)) (fun _ _ _ h => h) (Or.inl ⟨by rfl, ?_⟩) hHeld ?_ ?_
 rotate_left
 · rintro w' ⟨s0, s1⟩
   go_simp
   with_reducible rfl
 rotate_left
 · simp only [Act.put, List.setIfInBounds_toArray, List.set_cons_zero, List.set_cons_succ, i64_w, i32_w]
   rfl
 refine pu_ 10 (some 29) (bm_ 14 2047) (any_of HT_.out (by kernel_rfl)) ?_
 refine one_ (i := 11) (N := some 30) (bm_ 14 4095) rfl rfl (one_of HT_.out (by kernel_rfl)) (by decide) (fun K hK => ?_)
 refine goes_ Try.func43 (by kernel_rfl) rfl #[.int .i64 (wrap64 (rd l1 7 + 2))] (by rfl) rfl rfl dA_ ?_
 refine (impl_Wrap.calls _ u _ hU).mono ?_
 rintro e w3 ⟨rfl, hb⟩
 refine ⟨_, rfl, ?_⟩
 replace HO := A_ (Kd.R_below HO.out hb.below)
 replace HBX := A_ (blk_below HBX.out hb.below)
 replace HG := A_ (gb_then HG.out hb.below)
 clear hb
 refine hK.out _ _ ⟨(blk_cell HBX.out 1).trans rfl, row_cell_ HO.out 7 (by omega)⟩ (fun hHeld => ?_)
 clear hK K
 refine norm_ (a' := ?_) ?_ ?_
 rotate_left
 · show Act.put _ (some 30) _ = _
   simp only [Act.put, List.setIfInBounds_toArray, List.set_cons_zero, List.set_cons_succ, i64_w, i32_w]
   rfl
 refine pu_ 12 (some 31) (bm_ 14 8191) (any_of HT_.out (by kernel_rfl)) ?_
 refine last_ (i := 13) (N := none) (bm_ 14 16383) rfl rfl (one_of HT_.out (by kernel_rfl)) (by decide) (fun K hK => ?_)
 refine store_row_step (by rfl) rfl 3 _ _ rfl (by rfl) (by rfl) (by rfl) HO.out (by omega : 7 < 8) (fun w4 h1 h2 => ?_)
 refine hK.out _ _ ?_
 clear hK K
 refine done_ (done_of HT_.out (by kernel_rfl)) ?_
 go_wp2
 go_ret2
 exact ⟨rfl, h1, gb_trans HG.out h2⟩
def impl_place.f (l0 l1 : List Int) (a2 a3 a4 a5 : Bool) (l6 l7 : List Int) (a8 m r : Int) : Option (Int × Int × Bool × List Int) := if m = 0 then some (r, -1, true, l1) else (if m = 1 then some (rd l1 r, true, l1) else if m = 2 ∨ m = 3 then (impl_Wrap.f (wrap64 (rd l1 r + 2))).bind fun u => some (rd l1 r, true, l1.set r.toNat u) else if m = 4 ∨ m = 5 then (impl_Wrap.f (wrap64 (rd l1 r - 2))).bind fun u => some (u, true, l1.set r.toNat u) else (impl_fetch.f l0 l1 a2 a3 a4 a5 l6 l7 a8).bind fun t => (impl_Wrap.f (wrap64 (t.1 + rd t.2.2 r))).bind fun u => some (u, t.2.1, t.2.2)).bind fun s => if s.2.1 = true ∧ (m = 3 ∨ m = 5 ∨ m = 7) then (impl_ReadW.f l0 s.2.2 a2 a3 a4 a5 l6 l7 a8 s.1).bind fun q => some (-1, q.1, q.2, s.2.2) else some (-1, s.1, s.2.1, s.2.2)
noncomputable def f77T1 : Bool × List (List Nat × List Nat) := rtab .any (opsOf Try.f77 1)
theorem f77B1 : waitsOk f77T1.2 [0, 1, 3, 7, 0, 16, 63, 127] = true := by kernel_rfl
set_option maxHeartbeats 16000000 in
set_option maxRecDepth 100000 in
theorem impl_place.calls (gb gR : Nat) (A0 : Option Addr) (c0 : Nat) (l0 : List Int) (cR : Nat) (l1 : List Int) (a2 a3 a4 a5 : Bool) (A6 : Option Addr) (c6 : Nat) (l6 : List Int) (A7 : Option Addr) (c7 : Nat) (l7 : List Int) (a8 : Int) (r x : Int) (hq0 : 0 ≤ r) (hq1 : r < 8) (w : World)
  (hbox : w.heap[gb]? = some (.cells #[.slice A0 l0.length c0, .slice (some ⟨gR, 0, none⟩) 8 cR, .bool a2, .bool a3, .bool a4, .bool a5, .slice A6 l6.length c6, .slice A7 l7.length c7, .int .i64 a8] 28 (0, 0)))
  (base : Nat) (ok1 : Nat → Prop) (HO1 : (Kd.int .i64).R 3 w base ok1 (.slice (some ⟨gR, 0, none⟩) 8 cR) l1) (hne : gb ≠ gR) (hl : l1.length = 8) (hk0 : ∀ w', w.grownBy w' (some gR) → Kd.C (Kd.int .i64) w' A0 l0.length l0) (hc0 : l0.length ≤ c0) (hk6 : ∀ w', w.grownBy w' (some gR) → Kd.C (Kd.int .i64) w' A6 l6.length l6) (hc6 : l6.length ≤ c6) (hk7 : ∀ w', w.grownBy w' (some gR) → Kd.C (Kd.int .i64) w' A7 l7.length l7) (hc7 : l7.length ≤ c7) (m : Int) (hm0 : 0 ≤ m) (hm7 : m < 8) (q0 q1 : Int) (q2 : Bool) (q3 : List Int) (h : impl_place.f l0 l1 a2 a3 a4 a5 l6 l7 a8 m r = some (q0, q1, q2, q3)) :
  Calls Try.prog 77 #[.pointer (some ⟨gb, 0, none⟩), .agg #[.int .i64 m, .int .i64 r, .int .i64 x]] w fun e w' => e = .returned (.tuple #[.agg #[.int .i64 q0, .int .i64 q1], .bool q2]) ∧ (Kd.int .i64).R 3 w' base ok1 (.slice (some ⟨gR, 0, none⟩) 8 cR) q3 ∧ w.grownBy w' (some gR) := by
 have HO := A_ HO1
 have HBX := A_ hbox
 have HG : Aside0 (w.grownBy w (some gR)) := A_ (World.grownBy.refl w _)
 have q0_ := decide_eq_true hq0
 have q1_ := decide_eq_true hq1
 go_enter Try.func77, Try.ntmps77
 go_wp2_with (first | ((with_reducible refine gate_dst (N := 3) rfl ?_); refine bx_ 3 #[.int .i64 m, .int .i64 r, .int .i64 x] 63 ?_; intro go hgo w1 hbo hb; have hgn : go ≠ gR := (by have q_ := row_lt_ HO.out (by decide); omega); have hgb : gb ≠ go := (by have q_ := blk_lt HBX.out; omega); have n0_ := A_ (Kd.R_below HO.out hb); have n1_ := A_ (blk_below HBX.out hb); have n2_ := A_ (gb_then HG.out hb); have n3_ := A_ (hbo); clear HO HBX HG; have HO := n0_; have HBX := n1_; have HG := n2_; have HBO := n3_; clear n0_ n1_ n2_ n3_; clear hb hbo hgo) | ((with_reducible refine gate_dst (N := 4) rfl ?_); refine bx_ 4 #[.int .i64 0, .int .i64 0] 38 ?_; intro gp hgp_ w2 hbp hb; have hpn : gp ≠ gR := (by have q_ := row_lt_ HO.out (by decide); omega); have hop : go ≠ gp := (by have q_ := blk_lt HBO.out; omega); have hbp_ : gb ≠ gp := (by have q_ := blk_lt HBX.out; omega); have hgp : w.heap.size ≤ gp := (by have q_ := HG.out.size; omega); have n0_ := A_ (Kd.R_below HO.out hb); have n1_ := A_ (blk_below HBX.out hb); have n2_ := A_ (gb_then HG.out hb); have n3_ := A_ (blk_below HBO.out hb); have n4_ := A_ (hbp); clear HO HBX HG HBO; have HO := n0_; have HBX := n1_; have HG := n2_; have HBO := n3_; have HBP := n4_; clear n0_ n1_ n2_ n3_ n4_; clear hb hbp hgp_))
 replace HO := A_ (Kd.R_drew HO.out)
 replace HBX := A_ (blk_drew HBX.out)
 replace HG := A_ (gb_drew HG.out)
 replace HBO := A_ (blk_drew HBO.out)
 replace HBP := A_ (blk_drew HBP.out)
 refine start_ (n := 8) (S := fun w' => w'.cell? ⟨gb, 1, none⟩ = some (.slice (some ⟨gR, 0, none⟩) 8 cR) ∧ w'.cell? ⟨go, 1, none⟩ = some (.int .i64 r)) (ds := []) #[false, false, false, false, false, false, false, false] (by kernel_rfl) rfl rfl ⟨(blk_cell HBX.out 1).trans rfl, (blk_cell HBO.out 1).trans rfl⟩ (fun hHeld => ?_); refine with_tabW (T := f77T1) rfl f77B1 (fun HT_ HW_ => ?_)
 generalize w2.drew = w3 at HO HBX HG HBO HBP hHeld ⊢
 refine pu_ 0 (some 11) (bm_ 8 1) (any_of HT_.out (by kernel_rfl)) ?_
 refine pu_ 1 (some 12) (bm_ 8 3) (any_of HT_.out (by kernel_rfl)) ?_
 refine pu_ 2 (some 13) (bm_ 8 7) (any_of HT_.out (by kernel_rfl)) ?_
 refine pu_ 4 (some 15) (bm_ 8 23) (any_of HT_.out (by kernel_rfl)) ?_
 refine take_ (i := 3) (N := some 14) (v := ?_) (a' := ?_) (bm_ 8 31) rfl rfl (take_ofW HT_.out HW_.out (by kernel_rfl)) (fun _ _ _ h => h) (Or.inl ⟨by rfl, ?_⟩) hHeld ?_ ?_
 rotate_left
 · rintro w' ⟨s0, s1⟩
   go_simp
   with_reducible rfl
 rotate_left
 · simp only [Act.put, List.setIfInBounds_toArray, List.set_cons_zero, List.set_cons_succ, i64_w, i32_w]
   rfl
 refine take_ (i := 5) (N := some 16) (v := ?_) (a' := ?_) (bm_ 8 63) rfl rfl (take_ofW HT_.out HW_.out (by kernel_rfl)) (fun _ _ _ h => h) (Or.inl ⟨by rfl, ?_⟩) hHeld ?_ ?_
 rotate_left
 · rintro w' ⟨s0, s1⟩
   go_simp
   with_reducible rfl
 rotate_left
 · simp only [Act.put, List.setIfInBounds_toArray, List.set_cons_zero, List.set_cons_succ, i64_w, i32_w]
   rfl
 refine pu_ 6 (some 17) (bm_ 8 127) (any_of HT_.out (by kernel_rfl)) ?_
 refine pu_ 7 (some 6) (bm_ 8 255) (any_of HT_.out (by kernel_rfl)) ?_
 refine done_ (done_of HT_.out (by kernel_rfl)) ?_
 clear HT_ HW_ hHeld
 have y_m : World.cell? w3 ⟨go, 0, none⟩ = some (.int .i64 m) := (blk_cell HBO.out 0).trans rfl
 have y_r : World.cell? w3 ⟨go, 1, none⟩ = some (.int .i64 r) := (blk_cell HBO.out 1).trans rfl
 have y_R : World.cell? w3 ⟨gR, r.toNat, none⟩ = some (.int .i64 (rd l1 r)) := row_cell_r HO.out r hq0 hq1
 rcases (by omega : m = 0 ∨ m = 1 ∨ m = 2 ∨ m = 3 ∨ m = 4 ∨ m = 5 ∨ m = 6 ∨ m = 7) with rfl | rfl | rfl | rfl | rfl | rfl | rfl | rfl
 · rw [impl_place.f, if_pos rfl] at h
   simp only [Option.some.injEq, Prod.mk.injEq] at h
   obtain ⟨rfl, rfl, rfl, rfl⟩ := h
   go_wp2_with (first | ((with_reducible refine gate_ (.store 38 (.tmp 4) (.tmp 27)) rfl ?_); refine store_struct rfl rfl 38 (.tmp 4) (.tmp 27) rfl (cs := #[.int .i64 r, .int .i64 (-1)]) (by rfl) (by rfl) HBP.out (by kernel_rfl) rfl d27_ ?_; intro w5 hbp hc; clear y_m y_r y_R; have n0_ := A_ (row_ch_ HO.out hc hpn); have n1_ := A_ (blk_ch hc HBX.out (by omega)); have n2_ := A_ (gb_ch HG.out hc hgp); have n3_ := A_ (blk_ch hc HBO.out (by omega)); have n4_ := A_ (hbp); clear HO HBX HG HBO HBP; have HO := n0_; have HBX := n1_; have HG := n2_; have HBO := n3_; have HBP := n4_; clear n0_ n1_ n2_ n3_ n4_; clear hbp hc; have y_m : World.cell? w5 ⟨go, 0, none⟩ = some (.int .i64 0) := (blk_cell HBO.out 0).trans rfl; have y_r : World.cell? w5 ⟨go, 1, none⟩ = some (.int .i64 r) := (blk_cell HBO.out 1).trans rfl; have y_R : World.cell? w5 ⟨gR, r.toNat, none⟩ = some (.int .i64 (rd l1 r)) := row_cell_r HO.out r hq0 hq1))
   refine bodyPost_ret (results_ct rfl _ _ gp 38 #[.int .i64 r, .int .i64 (-1)] (0, 0) _ rfl HBP.out Try.underlying38 rfl (by kernel_rfl)) rfl ?_
   exact ⟨rfl, HO.out, HG.out⟩
 · rw [impl_place.f, if_neg (by decide)] at h
   obtain ⟨⟨at_, ok_, l_⟩, hs, h⟩ := Option.bind_eq_some_iff.mp h
   dsimp only at h
   rw [if_pos (by decide)] at hs
   simp only [Option.some.injEq, Prod.mk.injEq] at hs
   obtain ⟨rfl, rfl, rfl⟩ := hs
   rw [if_neg (fun h_ => absurd h_.2 (by decide))] at h
   simp only [Option.some.injEq, Prod.mk.injEq] at h
   obtain ⟨rfl, rfl, rfl, rfl⟩ := h
   go_wp2_with (first | ((with_reducible refine gate_ (.store 38 (.tmp 4) (.tmp 81)) rfl ?_); refine store_struct rfl rfl 38 (.tmp 4) (.tmp 81) rfl (cs := #[.int .i64 (-1), .int .i64 (rd l1 r)]) (by rfl) (by rfl) HBP.out (by kernel_rfl) rfl d27_ ?_; intro w9 hbp hc; clear y_m y_r y_R; have n0_ := A_ (row_ch_ HO.out hc hpn); have n1_ := A_ (blk_ch hc HBX.out (by omega)); have n2_ := A_ (gb_ch HG.out hc hgp); have n3_ := A_ (blk_ch hc HBO.out (by omega)); have n4_ := A_ (hbp); clear HO HBX HG HBO HBP; have HO := n0_; have HBX := n1_; have HG := n2_; have HBO := n3_; have HBP := n4_; clear n0_ n1_ n2_ n3_ n4_; clear hbp hc; have y_m : World.cell? w9 ⟨go, 0, none⟩ = some (.int .i64 1) := (blk_cell HBO.out 0).trans rfl; have y_r : World.cell? w9 ⟨go, 1, none⟩ = some (.int .i64 r) := (blk_cell HBO.out 1).trans rfl; have y_R : World.cell? w9 ⟨gR, r.toNat, none⟩ = some (.int .i64 (rd l1 r)) := row_cell_r HO.out r hq0 hq1))
   refine bodyPost_ret (results_ct rfl _ _ gp 38 #[.int .i64 (-1), .int .i64 (rd l1 r)] (0, 0) _ rfl HBP.out Try.underlying38 rfl (by kernel_rfl)) rfl ?_
   exact ⟨rfl, HO.out, HG.out⟩
 · rw [impl_place.f, if_neg (by decide)] at h
   obtain ⟨⟨at_, ok_, l_⟩, hs, h⟩ := Option.bind_eq_some_iff.mp h
   dsimp only at h
   rw [if_neg (by decide), if_pos (by decide)] at hs
   obtain ⟨u, hU, hs⟩ := Option.bind_eq_some_iff.mp hs
   simp only [Option.some.injEq, Prod.mk.injEq] at hs
   obtain ⟨rfl, rfl, rfl⟩ := hs
   rw [if_neg (fun h_ => absurd h_.2 (by decide))] at h
   simp only [Option.some.injEq, Prod.mk.injEq] at h
   obtain ⟨rfl, rfl, rfl, rfl⟩ := h
   go_wp2_with (first | ((with_reducible refine gate_callee (f := 43) rfl ?_); refine gL_ (some 34) Try.func43 #[.int .i64 (wrap64 (rd l1 r + 2))] ?_; refine (impl_Wrap.calls _ u _ hU).mono ?_; rintro e w5 ⟨rfl, hb⟩; refine ⟨_, rfl, ?_⟩; clear y_m y_r y_R; have n0_ := A_ (Kd.R_below HO.out hb.below); have n1_ := A_ (blk_below HBX.out hb.below); have n2_ := A_ (gb_then HG.out hb.below); have n3_ := A_ (blk_below HBO.out hb.below); have n4_ := A_ (blk_below HBP.out hb.below); clear HO HBX HG HBO HBP; have HO := n0_; have HBX := n1_; have HG := n2_; have HBO := n3_; have HBP := n4_; clear n0_ n1_ n2_ n3_ n4_; clear hb; have y_m : World.cell? w5 ⟨go, 0, none⟩ = some (.int .i64 2) := (blk_cell HBO.out 0).trans rfl; have y_r : World.cell? w5 ⟨go, 1, none⟩ = some (.int .i64 r) := (blk_cell HBO.out 1).trans rfl; have y_R : World.cell? w5 ⟨gR, r.toNat, none⟩ = some (.int .i64 (rd l1 r)) := row_cell_r HO.out r hq0 hq1) | ((with_reducible refine gate_ (.store 3 (.tmp 35) (.tmp 34)) rfl ?_); refine store_row_list rfl rfl 3 (.tmp 35) (.tmp 34) rfl (by rfl) (by rfl) (by rfl) HO.out (by omega : r.toNat < 8) (fun w6 h1 h2 => ?_); clear y_m y_r y_R; have n0_ := A_ (h1); have n1_ := A_ (gb_blk h2 HBX.out hne); have n2_ := A_ (gb_trans HG.out h2); have n3_ := A_ (gb_blk h2 HBO.out hgn); have n4_ := A_ (gb_blk h2 HBP.out hpn); clear HO HBX HG HBO HBP; have HO := n0_; have HBX := n1_; have HG := n2_; have HBO := n3_; have HBP := n4_; clear n0_ n1_ n2_ n3_ n4_; clear h1 h2; have y_m : World.cell? w6 ⟨go, 0, none⟩ = some (.int .i64 2) := (blk_cell HBO.out 0).trans rfl; have y_r : World.cell? w6 ⟨go, 1, none⟩ = some (.int .i64 r) := (blk_cell HBO.out 1).trans rfl; have y_R : World.cell? w6 ⟨gR, r.toNat, none⟩ = some (.int .i64 (rd (l1.set r.toNat u) r)) := row_cell_r HO.out r hq0 hq1) | ((with_reducible refine gate_ (.store 38 (.tmp 4) (.tmp 81)) rfl ?_); refine store_struct rfl rfl 38 (.tmp 4) (.tmp 81) rfl (cs := #[.int .i64 (-1), .int .i64 (rd l1 r)]) (by rfl) (by rfl) HBP.out (by kernel_rfl) rfl d27_ ?_; intro w9 hbp hc; clear y_m y_r y_R; have n0_ := A_ (row_ch_ HO.out hc hpn); have n1_ := A_ (blk_ch hc HBX.out (by omega)); have n2_ := A_ (gb_ch HG.out hc hgp); have n3_ := A_ (blk_ch hc HBO.out (by omega)); have n4_ := A_ (hbp); clear HO HBX HG HBO HBP; have HO := n0_; have HBX := n1_; have HG := n2_; have HBO := n3_; have HBP := n4_; clear n0_ n1_ n2_ n3_ n4_; clear hbp hc; have y_m : World.cell? w9 ⟨go, 0, none⟩ = some (.int .i64 2) := (blk_cell HBO.out 0).trans rfl; have y_r : World.cell? w9 ⟨go, 1, none⟩ = some (.int .i64 r) := (blk_cell HBO.out 1).trans rfl; have y_R : World.cell? w9 ⟨gR, r.toNat, none⟩ = some (.int .i64 (rd (l1.set r.toNat u) r)) := row_cell_r HO.out r hq0 hq1))
   refine bodyPost_ret (results_ct rfl _ _ gp 38 #[.int .i64 (-1), .int .i64 (rd l1 r)] (0, 0) _ rfl HBP.out Try.underlying38 rfl (by kernel_rfl)) rfl ?_
   exact ⟨rfl, HO.out, HG.out⟩
 · rw [impl_place.f, if_neg (by decide)] at h
   obtain ⟨⟨at_, ok_, l_⟩, hs, h⟩ := Option.bind_eq_some_iff.mp h
   dsimp only at h
   rw [if_neg (by decide), if_pos (by decide)] at hs
   obtain ⟨u, hU, hs⟩ := Option.bind_eq_some_iff.mp hs
   simp only [Option.some.injEq, Prod.mk.injEq] at hs
   obtain ⟨rfl, rfl, rfl⟩ := hs
   rw [if_pos ⟨rfl, by decide⟩] at h
   obtain ⟨⟨q1, q2⟩, hQ, h⟩ := Option.bind_eq_some_iff.mp h
   simp only [Option.some.injEq, Prod.mk.injEq] at h
   obtain ⟨rfl, rfl, rfl, rfl⟩ := h
   go_wp2_with (first | ((with_reducible refine gate_callee (f := 43) rfl ?_); refine gL_ (some 34) Try.func43 #[.int .i64 (wrap64 (rd l1 r + 2))] ?_; refine (impl_Wrap.calls _ u _ hU).mono ?_; rintro e w5 ⟨rfl, hb⟩; refine ⟨_, rfl, ?_⟩; clear y_m y_r y_R; have n0_ := A_ (Kd.R_below HO.out hb.below); have n1_ := A_ (blk_below HBX.out hb.below); have n2_ := A_ (gb_then HG.out hb.below); have n3_ := A_ (blk_below HBO.out hb.below); have n4_ := A_ (blk_below HBP.out hb.below); clear HO HBX HG HBO HBP; have HO := n0_; have HBX := n1_; have HG := n2_; have HBO := n3_; have HBP := n4_; clear n0_ n1_ n2_ n3_ n4_; clear hb; have y_m : World.cell? w5 ⟨go, 0, none⟩ = some (.int .i64 3) := (blk_cell HBO.out 0).trans rfl; have y_r : World.cell? w5 ⟨go, 1, none⟩ = some (.int .i64 r) := (blk_cell HBO.out 1).trans rfl; have y_R : World.cell? w5 ⟨gR, r.toNat, none⟩ = some (.int .i64 (rd l1 r)) := row_cell_r HO.out r hq0 hq1) | ((with_reducible refine gate_ (.store 3 (.tmp 35) (.tmp 34)) rfl ?_); refine store_row_list rfl rfl 3 (.tmp 35) (.tmp 34) rfl (by rfl) (by rfl) (by rfl) HO.out (by omega : r.toNat < 8) (fun w6 h1 h2 => ?_); clear y_m y_r y_R; have n0_ := A_ (h1); have n1_ := A_ (gb_blk h2 HBX.out hne); have n2_ := A_ (gb_trans HG.out h2); have n3_ := A_ (gb_blk h2 HBO.out hgn); have n4_ := A_ (gb_blk h2 HBP.out hpn); clear HO HBX HG HBO HBP; have HO := n0_; have HBX := n1_; have HG := n2_; have HBO := n3_; have HBP := n4_; clear n0_ n1_ n2_ n3_ n4_; clear h1 h2; have y_m : World.cell? w6 ⟨go, 0, none⟩ = some (.int .i64 3) := (blk_cell HBO.out 0).trans rfl; have y_r : World.cell? w6 ⟨go, 1, none⟩ = some (.int .i64 r) := (blk_cell HBO.out 1).trans rfl; have y_R : World.cell? w6 ⟨gR, r.toNat, none⟩ = some (.int .i64 (rd (l1.set r.toNat u) r)) := row_cell_r HO.out r hq0 hq1) | ((with_reducible refine gate_ (.load 28 (.tmp 74)) rfl ?_); refine wpList_load_row rfl 28 (.tmp 74) rfl gb rfl 28 _ _ _ HBX.out Try.underlying28 rfl (by kernel_rfl) ?_) | ((with_reducible refine gate_callee (f := 18) rfl ?_); refine gL_ (some 77) Try.func18 #[.agg #[.slice A0 l0.length c0, .slice (some ⟨gR, 0, none⟩) 8 cR, .bool a2, .bool a3, .bool a4, .bool a5, .slice A6 l6.length c6, .slice A7 l7.length c7, .int .i64 a8], .int .i64 (rd l1 r)] ?_; have hrd := impl_ReadW.calls A0 c0 l0 (some ⟨gR, 0, none⟩) cR (l1.set r.toNat u) a2 a3 a4 a5 A6 c6 l6 A7 c7 l7 a8 (rd l1 r) _ _ _ (hk0 _ HG.out) hc0 ((Kd.R_reads' HO.out).2.2) d43_ (hk6 _ HG.out) hc6 (hk7 _ HG.out) hc7 hQ; rw [← (Kd.R_reads' HO.out).1] at hrd; refine hrd.mono ?_; clear hrd; rintro e w8 ⟨rfl, hb⟩; refine ⟨_, rfl, ?_⟩; clear y_m y_r y_R; have n0_ := A_ (Kd.R_below HO.out hb); have n1_ := A_ (blk_below HBX.out hb); have n2_ := A_ (gb_then HG.out hb); have n3_ := A_ (blk_below HBO.out hb); have n4_ := A_ (blk_below HBP.out hb); clear HO HBX HG HBO HBP; have HO := n0_; have HBX := n1_; have HG := n2_; have HBO := n3_; have HBP := n4_; clear n0_ n1_ n2_ n3_ n4_; clear hb; have y_m : World.cell? w8 ⟨go, 0, none⟩ = some (.int .i64 3) := (blk_cell HBO.out 0).trans rfl; have y_r : World.cell? w8 ⟨go, 1, none⟩ = some (.int .i64 r) := (blk_cell HBO.out 1).trans rfl; have y_R : World.cell? w8 ⟨gR, r.toNat, none⟩ = some (.int .i64 (rd (l1.set r.toNat u) r)) := row_cell_r HO.out r hq0 hq1) | ((with_reducible refine gate_ (.store 38 (.tmp 4) (.tmp 81)) rfl ?_); refine store_struct rfl rfl 38 (.tmp 4) (.tmp 81) rfl (cs := #[.int .i64 (-1), .int .i64 q1]) (by rfl) (by rfl) HBP.out (by kernel_rfl) rfl d27_ ?_; intro w9 hbp hc; clear y_m y_r y_R; have n0_ := A_ (row_ch_ HO.out hc hpn); have n1_ := A_ (blk_ch hc HBX.out (by omega)); have n2_ := A_ (gb_ch HG.out hc hgp); have n3_ := A_ (blk_ch hc HBO.out (by omega)); have n4_ := A_ (hbp); clear HO HBX HG HBO HBP; have HO := n0_; have HBX := n1_; have HG := n2_; have HBO := n3_; have HBP := n4_; clear n0_ n1_ n2_ n3_ n4_; clear hbp hc; have y_m : World.cell? w9 ⟨go, 0, none⟩ = some (.int .i64 3) := (blk_cell HBO.out 0).trans rfl; have y_r : World.cell? w9 ⟨go, 1, none⟩ = some (.int .i64 r) := (blk_cell HBO.out 1).trans rfl; have y_R : World.cell? w9 ⟨gR, r.toNat, none⟩ = some (.int .i64 (rd (l1.set r.toNat u) r)) := row_cell_r HO.out r hq0 hq1))
   refine bodyPost_ret (results_ct rfl _ _ gp 38 #[.int .i64 (-1), .int .i64 q1] (0, 0) _ rfl HBP.out Try.underlying38 rfl (by kernel_rfl)) rfl ?_
   exact ⟨rfl, HO.out, HG.out⟩
 · rw [impl_place.f, if_neg (by decide)] at h
   obtain ⟨⟨at_, ok_, l_⟩, hs, h⟩ := Option.bind_eq_some_iff.mp h
   dsimp only at h
   rw [if_neg (by decide), if_neg (by decide), if_pos (by decide)] at hs
   obtain ⟨u, hU, hs⟩ := Option.bind_eq_some_iff.mp hs
   simp only [Option.some.injEq, Prod.mk.injEq] at hs
   obtain ⟨rfl, rfl, rfl⟩ := hs
   rw [if_neg (fun h_ => absurd h_.2 (by decide))] at h
   simp only [Option.some.injEq, Prod.mk.injEq] at h
   obtain ⟨rfl, rfl, rfl, rfl⟩ := h
   go_wp2_with (first | ((with_reducible refine gate_callee (f := 43) rfl ?_); refine gL_ (some 41) Try.func43 #[.int .i64 (wrap64 (rd l1 r - 2))] ?_; refine (impl_Wrap.calls _ u _ hU).mono ?_; rintro e w5 ⟨rfl, hb⟩; refine ⟨_, rfl, ?_⟩; clear y_m y_r y_R; have n0_ := A_ (Kd.R_below HO.out hb.below); have n1_ := A_ (blk_below HBX.out hb.below); have n2_ := A_ (gb_then HG.out hb.below); have n3_ := A_ (blk_below HBO.out hb.below); have n4_ := A_ (blk_below HBP.out hb.below); clear HO HBX HG HBO HBP; have HO := n0_; have HBX := n1_; have HG := n2_; have HBO := n3_; have HBP := n4_; clear n0_ n1_ n2_ n3_ n4_; clear hb; have y_m : World.cell? w5 ⟨go, 0, none⟩ = some (.int .i64 4) := (blk_cell HBO.out 0).trans rfl; have y_r : World.cell? w5 ⟨go, 1, none⟩ = some (.int .i64 r) := (blk_cell HBO.out 1).trans rfl; have y_R : World.cell? w5 ⟨gR, r.toNat, none⟩ = some (.int .i64 (rd l1 r)) := row_cell_r HO.out r hq0 hq1) | ((with_reducible refine gate_ (.store 3 (.tmp 44) (.tmp 43)) rfl ?_); refine store_row_list rfl rfl 3 (.tmp 44) (.tmp 43) rfl (by rfl) (by rfl) (by rfl) HO.out (by omega : r.toNat < 8) (fun w6 h1 h2 => ?_); clear y_m y_r y_R; have n0_ := A_ (h1); have n1_ := A_ (gb_blk h2 HBX.out hne); have n2_ := A_ (gb_trans HG.out h2); have n3_ := A_ (gb_blk h2 HBO.out hgn); have n4_ := A_ (gb_blk h2 HBP.out hpn); clear HO HBX HG HBO HBP; have HO := n0_; have HBX := n1_; have HG := n2_; have HBO := n3_; have HBP := n4_; clear n0_ n1_ n2_ n3_ n4_; clear h1 h2; have y_m : World.cell? w6 ⟨go, 0, none⟩ = some (.int .i64 4) := (blk_cell HBO.out 0).trans rfl; have y_r : World.cell? w6 ⟨go, 1, none⟩ = some (.int .i64 r) := (blk_cell HBO.out 1).trans rfl; have y_R : World.cell? w6 ⟨gR, r.toNat, none⟩ = some (.int .i64 (rd (l1.set r.toNat u) r)) := row_cell_r HO.out r hq0 hq1) | ((with_reducible refine gate_ (.store 38 (.tmp 4) (.tmp 81)) rfl ?_); refine store_struct rfl rfl 38 (.tmp 4) (.tmp 81) rfl (cs := #[.int .i64 (-1), .int .i64 u]) (by rfl) (by rfl) HBP.out (by kernel_rfl) rfl d27_ ?_; intro w9 hbp hc; clear y_m y_r y_R; have n0_ := A_ (row_ch_ HO.out hc hpn); have n1_ := A_ (blk_ch hc HBX.out (by omega)); have n2_ := A_ (gb_ch HG.out hc hgp); have n3_ := A_ (blk_ch hc HBO.out (by omega)); have n4_ := A_ (hbp); clear HO HBX HG HBO HBP; have HO := n0_; have HBX := n1_; have HG := n2_; have HBO := n3_; have HBP := n4_; clear n0_ n1_ n2_ n3_ n4_; clear hbp hc; have y_m : World.cell? w9 ⟨go, 0, none⟩ = some (.int .i64 4) := (blk_cell HBO.out 0).trans rfl; have y_r : World.cell? w9 ⟨go, 1, none⟩ = some (.int .i64 r) := (blk_cell HBO.out 1).trans rfl; have y_R : World.cell? w9 ⟨gR, r.toNat, none⟩ = some (.int .i64 (rd (l1.set r.toNat u) r)) := row_cell_r HO.out r hq0 hq1))
   refine bodyPost_ret (results_ct rfl _ _ gp 38 #[.int .i64 (-1), .int .i64 u] (0, 0) _ rfl HBP.out Try.underlying38 rfl (by kernel_rfl)) rfl ?_
   exact ⟨rfl, HO.out, HG.out⟩
 · rw [impl_place.f, if_neg (by decide)] at h
   obtain ⟨⟨at_, ok_, l_⟩, hs, h⟩ := Option.bind_eq_some_iff.mp h
   dsimp only at h
   rw [if_neg (by decide), if_neg (by decide), if_pos (by decide)] at hs
   obtain ⟨u, hU, hs⟩ := Option.bind_eq_some_iff.mp hs
   simp only [Option.some.injEq, Prod.mk.injEq] at hs
   obtain ⟨rfl, rfl, rfl⟩ := hs
   rw [if_pos ⟨rfl, by decide⟩] at h
   obtain ⟨⟨q1, q2⟩, hQ, h⟩ := Option.bind_eq_some_iff.mp h
   simp only [Option.some.injEq, Prod.mk.injEq] at h
   obtain ⟨rfl, rfl, rfl, rfl⟩ := h
   go_wp2_with (first | ((with_reducible refine gate_callee (f := 43) rfl ?_); refine gL_ (some 41) Try.func43 #[.int .i64 (wrap64 (rd l1 r - 2))] ?_; refine (impl_Wrap.calls _ u _ hU).mono ?_; rintro e w5 ⟨rfl, hb⟩; refine ⟨_, rfl, ?_⟩; clear y_m y_r y_R; have n0_ := A_ (Kd.R_below HO.out hb.below); have n1_ := A_ (blk_below HBX.out hb.below); have n2_ := A_ (gb_then HG.out hb.below); have n3_ := A_ (blk_below HBO.out hb.below); have n4_ := A_ (blk_below HBP.out hb.below); clear HO HBX HG HBO HBP; have HO := n0_; have HBX := n1_; have HG := n2_; have HBO := n3_; have HBP := n4_; clear n0_ n1_ n2_ n3_ n4_; clear hb; have y_m : World.cell? w5 ⟨go, 0, none⟩ = some (.int .i64 5) := (blk_cell HBO.out 0).trans rfl; have y_r : World.cell? w5 ⟨go, 1, none⟩ = some (.int .i64 r) := (blk_cell HBO.out 1).trans rfl; have y_R : World.cell? w5 ⟨gR, r.toNat, none⟩ = some (.int .i64 (rd l1 r)) := row_cell_r HO.out r hq0 hq1) | ((with_reducible refine gate_ (.store 3 (.tmp 44) (.tmp 43)) rfl ?_); refine store_row_list rfl rfl 3 (.tmp 44) (.tmp 43) rfl (by rfl) (by rfl) (by rfl) HO.out (by omega : r.toNat < 8) (fun w6 h1 h2 => ?_); clear y_m y_r y_R; have n0_ := A_ (h1); have n1_ := A_ (gb_blk h2 HBX.out hne); have n2_ := A_ (gb_trans HG.out h2); have n3_ := A_ (gb_blk h2 HBO.out hgn); have n4_ := A_ (gb_blk h2 HBP.out hpn); clear HO HBX HG HBO HBP; have HO := n0_; have HBX := n1_; have HG := n2_; have HBO := n3_; have HBP := n4_; clear n0_ n1_ n2_ n3_ n4_; clear h1 h2; have y_m : World.cell? w6 ⟨go, 0, none⟩ = some (.int .i64 5) := (blk_cell HBO.out 0).trans rfl; have y_r : World.cell? w6 ⟨go, 1, none⟩ = some (.int .i64 r) := (blk_cell HBO.out 1).trans rfl; have y_R : World.cell? w6 ⟨gR, r.toNat, none⟩ = some (.int .i64 (rd (l1.set r.toNat u) r)) := row_cell_r HO.out r hq0 hq1) | ((with_reducible refine gate_ (.load 28 (.tmp 74)) rfl ?_); refine wpList_load_row rfl 28 (.tmp 74) rfl gb rfl 28 _ _ _ HBX.out Try.underlying28 rfl (by kernel_rfl) ?_) | ((with_reducible refine gate_callee (f := 18) rfl ?_); refine gL_ (some 77) Try.func18 #[.agg #[.slice A0 l0.length c0, .slice (some ⟨gR, 0, none⟩) 8 cR, .bool a2, .bool a3, .bool a4, .bool a5, .slice A6 l6.length c6, .slice A7 l7.length c7, .int .i64 a8], .int .i64 u] ?_; have hrd := impl_ReadW.calls A0 c0 l0 (some ⟨gR, 0, none⟩) cR (l1.set r.toNat u) a2 a3 a4 a5 A6 c6 l6 A7 c7 l7 a8 u _ _ _ (hk0 _ HG.out) hc0 ((Kd.R_reads' HO.out).2.2) d43_ (hk6 _ HG.out) hc6 (hk7 _ HG.out) hc7 hQ; rw [← (Kd.R_reads' HO.out).1] at hrd; refine hrd.mono ?_; clear hrd; rintro e w8 ⟨rfl, hb⟩; refine ⟨_, rfl, ?_⟩; clear y_m y_r y_R; have n0_ := A_ (Kd.R_below HO.out hb); have n1_ := A_ (blk_below HBX.out hb); have n2_ := A_ (gb_then HG.out hb); have n3_ := A_ (blk_below HBO.out hb); have n4_ := A_ (blk_below HBP.out hb); clear HO HBX HG HBO HBP; have HO := n0_; have HBX := n1_; have HG := n2_; have HBO := n3_; have HBP := n4_; clear n0_ n1_ n2_ n3_ n4_; clear hb; have y_m : World.cell? w8 ⟨go, 0, none⟩ = some (.int .i64 5) := (blk_cell HBO.out 0).trans rfl; have y_r : World.cell? w8 ⟨go, 1, none⟩ = some (.int .i64 r) := (blk_cell HBO.out 1).trans rfl; have y_R : World.cell? w8 ⟨gR, r.toNat, none⟩ = some (.int .i64 (rd (l1.set r.toNat u) r)) := row_cell_r HO.out r hq0 hq1) | ((with_reducible refine gate_ (.store 38 (.tmp 4) (.tmp 81)) rfl ?_); refine store_struct rfl rfl 38 (.tmp 4) (.tmp 81) rfl (cs := #[.int .i64 (-1), .int .i64 q1]) (by rfl) (by rfl) HBP.out (by kernel_rfl) rfl d27_ ?_; intro w9 hbp hc; clear y_m y_r y_R; have n0_ := A_ (row_ch_ HO.out hc hpn); have n1_ := A_ (blk_ch hc HBX.out (by omega)); have n2_ := A_ (gb_ch HG.out hc hgp); have n3_ := A_ (blk_ch hc HBO.out (by omega)); have n4_ := A_ (hbp); clear HO HBX HG HBO HBP; have HO := n0_; have HBX := n1_; have HG := n2_; have HBO := n3_; have HBP := n4_; clear n0_ n1_ n2_ n3_ n4_; clear hbp hc; have y_m : World.cell? w9 ⟨go, 0, none⟩ = some (.int .i64 5) := (blk_cell HBO.out 0).trans rfl; have y_r : World.cell? w9 ⟨go, 1, none⟩ = some (.int .i64 r) := (blk_cell HBO.out 1).trans rfl; have y_R : World.cell? w9 ⟨gR, r.toNat, none⟩ = some (.int .i64 (rd (l1.set r.toNat u) r)) := row_cell_r HO.out r hq0 hq1))
   refine bodyPost_ret (results_ct rfl _ _ gp 38 #[.int .i64 (-1), .int .i64 q1] (0, 0) _ rfl HBP.out Try.underlying38 rfl (by kernel_rfl)) rfl ?_
   exact ⟨rfl, HO.out, HG.out⟩
 · rw [impl_place.f, if_neg (by decide)] at h
   obtain ⟨⟨at_, ok_, l_⟩, hs, h⟩ := Option.bind_eq_some_iff.mp h
   dsimp only at h
   rw [if_neg (by decide), if_neg (by decide), if_neg (by decide)] at hs
   obtain ⟨⟨t1, t2, t3⟩, hF, hs⟩ := Option.bind_eq_some_iff.mp hs
   dsimp only at hs
   obtain ⟨u, hU, hs⟩ := Option.bind_eq_some_iff.mp hs
   simp only [Option.some.injEq, Prod.mk.injEq] at hs
   obtain ⟨rfl, rfl, rfl⟩ := hs
   cases t2
   · rw [if_neg (fun h_ => absurd h_.2 (by decide))] at h
     simp only [Option.some.injEq, Prod.mk.injEq] at h
     obtain ⟨rfl, rfl, rfl, rfl⟩ := h
     go_wp2_with (first | ((with_reducible refine gate_callee (f := 93) rfl ?_); refine gL_ (some 50) Try.func93 #[.pointer (some ⟨gb, 0, none⟩)] ?_; refine (impl_fetch.calls gb gR A0 c0 l0 cR l1 a2 a3 a4 a5 A6 c6 l6 A7 c7 l7 a8 _ _ _ _ HBX.out base ok1 HO.out hne hl (hk0 _ HG.out) hc0 (hk6 _ HG.out) hc6 (hk7 _ HG.out) hc7 hF).mono ?_; rintro e w5 ⟨rfl, h1, h2⟩; refine ⟨_, rfl, ?_⟩; clear y_m y_r y_R; have n0_ := A_ (h1); have n1_ := A_ (gb_blk h2 HBX.out hne); have n2_ := A_ (gb_trans HG.out h2); have n3_ := A_ (gb_blk h2 HBO.out hgn); have n4_ := A_ (gb_blk h2 HBP.out hpn); clear HO HBX HG HBO HBP; have HO := n0_; have HBX := n1_; have HG := n2_; have HBO := n3_; have HBP := n4_; clear n0_ n1_ n2_ n3_ n4_; clear h1 h2; have y_m : World.cell? w5 ⟨go, 0, none⟩ = some (.int .i64 6) := (blk_cell HBO.out 0).trans rfl; have y_r : World.cell? w5 ⟨go, 1, none⟩ = some (.int .i64 r) := (blk_cell HBO.out 1).trans rfl; have y_R : World.cell? w5 ⟨gR, r.toNat, none⟩ = some (.int .i64 (rd t3 r)) := row_cell_r HO.out r hq0 hq1) | ((with_reducible refine gate_callee (f := 43) rfl ?_); refine gL_ (some 58) Try.func43 #[.int .i64 (wrap64 (t1 + rd t3 r))] ?_; refine (impl_Wrap.calls _ u _ hU).mono ?_; rintro e w6 ⟨rfl, hb⟩; refine ⟨_, rfl, ?_⟩; clear y_m y_r y_R; have n0_ := A_ (Kd.R_below HO.out hb.below); have n1_ := A_ (blk_below HBX.out hb.below); have n2_ := A_ (gb_then HG.out hb.below); have n3_ := A_ (blk_below HBO.out hb.below); have n4_ := A_ (blk_below HBP.out hb.below); clear HO HBX HG HBO HBP; have HO := n0_; have HBX := n1_; have HG := n2_; have HBO := n3_; have HBP := n4_; clear n0_ n1_ n2_ n3_ n4_; clear hb; have y_m : World.cell? w6 ⟨go, 0, none⟩ = some (.int .i64 6) := (blk_cell HBO.out 0).trans rfl; have y_r : World.cell? w6 ⟨go, 1, none⟩ = some (.int .i64 r) := (blk_cell HBO.out 1).trans rfl; have y_R : World.cell? w6 ⟨gR, r.toNat, none⟩ = some (.int .i64 (rd t3 r)) := row_cell_r HO.out r hq0 hq1) | ((with_reducible refine gate_ (.store 38 (.tmp 4) (.tmp 81)) rfl ?_); refine store_struct rfl rfl 38 (.tmp 4) (.tmp 81) rfl (cs := #[.int .i64 (-1), .int .i64 u]) (by rfl) (by rfl) HBP.out (by kernel_rfl) rfl d27_ ?_; intro w9 hbp hc; clear y_m y_r y_R; have n0_ := A_ (row_ch_ HO.out hc hpn); have n1_ := A_ (blk_ch hc HBX.out (by omega)); have n2_ := A_ (gb_ch HG.out hc hgp); have n3_ := A_ (blk_ch hc HBO.out (by omega)); have n4_ := A_ (hbp); clear HO HBX HG HBO HBP; have HO := n0_; have HBX := n1_; have HG := n2_; have HBO := n3_; have HBP := n4_; clear n0_ n1_ n2_ n3_ n4_; clear hbp hc; have y_m : World.cell? w9 ⟨go, 0, none⟩ = some (.int .i64 6) := (blk_cell HBO.out 0).trans rfl; have y_r : World.cell? w9 ⟨go, 1, none⟩ = some (.int .i64 r) := (blk_cell HBO.out 1).trans rfl; have y_R : World.cell? w9 ⟨gR, r.toNat, none⟩ = some (.int .i64 (rd t3 r)) := row_cell_r HO.out r hq0 hq1))
     refine bodyPost_ret (results_ct rfl _ _ gp 38 #[.int .i64 (-1), .int .i64 u] (0, 0) _ rfl HBP.out Try.underlying38 rfl (by kernel_rfl)) rfl ?_
     exact ⟨rfl, HO.out, HG.out⟩
   · rw [if_neg (fun h_ => absurd h_.2 (by decide))] at h
     simp only [Option.some.injEq, Prod.mk.injEq] at h
     obtain ⟨rfl, rfl, rfl, rfl⟩ := h
     go_wp2_with (first | ((with_reducible refine gate_callee (f := 93) rfl ?_); refine gL_ (some 50) Try.func93 #[.pointer (some ⟨gb, 0, none⟩)] ?_; refine (impl_fetch.calls gb gR A0 c0 l0 cR l1 a2 a3 a4 a5 A6 c6 l6 A7 c7 l7 a8 _ _ _ _ HBX.out base ok1 HO.out hne hl (hk0 _ HG.out) hc0 (hk6 _ HG.out) hc6 (hk7 _ HG.out) hc7 hF).mono ?_; rintro e w5 ⟨rfl, h1, h2⟩; refine ⟨_, rfl, ?_⟩; clear y_m y_r y_R; have n0_ := A_ (h1); have n1_ := A_ (gb_blk h2 HBX.out hne); have n2_ := A_ (gb_trans HG.out h2); have n3_ := A_ (gb_blk h2 HBO.out hgn); have n4_ := A_ (gb_blk h2 HBP.out hpn); clear HO HBX HG HBO HBP; have HO := n0_; have HBX := n1_; have HG := n2_; have HBO := n3_; have HBP := n4_; clear n0_ n1_ n2_ n3_ n4_; clear h1 h2; have y_m : World.cell? w5 ⟨go, 0, none⟩ = some (.int .i64 6) := (blk_cell HBO.out 0).trans rfl; have y_r : World.cell? w5 ⟨go, 1, none⟩ = some (.int .i64 r) := (blk_cell HBO.out 1).trans rfl; have y_R : World.cell? w5 ⟨gR, r.toNat, none⟩ = some (.int .i64 (rd t3 r)) := row_cell_r HO.out r hq0 hq1) | ((with_reducible refine gate_callee (f := 43) rfl ?_); refine gL_ (some 58) Try.func43 #[.int .i64 (wrap64 (t1 + rd t3 r))] ?_; refine (impl_Wrap.calls _ u _ hU).mono ?_; rintro e w6 ⟨rfl, hb⟩; refine ⟨_, rfl, ?_⟩; clear y_m y_r y_R; have n0_ := A_ (Kd.R_below HO.out hb.below); have n1_ := A_ (blk_below HBX.out hb.below); have n2_ := A_ (gb_then HG.out hb.below); have n3_ := A_ (blk_below HBO.out hb.below); have n4_ := A_ (blk_below HBP.out hb.below); clear HO HBX HG HBO HBP; have HO := n0_; have HBX := n1_; have HG := n2_; have HBO := n3_; have HBP := n4_; clear n0_ n1_ n2_ n3_ n4_; clear hb; have y_m : World.cell? w6 ⟨go, 0, none⟩ = some (.int .i64 6) := (blk_cell HBO.out 0).trans rfl; have y_r : World.cell? w6 ⟨go, 1, none⟩ = some (.int .i64 r) := (blk_cell HBO.out 1).trans rfl; have y_R : World.cell? w6 ⟨gR, r.toNat, none⟩ = some (.int .i64 (rd t3 r)) := row_cell_r HO.out r hq0 hq1) | ((with_reducible refine gate_ (.store 38 (.tmp 4) (.tmp 81)) rfl ?_); refine store_struct rfl rfl 38 (.tmp 4) (.tmp 81) rfl (cs := #[.int .i64 (-1), .int .i64 u]) (by rfl) (by rfl) HBP.out (by kernel_rfl) rfl d27_ ?_; intro w9 hbp hc; clear y_m y_r y_R; have n0_ := A_ (row_ch_ HO.out hc hpn); have n1_ := A_ (blk_ch hc HBX.out (by omega)); have n2_ := A_ (gb_ch HG.out hc hgp); have n3_ := A_ (blk_ch hc HBO.out (by omega)); have n4_ := A_ (hbp); clear HO HBX HG HBO HBP; have HO := n0_; have HBX := n1_; have HG := n2_; have HBO := n3_; have HBP := n4_; clear n0_ n1_ n2_ n3_ n4_; clear hbp hc; have y_m : World.cell? w9 ⟨go, 0, none⟩ = some (.int .i64 6) := (blk_cell HBO.out 0).trans rfl; have y_r : World.cell? w9 ⟨go, 1, none⟩ = some (.int .i64 r) := (blk_cell HBO.out 1).trans rfl; have y_R : World.cell? w9 ⟨gR, r.toNat, none⟩ = some (.int .i64 (rd t3 r)) := row_cell_r HO.out r hq0 hq1))
     refine bodyPost_ret (results_ct rfl _ _ gp 38 #[.int .i64 (-1), .int .i64 u] (0, 0) _ rfl HBP.out Try.underlying38 rfl (by kernel_rfl)) rfl ?_
     exact ⟨rfl, HO.out, HG.out⟩
 · rw [impl_place.f, if_neg (by decide)] at h
   obtain ⟨⟨at_, ok_, l_⟩, hs, h⟩ := Option.bind_eq_some_iff.mp h
   dsimp only at h
   rw [if_neg (by decide), if_neg (by decide), if_neg (by decide)] at hs
   obtain ⟨⟨t1, t2, t3⟩, hF, hs⟩ := Option.bind_eq_some_iff.mp hs
   dsimp only at hs
   obtain ⟨u, hU, hs⟩ := Option.bind_eq_some_iff.mp hs
   simp only [Option.some.injEq, Prod.mk.injEq] at hs
   obtain ⟨rfl, rfl, rfl⟩ := hs
   cases t2
   · rw [if_neg (fun h_ => absurd h_.1 (by decide))] at h
     simp only [Option.some.injEq, Prod.mk.injEq] at h
     obtain ⟨rfl, rfl, rfl, rfl⟩ := h
     go_wp2_with (first | ((with_reducible refine gate_callee (f := 93) rfl ?_); refine gL_ (some 50) Try.func93 #[.pointer (some ⟨gb, 0, none⟩)] ?_; refine (impl_fetch.calls gb gR A0 c0 l0 cR l1 a2 a3 a4 a5 A6 c6 l6 A7 c7 l7 a8 _ _ _ _ HBX.out base ok1 HO.out hne hl (hk0 _ HG.out) hc0 (hk6 _ HG.out) hc6 (hk7 _ HG.out) hc7 hF).mono ?_; rintro e w5 ⟨rfl, h1, h2⟩; refine ⟨_, rfl, ?_⟩; clear y_m y_r y_R; have n0_ := A_ (h1); have n1_ := A_ (gb_blk h2 HBX.out hne); have n2_ := A_ (gb_trans HG.out h2); have n3_ := A_ (gb_blk h2 HBO.out hgn); have n4_ := A_ (gb_blk h2 HBP.out hpn); clear HO HBX HG HBO HBP; have HO := n0_; have HBX := n1_; have HG := n2_; have HBO := n3_; have HBP := n4_; clear n0_ n1_ n2_ n3_ n4_; clear h1 h2; have y_m : World.cell? w5 ⟨go, 0, none⟩ = some (.int .i64 7) := (blk_cell HBO.out 0).trans rfl; have y_r : World.cell? w5 ⟨go, 1, none⟩ = some (.int .i64 r) := (blk_cell HBO.out 1).trans rfl; have y_R : World.cell? w5 ⟨gR, r.toNat, none⟩ = some (.int .i64 (rd t3 r)) := row_cell_r HO.out r hq0 hq1) | ((with_reducible refine gate_callee (f := 43) rfl ?_); refine gL_ (some 58) Try.func43 #[.int .i64 (wrap64 (t1 + rd t3 r))] ?_; refine (impl_Wrap.calls _ u _ hU).mono ?_; rintro e w6 ⟨rfl, hb⟩; refine ⟨_, rfl, ?_⟩; clear y_m y_r y_R; have n0_ := A_ (Kd.R_below HO.out hb.below); have n1_ := A_ (blk_below HBX.out hb.below); have n2_ := A_ (gb_then HG.out hb.below); have n3_ := A_ (blk_below HBO.out hb.below); have n4_ := A_ (blk_below HBP.out hb.below); clear HO HBX HG HBO HBP; have HO := n0_; have HBX := n1_; have HG := n2_; have HBO := n3_; have HBP := n4_; clear n0_ n1_ n2_ n3_ n4_; clear hb; have y_m : World.cell? w6 ⟨go, 0, none⟩ = some (.int .i64 7) := (blk_cell HBO.out 0).trans rfl; have y_r : World.cell? w6 ⟨go, 1, none⟩ = some (.int .i64 r) := (blk_cell HBO.out 1).trans rfl; have y_R : World.cell? w6 ⟨gR, r.toNat, none⟩ = some (.int .i64 (rd t3 r)) := row_cell_r HO.out r hq0 hq1) | ((with_reducible refine gate_ (.store 38 (.tmp 4) (.tmp 81)) rfl ?_); refine store_struct rfl rfl 38 (.tmp 4) (.tmp 81) rfl (cs := #[.int .i64 (-1), .int .i64 u]) (by rfl) (by rfl) HBP.out (by kernel_rfl) rfl d27_ ?_; intro w9 hbp hc; clear y_m y_r y_R; have n0_ := A_ (row_ch_ HO.out hc hpn); have n1_ := A_ (blk_ch hc HBX.out (by omega)); have n2_ := A_ (gb_ch HG.out hc hgp); have n3_ := A_ (blk_ch hc HBO.out (by omega)); have n4_ := A_ (hbp); clear HO HBX HG HBO HBP; have HO := n0_; have HBX := n1_; have HG := n2_; have HBO := n3_; have HBP := n4_; clear n0_ n1_ n2_ n3_ n4_; clear hbp hc; have y_m : World.cell? w9 ⟨go, 0, none⟩ = some (.int .i64 7) := (blk_cell HBO.out 0).trans rfl; have y_r : World.cell? w9 ⟨go, 1, none⟩ = some (.int .i64 r) := (blk_cell HBO.out 1).trans rfl; have y_R : World.cell? w9 ⟨gR, r.toNat, none⟩ = some (.int .i64 (rd t3 r)) := row_cell_r HO.out r hq0 hq1))
     refine bodyPost_ret (results_ct rfl _ _ gp 38 #[.int .i64 (-1), .int .i64 u] (0, 0) _ rfl HBP.out Try.underlying38 rfl (by kernel_rfl)) rfl ?_
     exact ⟨rfl, HO.out, HG.out⟩
   · rw [if_pos ⟨rfl, by decide⟩] at h
     obtain ⟨⟨q1, q2⟩, hQ, h⟩ := Option.bind_eq_some_iff.mp h
     simp only [Option.some.injEq, Prod.mk.injEq] at h
     obtain ⟨rfl, rfl, rfl, rfl⟩ := h
     go_wp2_with (first | ((with_reducible refine gate_callee (f := 93) rfl ?_); refine gL_ (some 50) Try.func93 #[.pointer (some ⟨gb, 0, none⟩)] ?_; refine (impl_fetch.calls gb gR A0 c0 l0 cR l1 a2 a3 a4 a5 A6 c6 l6 A7 c7 l7 a8 _ _ _ _ HBX.out base ok1 HO.out hne hl (hk0 _ HG.out) hc0 (hk6 _ HG.out) hc6 (hk7 _ HG.out) hc7 hF).mono ?_; rintro e w5 ⟨rfl, h1, h2⟩; refine ⟨_, rfl, ?_⟩; clear y_m y_r y_R; have n0_ := A_ (h1); have n1_ := A_ (gb_blk h2 HBX.out hne); have n2_ := A_ (gb_trans HG.out h2); have n3_ := A_ (gb_blk h2 HBO.out hgn); have n4_ := A_ (gb_blk h2 HBP.out hpn); clear HO HBX HG HBO HBP; have HO := n0_; have HBX := n1_; have HG := n2_; have HBO := n3_; have HBP := n4_; clear n0_ n1_ n2_ n3_ n4_; clear h1 h2; have y_m : World.cell? w5 ⟨go, 0, none⟩ = some (.int .i64 7) := (blk_cell HBO.out 0).trans rfl; have y_r : World.cell? w5 ⟨go, 1, none⟩ = some (.int .i64 r) := (blk_cell HBO.out 1).trans rfl; have y_R : World.cell? w5 ⟨gR, r.toNat, none⟩ = some (.int .i64 (rd t3 r)) := row_cell_r HO.out r hq0 hq1) | ((with_reducible refine gate_callee (f := 43) rfl ?_); refine gL_ (some 58) Try.func43 #[.int .i64 (wrap64 (t1 + rd t3 r))] ?_; refine (impl_Wrap.calls _ u _ hU).mono ?_; rintro e w6 ⟨rfl, hb⟩; refine ⟨_, rfl, ?_⟩; clear y_m y_r y_R; have n0_ := A_ (Kd.R_below HO.out hb.below); have n1_ := A_ (blk_below HBX.out hb.below); have n2_ := A_ (gb_then HG.out hb.below); have n3_ := A_ (blk_below HBO.out hb.below); have n4_ := A_ (blk_below HBP.out hb.below); clear HO HBX HG HBO HBP; have HO := n0_; have HBX := n1_; have HG := n2_; have HBO := n3_; have HBP := n4_; clear n0_ n1_ n2_ n3_ n4_; clear hb; have y_m : World.cell? w6 ⟨go, 0, none⟩ = some (.int .i64 7) := (blk_cell HBO.out 0).trans rfl; have y_r : World.cell? w6 ⟨go, 1, none⟩ = some (.int .i64 r) := (blk_cell HBO.out 1).trans rfl; have y_R : World.cell? w6 ⟨gR, r.toNat, none⟩ = some (.int .i64 (rd t3 r)) := row_cell_r HO.out r hq0 hq1) | ((with_reducible refine gate_ (.load 28 (.tmp 74)) rfl ?_); refine wpList_load_row rfl 28 (.tmp 74) rfl gb rfl 28 _ _ _ HBX.out Try.underlying28 rfl (by kernel_rfl) ?_) | ((with_reducible refine gate_callee (f := 18) rfl ?_); refine gL_ (some 77) Try.func18 #[.agg #[.slice A0 l0.length c0, .slice (some ⟨gR, 0, none⟩) 8 cR, .bool a2, .bool a3, .bool a4, .bool a5, .slice A6 l6.length c6, .slice A7 l7.length c7, .int .i64 a8], .int .i64 u] ?_; have hrd := impl_ReadW.calls A0 c0 l0 (some ⟨gR, 0, none⟩) cR t3 a2 a3 a4 a5 A6 c6 l6 A7 c7 l7 a8 u _ _ _ (hk0 _ HG.out) hc0 ((Kd.R_reads' HO.out).2.2) d43_ (hk6 _ HG.out) hc6 (hk7 _ HG.out) hc7 hQ; rw [← (Kd.R_reads' HO.out).1] at hrd; refine hrd.mono ?_; clear hrd; rintro e w8 ⟨rfl, hb⟩; refine ⟨_, rfl, ?_⟩; clear y_m y_r y_R; have n0_ := A_ (Kd.R_below HO.out hb); have n1_ := A_ (blk_below HBX.out hb); have n2_ := A_ (gb_then HG.out hb); have n3_ := A_ (blk_below HBO.out hb); have n4_ := A_ (blk_below HBP.out hb); clear HO HBX HG HBO HBP; have HO := n0_; have HBX := n1_; have HG := n2_; have HBO := n3_; have HBP := n4_; clear n0_ n1_ n2_ n3_ n4_; clear hb; have y_m : World.cell? w8 ⟨go, 0, none⟩ = some (.int .i64 7) := (blk_cell HBO.out 0).trans rfl; have y_r : World.cell? w8 ⟨go, 1, none⟩ = some (.int .i64 r) := (blk_cell HBO.out 1).trans rfl; have y_R : World.cell? w8 ⟨gR, r.toNat, none⟩ = some (.int .i64 (rd t3 r)) := row_cell_r HO.out r hq0 hq1) | ((with_reducible refine gate_ (.store 38 (.tmp 4) (.tmp 81)) rfl ?_); refine store_struct rfl rfl 38 (.tmp 4) (.tmp 81) rfl (cs := #[.int .i64 (-1), .int .i64 q1]) (by rfl) (by rfl) HBP.out (by kernel_rfl) rfl d27_ ?_; intro w9 hbp hc; clear y_m y_r y_R; have n0_ := A_ (row_ch_ HO.out hc hpn); have n1_ := A_ (blk_ch hc HBX.out (by omega)); have n2_ := A_ (gb_ch HG.out hc hgp); have n3_ := A_ (blk_ch hc HBO.out (by omega)); have n4_ := A_ (hbp); clear HO HBX HG HBO HBP; have HO := n0_; have HBX := n1_; have HG := n2_; have HBO := n3_; have HBP := n4_; clear n0_ n1_ n2_ n3_ n4_; clear hbp hc; have y_m : World.cell? w9 ⟨go, 0, none⟩ = some (.int .i64 7) := (blk_cell HBO.out 0).trans rfl; have y_r : World.cell? w9 ⟨go, 1, none⟩ = some (.int .i64 r) := (blk_cell HBO.out 1).trans rfl; have y_R : World.cell? w9 ⟨gR, r.toNat, none⟩ = some (.int .i64 (rd t3 r)) := row_cell_r HO.out r hq0 hq1))
     refine bodyPost_ret (results_ct rfl _ _ gp 38 #[.int .i64 (-1), .int .i64 q1] (0, 0) _ rfl HBP.out Try.underlying38 rfl (by kernel_rfl)) rfl ?_
     exact ⟨rfl, HO.out, HG.out⟩
theorem impl_place4 (gb lo hi : Nat) (Aa_0 : Option Addr) (ca_0 : Nat) (na_0 : Nat) (la_0 : List Int) (Aa_1 : Option Addr) (ca_1 : Nat) (na_1 : Nat) (la_1 : List Int) (ba_2 : Bool) (ba_3 : Bool) (ba_4 : Bool) (ba_5 : Bool) (Aa_6 : Option Addr) (ca_6 : Nat) (na_6 : Nat) (la_6 : List Int) (Aa_7 : Option Addr) (ca_7 : Nat) (na_7 : Nat) (la_7 : List Int) (ba_8 : Int) (m r x : Int) (q0 q1 : Int) (q2 : Bool) (q3 : List Int) (w : World) (hbox : w.heap[gb]? = some (.cells #[.slice Aa_0 na_0 ca_0, .slice Aa_1 na_1 ca_1, .bool ba_2, .bool ba_3, .bool ba_4, .bool ba_5, .slice Aa_6 na_6 ca_6, .slice Aa_7 na_7 ca_7, .int .i64 ba_8] 28 (0, 0))) (hR : R4 w lo hi (.slice Aa_0 na_0 ca_0) (.slice Aa_1 na_1 ca_1) (.slice Aa_6 na_6 ca_6) (.slice Aa_7 na_7 ca_7) la_0 la_1 la_6 la_7) (hg : gb < lo ∨ hi ≤ gb) (hl : la_1.length = 8) (hm0 : 0 ≤ m) (hm7 : m < 8) (hq0 : 0 ≤ r) (hq1 : r < 8) (h : impl_place.f la_0 la_1 ba_2 ba_3 ba_4 ba_5 la_6 la_7 ba_8 m r = some (q0, q1, q2, q3)) :
  Calls Try.prog 77 #[.pointer (some ⟨gb, 0, none⟩), .agg #[.int .i64 m, .int .i64 r, .int .i64 x]] w fun e w' => e = .returned (.tuple #[.agg #[.int .i64 q0, .int .i64 q1], .bool q2]) ∧ R4 w' lo hi (.slice Aa_0 na_0 ca_0) (.slice Aa_1 na_1 ca_1) (.slice Aa_6 na_6 ca_6) (.slice Aa_7 na_7 ca_7) la_0 q3 la_6 la_7 ∧ Ch w w' lo hi := by
 obtain ⟨H0, H1, H6, H7⟩ := hR
 obtain ⟨rfl, hc0, hr0⟩ := Kd.R_reads' H0
 obtain ⟨rfl, hc6, hr6⟩ := Kd.R_reads' H6
 obtain ⟨rfl, hc7, hr7⟩ := Kd.R_reads' H7
 obtain ⟨gR, cap, hv, hb, hnc⟩ := row_ptr H1 hl (by decide)
 simp only [Value.slice.injEq] at hv
 obtain ⟨rfl, rfl, rfl⟩ := hv
 have hok := H1.1 gR rfl
 refine (impl_place.calls gb gR Aa_0 ca_0 la_0 _ la_1 ba_2 ba_3 ba_4 ba_5 Aa_6 ca_6 la_6 Aa_7 ca_7 la_7 ba_8 r x hq0 hq1 w hbox lo _ H1 (by omega) hl
   (fun w' hgr => (Kd.R_reads' (Kd.R_grown H0 hgr (fun k hk => hk.2.1))).2.2) hc0 (fun w' hgr => (Kd.R_reads' (Kd.R_grown H6 hgr (fun k hk => hk.2.2.1))).2.2) hc6 (fun w' hgr => (Kd.R_reads' (Kd.R_grown H7 hgr (fun k hk => hk.2.2.1))).2.2) hc7 m hm0 hm7 q0 q1 q2 q3 h).mono ?_
 rintro e w' ⟨rfl, h1, h2⟩
 refine ⟨rfl, ⟨Kd.R_grown H0 h2 (fun k hk => hk.2.1), h1, Kd.R_grown H6 h2 (fun k hk => hk.2.2.1), Kd.R_grown H7 h2 (fun k hk => hk.2.2.1)⟩, ⟨h2.os, h2.tape, h2.output, h2.size, fun k hk ho => h2.block k hk (fun e => ?_)⟩⟩
 have : k = gR := by injection e
 omega
theorem impl_copy4 (Aa_0 : Option Addr) (ca_0 : Nat) (la_0 : List Int) (Aa_1 : Option Addr) (ca_1 : Nat) (la_1 : List Int) (ba_2 : Bool) (ba_3 : Bool) (ba_4 : Bool) (ba_5 : Bool) (Aa_6 : Option Addr) (ca_6 : Nat) (la_6 : List Int) (Aa_7 : Option Addr) (ca_7 : Nat) (la_7 : List Int) (ba_8 : Int) (lr_0 : List Int) (lr_1 : List Int) (br_2 : Bool) (br_3 : Bool) (br_4 : Bool) (br_5 : Bool) (lr_6 : List Int) (lr_7 : List Int) (br_8 : Int) (w0 w : World) (hB : Below w0.heap.size w0 w) (hra_0 : Kd.C (Kd.int .i64) w0 Aa_0 la_0.length la_0) (hca_0 : la_0.length ≤ ca_0) (hra_1 : Kd.C (Kd.int .i64) w0 Aa_1 la_1.length la_1) (hca_1 : la_1.length ≤ ca_1) (hra_6 : Kd.C (Kd.int .i64) w0 Aa_6 la_6.length la_6) (hca_6 : la_6.length ≤ ca_6) (hra_7 : Kd.C (Kd.int .i64) w0 Aa_7 la_7.length la_7) (hca_7 : la_7.length ≤ ca_7) (h : impl_copyMach.f la_0 la_1 ba_2 ba_3 ba_4 ba_5 la_6 la_7 ba_8 = some (lr_0, lr_1, br_2, br_3, br_4, br_5, lr_6, lr_7, br_8)) :
    Calls Try.prog 68 #[.agg #[.slice Aa_0 la_0.length ca_0, .slice Aa_1 la_1.length ca_1, .bool ba_2, .bool ba_3, .bool ba_4, .bool ba_5, .slice Aa_6 la_6.length ca_6, .slice Aa_7 la_7.length ca_7, .int .i64 ba_8]] w fun e w' => ∃ Ar_0 cr_0 Ar_1 cr_1 Ar_6 cr_6 Ar_7 cr_7 lo hi, e = .returned (.agg #[.slice Ar_0 lr_0.length cr_0, .slice Ar_1 lr_1.length cr_1, .bool br_2, .bool br_3, .bool br_4, .bool br_5, .slice Ar_6 lr_6.length cr_6, .slice Ar_7 lr_7.length cr_7, .int .i64 br_8]) ∧ w.heap.size ≤ lo ∧ lo ≤ hi ∧ hi ≤ w'.heap.size ∧ R4 w' lo hi (.slice Ar_0 lr_0.length cr_0) (.slice Ar_1 lr_1.length cr_1) (.slice Ar_6 lr_6.length cr_6) (.slice Ar_7 lr_7.length cr_7) lr_0 lr_1 lr_6 lr_7 ∧ Ch w w' 0 0 := by
  refine (impl_copyMach.calls Aa_0 ca_0 la_0 Aa_1 ca_1 la_1 ba_2 ba_3 ba_4 ba_5 Aa_6 ca_6 la_6 Aa_7 ca_7 la_7 ba_8 lr_0 lr_1 br_2 br_3 br_4 br_5 lr_6 lr_7 br_8 w (Kd.C_below hra_0 hB) hca_0 (Kd.C_below hra_1 hB) hca_1 (Kd.C_below hra_6 hB) hca_6 (Kd.C_below hra_7 hB) hca_7 h).mono ?_
  rintro e w' ⟨v0, v1, v6, v7, rfl, h0, h1, h6, h7, hb⟩
  obtain ⟨Ar_0, cr_0, rfl⟩ := Kd.R_slice h0
  obtain ⟨Ar_1, cr_1, rfl⟩ := Kd.R_slice h1
  obtain ⟨Ar_6, cr_6, rfl⟩ := Kd.R_slice h6
  obtain ⟨Ar_7, cr_7, rfl⟩ := Kd.R_slice h7
  exact ⟨Ar_0, cr_0, Ar_1, cr_1, Ar_6, cr_6, Ar_7, cr_7, w.heap.size, w'.heap.size, rfl, Nat.le_refl _, hb.size, Nat.le_refl _, R4_of h0 h1 h6 h7, Ch.of_below hb⟩
def impl_PlaceOf.f (k : Nat) (la_0 : List Int) (la_1 : List Int) (ba_2 : Bool) (ba_3 : Bool) (ba_4 : Bool) (ba_5 : Bool) (la_6 : List Int) (la_7 : List Int) (ba_8 : Int) (a1_0 a1_1 a1_2 : Int) : Option (List Int × List Int × Bool × Bool × Bool × Bool × List Int × List Int × Int × Int × Int × Bool) := (impl_MachOk.f k la_0 la_1 ba_2 ba_3 ba_4 ba_5 la_6 la_7 ba_8).bind fun a => if a = true then (impl_OpdOk.f a1_0 a1_1 a1_2).bind fun b => if b = true then (impl_copyMach.f la_0 la_1 ba_2 ba_3 ba_4 ba_5 la_6 la_7 ba_8).bind fun c => if c.2.1.length = 8 ∧ 0 ≤ a1_0 ∧ a1_0 < 8 ∧ 0 ≤ a1_1 ∧ a1_1 < 8 then (impl_place.f c.1 c.2.1 c.2.2.1 c.2.2.2.1 c.2.2.2.2.1 c.2.2.2.2.2.1 c.2.2.2.2.2.2.1 c.2.2.2.2.2.2.2.1 c.2.2.2.2.2.2.2.2 a1_0 a1_1).bind fun p => if p.2.2.1 = true then some (c.1, p.2.2.2, c.2.2.1, c.2.2.2.1, c.2.2.2.2.1, c.2.2.2.2.2.1, c.2.2.2.2.2.2.1, c.2.2.2.2.2.2.2.1, c.2.2.2.2.2.2.2.2, p.1, p.2.1, true) else (impl_copyMach.f la_0 la_1 ba_2 ba_3 ba_4 ba_5 la_6 la_7 ba_8).bind fun c => some (c.1, c.2.1, c.2.2.1, c.2.2.2.1, c.2.2.2.2.1, c.2.2.2.2.2.1, c.2.2.2.2.2.2.1, c.2.2.2.2.2.2.2.1, c.2.2.2.2.2.2.2.2, 0, 0, false) else none else (impl_copyMach.f la_0 la_1 ba_2 ba_3 ba_4 ba_5 la_6 la_7 ba_8).bind fun c => some (c.1, c.2.1, c.2.2.1, c.2.2.2.1, c.2.2.2.2.1, c.2.2.2.2.2.1, c.2.2.2.2.2.2.1, c.2.2.2.2.2.2.2.1, c.2.2.2.2.2.2.2.2, 0, 0, false) else (impl_copyMach.f la_0 la_1 ba_2 ba_3 ba_4 ba_5 la_6 la_7 ba_8).bind fun c => some (c.1, c.2.1, c.2.2.1, c.2.2.2.1, c.2.2.2.2.1, c.2.2.2.2.2.1, c.2.2.2.2.2.2.1, c.2.2.2.2.2.2.2.1, c.2.2.2.2.2.2.2.2, 0, 0, false)
set_option maxHeartbeats 16000000 in
set_option maxRecDepth 100000 in
theorem impl_PlaceOf.pbad1 (k : Nat) (Aa_0 : Option Addr) (ca_0 : Nat) (la_0 : List Int) (Aa_1 : Option Addr) (ca_1 : Nat) (la_1 : List Int) (ba_2 : Bool) (ba_3 : Bool) (ba_4 : Bool) (ba_5 : Bool) (Aa_6 : Option Addr) (ca_6 : Nat) (la_6 : List Int) (Aa_7 : Option Addr) (ca_7 : Nat) (la_7 : List Int) (ba_8 : Int) (a1_0 a1_1 a1_2 : Int) (lc_0 : List Int) (lc_1 : List Int) (bc_2 : Bool) (bc_3 : Bool) (bc_4 : Bool) (bc_5 : Bool) (lc_6 : List Int) (lc_7 : List Int) (bc_8 : Int) (w : World) (hra_0 : Kd.C (Kd.int .i64) w Aa_0 la_0.length la_0) (hca_0 : la_0.length ≤ ca_0) (hra_1 : Kd.C (Kd.int .i64) w Aa_1 la_1.length la_1) (hca_1 : la_1.length ≤ ca_1) (hra_6 : Kd.C (Kd.int .i64) w Aa_6 la_6.length la_6) (hca_6 : la_6.length ≤ ca_6) (hra_7 : Kd.C (Kd.int .i64) w Aa_7 la_7.length la_7) (hca_7 : la_7.length ≤ ca_7) (hmo : impl_MachOk.f k la_0 la_1 ba_2 ba_3 ba_4 ba_5 la_6 la_7 ba_8 = some false) (hcp : impl_copyMach.f la_0 la_1 ba_2 ba_3 ba_4 ba_5 la_6 la_7 ba_8 = some (lc_0, lc_1, bc_2, bc_3, bc_4, bc_5, lc_6, lc_7, bc_8)) :
    Calls Try.prog 46 #[.agg #[.slice Aa_0 la_0.length ca_0, .slice Aa_1 la_1.length ca_1, .bool ba_2, .bool ba_3, .bool ba_4, .bool ba_5, .slice Aa_6 la_6.length ca_6, .slice Aa_7 la_7.length ca_7, .int .i64 ba_8], .agg #[.int .i64 a1_0, .int .i64 a1_1, .int .i64 a1_2]] w fun e w' => ∃ v0_ v1_ v6_ v7_ : Value, e = .returned (.tuple #[.agg #[v0_, v1_, .bool bc_2, .bool bc_3, .bool bc_4, .bool bc_5, v6_, v7_, .int .i64 bc_8], .agg #[.int .i64 0, .int .i64 0], .bool false]) ∧ Kd.R (Kd.int .i64) 3 w' w.heap.size (fun k_ => some k_ ≠ (v1_ : Value).ownBlock ∧ some k_ ≠ (v6_ : Value).ownBlock ∧ some k_ ≠ (v7_ : Value).ownBlock) v0_ lc_0 ∧ Kd.R (Kd.int .i64) 3 w' w.heap.size (fun k_ => some k_ ≠ (v0_ : Value).ownBlock ∧ some k_ ≠ (v6_ : Value).ownBlock ∧ some k_ ≠ (v7_ : Value).ownBlock) v1_ lc_1 ∧ Kd.R (Kd.int .i64) 3 w' w.heap.size (fun k_ => some k_ ≠ (v0_ : Value).ownBlock ∧ some k_ ≠ (v1_ : Value).ownBlock ∧ some k_ ≠ (v7_ : Value).ownBlock) v6_ lc_6 ∧ Kd.R (Kd.int .i64) 3 w' w.heap.size (fun k_ => some k_ ≠ (v0_ : Value).ownBlock ∧ some k_ ≠ (v1_ : Value).ownBlock ∧ some k_ ≠ (v6_ : Value).ownBlock) v7_ lc_7 ∧ Below w.heap.size w w' := by
  have HR0 := Aside0.mk hra_0
  have HC0 := Aside0.mk hca_0
  clear hra_0 hca_0
  have HR1 := Aside0.mk hra_1
  have HC1 := Aside0.mk hca_1
  clear hra_1 hca_1
  have HR6 := Aside0.mk hra_6
  have HC6 := Aside0.mk hca_6
  clear hra_6 hca_6
  have HR7 := Aside0.mk hra_7
  have HC7 := Aside0.mk hca_7
  clear hra_7 hca_7
  have HB := Aside0.mk (Below.refl w.heap.size w)
  have S : Aside0 (w.heap.size ≤ w.heap.size) := Aside0.mk (Nat.le_refl _)
  have Hmo := Aside0.mk hmo
  have Hcp := Aside0.mk hcp
  clear hmo hcp
  go_enter Try.func46, Try.ntmps46
  go_wp2_with (first | ((with_reducible refine gate_dst (N := 2) rfl ?_); refine bx_ 2 #[.slice Aa_0 la_0.length ca_0, .slice Aa_1 la_1.length ca_1, .bool ba_2, .bool ba_3, .bool ba_4, .bool ba_5, .slice Aa_6 la_6.length ca_6, .slice Aa_7 la_7.length ca_7, .int .i64 ba_8] 28 ?_; intro g2 hg w' hbox hb; have hc := co_ hb; have F1 : w.heap.size ≤ g2 := d15_; clear hg; replace HB := hz_ hc HB; replace S := t_ hc S; clear S; have S : Aside0 (g2 + 1 ≤ w'.heap.size) := A_ (blk_lt hbox); have BK2 := A_ hbox; clear hbox hb hc) | ((with_reducible refine gate_dst (N := 3) rfl ?_); refine bx_ 3 #[.int .i64 a1_0, .int .i64 a1_1, .int .i64 a1_2] 63 ?_; intro g3 hg w' hbox hb; have hc := co_ hb; have F2 : g2 + 1 ≤ g3 := d15_; clear hg; replace BK2 := bz_ hc BK2; replace HB := hz_ hc HB; replace S := t_ hc S; clear S; have S : Aside0 (g3 + 1 ≤ w'.heap.size) := A_ (blk_lt hbox); have BK3 := A_ hbox; clear hbox hb hc) | ((with_reducible refine gate_dst (N := 4) rfl ?_); refine bx_ 4 #[.slice none 0 0, .slice none 0 0, .bool false, .bool false, .bool false, .bool false, .slice none 0 0, .slice none 0 0, .int .i64 0] 28 ?_; intro g4 hg w' hbox hb; have hc := co_ hb; have F3 : g3 + 1 ≤ g4 := d15_; clear hg; replace BK2 := bz_ hc BK2; replace BK3 := bz_ hc BK3; replace HB := hz_ hc HB; replace S := t_ hc S; clear S; have S : Aside0 (g4 + 1 ≤ w'.heap.size) := A_ (blk_lt hbox); have BK4 := A_ hbox; clear hbox hb hc) | ((with_reducible refine gate_dst (N := 5) rfl ?_); refine bx_ 5 #[.int .i64 0, .int .i64 0] 38 ?_; intro g5 hg w' hbox hb; have hc := co_ hb; have F4 : g4 + 1 ≤ g5 := d15_; clear hg; replace BK2 := bz_ hc BK2; replace BK3 := bz_ hc BK3; replace BK4 := bz_ hc BK4; replace HB := hz_ hc HB; replace S := t_ hc S; clear S; have S : Aside0 (g5 + 1 ≤ w'.heap.size) := A_ (blk_lt hbox); have BK5 := A_ hbox; clear hbox hb hc) | ((with_reducible refine gate_ (.load 28 (.tmp 2)) rfl ?_); (try (refine gate_guard (by rfl) ?_; dsimp only)); refine ld_ 28 2 BK2.out Try.underlying28 ?_) | ((with_reducible refine gate_callee (f := 23) rfl ?_); (try (refine gate_guard (by rfl) ?_; dsimp only)); refine gL_ (some 11) Try.func23 #[.agg #[.slice Aa_0 la_0.length ca_0, .slice Aa_1 la_1.length ca_1, .bool ba_2, .bool ba_3, .bool ba_4, .bool ba_5, .slice Aa_6 la_6.length ca_6, .slice Aa_7 la_7.length ca_7, .int .i64 ba_8]] ?_; refine (impl_MachOk.calls k Aa_0 ca_0 la_0 Aa_1 ca_1 la_1 ba_2 ba_3 ba_4 ba_5 Aa_6 ca_6 la_6 Aa_7 ca_7 la_7 ba_8 false _ (Kd.C_below HR0.out HB.out) HC0.out (Kd.C_below HR1.out HB.out) HC1.out (Kd.C_below HR6.out HB.out) HC6.out (Kd.C_below HR7.out HB.out) HC7.out Hmo.out).mono ?_; rintro e w' ⟨rfl, hb⟩; have hc := co_ hb; refine ⟨_, rfl, ?_⟩; replace BK2 := bz_ hc BK2; replace BK3 := bz_ hc BK3; replace BK4 := bz_ hc BK4; replace BK5 := bz_ hc BK5; replace HB := hz_ hc HB; replace S := t_ hc S; clear hc hb) | ((with_reducible refine gate_ (.load 28 (.tmp 2)) rfl ?_); (try (refine gate_guard (by rfl) ?_; dsimp only)); refine ld_ 28 2 BK2.out Try.underlying28 ?_) | ((with_reducible refine gate_callee (f := 68) rfl ?_); (try (refine gate_guard (by rfl) ?_; dsimp only)); refine gL_ (some 19) Try.func68 #[.agg #[.slice Aa_0 la_0.length ca_0, .slice Aa_1 la_1.length ca_1, .bool ba_2, .bool ba_3, .bool ba_4, .bool ba_5, .slice Aa_6 la_6.length ca_6, .slice Aa_7 la_7.length ca_7, .int .i64 ba_8]] ?_; refine (impl_copy4 Aa_0 ca_0 la_0 Aa_1 ca_1 la_1 ba_2 ba_3 ba_4 ba_5 Aa_6 ca_6 la_6 Aa_7 ca_7 la_7 ba_8 lc_0 lc_1 bc_2 bc_3 bc_4 bc_5 lc_6 lc_7 bc_8 w _ HB.out HR0.out HC0.out HR1.out HC1.out HR6.out HC6.out HR7.out HC7.out Hcp.out).mono ?_; rintro e w' ⟨Ac_0, cc_0, Ac_1, cc_1, Ac_6, cc_6, Ac_7, cc_7, loc, hic, rfl, h1, h2, h3, hR, hc⟩; refine ⟨_, rfl, ?_⟩; have F5 : g5 + 1 ≤ loc := (Nat.le_trans S.out h1); have F6 : loc ≤ hic := h2; replace BK2 := bz_ hc BK2; replace BK3 := bz_ hc BK3; replace BK4 := bz_ hc BK4; replace BK5 := bz_ hc BK5; replace HB := hz_ hc HB; replace S := t_ hc S; clear S; have S := A_ h3; have Mc := A_ hR; clear h1 h2 h3 hR hc) | ((with_reducible refine gate_ (.store 28 (.tmp 4) (.tmp 19)) rfl ?_); refine ss_ 28 4 19 #[.slice Ac_0 lc_0.length cc_0, .slice Ac_1 lc_1.length cc_1, .bool bc_2, .bool bc_3, .bool bc_4, .bool bc_5, .slice Ac_6 lc_6.length cc_6, .slice Ac_7 lc_7.length cc_7, .int .i64 bc_8] BK4.out ?_; intro w' hbox hc; replace BK2 := bs_ hc BK2 d15_; replace BK3 := bs_ hc BK3 d15_; replace BK5 := bs_ hc BK5 d15_; replace Mc := rs_ hc Mc d15_; replace HB := hs_ hc HB d15_; replace S := t_ hc S; clear BK4; have BK4 := A_ hbox; clear hbox hc) | ((with_reducible refine gate_ (.store 38 (.tmp 5) (.tmp 20)) rfl ?_); refine ss_ 38 5 20 #[.int .i64 0, .int .i64 0] BK5.out ?_; intro w' hbox hc; replace BK2 := bs_ hc BK2 d15_; replace BK3 := bs_ hc BK3 d15_; replace BK4 := bs_ hc BK4 d15_; replace Mc := rs_ hc Mc d15_; replace HB := hs_ hc HB d15_; replace S := t_ hc S; clear BK5; have BK5 := A_ hbox; clear hbox hc))
  refine bodyPost_ret (results_list (rs := [.cell 4 28, .cell 5 38, .tmp 6]) rfl (by simp) (.cell g4 28 #[.slice Ac_0 lc_0.length cc_0, .slice Ac_1 lc_1.length cc_1, .bool bc_2, .bool bc_3, .bool bc_4, .bool bc_5, .slice Ac_6 lc_6.length cc_6, .slice Ac_7 lc_7.length cc_7, .int .i64 bc_8] (0, 0) _ rfl BK4.out Try.underlying28 rfl (by kernel_rfl) (.cell g5 38 #[.int .i64 0, .int .i64 0] (0, 0) _ rfl BK5.out Try.underlying38 rfl (by kernel_rfl) (.tmp .nil)))) rfl ?_
  obtain ⟨k0_, k1_, k6_, k7_⟩ := R4_back (w := w) Mc.out d15_
  exact ⟨_, _, _, _, rfl, k0_, k1_, k6_, k7_, HB.out⟩
set_option maxHeartbeats 16000000 in
set_option maxRecDepth 100000 in
theorem impl_PlaceOf.pbad2 (k : Nat) (Aa_0 : Option Addr) (ca_0 : Nat) (la_0 : List Int) (Aa_1 : Option Addr) (ca_1 : Nat) (la_1 : List Int) (ba_2 : Bool) (ba_3 : Bool) (ba_4 : Bool) (ba_5 : Bool) (Aa_6 : Option Addr) (ca_6 : Nat) (la_6 : List Int) (Aa_7 : Option Addr) (ca_7 : Nat) (la_7 : List Int) (ba_8 : Int) (a1_0 a1_1 a1_2 : Int) (lc_0 : List Int) (lc_1 : List Int) (bc_2 : Bool) (bc_3 : Bool) (bc_4 : Bool) (bc_5 : Bool) (lc_6 : List Int) (lc_7 : List Int) (bc_8 : Int) (w : World) (hra_0 : Kd.C (Kd.int .i64) w Aa_0 la_0.length la_0) (hca_0 : la_0.length ≤ ca_0) (hra_1 : Kd.C (Kd.int .i64) w Aa_1 la_1.length la_1) (hca_1 : la_1.length ≤ ca_1) (hra_6 : Kd.C (Kd.int .i64) w Aa_6 la_6.length la_6) (hca_6 : la_6.length ≤ ca_6) (hra_7 : Kd.C (Kd.int .i64) w Aa_7 la_7.length la_7) (hca_7 : la_7.length ≤ ca_7) (hmo : impl_MachOk.f k la_0 la_1 ba_2 ba_3 ba_4 ba_5 la_6 la_7 ba_8 = some true) (hoo : impl_OpdOk.f a1_0 a1_1 a1_2 = some false) (hcp : impl_copyMach.f la_0 la_1 ba_2 ba_3 ba_4 ba_5 la_6 la_7 ba_8 = some (lc_0, lc_1, bc_2, bc_3, bc_4, bc_5, lc_6, lc_7, bc_8)) :
    Calls Try.prog 46 #[.agg #[.slice Aa_0 la_0.length ca_0, .slice Aa_1 la_1.length ca_1, .bool ba_2, .bool ba_3, .bool ba_4, .bool ba_5, .slice Aa_6 la_6.length ca_6, .slice Aa_7 la_7.length ca_7, .int .i64 ba_8], .agg #[.int .i64 a1_0, .int .i64 a1_1, .int .i64 a1_2]] w fun e w' => ∃ v0_ v1_ v6_ v7_ : Value, e = .returned (.tuple #[.agg #[v0_, v1_, .bool bc_2, .bool bc_3, .bool bc_4, .bool bc_5, v6_, v7_, .int .i64 bc_8], .agg #[.int .i64 0, .int .i64 0], .bool false]) ∧ Kd.R (Kd.int .i64) 3 w' w.heap.size (fun k_ => some k_ ≠ (v1_ : Value).ownBlock ∧ some k_ ≠ (v6_ : Value).ownBlock ∧ some k_ ≠ (v7_ : Value).ownBlock) v0_ lc_0 ∧ Kd.R (Kd.int .i64) 3 w' w.heap.size (fun k_ => some k_ ≠ (v0_ : Value).ownBlock ∧ some k_ ≠ (v6_ : Value).ownBlock ∧ some k_ ≠ (v7_ : Value).ownBlock) v1_ lc_1 ∧ Kd.R (Kd.int .i64) 3 w' w.heap.size (fun k_ => some k_ ≠ (v0_ : Value).ownBlock ∧ some k_ ≠ (v1_ : Value).ownBlock ∧ some k_ ≠ (v7_ : Value).ownBlock) v6_ lc_6 ∧ Kd.R (Kd.int .i64) 3 w' w.heap.size (fun k_ => some k_ ≠ (v0_ : Value).ownBlock ∧ some k_ ≠ (v1_ : Value).ownBlock ∧ some k_ ≠ (v6_ : Value).ownBlock) v7_ lc_7 ∧ Below w.heap.size w w' := by
  have HR0 := Aside0.mk hra_0
  have HC0 := Aside0.mk hca_0
  clear hra_0 hca_0
  have HR1 := Aside0.mk hra_1
  have HC1 := Aside0.mk hca_1
  clear hra_1 hca_1
  have HR6 := Aside0.mk hra_6
  have HC6 := Aside0.mk hca_6
  clear hra_6 hca_6
  have HR7 := Aside0.mk hra_7
  have HC7 := Aside0.mk hca_7
  clear hra_7 hca_7
  have HB := Aside0.mk (Below.refl w.heap.size w)
  have S : Aside0 (w.heap.size ≤ w.heap.size) := Aside0.mk (Nat.le_refl _)
  have Hmo := Aside0.mk hmo
  have Hoo := Aside0.mk hoo
  have Hcp := Aside0.mk hcp
  clear hmo hoo hcp
  go_enter Try.func46, Try.ntmps46
  go_wp2_with (first | ((with_reducible refine gate_dst (N := 2) rfl ?_); refine bx_ 2 #[.slice Aa_0 la_0.length ca_0, .slice Aa_1 la_1.length ca_1, .bool ba_2, .bool ba_3, .bool ba_4, .bool ba_5, .slice Aa_6 la_6.length ca_6, .slice Aa_7 la_7.length ca_7, .int .i64 ba_8] 28 ?_; intro g2 hg w' hbox hb; have hc := co_ hb; have F1 : w.heap.size ≤ g2 := d15_; clear hg; replace HB := hz_ hc HB; replace S := t_ hc S; clear S; have S : Aside0 (g2 + 1 ≤ w'.heap.size) := A_ (blk_lt hbox); have BK2 := A_ hbox; clear hbox hb hc) | ((with_reducible refine gate_dst (N := 3) rfl ?_); refine bx_ 3 #[.int .i64 a1_0, .int .i64 a1_1, .int .i64 a1_2] 63 ?_; intro g3 hg w' hbox hb; have hc := co_ hb; have F2 : g2 + 1 ≤ g3 := d15_; clear hg; replace BK2 := bz_ hc BK2; replace HB := hz_ hc HB; replace S := t_ hc S; clear S; have S : Aside0 (g3 + 1 ≤ w'.heap.size) := A_ (blk_lt hbox); have BK3 := A_ hbox; clear hbox hb hc) | ((with_reducible refine gate_dst (N := 4) rfl ?_); refine bx_ 4 #[.slice none 0 0, .slice none 0 0, .bool false, .bool false, .bool false, .bool false, .slice none 0 0, .slice none 0 0, .int .i64 0] 28 ?_; intro g4 hg w' hbox hb; have hc := co_ hb; have F3 : g3 + 1 ≤ g4 := d15_; clear hg; replace BK2 := bz_ hc BK2; replace BK3 := bz_ hc BK3; replace HB := hz_ hc HB; replace S := t_ hc S; clear S; have S : Aside0 (g4 + 1 ≤ w'.heap.size) := A_ (blk_lt hbox); have BK4 := A_ hbox; clear hbox hb hc) | ((with_reducible refine gate_dst (N := 5) rfl ?_); refine bx_ 5 #[.int .i64 0, .int .i64 0] 38 ?_; intro g5 hg w' hbox hb; have hc := co_ hb; have F4 : g4 + 1 ≤ g5 := d15_; clear hg; replace BK2 := bz_ hc BK2; replace BK3 := bz_ hc BK3; replace BK4 := bz_ hc BK4; replace HB := hz_ hc HB; replace S := t_ hc S; clear S; have S : Aside0 (g5 + 1 ≤ w'.heap.size) := A_ (blk_lt hbox); have BK5 := A_ hbox; clear hbox hb hc) | ((with_reducible refine gate_ (.load 28 (.tmp 2)) rfl ?_); (try (refine gate_guard (by rfl) ?_; dsimp only)); refine ld_ 28 2 BK2.out Try.underlying28 ?_) | ((with_reducible refine gate_callee (f := 23) rfl ?_); (try (refine gate_guard (by rfl) ?_; dsimp only)); refine gL_ (some 11) Try.func23 #[.agg #[.slice Aa_0 la_0.length ca_0, .slice Aa_1 la_1.length ca_1, .bool ba_2, .bool ba_3, .bool ba_4, .bool ba_5, .slice Aa_6 la_6.length ca_6, .slice Aa_7 la_7.length ca_7, .int .i64 ba_8]] ?_; refine (impl_MachOk.calls k Aa_0 ca_0 la_0 Aa_1 ca_1 la_1 ba_2 ba_3 ba_4 ba_5 Aa_6 ca_6 la_6 Aa_7 ca_7 la_7 ba_8 true _ (Kd.C_below HR0.out HB.out) HC0.out (Kd.C_below HR1.out HB.out) HC1.out (Kd.C_below HR6.out HB.out) HC6.out (Kd.C_below HR7.out HB.out) HC7.out Hmo.out).mono ?_; rintro e w' ⟨rfl, hb⟩; have hc := co_ hb; refine ⟨_, rfl, ?_⟩; replace BK2 := bz_ hc BK2; replace BK3 := bz_ hc BK3; replace BK4 := bz_ hc BK4; replace BK5 := bz_ hc BK5; replace HB := hz_ hc HB; replace S := t_ hc S; clear hc hb) | ((with_reducible refine gate_ (.load 63 (.tmp 3)) rfl ?_); (try (refine gate_guard (by rfl) ?_; dsimp only)); refine ld_ 63 3 BK3.out Try.underlying63 ?_) | ((with_reducible refine gate_callee (f := 76) rfl ?_); (try (refine gate_guard (by rfl) ?_; dsimp only)); refine gL_ (some 15) Try.func76 #[.agg #[.int .i64 a1_0, .int .i64 a1_1, .int .i64 a1_2]] ?_; refine (impl_OpdOk.calls a1_0 a1_1 a1_2 false _ Hoo.out).mono ?_; rintro e w' ⟨rfl, hb⟩; have hc := co_ hb; refine ⟨_, rfl, ?_⟩; replace BK2 := bz_ hc BK2; replace BK3 := bz_ hc BK3; replace BK4 := bz_ hc BK4; replace BK5 := bz_ hc BK5; replace HB := hz_ hc HB; replace S := t_ hc S; clear hc hb) | ((with_reducible refine gate_ (.load 28 (.tmp 2)) rfl ?_); (try (refine gate_guard (by rfl) ?_; dsimp only)); refine ld_ 28 2 BK2.out Try.underlying28 ?_) | ((with_reducible refine gate_callee (f := 68) rfl ?_); (try (refine gate_guard (by rfl) ?_; dsimp only)); refine gL_ (some 19) Try.func68 #[.agg #[.slice Aa_0 la_0.length ca_0, .slice Aa_1 la_1.length ca_1, .bool ba_2, .bool ba_3, .bool ba_4, .bool ba_5, .slice Aa_6 la_6.length ca_6, .slice Aa_7 la_7.length ca_7, .int .i64 ba_8]] ?_; refine (impl_copy4 Aa_0 ca_0 la_0 Aa_1 ca_1 la_1 ba_2 ba_3 ba_4 ba_5 Aa_6 ca_6 la_6 Aa_7 ca_7 la_7 ba_8 lc_0 lc_1 bc_2 bc_3 bc_4 bc_5 lc_6 lc_7 bc_8 w _ HB.out HR0.out HC0.out HR1.out HC1.out HR6.out HC6.out HR7.out HC7.out Hcp.out).mono ?_; rintro e w' ⟨Ac_0, cc_0, Ac_1, cc_1, Ac_6, cc_6, Ac_7, cc_7, loc, hic, rfl, h1, h2, h3, hR, hc⟩; refine ⟨_, rfl, ?_⟩; have F5 : g5 + 1 ≤ loc := (Nat.le_trans S.out h1); have F6 : loc ≤ hic := h2; replace BK2 := bz_ hc BK2; replace BK3 := bz_ hc BK3; replace BK4 := bz_ hc BK4; replace BK5 := bz_ hc BK5; replace HB := hz_ hc HB; replace S := t_ hc S; clear S; have S := A_ h3; have Mc := A_ hR; clear h1 h2 h3 hR hc) | ((with_reducible refine gate_ (.store 28 (.tmp 4) (.tmp 19)) rfl ?_); refine ss_ 28 4 19 #[.slice Ac_0 lc_0.length cc_0, .slice Ac_1 lc_1.length cc_1, .bool bc_2, .bool bc_3, .bool bc_4, .bool bc_5, .slice Ac_6 lc_6.length cc_6, .slice Ac_7 lc_7.length cc_7, .int .i64 bc_8] BK4.out ?_; intro w' hbox hc; replace BK2 := bs_ hc BK2 d15_; replace BK3 := bs_ hc BK3 d15_; replace BK5 := bs_ hc BK5 d15_; replace Mc := rs_ hc Mc d15_; replace HB := hs_ hc HB d15_; replace S := t_ hc S; clear BK4; have BK4 := A_ hbox; clear hbox hc) | ((with_reducible refine gate_ (.store 38 (.tmp 5) (.tmp 20)) rfl ?_); refine ss_ 38 5 20 #[.int .i64 0, .int .i64 0] BK5.out ?_; intro w' hbox hc; replace BK2 := bs_ hc BK2 d15_; replace BK3 := bs_ hc BK3 d15_; replace BK4 := bs_ hc BK4 d15_; replace Mc := rs_ hc Mc d15_; replace HB := hs_ hc HB d15_; replace S := t_ hc S; clear BK5; have BK5 := A_ hbox; clear hbox hc))
  refine bodyPost_ret (results_list (rs := [.cell 4 28, .cell 5 38, .tmp 6]) rfl (by simp) (.cell g4 28 #[.slice Ac_0 lc_0.length cc_0, .slice Ac_1 lc_1.length cc_1, .bool bc_2, .bool bc_3, .bool bc_4, .bool bc_5, .slice Ac_6 lc_6.length cc_6, .slice Ac_7 lc_7.length cc_7, .int .i64 bc_8] (0, 0) _ rfl BK4.out Try.underlying28 rfl (by kernel_rfl) (.cell g5 38 #[.int .i64 0, .int .i64 0] (0, 0) _ rfl BK5.out Try.underlying38 rfl (by kernel_rfl) (.tmp .nil)))) rfl ?_
  obtain ⟨k0_, k1_, k6_, k7_⟩ := R4_back (w := w) Mc.out d15_
  exact ⟨_, _, _, _, rfl, k0_, k1_, k6_, k7_, HB.out⟩
set_option maxHeartbeats 16000000 in
set_option maxRecDepth 100000 in
theorem impl_PlaceOf.pno (k : Nat) (Aa_0 : Option Addr) (ca_0 : Nat) (la_0 : List Int) (Aa_1 : Option Addr) (ca_1 : Nat) (la_1 : List Int) (ba_2 : Bool) (ba_3 : Bool) (ba_4 : Bool) (ba_5 : Bool) (Aa_6 : Option Addr) (ca_6 : Nat) (la_6 : List Int) (Aa_7 : Option Addr) (ca_7 : Nat) (la_7 : List Int) (ba_8 : Int) (a1_0 a1_1 a1_2 : Int) (lc_0 : List Int) (lc_1 : List Int) (bc_2 : Bool) (bc_3 : Bool) (bc_4 : Bool) (bc_5 : Bool) (lc_6 : List Int) (lc_7 : List Int) (bc_8 : Int) (q0 q1 : Int) (q3 : List Int) (w : World) (hra_0 : Kd.C (Kd.int .i64) w Aa_0 la_0.length la_0) (hca_0 : la_0.length ≤ ca_0) (hra_1 : Kd.C (Kd.int .i64) w Aa_1 la_1.length la_1) (hca_1 : la_1.length ≤ ca_1) (hra_6 : Kd.C (Kd.int .i64) w Aa_6 la_6.length la_6) (hca_6 : la_6.length ≤ ca_6) (hra_7 : Kd.C (Kd.int .i64) w Aa_7 la_7.length la_7) (hca_7 : la_7.length ≤ ca_7) (hmo : impl_MachOk.f k la_0 la_1 ba_2 ba_3 ba_4 ba_5 la_6 la_7 ba_8 = some true) (hoo : impl_OpdOk.f a1_0 a1_1 a1_2 = some true) (hcp : impl_copyMach.f la_0 la_1 ba_2 ba_3 ba_4 ba_5 la_6 la_7 ba_8 = some (lc_0, lc_1, bc_2, bc_3, bc_4, bc_5, lc_6, lc_7, bc_8)) (hl : lc_1.length = 8) (hm0 : 0 ≤ a1_0) (hm7 : a1_0 < 8) (hq0 : 0 ≤ a1_1) (hq1 : a1_1 < 8) (hpl : impl_place.f lc_0 lc_1 bc_2 bc_3 bc_4 bc_5 lc_6 lc_7 bc_8 a1_0 a1_1 = some (q0, q1, false, q3)) :
    Calls Try.prog 46 #[.agg #[.slice Aa_0 la_0.length ca_0, .slice Aa_1 la_1.length ca_1, .bool ba_2, .bool ba_3, .bool ba_4, .bool ba_5, .slice Aa_6 la_6.length ca_6, .slice Aa_7 la_7.length ca_7, .int .i64 ba_8], .agg #[.int .i64 a1_0, .int .i64 a1_1, .int .i64 a1_2]] w fun e w' => ∃ v0_ v1_ v6_ v7_ : Value, e = .returned (.tuple #[.agg #[v0_, v1_, .bool bc_2, .bool bc_3, .bool bc_4, .bool bc_5, v6_, v7_, .int .i64 bc_8], .agg #[.int .i64 0, .int .i64 0], .bool false]) ∧ Kd.R (Kd.int .i64) 3 w' w.heap.size (fun k_ => some k_ ≠ (v1_ : Value).ownBlock ∧ some k_ ≠ (v6_ : Value).ownBlock ∧ some k_ ≠ (v7_ : Value).ownBlock) v0_ lc_0 ∧ Kd.R (Kd.int .i64) 3 w' w.heap.size (fun k_ => some k_ ≠ (v0_ : Value).ownBlock ∧ some k_ ≠ (v6_ : Value).ownBlock ∧ some k_ ≠ (v7_ : Value).ownBlock) v1_ lc_1 ∧ Kd.R (Kd.int .i64) 3 w' w.heap.size (fun k_ => some k_ ≠ (v0_ : Value).ownBlock ∧ some k_ ≠ (v1_ : Value).ownBlock ∧ some k_ ≠ (v7_ : Value).ownBlock) v6_ lc_6 ∧ Kd.R (Kd.int .i64) 3 w' w.heap.size (fun k_ => some k_ ≠ (v0_ : Value).ownBlock ∧ some k_ ≠ (v1_ : Value).ownBlock ∧ some k_ ≠ (v6_ : Value).ownBlock) v7_ lc_7 ∧ Below w.heap.size w w' := by
  have HR0 := Aside0.mk hra_0
  have HC0 := Aside0.mk hca_0
  clear hra_0 hca_0
  have HR1 := Aside0.mk hra_1
  have HC1 := Aside0.mk hca_1
  clear hra_1 hca_1
  have HR6 := Aside0.mk hra_6
  have HC6 := Aside0.mk hca_6
  clear hra_6 hca_6
  have HR7 := Aside0.mk hra_7
  have HC7 := Aside0.mk hca_7
  clear hra_7 hca_7
  have HB := Aside0.mk (Below.refl w.heap.size w)
  have S : Aside0 (w.heap.size ≤ w.heap.size) := Aside0.mk (Nat.le_refl _)
  have Hmo := Aside0.mk hmo
  have Hoo := Aside0.mk hoo
  have Hcp := Aside0.mk hcp
  have Hpl := Aside0.mk hpl
  have Hl := Aside0.mk hl
  clear hmo hoo hcp hpl hl
  go_enter Try.func46, Try.ntmps46
  go_wp2_with (first | ((with_reducible refine gate_dst (N := 2) rfl ?_); refine bx_ 2 #[.slice Aa_0 la_0.length ca_0, .slice Aa_1 la_1.length ca_1, .bool ba_2, .bool ba_3, .bool ba_4, .bool ba_5, .slice Aa_6 la_6.length ca_6, .slice Aa_7 la_7.length ca_7, .int .i64 ba_8] 28 ?_; intro g2 hg w' hbox hb; have hc := co_ hb; have F1 : w.heap.size ≤ g2 := d15_; clear hg; replace HB := hz_ hc HB; replace S := t_ hc S; clear S; have S : Aside0 (g2 + 1 ≤ w'.heap.size) := A_ (blk_lt hbox); have BK2 := A_ hbox; clear hbox hb hc) | ((with_reducible refine gate_dst (N := 3) rfl ?_); refine bx_ 3 #[.int .i64 a1_0, .int .i64 a1_1, .int .i64 a1_2] 63 ?_; intro g3 hg w' hbox hb; have hc := co_ hb; have F2 : g2 + 1 ≤ g3 := d15_; clear hg; replace BK2 := bz_ hc BK2; replace HB := hz_ hc HB; replace S := t_ hc S; clear S; have S : Aside0 (g3 + 1 ≤ w'.heap.size) := A_ (blk_lt hbox); have BK3 := A_ hbox; clear hbox hb hc) | ((with_reducible refine gate_dst (N := 4) rfl ?_); refine bx_ 4 #[.slice none 0 0, .slice none 0 0, .bool false, .bool false, .bool false, .bool false, .slice none 0 0, .slice none 0 0, .int .i64 0] 28 ?_; intro g4 hg w' hbox hb; have hc := co_ hb; have F3 : g3 + 1 ≤ g4 := d15_; clear hg; replace BK2 := bz_ hc BK2; replace BK3 := bz_ hc BK3; replace HB := hz_ hc HB; replace S := t_ hc S; clear S; have S : Aside0 (g4 + 1 ≤ w'.heap.size) := A_ (blk_lt hbox); have BK4 := A_ hbox; clear hbox hb hc) | ((with_reducible refine gate_dst (N := 5) rfl ?_); refine bx_ 5 #[.int .i64 0, .int .i64 0] 38 ?_; intro g5 hg w' hbox hb; have hc := co_ hb; have F4 : g4 + 1 ≤ g5 := d15_; clear hg; replace BK2 := bz_ hc BK2; replace BK3 := bz_ hc BK3; replace BK4 := bz_ hc BK4; replace HB := hz_ hc HB; replace S := t_ hc S; clear S; have S : Aside0 (g5 + 1 ≤ w'.heap.size) := A_ (blk_lt hbox); have BK5 := A_ hbox; clear hbox hb hc) | ((with_reducible refine gate_ (.load 28 (.tmp 2)) rfl ?_); (try (refine gate_guard (by rfl) ?_; dsimp only)); refine ld_ 28 2 BK2.out Try.underlying28 ?_) | ((with_reducible refine gate_callee (f := 23) rfl ?_); (try (refine gate_guard (by rfl) ?_; dsimp only)); refine gL_ (some 11) Try.func23 #[.agg #[.slice Aa_0 la_0.length ca_0, .slice Aa_1 la_1.length ca_1, .bool ba_2, .bool ba_3, .bool ba_4, .bool ba_5, .slice Aa_6 la_6.length ca_6, .slice Aa_7 la_7.length ca_7, .int .i64 ba_8]] ?_; refine (impl_MachOk.calls k Aa_0 ca_0 la_0 Aa_1 ca_1 la_1 ba_2 ba_3 ba_4 ba_5 Aa_6 ca_6 la_6 Aa_7 ca_7 la_7 ba_8 true _ (Kd.C_below HR0.out HB.out) HC0.out (Kd.C_below HR1.out HB.out) HC1.out (Kd.C_below HR6.out HB.out) HC6.out (Kd.C_below HR7.out HB.out) HC7.out Hmo.out).mono ?_; rintro e w' ⟨rfl, hb⟩; have hc := co_ hb; refine ⟨_, rfl, ?_⟩; replace BK2 := bz_ hc BK2; replace BK3 := bz_ hc BK3; replace BK4 := bz_ hc BK4; replace BK5 := bz_ hc BK5; replace HB := hz_ hc HB; replace S := t_ hc S; clear hc hb) | ((with_reducible refine gate_ (.load 63 (.tmp 3)) rfl ?_); (try (refine gate_guard (by rfl) ?_; dsimp only)); refine ld_ 63 3 BK3.out Try.underlying63 ?_) | ((with_reducible refine gate_callee (f := 76) rfl ?_); (try (refine gate_guard (by rfl) ?_; dsimp only)); refine gL_ (some 15) Try.func76 #[.agg #[.int .i64 a1_0, .int .i64 a1_1, .int .i64 a1_2]] ?_; refine (impl_OpdOk.calls a1_0 a1_1 a1_2 true _ Hoo.out).mono ?_; rintro e w' ⟨rfl, hb⟩; have hc := co_ hb; refine ⟨_, rfl, ?_⟩; replace BK2 := bz_ hc BK2; replace BK3 := bz_ hc BK3; replace BK4 := bz_ hc BK4; replace BK5 := bz_ hc BK5; replace HB := hz_ hc HB; replace S := t_ hc S; clear hc hb) | ((with_reducible refine gate_ (.load 28 (.tmp 2)) rfl ?_); (try (refine gate_guard (by rfl) ?_; dsimp only)); refine ld_ 28 2 BK2.out Try.underlying28 ?_) | ((with_reducible refine gate_callee (f := 68) rfl ?_); (try (refine gate_guard (by rfl) ?_; dsimp only)); refine gL_ (some 22) Try.func68 #[.agg #[.slice Aa_0 la_0.length ca_0, .slice Aa_1 la_1.length ca_1, .bool ba_2, .bool ba_3, .bool ba_4, .bool ba_5, .slice Aa_6 la_6.length ca_6, .slice Aa_7 la_7.length ca_7, .int .i64 ba_8]] ?_; refine (impl_copy4 Aa_0 ca_0 la_0 Aa_1 ca_1 la_1 ba_2 ba_3 ba_4 ba_5 Aa_6 ca_6 la_6 Aa_7 ca_7 la_7 ba_8 lc_0 lc_1 bc_2 bc_3 bc_4 bc_5 lc_6 lc_7 bc_8 w _ HB.out HR0.out HC0.out HR1.out HC1.out HR6.out HC6.out HR7.out HC7.out Hcp.out).mono ?_; rintro e w' ⟨Ac_0, cc_0, Ac_1, cc_1, Ac_6, cc_6, Ac_7, cc_7, loc, hic, rfl, h1, h2, h3, hR, hc⟩; refine ⟨_, rfl, ?_⟩; have F5 : g5 + 1 ≤ loc := (Nat.le_trans S.out h1); have F6 : loc ≤ hic := h2; replace BK2 := bz_ hc BK2; replace BK3 := bz_ hc BK3; replace BK4 := bz_ hc BK4; replace BK5 := bz_ hc BK5; replace HB := hz_ hc HB; replace S := t_ hc S; clear S; have S := A_ h3; have Mc := A_ hR; clear h1 h2 h3 hR hc) | ((with_reducible refine gate_dst (N := 7) rfl ?_); refine bx_ 7 #[.slice none 0 0, .slice none 0 0, .bool false, .bool false, .bool false, .bool false, .slice none 0 0, .slice none 0 0, .int .i64 0] 28 ?_; intro g7 hg w' hbox hb; have hc := co_ hb; have F7 : hic ≤ g7 := d15_; clear hg; replace BK2 := bz_ hc BK2; replace BK3 := bz_ hc BK3; replace BK4 := bz_ hc BK4; replace BK5 := bz_ hc BK5; replace Mc := rz_ hc Mc; replace HB := hz_ hc HB; replace S := t_ hc S; clear S; have S : Aside0 (g7 + 1 ≤ w'.heap.size) := A_ (blk_lt hbox); have BK7 := A_ hbox; clear hbox hb hc) | ((with_reducible refine gate_ (.store 28 (.tmp 7) (.tmp 22)) rfl ?_); refine ss_ 28 7 22 #[.slice Ac_0 lc_0.length cc_0, .slice Ac_1 lc_1.length cc_1, .bool bc_2, .bool bc_3, .bool bc_4, .bool bc_5, .slice Ac_6 lc_6.length cc_6, .slice Ac_7 lc_7.length cc_7, .int .i64 bc_8] BK7.out ?_; intro w' hbox hc; replace BK2 := bs_ hc BK2 d15_; replace BK3 := bs_ hc BK3 d15_; replace BK4 := bs_ hc BK4 d15_; replace BK5 := bs_ hc BK5 d15_; replace Mc := rs_ hc Mc d15_; replace HB := hs_ hc HB d15_; replace S := t_ hc S; clear BK7; have BK7 := A_ hbox; clear hbox hc) | ((with_reducible refine gate_ (.load 63 (.tmp 3)) rfl ?_); (try (refine gate_guard (by rfl) ?_; dsimp only)); refine ld_ 63 3 BK3.out Try.underlying63 ?_) | ((with_reducible refine gate_callee (f := 77) rfl ?_); (try (refine gate_guard (by rfl) ?_; dsimp only)); refine gL_ (some 25) Try.func77 #[.pointer (some ⟨g7, 0, none⟩), .agg #[.int .i64 a1_0, .int .i64 a1_1, .int .i64 a1_2]] ?_; refine (impl_place4 g7 loc hic Ac_0 cc_0 _ lc_0 Ac_1 cc_1 _ lc_1 bc_2 bc_3 bc_4 bc_5 Ac_6 cc_6 _ lc_6 Ac_7 cc_7 _ lc_7 bc_8 a1_0 a1_1 a1_2 q0 q1 false q3 _ BK7.out Mc.out d15_ Hl.out hm0 hm7 hq0 hq1 Hpl.out).mono ?_; rintro e w' ⟨rfl, hR, hc⟩; refine ⟨_, rfl, ?_⟩; replace BK2 := bs_ hc BK2 d15_; replace BK3 := bs_ hc BK3 d15_; replace BK4 := bs_ hc BK4 d15_; replace BK5 := bs_ hc BK5 d15_; replace BK7 := bs_ hc BK7 d15_; replace HB := hs_ hc HB d15_; replace S := t_ hc S; clear Mc; have Mc := A_ hR; clear hR hc) | ((with_reducible refine gate_dst (N := 8) rfl ?_); refine bx_ 8 #[.int .i64 0, .int .i64 0] 38 ?_; intro g8 hg w' hbox hb; have hc := co_ hb; have F8 : g7 + 1 ≤ g8 := d15_; clear hg; replace BK2 := bz_ hc BK2; replace BK3 := bz_ hc BK3; replace BK4 := bz_ hc BK4; replace BK5 := bz_ hc BK5; replace Mc := rz_ hc Mc; replace BK7 := bz_ hc BK7; replace HB := hz_ hc HB; replace S := t_ hc S; clear S; have S : Aside0 (g8 + 1 ≤ w'.heap.size) := A_ (blk_lt hbox); have BK8 := A_ hbox; clear hbox hb hc) | ((with_reducible refine gate_ (.store 38 (.tmp 8) (.tmp 26)) rfl ?_); refine ss_ 38 8 26 #[.int .i64 q0, .int .i64 q1] BK8.out ?_; intro w' hbox hc; replace BK2 := bs_ hc BK2 d15_; replace BK3 := bs_ hc BK3 d15_; replace BK4 := bs_ hc BK4 d15_; replace BK5 := bs_ hc BK5 d15_; replace Mc := rs_ hc Mc d15_; replace BK7 := bs_ hc BK7 d15_; replace HB := hs_ hc HB d15_; replace S := t_ hc S; clear BK8; have BK8 := A_ hbox; clear hbox hc) | ((with_reducible refine gate_ (.load 28 (.tmp 2)) rfl ?_); (try (refine gate_guard (by rfl) ?_; dsimp only)); refine ld_ 28 2 BK2.out Try.underlying28 ?_) | ((with_reducible refine gate_callee (f := 68) rfl ?_); (try (refine gate_guard (by rfl) ?_; dsimp only)); refine gL_ (some 31) Try.func68 #[.agg #[.slice Aa_0 la_0.length ca_0, .slice Aa_1 la_1.length ca_1, .bool ba_2, .bool ba_3, .bool ba_4, .bool ba_5, .slice Aa_6 la_6.length ca_6, .slice Aa_7 la_7.length ca_7, .int .i64 ba_8]] ?_; refine (impl_copy4 Aa_0 ca_0 la_0 Aa_1 ca_1 la_1 ba_2 ba_3 ba_4 ba_5 Aa_6 ca_6 la_6 Aa_7 ca_7 la_7 ba_8 lc_0 lc_1 bc_2 bc_3 bc_4 bc_5 lc_6 lc_7 bc_8 w _ HB.out HR0.out HC0.out HR1.out HC1.out HR6.out HC6.out HR7.out HC7.out Hcp.out).mono ?_; rintro e w' ⟨Ad_0, cd_0, Ad_1, cd_1, Ad_6, cd_6, Ad_7, cd_7, lod, hid, rfl, h1, h2, h3, hR, hc⟩; refine ⟨_, rfl, ?_⟩; have F9 : g8 + 1 ≤ lod := (Nat.le_trans S.out h1); have F10 : lod ≤ hid := h2; replace BK2 := bz_ hc BK2; replace BK3 := bz_ hc BK3; replace BK4 := bz_ hc BK4; replace BK5 := bz_ hc BK5; replace Mc := rz_ hc Mc; replace BK7 := bz_ hc BK7; replace BK8 := bz_ hc BK8; replace HB := hz_ hc HB; replace S := t_ hc S; clear S; have S := A_ h3; have Md := A_ hR; clear h1 h2 h3 hR hc) | ((with_reducible refine gate_ (.store 28 (.tmp 4) (.tmp 31)) rfl ?_); refine ss_ 28 4 31 #[.slice Ad_0 lc_0.length cd_0, .slice Ad_1 lc_1.length cd_1, .bool bc_2, .bool bc_3, .bool bc_4, .bool bc_5, .slice Ad_6 lc_6.length cd_6, .slice Ad_7 lc_7.length cd_7, .int .i64 bc_8] BK4.out ?_; intro w' hbox hc; replace BK2 := bs_ hc BK2 d15_; replace BK3 := bs_ hc BK3 d15_; replace BK5 := bs_ hc BK5 d15_; replace Mc := rs_ hc Mc d15_; replace BK7 := bs_ hc BK7 d15_; replace BK8 := bs_ hc BK8 d15_; replace Md := rs_ hc Md d15_; replace HB := hs_ hc HB d15_; replace S := t_ hc S; clear BK4; have BK4 := A_ hbox; clear hbox hc) | ((with_reducible refine gate_ (.store 38 (.tmp 5) (.tmp 32)) rfl ?_); refine ss_ 38 5 32 #[.int .i64 0, .int .i64 0] BK5.out ?_; intro w' hbox hc; replace BK2 := bs_ hc BK2 d15_; replace BK3 := bs_ hc BK3 d15_; replace BK4 := bs_ hc BK4 d15_; replace Mc := rs_ hc Mc d15_; replace BK7 := bs_ hc BK7 d15_; replace BK8 := bs_ hc BK8 d15_; replace Md := rs_ hc Md d15_; replace HB := hs_ hc HB d15_; replace S := t_ hc S; clear BK5; have BK5 := A_ hbox; clear hbox hc))
  refine bodyPost_ret (results_list (rs := [.cell 4 28, .cell 5 38, .tmp 6]) rfl (by simp) (.cell g4 28 #[.slice Ad_0 lc_0.length cd_0, .slice Ad_1 lc_1.length cd_1, .bool bc_2, .bool bc_3, .bool bc_4, .bool bc_5, .slice Ad_6 lc_6.length cd_6, .slice Ad_7 lc_7.length cd_7, .int .i64 bc_8] (0, 0) _ rfl BK4.out Try.underlying28 rfl (by kernel_rfl) (.cell g5 38 #[.int .i64 0, .int .i64 0] (0, 0) _ rfl BK5.out Try.underlying38 rfl (by kernel_rfl) (.tmp .nil)))) rfl ?_
  obtain ⟨k0_, k1_, k6_, k7_⟩ := R4_back (w := w) Md.out d15_
  exact ⟨_, _, _, _, rfl, k0_, k1_, k6_, k7_, HB.out⟩
set_option maxHeartbeats 16000000 in
set_option maxRecDepth 100000 in
theorem impl_PlaceOf.pyes (k : Nat) (Aa_0 : Option Addr) (ca_0 : Nat) (la_0 : List Int) (Aa_1 : Option Addr) (ca_1 : Nat) (la_1 : List Int) (ba_2 : Bool) (ba_3 : Bool) (ba_4 : Bool) (ba_5 : Bool) (Aa_6 : Option Addr) (ca_6 : Nat) (la_6 : List Int) (Aa_7 : Option Addr) (ca_7 : Nat) (la_7 : List Int) (ba_8 : Int) (a1_0 a1_1 a1_2 : Int) (lc_0 : List Int) (lc_1 : List Int) (bc_2 : Bool) (bc_3 : Bool) (bc_4 : Bool) (bc_5 : Bool) (lc_6 : List Int) (lc_7 : List Int) (bc_8 : Int) (q0 q1 : Int) (q3 : List Int) (w : World) (hra_0 : Kd.C (Kd.int .i64) w Aa_0 la_0.length la_0) (hca_0 : la_0.length ≤ ca_0) (hra_1 : Kd.C (Kd.int .i64) w Aa_1 la_1.length la_1) (hca_1 : la_1.length ≤ ca_1) (hra_6 : Kd.C (Kd.int .i64) w Aa_6 la_6.length la_6) (hca_6 : la_6.length ≤ ca_6) (hra_7 : Kd.C (Kd.int .i64) w Aa_7 la_7.length la_7) (hca_7 : la_7.length ≤ ca_7) (hmo : impl_MachOk.f k la_0 la_1 ba_2 ba_3 ba_4 ba_5 la_6 la_7 ba_8 = some true) (hoo : impl_OpdOk.f a1_0 a1_1 a1_2 = some true) (hcp : impl_copyMach.f la_0 la_1 ba_2 ba_3 ba_4 ba_5 la_6 la_7 ba_8 = some (lc_0, lc_1, bc_2, bc_3, bc_4, bc_5, lc_6, lc_7, bc_8)) (hl : lc_1.length = 8) (hm0 : 0 ≤ a1_0) (hm7 : a1_0 < 8) (hq0 : 0 ≤ a1_1) (hq1 : a1_1 < 8) (hpl : impl_place.f lc_0 lc_1 bc_2 bc_3 bc_4 bc_5 lc_6 lc_7 bc_8 a1_0 a1_1 = some (q0, q1, true, q3)) :
    Calls Try.prog 46 #[.agg #[.slice Aa_0 la_0.length ca_0, .slice Aa_1 la_1.length ca_1, .bool ba_2, .bool ba_3, .bool ba_4, .bool ba_5, .slice Aa_6 la_6.length ca_6, .slice Aa_7 la_7.length ca_7, .int .i64 ba_8], .agg #[.int .i64 a1_0, .int .i64 a1_1, .int .i64 a1_2]] w fun e w' => ∃ v0_ v1_ v6_ v7_ : Value, e = .returned (.tuple #[.agg #[v0_, v1_, .bool bc_2, .bool bc_3, .bool bc_4, .bool bc_5, v6_, v7_, .int .i64 bc_8], .agg #[.int .i64 q0, .int .i64 q1], .bool true]) ∧ Kd.R (Kd.int .i64) 3 w' w.heap.size (fun k_ => some k_ ≠ (v1_ : Value).ownBlock ∧ some k_ ≠ (v6_ : Value).ownBlock ∧ some k_ ≠ (v7_ : Value).ownBlock) v0_ lc_0 ∧ Kd.R (Kd.int .i64) 3 w' w.heap.size (fun k_ => some k_ ≠ (v0_ : Value).ownBlock ∧ some k_ ≠ (v6_ : Value).ownBlock ∧ some k_ ≠ (v7_ : Value).ownBlock) v1_ q3 ∧ Kd.R (Kd.int .i64) 3 w' w.heap.size (fun k_ => some k_ ≠ (v0_ : Value).ownBlock ∧ some k_ ≠ (v1_ : Value).ownBlock ∧ some k_ ≠ (v7_ : Value).ownBlock) v6_ lc_6 ∧ Kd.R (Kd.int .i64) 3 w' w.heap.size (fun k_ => some k_ ≠ (v0_ : Value).ownBlock ∧ some k_ ≠ (v1_ : Value).ownBlock ∧ some k_ ≠ (v6_ : Value).ownBlock) v7_ lc_7 ∧ Below w.heap.size w w' := by
  have HR0 := Aside0.mk hra_0
  have HC0 := Aside0.mk hca_0
  clear hra_0 hca_0
  have HR1 := Aside0.mk hra_1
  have HC1 := Aside0.mk hca_1
  clear hra_1 hca_1
  have HR6 := Aside0.mk hra_6
  have HC6 := Aside0.mk hca_6
  clear hra_6 hca_6
  have HR7 := Aside0.mk hra_7
  have HC7 := Aside0.mk hca_7
  clear hra_7 hca_7
  have HB := Aside0.mk (Below.refl w.heap.size w)
  have S : Aside0 (w.heap.size ≤ w.heap.size) := Aside0.mk (Nat.le_refl _)
  have Hmo := Aside0.mk hmo
  have Hoo := Aside0.mk hoo
  have Hcp := Aside0.mk hcp
  have Hpl := Aside0.mk hpl
  have Hl := Aside0.mk hl
  clear hmo hoo hcp hpl hl
  go_enter Try.func46, Try.ntmps46
  go_wp2_with (first | ((with_reducible refine gate_dst (N := 2) rfl ?_); refine bx_ 2 #[.slice Aa_0 la_0.length ca_0, .slice Aa_1 la_1.length ca_1, .bool ba_2, .bool ba_3, .bool ba_4, .bool ba_5, .slice Aa_6 la_6.length ca_6, .slice Aa_7 la_7.length ca_7, .int .i64 ba_8] 28 ?_; intro g2 hg w' hbox hb; have hc := co_ hb; have F1 : w.heap.size ≤ g2 := d15_; clear hg; replace HB := hz_ hc HB; replace S := t_ hc S; clear S; have S : Aside0 (g2 + 1 ≤ w'.heap.size) := A_ (blk_lt hbox); have BK2 := A_ hbox; clear hbox hb hc) | ((with_reducible refine gate_dst (N := 3) rfl ?_); refine bx_ 3 #[.int .i64 a1_0, .int .i64 a1_1, .int .i64 a1_2] 63 ?_; intro g3 hg w' hbox hb; have hc := co_ hb; have F2 : g2 + 1 ≤ g3 := d15_; clear hg; replace BK2 := bz_ hc BK2; replace HB := hz_ hc HB; replace S := t_ hc S; clear S; have S : Aside0 (g3 + 1 ≤ w'.heap.size) := A_ (blk_lt hbox); have BK3 := A_ hbox; clear hbox hb hc) | ((with_reducible refine gate_dst (N := 4) rfl ?_); refine bx_ 4 #[.slice none 0 0, .slice none 0 0, .bool false, .bool false, .bool false, .bool false, .slice none 0 0, .slice none 0 0, .int .i64 0] 28 ?_; intro g4 hg w' hbox hb; have hc := co_ hb; have F3 : g3 + 1 ≤ g4 := d15_; clear hg; replace BK2 := bz_ hc BK2; replace BK3 := bz_ hc BK3; replace HB := hz_ hc HB; replace S := t_ hc S; clear S; have S : Aside0 (g4 + 1 ≤ w'.heap.size) := A_ (blk_lt hbox); have BK4 := A_ hbox; clear hbox hb hc) | ((with_reducible refine gate_dst (N := 5) rfl ?_); refine bx_ 5 #[.int .i64 0, .int .i64 0] 38 ?_; intro g5 hg w' hbox hb; have hc := co_ hb; have F4 : g4 + 1 ≤ g5 := d15_; clear hg; replace BK2 := bz_ hc BK2; replace BK3 := bz_ hc BK3; replace BK4 := bz_ hc BK4; replace HB := hz_ hc HB; replace S := t_ hc S; clear S; have S : Aside0 (g5 + 1 ≤ w'.heap.size) := A_ (blk_lt hbox); have BK5 := A_ hbox; clear hbox hb hc) | ((with_reducible refine gate_ (.load 28 (.tmp 2)) rfl ?_); (try (refine gate_guard (by rfl) ?_; dsimp only)); refine ld_ 28 2 BK2.out Try.underlying28 ?_) | ((with_reducible refine gate_callee (f := 23) rfl ?_); (try (refine gate_guard (by rfl) ?_; dsimp only)); refine gL_ (some 11) Try.func23 #[.agg #[.slice Aa_0 la_0.length ca_0, .slice Aa_1 la_1.length ca_1, .bool ba_2, .bool ba_3, .bool ba_4, .bool ba_5, .slice Aa_6 la_6.length ca_6, .slice Aa_7 la_7.length ca_7, .int .i64 ba_8]] ?_; refine (impl_MachOk.calls k Aa_0 ca_0 la_0 Aa_1 ca_1 la_1 ba_2 ba_3 ba_4 ba_5 Aa_6 ca_6 la_6 Aa_7 ca_7 la_7 ba_8 true _ (Kd.C_below HR0.out HB.out) HC0.out (Kd.C_below HR1.out HB.out) HC1.out (Kd.C_below HR6.out HB.out) HC6.out (Kd.C_below HR7.out HB.out) HC7.out Hmo.out).mono ?_; rintro e w' ⟨rfl, hb⟩; have hc := co_ hb; refine ⟨_, rfl, ?_⟩; replace BK2 := bz_ hc BK2; replace BK3 := bz_ hc BK3; replace BK4 := bz_ hc BK4; replace BK5 := bz_ hc BK5; replace HB := hz_ hc HB; replace S := t_ hc S; clear hc hb) | ((with_reducible refine gate_ (.load 63 (.tmp 3)) rfl ?_); (try (refine gate_guard (by rfl) ?_; dsimp only)); refine ld_ 63 3 BK3.out Try.underlying63 ?_) | ((with_reducible refine gate_callee (f := 76) rfl ?_); (try (refine gate_guard (by rfl) ?_; dsimp only)); refine gL_ (some 15) Try.func76 #[.agg #[.int .i64 a1_0, .int .i64 a1_1, .int .i64 a1_2]] ?_; refine (impl_OpdOk.calls a1_0 a1_1 a1_2 true _ Hoo.out).mono ?_; rintro e w' ⟨rfl, hb⟩; have hc := co_ hb; refine ⟨_, rfl, ?_⟩; replace BK2 := bz_ hc BK2; replace BK3 := bz_ hc BK3; replace BK4 := bz_ hc BK4; replace BK5 := bz_ hc BK5; replace HB := hz_ hc HB; replace S := t_ hc S; clear hc hb) | ((with_reducible refine gate_ (.load 28 (.tmp 2)) rfl ?_); (try (refine gate_guard (by rfl) ?_; dsimp only)); refine ld_ 28 2 BK2.out Try.underlying28 ?_) | ((with_reducible refine gate_callee (f := 68) rfl ?_); (try (refine gate_guard (by rfl) ?_; dsimp only)); refine gL_ (some 22) Try.func68 #[.agg #[.slice Aa_0 la_0.length ca_0, .slice Aa_1 la_1.length ca_1, .bool ba_2, .bool ba_3, .bool ba_4, .bool ba_5, .slice Aa_6 la_6.length ca_6, .slice Aa_7 la_7.length ca_7, .int .i64 ba_8]] ?_; refine (impl_copy4 Aa_0 ca_0 la_0 Aa_1 ca_1 la_1 ba_2 ba_3 ba_4 ba_5 Aa_6 ca_6 la_6 Aa_7 ca_7 la_7 ba_8 lc_0 lc_1 bc_2 bc_3 bc_4 bc_5 lc_6 lc_7 bc_8 w _ HB.out HR0.out HC0.out HR1.out HC1.out HR6.out HC6.out HR7.out HC7.out Hcp.out).mono ?_; rintro e w' ⟨Ac_0, cc_0, Ac_1, cc_1, Ac_6, cc_6, Ac_7, cc_7, loc, hic, rfl, h1, h2, h3, hR, hc⟩; refine ⟨_, rfl, ?_⟩; have F5 : g5 + 1 ≤ loc := (Nat.le_trans S.out h1); have F6 : loc ≤ hic := h2; replace BK2 := bz_ hc BK2; replace BK3 := bz_ hc BK3; replace BK4 := bz_ hc BK4; replace BK5 := bz_ hc BK5; replace HB := hz_ hc HB; replace S := t_ hc S; clear S; have S := A_ h3; have Mc := A_ hR; clear h1 h2 h3 hR hc) | ((with_reducible refine gate_dst (N := 7) rfl ?_); refine bx_ 7 #[.slice none 0 0, .slice none 0 0, .bool false, .bool false, .bool false, .bool false, .slice none 0 0, .slice none 0 0, .int .i64 0] 28 ?_; intro g7 hg w' hbox hb; have hc := co_ hb; have F7 : hic ≤ g7 := d15_; clear hg; replace BK2 := bz_ hc BK2; replace BK3 := bz_ hc BK3; replace BK4 := bz_ hc BK4; replace BK5 := bz_ hc BK5; replace Mc := rz_ hc Mc; replace HB := hz_ hc HB; replace S := t_ hc S; clear S; have S : Aside0 (g7 + 1 ≤ w'.heap.size) := A_ (blk_lt hbox); have BK7 := A_ hbox; clear hbox hb hc) | ((with_reducible refine gate_ (.store 28 (.tmp 7) (.tmp 22)) rfl ?_); refine ss_ 28 7 22 #[.slice Ac_0 lc_0.length cc_0, .slice Ac_1 lc_1.length cc_1, .bool bc_2, .bool bc_3, .bool bc_4, .bool bc_5, .slice Ac_6 lc_6.length cc_6, .slice Ac_7 lc_7.length cc_7, .int .i64 bc_8] BK7.out ?_; intro w' hbox hc; replace BK2 := bs_ hc BK2 d15_; replace BK3 := bs_ hc BK3 d15_; replace BK4 := bs_ hc BK4 d15_; replace BK5 := bs_ hc BK5 d15_; replace Mc := rs_ hc Mc d15_; replace HB := hs_ hc HB d15_; replace S := t_ hc S; clear BK7; have BK7 := A_ hbox; clear hbox hc) | ((with_reducible refine gate_ (.load 63 (.tmp 3)) rfl ?_); (try (refine gate_guard (by rfl) ?_; dsimp only)); refine ld_ 63 3 BK3.out Try.underlying63 ?_) | ((with_reducible refine gate_callee (f := 77) rfl ?_); (try (refine gate_guard (by rfl) ?_; dsimp only)); refine gL_ (some 25) Try.func77 #[.pointer (some ⟨g7, 0, none⟩), .agg #[.int .i64 a1_0, .int .i64 a1_1, .int .i64 a1_2]] ?_; refine (impl_place4 g7 loc hic Ac_0 cc_0 _ lc_0 Ac_1 cc_1 _ lc_1 bc_2 bc_3 bc_4 bc_5 Ac_6 cc_6 _ lc_6 Ac_7 cc_7 _ lc_7 bc_8 a1_0 a1_1 a1_2 q0 q1 true q3 _ BK7.out Mc.out d15_ Hl.out hm0 hm7 hq0 hq1 Hpl.out).mono ?_; rintro e w' ⟨rfl, hR, hc⟩; refine ⟨_, rfl, ?_⟩; replace BK2 := bs_ hc BK2 d15_; replace BK3 := bs_ hc BK3 d15_; replace BK4 := bs_ hc BK4 d15_; replace BK5 := bs_ hc BK5 d15_; replace BK7 := bs_ hc BK7 d15_; replace HB := hs_ hc HB d15_; replace S := t_ hc S; clear Mc; have Mc := A_ hR; clear hR hc) | ((with_reducible refine gate_dst (N := 8) rfl ?_); refine bx_ 8 #[.int .i64 0, .int .i64 0] 38 ?_; intro g8 hg w' hbox hb; have hc := co_ hb; have F8 : g7 + 1 ≤ g8 := d15_; clear hg; replace BK2 := bz_ hc BK2; replace BK3 := bz_ hc BK3; replace BK4 := bz_ hc BK4; replace BK5 := bz_ hc BK5; replace Mc := rz_ hc Mc; replace BK7 := bz_ hc BK7; replace HB := hz_ hc HB; replace S := t_ hc S; clear S; have S : Aside0 (g8 + 1 ≤ w'.heap.size) := A_ (blk_lt hbox); have BK8 := A_ hbox; clear hbox hb hc) | ((with_reducible refine gate_ (.store 38 (.tmp 8) (.tmp 26)) rfl ?_); refine ss_ 38 8 26 #[.int .i64 q0, .int .i64 q1] BK8.out ?_; intro w' hbox hc; replace BK2 := bs_ hc BK2 d15_; replace BK3 := bs_ hc BK3 d15_; replace BK4 := bs_ hc BK4 d15_; replace BK5 := bs_ hc BK5 d15_; replace Mc := rs_ hc Mc d15_; replace BK7 := bs_ hc BK7 d15_; replace HB := hs_ hc HB d15_; replace S := t_ hc S; clear BK8; have BK8 := A_ hbox; clear hbox hc))
  have hc := Ch.drew w'
  replace BK2 := bz_ hc BK2
  replace BK3 := bz_ hc BK3
  replace BK4 := bz_ hc BK4
  replace BK5 := bz_ hc BK5
  replace Mc := rz_ hc Mc
  replace BK7 := bz_ hc BK7
  replace BK8 := bz_ hc BK8
  replace HB := hz_ hc HB
  replace S := t_ hc S
  clear hc
  refine start_ (n := 5) (S := fun w' => w'.heap[g7]? = some (.cells #[.slice Ac_0 lc_0.length cc_0, .slice Ac_1 lc_1.length cc_1, .bool bc_2, .bool bc_3, .bool bc_4, .bool bc_5, .slice Ac_6 lc_6.length cc_6, .slice Ac_7 lc_7.length cc_7, .int .i64 bc_8] 28 (0, 0)) ∧ w'.heap[g8]? = some (.cells #[.int .i64 q0, .int .i64 q1] 38 (0, 0))) (ds := []) #[false, false, false, false, false] (by kernel_rfl) rfl rfl ⟨BK7.out, BK8.out⟩ (fun hHeld => ?_)
  generalize w'.drew = w' at BK2 BK3 BK4 BK5 Mc BK7 BK8 HB S hHeld ⊢
  refine take_ (i := 0) (N := some 33) (v := .agg #[.slice Ac_0 lc_0.length cc_0, .slice Ac_1 lc_1.length cc_1, .bool bc_2, .bool bc_3, .bool bc_4, .bool bc_5, .slice Ac_6 lc_6.length cc_6, .slice Ac_7 lc_7.length cc_7, .int .i64 bc_8]) (a' := ?_) (bm_ 5 1) rfl rfl (by kernel_rfl) (fun _ _ _ h => h) (Or.inl ⟨by rfl, ?_⟩) hHeld ?_ ?_
  · rintro w' ⟨s0, s1⟩
    exact load_yields 28 (.tmp 7) (by rfl) g7 (by rfl) 28 _ _ s0 Try.underlying28 rfl (by kernel_rfl)
  rotate_left
  · simp only [Act.put, List.setIfInBounds_toArray, List.set_cons_zero, List.set_cons_succ, i64_w, i32_w]
    rfl
  refine take_ (i := 1) (N := some 34) (v := .agg #[.int .i64 q0, .int .i64 q1]) (a' := ?_) (bm_ 5 3) rfl rfl (by kernel_rfl) (fun _ _ _ h => h) (Or.inl ⟨by rfl, ?_⟩) hHeld ?_ ?_
  · rintro w' ⟨s0, s1⟩
    exact load_yields 38 (.tmp 8) (by rfl) g8 (by rfl) 38 _ _ s1 Try.underlying38 rfl (by kernel_rfl)
  rotate_left
  · simp only [Act.put, List.setIfInBounds_toArray, List.set_cons_zero, List.set_cons_succ, i64_w, i32_w]
    rfl
  refine one_ (i := 2) (N := none) (bm_ 5 7) rfl rfl (by kernel_rfl) (by decide) (fun K hK => ?_)
  refine store_struct_step (by rfl) rfl 28 (.tmp 4) (.tmp 33) rfl (cs := #[.slice Ac_0 lc_0.length cc_0, .slice Ac_1 lc_1.length cc_1, .bool bc_2, .bool bc_3, .bool bc_4, .bool bc_5, .slice Ac_6 lc_6.length cc_6, .slice Ac_7 lc_7.length cc_7, .int .i64 bc_8]) (by rfl) (by rfl) BK4.out (by kernel_rfl) rfl d27_ ?_
  intro w' hbox hc
  replace BK2 := bs_ hc BK2 d15_
  replace BK3 := bs_ hc BK3 d15_
  replace BK5 := bs_ hc BK5 d15_
  replace Mc := rs_ hc Mc d15_
  replace BK7 := bs_ hc BK7 d15_
  replace BK8 := bs_ hc BK8 d15_
  replace HB := hs_ hc HB d15_
  replace S := t_ hc S
  clear BK4
  have BK4 := A_ hbox
  clear hbox hc
  refine hK.out _ _ ⟨BK7.out, BK8.out⟩ (fun hHeld => ?_)
  clear hK K
  refine one_ (i := 3) (N := none) (bm_ 5 15) rfl rfl (by kernel_rfl) (by decide) (fun K hK => ?_)
  refine store_struct_step (by rfl) rfl 38 (.tmp 5) (.tmp 34) rfl (cs := #[.int .i64 q0, .int .i64 q1]) (by rfl) (by rfl) BK5.out (by kernel_rfl) rfl d27_ ?_
  intro w' hbox hc
  replace BK2 := bs_ hc BK2 d15_
  replace BK3 := bs_ hc BK3 d15_
  replace BK4 := bs_ hc BK4 d15_
  replace Mc := rs_ hc Mc d15_
  replace BK7 := bs_ hc BK7 d15_
  replace BK8 := bs_ hc BK8 d15_
  replace HB := hs_ hc HB d15_
  replace S := t_ hc S
  clear BK5
  have BK5 := A_ hbox
  clear hbox hc
  refine hK.out _ _ ⟨BK7.out, BK8.out⟩ (fun hHeld => ?_)
  clear hK K
  refine pure_ (i := 4) (N := some 6) (v := ?_) (a' := ?_) (bm_ 5 31) rfl rfl (by kernel_rfl) (fun _ _ _ h => h) (Or.inl ⟨by rfl, ?_⟩) ?_ ?_
  rotate_left
  · intro w'
    go_simp
    with_reducible rfl
  rotate_left
  · simp only [Act.put, List.setIfInBounds_toArray, List.set_cons_zero, List.set_cons_succ, i64_w, i32_w]
    rfl
  refine done_ (by kernel_rfl) ?_
  go_wp2
  refine bodyPost_ret (results_list (rs := [.cell 4 28, .cell 5 38, .tmp 6]) rfl (by simp) (.cell g4 28 #[.slice Ac_0 lc_0.length cc_0, .slice Ac_1 lc_1.length cc_1, .bool bc_2, .bool bc_3, .bool bc_4, .bool bc_5, .slice Ac_6 lc_6.length cc_6, .slice Ac_7 lc_7.length cc_7, .int .i64 bc_8] (0, 0) _ rfl BK4.out Try.underlying28 rfl (by kernel_rfl) (.cell g5 38 #[.int .i64 q0, .int .i64 q1] (0, 0) _ rfl BK5.out Try.underlying38 rfl (by kernel_rfl) (.tmp .nil)))) rfl ?_
  obtain ⟨k0_, k1_, k6_, k7_⟩ := R4_back (w := w) Mc.out d15_
  exact ⟨_, _, _, _, rfl, k0_, k1_, k6_, k7_, HB.out⟩
theorem impl_PlaceOf.calls (k : Nat) (A0_0 : Option Addr) (c0_0 : Nat) (l0_0 : List Int) (A0_1 : Option Addr) (c0_1 : Nat) (l0_1 : List Int) (a0_2 : Bool) (a0_3 : Bool) (a0_4 : Bool) (a0_5 : Bool) (A0_6 : Option Addr) (c0_6 : Nat) (l0_6 : List Int) (A0_7 : Option Addr) (c0_7 : Nat) (l0_7 : List Int) (a0_8 : Int) (a1_0 : Int) (a1_1 : Int) (a1_2 : Int) (r1 : List Int) (r2 : List Int) (r3 : Bool) (r4 : Bool) (r5 : Bool) (r6 : Bool) (r7 : List Int) (r8 : List Int) (r9 : Int) (r10 : Int) (r11 : Int) (r12 : Bool) (w : World) (hr0_0 : Kd.C (Kd.int .i64) w A0_0 l0_0.length l0_0) (hc0_0 : l0_0.length ≤ c0_0) (hr0_1 : Kd.C (Kd.int .i64) w A0_1 l0_1.length l0_1) (hc0_1 : l0_1.length ≤ c0_1) (hr0_6 : Kd.C (Kd.int .i64) w A0_6 l0_6.length l0_6) (hc0_6 : l0_6.length ≤ c0_6) (hr0_7 : Kd.C (Kd.int .i64) w A0_7 l0_7.length l0_7) (hc0_7 : l0_7.length ≤ c0_7) (h : impl_PlaceOf.f k l0_0 l0_1 a0_2 a0_3 a0_4 a0_5 l0_6 l0_7 a0_8 a1_0 a1_1 a1_2 = some (r1, r2, r3, r4, r5, r6, r7, r8, r9, r10, r11, r12)) :
  Calls Try.prog 46 #[.agg #[.slice A0_0 l0_0.length c0_0, .slice A0_1 l0_1.length c0_1, .bool a0_2, .bool a0_3, .bool a0_4, .bool a0_5, .slice A0_6 l0_6.length c0_6, .slice A0_7 l0_7.length c0_7, .int .i64 a0_8], .agg #[.int .i64 a1_0, .int .i64 a1_1, .int .i64 a1_2]] w fun e w' => ∃ v0_ v1_ v6_ v7_ : Value, e = .returned (.tuple #[.agg #[v0_, v1_, .bool r3, .bool r4, .bool r5, .bool r6, v6_, v7_, .int .i64 r9], .agg #[.int .i64 r10, .int .i64 r11], .bool r12]) ∧ Kd.R (Kd.int .i64) 3 w' w.heap.size (fun k_ => some k_ ≠ (v1_ : Value).ownBlock ∧ some k_ ≠ (v6_ : Value).ownBlock ∧ some k_ ≠ (v7_ : Value).ownBlock) v0_ r1 ∧ Kd.R (Kd.int .i64) 3 w' w.heap.size (fun k_ => some k_ ≠ (v0_ : Value).ownBlock ∧ some k_ ≠ (v6_ : Value).ownBlock ∧ some k_ ≠ (v7_ : Value).ownBlock) v1_ r2 ∧ Kd.R (Kd.int .i64) 3 w' w.heap.size (fun k_ => some k_ ≠ (v0_ : Value).ownBlock ∧ some k_ ≠ (v1_ : Value).ownBlock ∧ some k_ ≠ (v7_ : Value).ownBlock) v6_ r7 ∧ Kd.R (Kd.int .i64) 3 w' w.heap.size (fun k_ => some k_ ≠ (v0_ : Value).ownBlock ∧ some k_ ≠ (v1_ : Value).ownBlock ∧ some k_ ≠ (v6_ : Value).ownBlock) v7_ r8 ∧ Below w.heap.size w w' := by
 rw [impl_PlaceOf.f] at h
 obtain ⟨a, hA, h⟩ := Option.bind_eq_some_iff.mp h
 cases a
 · rw [if_neg (by decide)] at h
   obtain ⟨⟨lc_0, lc_1, bc_2, bc_3, bc_4, bc_5, lc_6, lc_7, bc_8⟩, hC, h⟩ := Option.bind_eq_some_iff.mp h
   dsimp only at h
   simp only [Option.some.injEq, Prod.mk.injEq] at h
   obtain ⟨rfl, rfl, rfl, rfl, rfl, rfl, rfl, rfl, rfl, rfl, rfl, rfl⟩ := h
   exact impl_PlaceOf.pbad1 k A0_0 c0_0 l0_0 A0_1 c0_1 l0_1 a0_2 a0_3 a0_4 a0_5 A0_6 c0_6 l0_6 A0_7 c0_7 l0_7 a0_8 a1_0 a1_1 a1_2 lc_0 lc_1 bc_2 bc_3 bc_4 bc_5 lc_6 lc_7 bc_8 w hr0_0 hc0_0 hr0_1 hc0_1 hr0_6 hc0_6 hr0_7 hc0_7 hA hC
 · rw [if_pos rfl] at h
   obtain ⟨b, hB, h⟩ := Option.bind_eq_some_iff.mp h
   cases b
   · rw [if_neg (by decide)] at h
     obtain ⟨⟨lc_0, lc_1, bc_2, bc_3, bc_4, bc_5, lc_6, lc_7, bc_8⟩, hC, h⟩ := Option.bind_eq_some_iff.mp h
     dsimp only at h
     simp only [Option.some.injEq, Prod.mk.injEq] at h
     obtain ⟨rfl, rfl, rfl, rfl, rfl, rfl, rfl, rfl, rfl, rfl, rfl, rfl⟩ := h
     exact impl_PlaceOf.pbad2 k A0_0 c0_0 l0_0 A0_1 c0_1 l0_1 a0_2 a0_3 a0_4 a0_5 A0_6 c0_6 l0_6 A0_7 c0_7 l0_7 a0_8 a1_0 a1_1 a1_2 lc_0 lc_1 bc_2 bc_3 bc_4 bc_5 lc_6 lc_7 bc_8 w hr0_0 hc0_0 hr0_1 hc0_1 hr0_6 hc0_6 hr0_7 hc0_7 hA hB hC
   · rw [if_pos rfl] at h
     obtain ⟨⟨lc_0, lc_1, bc_2, bc_3, bc_4, bc_5, lc_6, lc_7, bc_8⟩, hC, h⟩ := Option.bind_eq_some_iff.mp h
     dsimp only at h
     by_cases hg : lc_1.length = 8 ∧ 0 ≤ a1_0 ∧ a1_0 < 8 ∧ 0 ≤ a1_1 ∧ a1_1 < 8
     · rw [if_pos hg] at h
       obtain ⟨⟨q0, q1, q2, q3⟩, hP, h⟩ := Option.bind_eq_some_iff.mp h
       dsimp only at h
       cases q2
       · rw [if_neg (by decide)] at h
         obtain ⟨⟨ld_0, ld_1, bd_2, bd_3, bd_4, bd_5, ld_6, ld_7, bd_8⟩, hD, h⟩ := Option.bind_eq_some_iff.mp h
         dsimp only at h
         have e_ := Option.some.inj (hC.symm.trans hD)
         simp only [Prod.mk.injEq] at e_
         obtain ⟨rfl, rfl, rfl, rfl, rfl, rfl, rfl, rfl, rfl⟩ := e_
         simp only [Option.some.injEq, Prod.mk.injEq] at h
         obtain ⟨rfl, rfl, rfl, rfl, rfl, rfl, rfl, rfl, rfl, rfl, rfl, rfl⟩ := h
         exact impl_PlaceOf.pno k A0_0 c0_0 l0_0 A0_1 c0_1 l0_1 a0_2 a0_3 a0_4 a0_5 A0_6 c0_6 l0_6 A0_7 c0_7 l0_7 a0_8 a1_0 a1_1 a1_2 lc_0 lc_1 bc_2 bc_3 bc_4 bc_5 lc_6 lc_7 bc_8 q0 q1 q3 w hr0_0 hc0_0 hr0_1 hc0_1 hr0_6 hc0_6 hr0_7 hc0_7 hA hB hC hg.1 hg.2.1 hg.2.2.1 hg.2.2.2.1 hg.2.2.2.2 hP
       · rw [if_pos rfl] at h
         simp only [Option.some.injEq, Prod.mk.injEq] at h
         obtain ⟨rfl, rfl, rfl, rfl, rfl, rfl, rfl, rfl, rfl, rfl, rfl, rfl⟩ := h
         exact impl_PlaceOf.pyes k A0_0 c0_0 l0_0 A0_1 c0_1 l0_1 a0_2 a0_3 a0_4 a0_5 A0_6 c0_6 l0_6 A0_7 c0_7 l0_7 a0_8 a1_0 a1_1 a1_2 lc_0 lc_1 bc_2 bc_3 bc_4 bc_5 lc_6 lc_7 bc_8 q0 q1 q3 w hr0_0 hc0_0 hr0_1 hc0_1 hr0_6 hc0_6 hr0_7 hc0_7 hA hB hC hg.1 hg.2.1 hg.2.2.1 hg.2.2.2.1 hg.2.2.2.2 hP
     · rw [if_neg hg] at h
       exact absurd h (by simp)
theorem impl_PlaceOf.mono : ∀ a0 a1 a2 a3 a4 a5 a6 a7 a8 a9 a10 a11 k, LeO (impl_PlaceOf.f k a0 a1 a2 a3 a4 a5 a6 a7 a8 a9 a10 a11) (impl_PlaceOf.f (k + 1) a0 a1 a2 a3 a4 a5 a6 a7 a8 a9 a10 a11) := by
 intro a0 a1 a2 a3 a4 a5 a6 a7 a8 a9 a10 a11 k
 unfold impl_PlaceOf.f
 repeat' first
   | (with_reducible exact impl_MachOk.mono _ _ _ _ _ _ _ _ _ _)
   | (with_reducible exact LeO.refl _)
   | (with_reducible exact LeO.none _)
   | (with_reducible refine LeO.ite ?_ ?_)
   | (with_reducible refine LeO.bind ?_ (fun _ => ?_))
end

end Go.Proofs.Ytiagbfilffbljaa.PFnStored
