-- Laid by a program of this session; Lean checks every line.
import Derived.Test.YtcpnhlhigpgonaaPFnPutInx17
namespace Go.Proofs.Ytcpnhlhigpgonaa.PFnPutIn
open Go.RowKit Go.Proofs.YtcpnhlhigpgonaaW.PrintWords Go.Proofs.YtcpnhlhigpgonaaW.PrintLast Go.Proofs.YtcpnhlhigpgonaaW.PrintMore Go.Proofs.Ytcpnhlhigpgonaa.Chg
set_option linter.unusedVariables false
set_option linter.unusedSimpArgs false
attribute [local go_sem] max2_int min2_int max_two min_two max_three min_three max_four min_four
def PutTail (k : Nat) (lc : List Int) (s0 t0 : Int) (e0 e1 : Int) (e2 : ByteArray) (le : List S29) (z0 z1 : Int) (z2 : ByteArray) (lz : List S29) : Prop := ∃ s t s' t' : Int, spec_l10Any.f k lc s0 t0 = some (e0, e1, e2, le, s, t) ∧ spec_l10Draw.f k lc s t 1 false = some (z0, z1, z2, lz, s', t')
def DrewPut (k : Nat) (lb : List Int) (e0 e1 : Int) (e2 : ByteArray) (le : List S29) (z0 z1 : Int) (z2 : ByteArray) (lz : List S29) (ll : List S29) : Prop := ∃ (lc : List Int) (s0 t0 s1 t1 s2 t2 s3 t3 x : Int) (p0 p1 : Int) (p2 : ByteArray) (lp : List S29) (q0 q1 : Int) (q2 : ByteArray) (lq : List S29), spec_l1New.f k lb = some (lc, s0, t0) ∧ spec_l10Draw.f k lc s0 t0 2 false = some (p0, p1, p2, lp, s1, t1) ∧ spec_l10Draw.f k lc s1 t1 1 false = some (q0, q1, q2, lq, s2, t2) ∧ spec_l1Below.f lc s2 t2 10 = some (x, s3, t3) ∧ ((x = 0 ∧ ll = [(⟨q0, q1, q2, lq⟩ : S29)] ∧ PutTail k lc s3 t3 e0 e1 e2 le z0 z1 z2 lz) ∨ (x = 1 ∧ ∃ (v0 v1 : Int) (v2 : ByteArray) (lv : List S29) (s4 t4 : Int), spec_l10Any.f k lc s3 t3 = some (v0, v1, v2, lv, s4, t4) ∧ ll = [(⟨v0, v1, v2, lv⟩ : S29), (⟨q0, q1, q2, lq⟩ : S29)] ∧ PutTail k lc s4 t4 e0 e1 e2 le z0 z1 z2 lz) ∨ ((x ≠ 0 ∧ x ≠ 1) ∧ ll = [(⟨p0, p1, p2, lp⟩ : S29), (⟨q0, q1, q2, lq⟩ : S29)] ∧ PutTail k lc s3 t3 e0 e1 e2 le z0 z1 z2 lz))
theorem dput (k : Nat) (Ab : Option Addr) (cb : Nat) (lb : List Int) (e0 e1 : Int) (e2 : ByteArray) (le : List S29) (z0 z1 : Int) (z2 : ByteArray) (lz : List S29) (ll : List S29) (w : World) (hr : Kd.C (Kd.int .u8) w Ab lb.length lb) (hc : lb.length ≤ cb) (h : DrewPut k lb e0 e1 e2 le z0 z1 z2 lz ll) :
    Calls Try.prog 44 #[.slice Ab lb.length cb] w fun e w' => ∃ (Ae : Option Addr) (ce : Nat) (Az : Option Addr) (cz : Nat) (An Av : Option Addr) (cv : Nat), e = .returned (.tuple #[.agg #[.int .i64 e0, .int .i64 e1, .string e2, .slice Ae le.length ce], .agg #[.int .i64 z0, .int .i64 z1, .string z2, .slice Az lz.length cz], .slice An 2 2, .slice Av (ll).length cv]) ∧ le.length ≤ ce ∧ lz.length ≤ cz ∧ (ll).length ≤ cv ∧ Kd.F k29 w' (fun k => w.heap.size ≤ k ∧ k < w'.heap.size) Ae le.length le ∧ Kd.F k29 w' (fun k => w.heap.size ≤ k ∧ k < w'.heap.size) Az lz.length lz ∧ Kd.F Kd.string w' (fun k => w.heap.size ≤ k ∧ k < w'.heap.size) An 2 [(⟨#[97]⟩ : ByteArray), (⟨#[98]⟩ : ByteArray)] ∧ Kd.F k29 w' (fun k => w.heap.size ≤ k ∧ k < w'.heap.size) Av (ll).length ll ∧ Below w.heap.size w w' := by
  obtain ⟨lc, s0, t0, s1, t1, s2, t2, s3, t3, x, p0, p1, p2, lp, q0, q1, q2, lq, hn, h1, h2, h3, h⟩ := h
  rcases h with ⟨rfl, rfl, s, t, s', t', h5, h6⟩ | ⟨rfl, v0, v1, v2, lv, s4, t4, h4, rfl, s, t, s', t', h5, h6⟩ | ⟨hx, rfl, s, t, s', t', h5, h6⟩
  · exact spec_DrawPut.p0 k Ab cb lb lc s0 t0 s1 t1 s2 t2 s3 t3 s t s' t' p0 p1 p2 lp q0 q1 q2 lq e0 e1 e2 le z0 z1 z2 lz w hr hc hn h1 h2 h3 h5 h6
  · exact spec_DrawPut.p1 k Ab cb lb lc s0 t0 s1 t1 s2 t2 s3 t3 s4 t4 s t s' t' p0 p1 p2 lp q0 q1 q2 lq v0 v1 v2 lv e0 e1 e2 le z0 z1 z2 lz w hr hc hn h1 h2 h3 h4 h5 h6
  · exact spec_DrawPut.p2 k Ab cb lb lc s0 t0 s1 t1 s2 t2 s3 t3 s t s' t' x p0 p1 p2 lp q0 q1 q2 lq e0 e1 e2 le z0 z1 z2 lz w hr hc hn h1 h2 h3 h5 h6 hx
def DrewWorth (k : Nat) (lb : List Int) (u0 u1 : Int) (u2 : ByteArray) (lu : List S29) (lx ly : List Int) : Prop := ∃ (lc : List Int) (s0 t0 s1 t1 : Int) (sq tq : Nat → Int) (f0 f1 : Int) (f2 : ByteArray) (lf : List S29) (x1 x2 x3 n1 y1 y2 n2 : Int), spec_l1New.f k lb = some (lc, s0, t0) ∧ spec_l11Flat.f k lc s0 t0 3 = some (f0, f1, f2, lf, s1, t1) ∧ ((spec_l1Once.f lc s1 t1 6 = some (false, sq 0, tq 0) ∧ u0 = f0 ∧ u1 = f1 ∧ u2 = f2 ∧ lu = lf) ∨ (∃ s2 t2 : Int, spec_l1Once.f lc s1 t1 6 = some (true, s2, t2) ∧ spec_l10Any.f k lc s2 t2 = some (u0, u1, u2, lu, sq 0, tq 0))) ∧ lx = [x1, x2, x3].take n1.toNat ∧ ly = [y1, y2].take n2.toNat ∧ spec_l1Word.f lc (sq 0) (tq 0) = some (x1, sq 1, tq 1) ∧ spec_l1Word.f lc (sq 1) (tq 1) = some (x2, sq 2, tq 2) ∧ spec_l1Num.f lc (sq 2) (tq 2) = some (x3, sq 3, tq 3) ∧ spec_l1Int.f lc (sq 3) (tq 3) [3, 3, 3, 1] = some (n1, sq 4, tq 4) ∧ spec_l1Word.f lc (sq 4) (tq 4) = some (y1, sq 5, tq 5) ∧ spec_l1Num.f lc (sq 5) (tq 5) = some (y2, sq 6, tq 6) ∧ spec_l1Int.f lc (sq 6) (tq 6) [2, 2, 2, 1] = some (n2, sq 7, tq 7) ∧ (0 ≤ n1 ∧ n1 ≤ 3) ∧ (0 ≤ n2 ∧ n2 ≤ 2)
theorem dworth (k : Nat) (Ab : Option Addr) (cb : Nat) (lb : List Int) (u0 u1 : Int) (u2 : ByteArray) (lu : List S29) (lx ly : List Int) (w : World) (hr : Kd.C (Kd.int .u8) w Ab lb.length lb) (hc : lb.length ≤ cb) (h : DrewWorth k lb u0 u1 u2 lu lx ly) :
    Calls Try.prog 45 #[.slice Ab lb.length cb] w fun e w' => ∃ (Au : Option Addr) (cu : Nat) (A1 A2 A3 : Option Addr), e = .returned (.tuple #[.agg #[.int .i64 u0, .int .i64 u1, .string u2, .slice Au lu.length cu], .slice A1 lx.length 3, .slice A2 2 2, .slice A3 ly.length 2]) ∧ lu.length ≤ cu ∧ lx.length ≤ 3 ∧ ly.length ≤ 2 ∧ Kd.F k29 w' (fun k => w.heap.size ≤ k ∧ k < w'.heap.size) Au lu.length lu ∧ Kd.F (Kd.int .i64) w' (fun k => w.heap.size ≤ k ∧ k < w'.heap.size) A1 lx.length lx ∧ Kd.F Kd.string w' (fun k => w.heap.size ≤ k ∧ k < w'.heap.size) A2 2 [(⟨#[103]⟩ : ByteArray), (⟨#[104]⟩ : ByteArray)] ∧ Kd.F (Kd.int .i64) w' (fun k => w.heap.size ≤ k ∧ k < w'.heap.size) A3 ly.length ly ∧ Below w.heap.size w w' := by
  obtain ⟨lc, s0, t0, s1, t1, sq, tq, f0, f1, f2, lf, x1, x2, x3, n1, y1, y2, n2, hn, hf, h, rfl, rfl, e1, e2, e3, e4, e5, e6, e7, b1, b2⟩ := h
  have c1 : ([x1, x2, x3].take n1.toNat).length ≤ 3 := by simp; omega
  have c2 : ([y1, y2].take n2.toNat).length ≤ 2 := by simp; omega
  rcases h with ⟨h, rfl, rfl, rfl, rfl⟩ | ⟨s2, t2, h, hv⟩
  · exact (spec_DrawWorth.q0 k Ab cb lb lc s0 t0 s1 t1 sq tq u0 u1 u2 lu x1 x2 x3 n1 y1 y2 n2 w hr hc hn hf h e1 e2 e3 e4 e5 e6 e7 b1 b2).mono (by
    rintro e w' ⟨Au, cu, A1, A2, A3, q1, q2, q3⟩
    exact ⟨Au, cu, A1, A2, A3, q1, q2, c1, c2, q3⟩)
  · exact (spec_DrawWorth.q1 k Ab cb lb lc s0 t0 s1 t1 s2 t2 sq tq f0 f1 f2 lf u0 u1 u2 lu x1 x2 x3 n1 y1 y2 n2 w hr hc hn hf h hv e1 e2 e3 e4 e5 e6 e7 b1 b2).mono (by
    rintro e w' ⟨Au, cu, A1, A2, A3, q1, q2, q3⟩
    exact ⟨Au, cu, A1, A2, A3, q1, q2, c1, c2, q3⟩)
structure LW (V : (Option Addr × Nat) → Nat → Value) (U : Nat → Value) (lq : List S29) (w0 wS : World) (f : Nat → Bool) (s : Nat → Value) (b : Option Addr × Nat) (w : World) : Prop where
  val : ∀ j, j < 35 → s j = if f j = true then V b j else U j
  ch : Ch wS w 0 0
  bel : Below w0.heap.size w0 w
  put : f 5 = true → lq.length ≤ b.2 ∧ Kd.F k29 w (fun k => wS.heap.size ≤ k ∧ k < w.heap.size) b.1 lq.length lq
section
variable {V : (Option Addr × Nat) → Nat → Value} {U : Nat → Value} {lq : List S29} {w0 wS w w' : World} {f : Nat → Bool} {s : Nat → Value} {b b' : Option Addr × Nat} {i : Nat}
theorem LW.val_up (h : LW V U lq w0 wS f s b w) {v : Value} (hv : v = V b' i) (hV : ∀ j, i ≠ j → V b' j = V b j) : ∀ j, j < 35 → us s i v j = if up f i j = true then V b' j else U j := by
  intro j hj
  by_cases e : i = j
  · subst e; simp [us, up, hv]
  · rw [us_ne e, up_ne e, h.val j hj]
    by_cases q : f j = true
    · rw [if_pos q, if_pos q, hV j e]
    · rw [if_neg q, if_neg q]
theorem LW.pure (h : LW V U lq w0 wS f s b w) (h5 : i ≠ 5) : LW V U lq w0 wS (up f i) (us s i (V b i)) b w :=
  ⟨h.val_up rfl (fun _ _ => rfl), h.ch, h.bel, by rw [up_ne h5]; exact h.put⟩
theorem LW.call (h : LW V U lq w0 wS f s b w) (h5 : i ≠ 5) (hb : Below w.heap.size w w') : LW V U lq w0 wS (up f i) (us s i (V b i)) b w' := by
  have hc := Ch.of_below hb
  refine ⟨h.val_up rfl (fun _ _ => rfl), h.ch.trans hc, below_ch h.bel hc (Or.inl (Nat.le_refl _)), fun e => ?_⟩
  rw [up_ne h5] at e
  exact ⟨(h.put e).1, Kd.F_mono (Kd.F_step (h.put e).2 (fun k _ hlt => hc.block k hlt (Or.inr (Nat.zero_le _)))) (fun k hk => ⟨hk.1, Nat.lt_of_lt_of_le hk.2 hc.size⟩)⟩
theorem LW.made (h : LW V U lq w0 wS f s b w) (hV : ∀ j, 5 ≠ j → V b' j = V b j) (hb : Below w.heap.size w w') (hl : lq.length ≤ b'.2) (hF : Kd.F k29 w' (fun k => w.heap.size ≤ k ∧ k < w'.heap.size) b'.1 lq.length lq) : LW V U lq w0 wS (up f 5) (us s 5 (V b' 5)) b' w' := by
  have hc := Ch.of_below hb
  exact ⟨h.val_up rfl hV, h.ch.trans hc, below_ch h.bel hc (Or.inl (Nat.le_refl _)), fun _ => ⟨hl, Kd.F_mono hF (fun k hk => ⟨Nat.le_trans h.ch.size hk.1, hk.2⟩)⟩⟩
theorem LW.of_true (h : LW V U lq w0 wS f s b w) (i : Nat) (hf : f i = true) (hi : i < 35 := by decide) : s i = V b i := (h.val i hi).trans (if_pos hf)
theorem LW.now {α : Type} {d : Kd α} {ok : Nat → Prop} {A : Option Addr} {m : Nat} {xs : List α} (h : LW V U lq w0 wS f s b w) (hF : Aside0 (Kd.F d wS ok A m xs)) : Kd.C d w A m xs := Kd.F_now (Kd.F_step hF.out (fun k _ hlt => h.ch.block k hlt (Or.inr (Nat.zero_le _))))
end
def lV (T7 Te Tz Sn Sl : Value) (fm : (Option Addr × Nat) → Value) (ok : Bool) (n : Int) (P18 x19 : Value) (z : Bool) (b : Option Addr × Nat) : Nat → Value
  | 0 => T7 | 1 => Te | 2 => Tz | 3 => Sn | 4 => Sl | 5 => fm b | 8 => .bool ok | 9 => .bool ok | 13 => .int .i64 n | 14 => .int .i64 n | 18 => P18 | 19 => x19 | 20 => .bool z | 21 => .bool z
  | 22 => cond z undef T7 | 23 => cond z undef (.bool true) | 27 => .int .i64 n | 31 => .int .i64 n | _ => .bool true
def lU : Nat → Value
  | 34 => .bool false | _ => undef
theorem lV_ne {T7 Te Tz Sn Sl : Value} {fm : (Option Addr × Nat) → Value} {ok : Bool} {n : Int} {P18 x19 : Value} {z : Bool} {b b' : Option Addr × Nat} : ∀ j, 5 ≠ j → lV T7 Te Tz Sn Sl fm ok n P18 x19 z b' j = lV T7 Te Tz Sn Sl fm ok n P18 x19 z b j := by
  intro j hj
  unfold lV
  split <;> first | rfl | exact absurd rfl hj
def ns11 (s : Nat → Value) : List (Tmp × Value) := [(53, s 0), (54, s 1), (55, s 2), (56, s 3), (57, s 4), (58, s 5), (59, s 6), (60, s 7), (61, s 8), (62, s 9), (63, s 10), (64, s 11), (65, s 12), (66, s 13), (67, s 14), (68, s 15), (69, s 16), (70, s 17), (71, s 18), (72, s 19), (73, s 20), (74, s 21), (75, s 22), (76, s 23), (77, s 24), (78, s 25), (79, s 26), (80, s 27), (81, s 28), (82, s 29), (83, s 30), (84, s 31), (85, s 32), (86, s 33), (2, s 34)]
theorem offA_ {P : Program} {ops : Array Oper} {Q : Exit → Act → World → Prop} {oi : Oper} {N : Option Tmp} {a : Act} {w : World} {K : Act → World → Prop} (hw : Region.wanted oi (yielded ops a.tmps) = false) (h : K (a.put N undef) w) :
    Aside0 (if Region.wanted oi (yielded ops a.tmps) = true then Oper.wp P oi a w K Q else K (a.put N undef) w) := ⟨off_ hw h⟩
theorem us_self {s : Nat → Value} {v : Value} {i : Nat} : us s i v i = v := if_pos rfl
end Go.Proofs.Ytcpnhlhigpgonaa.PFnPutIn
