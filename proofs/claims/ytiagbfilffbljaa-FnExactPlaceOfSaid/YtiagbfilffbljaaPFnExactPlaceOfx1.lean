-- Laid by a program of this session (a changed copy of the kit's printer); Lean checks every line.
import Derived.Test.YtiagbfilffbljaaPFnExactPlaceOfx0
namespace Go.Proofs.Ytiagbfilffbljaa.PFnExactPlaceOf
open Go.RowKit Go.Proofs.YtiagbfilffbljaaW.PrintWords Go.Proofs.YtiagbfilffbljaaW.PrintLast Go.Proofs.YtiagbfilffbljaaW.PrintMore
attribute [local go_sem] max2_int min2_int max_two min_two max_three min_three max_four min_four   -- for this text's walks alone
set_option linter.unusedVariables false
set_option linter.unusedSimpArgs false

/-! ### laws_szIntS: function 56 -/
def laws_szIntS.f (l0 : List Int) (a1 : Int) : Option (Int) := if (wrap64 (a1 - (l0.length : Int))) < 0 then (some (-1)) else (some (wrap64 (a1 - (l0.length : Int))))
set_option maxHeartbeats 8000000 in
set_option maxRecDepth 100000 in
theorem laws_szIntS.calls (A0 : Option Addr) (c0 : Nat) (l0 : List Int) (a1 : Int) (r : Int) (w : World) (hr0 : Kd.C (Kd.int .i64) w A0 l0.length l0) (hc0 : l0.length ≤ c0) (h : laws_szIntS.f l0 a1 = some r) :
  Calls Try.prog 56 #[.slice A0 l0.length c0, .int .i64 a1] w fun e w' => e = .returned (.int .i64 r) ∧ Drawn0 w w' := by
 have HR0 := A_ hr0
 have HC0 := A_ hc0
 clear hr0 hc0
 have H : (if (wrap64 (a1 - (l0.length : Int))) < 0 then (some (-1)) else (some (wrap64 (a1 - (l0.length : Int))))) = some r := h
 clear h
 by_cases c3 : (wrap64 (a1 - (l0.length : Int))) < 0
 ·rw [if_pos c3] at H
  have c3b0 := decide_eq_true c3
  clear c3
  obtain rfl := Option.some.inj H
  go_enter Try.func56, Try.ntmps56
  go_wp2
  go_ret
  exact ⟨by first | rfl | (simp; done) | (simp [*]; done), by repeat (first | exact Drawn0.refl _ | apply Drawn0.step)⟩
 ·rw [if_neg c3] at H
  have c3b0 := decide_eq_false c3
  clear c3
  obtain rfl := Option.some.inj H
  go_enter Try.func56, Try.ntmps56
  go_wp2
  go_ret
  exact ⟨by first | rfl | (simp; done) | (simp [*]; done), by repeat (first | exact Drawn0.refl _ | apply Drawn0.step)⟩

/-! ### laws_szMach: function 15 -/
def laws_szMach.f (l0_0 : List Int) (l0_1 : List Int) (a0_2 : Bool) (a0_3 : Bool) (a0_4 : Bool) (a0_5 : Bool) (l0_6 : List Int) (l0_7 : List Int) (a0_8 : Int) (a1 : Int) : Option (Int) := (laws_szIntS.f l0_0 a1).bind fun t102 => (if t102 < 0 then (some (-1)) else ((laws_szIntS.f l0_1 t102).bind fun t103 => (if t103 < 0 then (some (-1)) else ((laws_szIntS.f l0_6 t103).bind fun t104 => (if t104 < 0 then (some (-1)) else ((laws_szIntS.f l0_7 t104).bind fun t105 => (if t105 < 0 then (some (-1)) else (some t105))))))))
set_option maxHeartbeats 8000000 in
set_option maxRecDepth 100000 in
theorem laws_szMach.calls (A0_0 : Option Addr) (c0_0 : Nat) (l0_0 : List Int) (A0_1 : Option Addr) (c0_1 : Nat) (l0_1 : List Int) (a0_2 : Bool) (a0_3 : Bool) (a0_4 : Bool) (a0_5 : Bool) (A0_6 : Option Addr) (c0_6 : Nat) (l0_6 : List Int) (A0_7 : Option Addr) (c0_7 : Nat) (l0_7 : List Int) (a0_8 : Int) (a1 : Int) (r : Int) (w : World) (hr0_0 : Kd.C (Kd.int .i64) w A0_0 l0_0.length l0_0) (hc0_0 : l0_0.length ≤ c0_0) (hr0_1 : Kd.C (Kd.int .i64) w A0_1 l0_1.length l0_1) (hc0_1 : l0_1.length ≤ c0_1) (hr0_6 : Kd.C (Kd.int .i64) w A0_6 l0_6.length l0_6) (hc0_6 : l0_6.length ≤ c0_6) (hr0_7 : Kd.C (Kd.int .i64) w A0_7 l0_7.length l0_7) (hc0_7 : l0_7.length ≤ c0_7) (h : laws_szMach.f l0_0 l0_1 a0_2 a0_3 a0_4 a0_5 l0_6 l0_7 a0_8 a1 = some r) :
  Calls Try.prog 15 #[.agg #[.slice A0_0 l0_0.length c0_0, .slice A0_1 l0_1.length c0_1, .bool a0_2, .bool a0_3, .bool a0_4, .bool a0_5, .slice A0_6 l0_6.length c0_6, .slice A0_7 l0_7.length c0_7, .int .i64 a0_8], .int .i64 a1] w fun e w' => e = .returned (.int .i64 r) ∧ Below w.heap.size w w' := by
 have hu24 := Try.underlying24
 have HR0_0 := A_ hr0_0
 have HC0_0 := A_ hc0_0
 clear hr0_0 hc0_0
 have HR0_1 := A_ hr0_1
 have HC0_1 := A_ hc0_1
 clear hr0_1 hc0_1
 have HR0_6 := A_ hr0_6
 have HC0_6 := A_ hc0_6
 clear hr0_6 hc0_6
 have HR0_7 := A_ hr0_7
 have HC0_7 := A_ hc0_7
 clear hr0_7 hc0_7
 have HB := A_ (Below.refl w.heap.size w)
 have H : ((laws_szIntS.f l0_0 a1).bind fun t102 => (if t102 < 0 then (some (-1)) else ((laws_szIntS.f l0_1 t102).bind fun t103 => (if t103 < 0 then (some (-1)) else ((laws_szIntS.f l0_6 t103).bind fun t104 => (if t104 < 0 then (some (-1)) else ((laws_szIntS.f l0_7 t104).bind fun t105 => (if t105 < 0 then (some (-1)) else (some t105))))))))) = some r := h
 clear h
 replace H := Option.bind_eq_some_iff.mp H
 obtain ⟨t102, A30, H⟩ := H
 try dsimp only at H
 have A3 := A_ A30
 clear A30
 by_cases c4 : t102 < 0
 rw [if_pos c4] at H
 have c4b0 := decide_eq_true c4
 clear c4
 obtain rfl := Option.some.inj H
 rotate_left
 rw [if_neg c4] at H
 have c4b0 := decide_eq_false c4
 clear c4
 replace H := Option.bind_eq_some_iff.mp H
 obtain ⟨t103, A70, H⟩ := H
 try dsimp only at H
 have A7 := A_ A70
 clear A70
 by_cases c8 : t103 < 0
 rw [if_pos c8] at H
 have c8b0 := decide_eq_true c8
 clear c8
 obtain rfl := Option.some.inj H
 rotate_left
 rw [if_neg c8] at H
 have c8b0 := decide_eq_false c8
 clear c8
 replace H := Option.bind_eq_some_iff.mp H
 obtain ⟨t104, A110, H⟩ := H
 try dsimp only at H
 have A11 := A_ A110
 clear A110
 by_cases c12 : t104 < 0
 rw [if_pos c12] at H
 have c12b0 := decide_eq_true c12
 clear c12
 obtain rfl := Option.some.inj H
 rotate_left
 rw [if_neg c12] at H
 have c12b0 := decide_eq_false c12
 clear c12
 replace H := Option.bind_eq_some_iff.mp H
 obtain ⟨t105, A150, H⟩ := H
 try dsimp only at H
 have A15 := A_ A150
 clear A150
 by_cases c16 : t105 < 0
 rw [if_pos c16] at H
 have c16b0 := decide_eq_true c16
 clear c16
 obtain rfl := Option.some.inj H
 rotate_left
 rw [if_neg c16] at H
 have c16b0 := decide_eq_false c16
 clear c16
 obtain rfl := Option.some.inj H
 rotate_left
 all_goals go_enter Try.func15, Try.ntmps15
 all_goals go_wp2_with (first | ((with_reducible refine gate_dst (N := 2) rfl ?_); refine bx_ 2 #[.slice A0_0 l0_0.length c0_0, .slice A0_1 l0_1.length c0_1, .bool a0_2, .bool a0_3, .bool a0_4, .bool a0_5, .slice A0_6 l0_6.length c0_6, .slice A0_7 l0_7.length c0_7, .int .i64 a0_8] 24 ?_; intro gb101 hg w5 hbox hb; have n0_ := A_ (below_step (bw_ HB.out) hb); have n1_ := A_ (hbox); have n2_ := A_ ((d0_ : w.heap.size ≤ gb101)); have n3_ := n2_; clear HB; have HB := n0_; have BK101 := n1_; have GW101 := n2_; have GE101 := n3_; have GI101 := GeI.mk GE101.out; clear n0_ n1_ n2_ n3_; clear hb hbox hg; obtain ⟨y6_0, y6_1, y6_2, y6_3, y6_4, y6_5, y6_6, y6_7, y6_8, z6_0, z6_1, z6_2, z6_3, z6_4, z6_5, z6_6, z6_7, z6_8⟩ := cz9_ BK101.out) | ((with_reducible refine gate_callee (f := 56) rfl ?_); refine gL_ (some 8) Try.func56 #[.slice A0_0 l0_0.length c0_0, .int .i64 a1] ?_; (with_reducible refine (laws_szIntS.calls _ _ l0_0 a1 t102 _ ?side1 ?side2 A3.out).mono ?_); (case side1 => repeat (first | exact (Kd.C_below HR0_0.out HB.out) | (with_reducible refine Kd.C_alloc ?_ _) | (with_reducible refine Kd.C_drewN ?_ _) | (with_reducible refine Kd.C_drew ?_))); (case side2 => exact HC0_0.out); rintro e w' ⟨rfl, ⟨nd, rfl⟩⟩; refine ⟨_, rfl, ?_⟩) | ((with_reducible refine gate_callee (f := 56) rfl ?_); refine gL_ (some 14) Try.func56 #[.slice A0_1 l0_1.length c0_1, .int .i64 t102] ?_; (with_reducible refine (laws_szIntS.calls _ _ l0_1 t102 t103 _ ?side1 ?side2 A7.out).mono ?_); (case side1 => repeat (first | exact (Kd.C_below HR0_1.out (bw_ HB.out)) | (with_reducible refine Kd.C_alloc ?_ _) | (with_reducible refine Kd.C_drewN ?_ _) | (with_reducible refine Kd.C_drew ?_))); (case side2 => exact HC0_1.out); rintro e w' ⟨rfl, ⟨nd, rfl⟩⟩; refine ⟨_, rfl, ?_⟩) | ((with_reducible refine gate_callee (f := 56) rfl ?_); refine gL_ (some 20) Try.func56 #[.slice A0_6 l0_6.length c0_6, .int .i64 t103] ?_; (with_reducible refine (laws_szIntS.calls _ _ l0_6 t103 t104 _ ?side1 ?side2 A11.out).mono ?_); (case side1 => repeat (first | exact (Kd.C_below HR0_6.out (bw_ HB.out)) | (with_reducible refine Kd.C_alloc ?_ _) | (with_reducible refine Kd.C_drewN ?_ _) | (with_reducible refine Kd.C_drew ?_))); (case side2 => exact HC0_6.out); rintro e w' ⟨rfl, ⟨nd, rfl⟩⟩; refine ⟨_, rfl, ?_⟩) | ((with_reducible refine gate_callee (f := 56) rfl ?_); refine gL_ (some 26) Try.func56 #[.slice A0_7 l0_7.length c0_7, .int .i64 t104] ?_; (with_reducible refine (laws_szIntS.calls _ _ l0_7 t104 t105 _ ?side1 ?side2 A15.out).mono ?_); (case side1 => repeat (first | exact (Kd.C_below HR0_7.out (bw_ HB.out)) | (with_reducible refine Kd.C_alloc ?_ _) | (with_reducible refine Kd.C_drewN ?_ _) | (with_reducible refine Kd.C_drew ?_))); (case side2 => exact HC0_7.out); rintro e w' ⟨rfl, ⟨nd, rfl⟩⟩; refine ⟨_, rfl, ?_⟩))
 ·go_ret
  exact rt_ (bw_ HB.out)
 ·go_ret
  exact rt_ (bw_ HB.out)
 ·go_ret
  exact rt_ (bw_ HB.out)
 ·go_ret
  exact rt_ (bw_ HB.out)
 ·go_ret
  exact rt_ (bw_ HB.out)

/-! ### laws_toIntS: function 28 -/
def laws_toIntS.l0 : Nat → List Int → List Int → Int → Option (List Int)
 | 0, _, _, _ => none
 | k + 1, x0, x3, x4 => if x4 < (x0.length : Int) then (if 0 ≤ x4 then (if x4 < (x3.length : Int) then (laws_toIntS.l0 k x0 (x3.set (x4 : Int).toNat (rd x0 x4)) (wrap64 (x4 + 1))) else (none)) else (none)) else (some x3)
def laws_toIntS.f (k : Nat) (l0 : List Int) : Option (List Int) := if 0 ≤ (l0.length : Int) then (if ((l0.length : Int) : Int).toNat ≤ 35184372088832 then (laws_toIntS.l0 k l0 (List.replicate ((l0.length : Int) : Int).toNat 0) 0) else (none)) else (none)
theorem laws_toIntS.mono_l : ∀ k, (∀ y0 y1 y2, LeO (laws_toIntS.l0 k y0 y1 y2) (laws_toIntS.l0 (k + 1) y0 y1 y2))
 | 0 => fun _ _ _ r h => by simp [laws_toIntS.l0] at h
 | k + 1 => by
  have ih0 := laws_toIntS.mono_l k
  ·intro y0 y1 y2
   unfold laws_toIntS.l0
   repeat' first
   | (with_reducible exact ih0 _ _ _)
   | (with_reducible exact LeO.refl _)
   | (with_reducible exact LeO.none _)
   | (with_reducible refine LeO.ite ?_ ?_)
   | (with_reducible refine LeO.bind ?_ (fun _ => ?_))
   | exact ih0 _ _ _
   | exact LeO.none _
   | refine LeO.ite ?_ ?_
   | refine LeO.bind ?_ (fun _ => ?_)
theorem laws_toIntS.mono : ∀ a0 k, LeO (laws_toIntS.f k a0) (laws_toIntS.f (k + 1) a0) := by
 intro a0 k
 have ih0 := laws_toIntS.mono_l k
 unfold laws_toIntS.f
 repeat' first
   | (with_reducible exact ih0 _ _ _)
   | (with_reducible exact LeO.refl _)
   | (with_reducible exact LeO.none _)
   | (with_reducible refine LeO.ite ?_ ?_)
   | (with_reducible refine LeO.bind ?_ (fun _ => ?_))
   | exact ih0 _ _ _
   | exact LeO.none _
   | refine LeO.ite ?_ ?_
   | refine LeO.bind ?_ (fun _ => ?_)
set_option maxHeartbeats 8000000 in
set_option maxRecDepth 100000 in
theorem laws_toIntS.calls (k : Nat) (A0 : Option Addr) (c0 : Nat) (l0 : List Int) (r : List Int) (w : World) (hr0 : Kd.C (Kd.int .i64) w A0 l0.length l0) (hc0 : l0.length ≤ c0) (h : laws_toIntS.f k l0 = some r) :
  Calls Try.prog 28 #[.slice A0 l0.length c0] w fun e w' => ∃ v0_ : Value, e = .returned (v0_) ∧ Kd.R (Kd.int .i64) 3 w' w.heap.size (fun _ => True) v0_ r ∧ Below w.heap.size w w' := by
 have HR0 := A_ hr0
 have HC0 := A_ hc0
 clear hr0 hc0
 have HB := A_ (Below.refl w.heap.size w)
 have H : (if 0 ≤ (l0.length : Int) then (if ((l0.length : Int) : Int).toNat ≤ 35184372088832 then (laws_toIntS.l0 k l0 (List.replicate ((l0.length : Int) : Int).toNat 0) 0) else (none)) else (none)) = some r := h
 clear h
 by_cases c2 : 0 ≤ (l0.length : Int)
 ·rw [if_pos c2] at H
  have c2b0 := eq_true c2
  have c2b1 := decide_eq_true c2
  clear c2
  by_cases c3 : ((l0.length : Int) : Int).toNat ≤ 35184372088832
  ·rw [if_pos c3] at H
   have c3b0 := eq_true c3
   have c3b1 := decide_eq_true c3
   clear c3
   obtain ⟨y106, hy106⟩ : ∃ y_ : List Int, y_ = (List.replicate ((l0.length : Int) : Int).toNat 0) := ⟨_, rfl⟩
   replace H : (laws_toIntS.l0 k l0 y106 0) = some r := by first | (rw [hy106]; with_reducible exact H) | (have H2_ := (Option.bind_some _ _).symm.trans H; rw [hy106]; with_reducible exact H2_) | (have H2_ := (Option.bind_some _ _).symm.trans H; with_reducible exact H2_) | with_reducible exact H | (rw [hy106]; exact H) | exact H
   have Ny106 := A_ hy106
   clear hy106
   have H' := A_ H
   clear H
   go_enter Try.func28, Try.ntmps28
   go_wp2_with (first | ((with_reducible refine gate_dst (N := 7) rfl ?_); refine Kd.R_make (Kd.int .i64) _ 3 rfl (N := 7) rfl 22 _ _ rfl (l0.length : Int) rfl rfl Try.underlying22 (.int .i64 0) 8 info3 rfl (by decide) (by omega) 0 (ok := fun _ => True) (okp := fun _ => True) rfl (fun _ hk => hk) trivial (of_decide_eq_true d1_) (Nat.le_trans (Nat.mul_le_mul_right _ (of_decide_eq_true d1_ : (l0.length : Int).toNat ≤ 35184372088832)) (by omega)) (Below.refl _ _) (Nat.le_refl _) ?_; intro v107 w4 ho5 hb hg_ hnew_; clear hg_ hnew_; (first | rw [← Ny106.out] at ho5 | (simp only [Int.reduceToNat] at ho5; rw [← Ny106.out] at ho5)); have HO108 := A_ (Kd.R_lower ho5 (below_size (bw_ HB.out))); replace HB := A_ (below_step (bw_ HB.out) hb); clear hb ho5))
   go_loopg [4] k (fun kq v4 w' => ∃ (x3_1 : List Int) (x4_1 : Int), v4 = .int .i64 x4_1 ∧ Aside0 (laws_toIntS.l0 kq l0 x3_1 x4_1 = some r) ∧ Aside0 (kq ≤ k) ∧ Aside0 (Kd.R (Kd.int .i64) 3 w' w.heap.size (fun _ => True) v107 x3_1) ∧ Aside0 (Below w.heap.size w w'))
   case atStart => exact ⟨(y106), (0), d2_, H', ⟨Nat.le_refl _⟩, ⟨kr_ HO108.out⟩, ⟨bw_ HB.out⟩⟩
   case round =>
    clear H'
    try clear c2
    try clear c2b0
    try clear c2b1
    try clear p2
    try clear c3
    try clear c3b0
    try clear c3b1
    obtain ⟨x3_1, x4_1, rfl, HA, HK1, HO_3, HB⟩ := hrel
    cases gk with
    | zero => exact absurd HA.out (by simp [laws_toIntS.l0])
    | succ k1 =>
     have H := HA.out
     clear HA
     simp only [laws_toIntS.l0] at H
     by_cases c6 : x4_1 < (l0.length : Int)
     ·rw [if_pos c6] at H
      have c6b0 := decide_eq_true c6
      clear c6
      by_cases c7 : 0 ≤ x4_1
      ·rw [if_pos c7] at H
       have c7b0 := decide_eq_true c7
       clear c7
       by_cases c8 : x4_1 < (x3_1.length : Int)
       ·rw [if_pos c8] at H
        have c8b0 := decide_eq_true c8
        clear c8
        obtain ⟨y110, hy110⟩ : ∃ y_ : List Int, y_ = (x3_1.set (x4_1 : Int).toNat (rd l0 x4_1)) := ⟨_, rfl⟩
        replace H : (laws_toIntS.l0 k1 l0 y110 (wrap64 (x4_1 + 1))) = some r := by first | (rw [hy110]; with_reducible exact H) | (have H2_ := (Option.bind_some _ _).symm.trans H; rw [hy110]; with_reducible exact H2_) | (have H2_ := (Option.bind_some _ _).symm.trans H; with_reducible exact H2_) | with_reducible exact H | (rw [hy110]; exact H) | exact H
        have Ny110 := A_ hy110
        clear hy110
        have H' := A_ H
        clear H
        have p109 : 0 ≤ (x4_1 : Int) := of_decide_eq_true d1_
        have q109 : x4_1 < (l0.length : Int) := of_decide_eq_true d1_
        obtain ⟨ad109, e109, hx109_0⟩ := Kd.at_int HR0.out x4_1 p109 q109
        cases e109
        replace hx109_0 := (HB.out.cell (World.block_lt_of_cell? w _ hx109_0)).trans hx109_0
        replace p109 := eq_true p109
        replace q109 := eq_true q109
        have p9 : 0 ≤ (x4_1 : Int) := of_decide_eq_true d1_
        have q9 : (x4_1 : Int) < ((x3_1.length : Int) : Int) := of_decide_eq_true d1_
        obtain ⟨go9, co9, eo9, gb9, gl9, cl9, HG9⟩ := Kd.R_form HO_3.out (by omega)
        (first | cases eo9 | (injection eo9 with ea_ en_ ec_; (first | subst ea_ | (injection ea_ with ea_; subst ea_)); subst ec_; clear en_))
        have GB9 := A_ gb9
        have GG9 := A_ HG9
        clear gb9 gl9 HG9
        obtain ⟨hx9_0, hf9_0⟩ := Kd.R_celln 0 HO_3.out (x4_1 : Int) p9 q9
        replace p9 := eq_true p9
        replace q9 := eq_true q9
        have HP10 := Kd.R_putg HO_3.out (x4_1 : Int) (rd l0 x4_1)
        go_wp2_with (first | ((with_reducible refine gate_store (t := 3) (p := 20) rfl ?_); refine store_event (t := 3) (p := 20) (v := ?vo_w11) (w1 := (wr.setCell ⟨go9, (x4_1 : Int).toNat, none⟩ (.int .i64 (rd l0 x4_1)))) ?hg ?ho ?hn ?hr ?_; (case ho => rfl); (case hg => rfl); (case hn => rfl); (case hr => first | (go_simp; done) | (go_simp; rfl)); intro w11 hw; have hg : wr.grownBy w11 (some go9) := (by rw [hw]; exact HP10.2); have hp_ : Kd.R (Kd.int .i64) 3 w11 w.heap.size (fun _ => True) (.slice (some ⟨go9, 0, none⟩) x3_1.length co9) y110 := (by rw [hw, Ny110.out]; exact HP10.1); clear HP10; replace HO_3 := A_ (hp_); replace HB := A_ ((by rw [hw]; exact below_set (HB.out) GB9.out : Below w.heap.size w w11)); clear hg hw hp_))
        go_roundg k1
        case measure => have := HK1.out; omega
        case rel => exact ⟨(y110), (wrap64 (x4_1 + 1)), d2_, H', ⟨by have := HK1.out; omega⟩, ⟨kr_ HO_3.out⟩, ⟨bw_ HB.out⟩⟩
       ·rw [if_neg c8] at H
        exact absurd H (by simp)
      ·rw [if_neg c7] at H
       exact absurd H (by simp)
     ·rw [if_neg c6] at H
      have c6b0 := decide_eq_false c6
      clear c6
      obtain rfl := Option.some.inj H
      go_wp2
      go_ret
      exact ⟨_, by first | rfl | (simp [errW_none, errW_some] <;> rfl) | (simp [*, errW_none, errW_some] <;> rfl), kr_ HO_3.out, bw_ HB.out⟩
  ·rw [if_neg c3] at H
   exact absurd H (by simp)
 ·rw [if_neg c2] at H
  exact absurd H (by simp)

/-! ### laws_toMach: function 17 -/
def laws_toMach.f (k : Nat) (l0_0 : List Int) (l0_1 : List Int) (a0_2 : Bool) (a0_3 : Bool) (a0_4 : Bool) (a0_5 : Bool) (l0_6 : List Int) (l0_7 : List Int) (a0_8 : Int) : Option (List Int × List Int × Bool × Bool × Bool × Bool × List Int × List Int × Int) := (laws_toIntS.f k l0_0).bind fun t114 => ((laws_toIntS.f k l0_1).bind fun t117 => ((laws_toIntS.f k l0_6).bind fun t120 => ((laws_toIntS.f k l0_7).bind fun t123 => (some (t114, t117, a0_2, a0_3, a0_4, a0_5, t120, t123, a0_8)))))
theorem laws_toMach.mono : ∀ a0 a1 a2 a3 a4 a5 a6 a7 a8 k, LeO (laws_toMach.f k a0 a1 a2 a3 a4 a5 a6 a7 a8) (laws_toMach.f (k + 1) a0 a1 a2 a3 a4 a5 a6 a7 a8) := by
 intro a0 a1 a2 a3 a4 a5 a6 a7 a8 k
 unfold laws_toMach.f
 repeat' first
   | (with_reducible exact laws_toIntS.mono _ _)
   | (with_reducible exact LeO.refl _)
   | (with_reducible exact LeO.none _)
   | (with_reducible refine LeO.ite ?_ ?_)
   | (with_reducible refine LeO.bind ?_ (fun _ => ?_))
   | exact laws_toIntS.mono _ _
   | exact LeO.none _
   | refine LeO.ite ?_ ?_
   | refine LeO.bind ?_ (fun _ => ?_)
set_option maxHeartbeats 8000000 in
set_option maxRecDepth 100000 in
theorem laws_toMach.calls (k : Nat) (A0_0 : Option Addr) (c0_0 : Nat) (l0_0 : List Int) (A0_1 : Option Addr) (c0_1 : Nat) (l0_1 : List Int) (a0_2 : Bool) (a0_3 : Bool) (a0_4 : Bool) (a0_5 : Bool) (A0_6 : Option Addr) (c0_6 : Nat) (l0_6 : List Int) (A0_7 : Option Addr) (c0_7 : Nat) (l0_7 : List Int) (a0_8 : Int) (r1 : List Int) (r2 : List Int) (r3 : Bool) (r4 : Bool) (r5 : Bool) (r6 : Bool) (r7 : List Int) (r8 : List Int) (r9 : Int) (w : World) (hr0_0 : Kd.C (Kd.int .i64) w A0_0 l0_0.length l0_0) (hc0_0 : l0_0.length ≤ c0_0) (hr0_1 : Kd.C (Kd.int .i64) w A0_1 l0_1.length l0_1) (hc0_1 : l0_1.length ≤ c0_1) (hr0_6 : Kd.C (Kd.int .i64) w A0_6 l0_6.length l0_6) (hc0_6 : l0_6.length ≤ c0_6) (hr0_7 : Kd.C (Kd.int .i64) w A0_7 l0_7.length l0_7) (hc0_7 : l0_7.length ≤ c0_7) (h : laws_toMach.f k l0_0 l0_1 a0_2 a0_3 a0_4 a0_5 l0_6 l0_7 a0_8 = some (r1, r2, r3, r4, r5, r6, r7, r8, r9)) :
  Calls Try.prog 17 #[.agg #[.slice A0_0 l0_0.length c0_0, .slice A0_1 l0_1.length c0_1, .bool a0_2, .bool a0_3, .bool a0_4, .bool a0_5, .slice A0_6 l0_6.length c0_6, .slice A0_7 l0_7.length c0_7, .int .i64 a0_8]] w fun e w' => ∃ v0_ v1_ v6_ v7_ : Value, e = .returned (.agg #[v0_, v1_, .bool r3, .bool r4, .bool r5, .bool r6, v6_, v7_, .int .i64 r9]) ∧ Kd.R (Kd.int .i64) 3 w' w.heap.size (fun k_ => some k_ ≠ (v1_ : Value).ownBlock ∧ some k_ ≠ (v6_ : Value).ownBlock ∧ some k_ ≠ (v7_ : Value).ownBlock) v0_ r1 ∧ Kd.R (Kd.int .i64) 3 w' w.heap.size (fun k_ => some k_ ≠ (v0_ : Value).ownBlock ∧ some k_ ≠ (v6_ : Value).ownBlock ∧ some k_ ≠ (v7_ : Value).ownBlock) v1_ r2 ∧ Kd.R (Kd.int .i64) 3 w' w.heap.size (fun k_ => some k_ ≠ (v0_ : Value).ownBlock ∧ some k_ ≠ (v1_ : Value).ownBlock ∧ some k_ ≠ (v7_ : Value).ownBlock) v6_ r7 ∧ Kd.R (Kd.int .i64) 3 w' w.heap.size (fun k_ => some k_ ≠ (v0_ : Value).ownBlock ∧ some k_ ≠ (v1_ : Value).ownBlock ∧ some k_ ≠ (v6_ : Value).ownBlock) v7_ r8 ∧ Below w.heap.size w w' := by
 have hu24 := Try.underlying24
 have hu28 := Try.underlying28
 have HR0_0 := A_ hr0_0
 have HC0_0 := A_ hc0_0
 clear hr0_0 hc0_0
 have HR0_1 := A_ hr0_1
 have HC0_1 := A_ hc0_1
 clear hr0_1 hc0_1
 have HR0_6 := A_ hr0_6
 have HC0_6 := A_ hc0_6
 clear hr0_6 hc0_6
 have HR0_7 := A_ hr0_7
 have HC0_7 := A_ hc0_7
 clear hr0_7 hc0_7
 have HB := A_ (Below.refl w.heap.size w)
 have H : ((laws_toIntS.f k l0_0).bind fun t114 => ((laws_toIntS.f k l0_1).bind fun t117 => ((laws_toIntS.f k l0_6).bind fun t120 => ((laws_toIntS.f k l0_7).bind fun t123 => (some (t114, t117, a0_2, a0_3, a0_4, a0_5, t120, t123, a0_8)))))) = some (r1, r2, r3, r4, r5, r6, r7, r8, r9) := h
 clear h
 replace H := Option.bind_eq_some_iff.mp H
 obtain ⟨t114, A20, H⟩ := H
 try dsimp only at H
 have A2 := A_ A20
 clear A20
 replace H := Option.bind_eq_some_iff.mp H
 obtain ⟨t117, A30, H⟩ := H
 try dsimp only at H
 have A3 := A_ A30
 clear A30
 replace H := Option.bind_eq_some_iff.mp H
 obtain ⟨t120, A40, H⟩ := H
 try dsimp only at H
 have A4 := A_ A40
 clear A40
 replace H := Option.bind_eq_some_iff.mp H
 obtain ⟨t123, A50, H⟩ := H
 try dsimp only at H
 have A5 := A_ A50
 clear A50
 simp only [Option.some.injEq, Prod.mk.injEq] at H
 obtain ⟨rfl, rfl, rfl, rfl, rfl, rfl, rfl, rfl, rfl⟩ := H
 go_enter Try.func17, Try.ntmps17
 go_wp2_with (first | ((with_reducible refine gate_dst (N := 1) rfl ?_); refine bx_ 1 #[.slice A0_0 l0_0.length c0_0, .slice A0_1 l0_1.length c0_1, .bool a0_2, .bool a0_3, .bool a0_4, .bool a0_5, .slice A0_6 l0_6.length c0_6, .slice A0_7 l0_7.length c0_7, .int .i64 a0_8] 24 ?_; intro gb111 hg w6 hbox hb; have n0_ := A_ (below_step (bw_ HB.out) hb); have n1_ := A_ (hbox); have n2_ := A_ ((d0_ : w.heap.size ≤ gb111)); have n3_ := n2_; clear HB; have HB := n0_; have BK111 := n1_; have GW111 := n2_; have GE111 := n3_; have GI111 := GeI.mk GE111.out; clear n0_ n1_ n2_ n3_; clear hb hbox hg) | ((with_reducible refine gate_dst (N := 2) rfl ?_); refine bx_ 2 #[.slice none 0 0, .slice none 0 0, .bool false, .bool false, .bool false, .bool false, .slice none 0 0, .slice none 0 0, .int .i64 0] 28 ?_; intro gb112 hg w7 hbox hb; have n0_ := A_ (blk_below (bk_ BK111.out) hb); have n1_ := A_ (below_step (bw_ HB.out) hb); have n2_ := A_ (hbox); have n3_ := A_ ((d0_ : w.heap.size ≤ gb112)); have n4_ := n3_; have n5_ := A_ ((by rw [hg]; exact Nat.ne_of_lt (blk_lt (bk_ BK111.out)) : gb111 ≠ gb112)); have n6_ := A_ n5_.out.symm; clear BK111; clear HB; have BK111 := n0_; have HB := n1_; have BK112 := n2_; have GW112 := n3_; have GE112 := n4_; have GI112 := GeI.mk GE112.out; have NB111_112 := n5_; have NB112_111 := n6_; clear n0_ n1_ n2_ n3_ n4_ n5_ n6_; clear hb hbox hg) | ((with_reducible refine gate_dst (N := 3) rfl ?_); refine bx_ 3 #[.slice none 0 0, .slice none 0 0, .bool false, .bool false, .bool false, .bool false, .slice none 0 0, .slice none 0 0, .int .i64 0] 28 ?_; intro gb113 hg w8 hbox hb; have n0_ := A_ (blk_below (bk_ BK111.out) hb); have n1_ := A_ (blk_below (bk_ BK112.out) hb); have n2_ := A_ (below_step (bw_ HB.out) hb); have n3_ := A_ (hbox); have n4_ := A_ ((d0_ : w.heap.size ≤ gb113)); have n5_ := n4_; have n6_ := A_ ((by rw [hg]; exact Nat.ne_of_lt (blk_lt (bk_ BK111.out)) : gb111 ≠ gb113)); have n7_ := A_ n6_.out.symm; have n8_ := A_ ((by rw [hg]; exact Nat.ne_of_lt (blk_lt (bk_ BK112.out)) : gb112 ≠ gb113)); have n9_ := A_ n8_.out.symm; clear BK111; clear BK112; clear HB; have BK111 := n0_; have BK112 := n1_; have HB := n2_; have BK113 := n3_; have GW113 := n4_; have GE113 := n5_; have GI113 := GeI.mk GE113.out; have NB111_113 := n6_; have NB113_111 := n7_; have NB112_113 := n8_; have NB113_112 := n9_; clear n0_ n1_ n2_ n3_ n4_ n5_ n6_ n7_ n8_ n9_; clear hb hbox hg; have hnb9 := NB111_112.out; have hnc9 := NB112_111.out; have hnb10 := NB111_113.out; have hnc10 := NB113_111.out; obtain ⟨y11_0, y11_1, y11_2, y11_3, y11_4, y11_5, y11_6, y11_7, y11_8, z11_0, z11_1, z11_2, z11_3, z11_4, z11_5, z11_6, z11_7, z11_8⟩ := cz9_ BK111.out) | ((with_reducible refine gate_callee (f := 28) rfl ?_); refine gL_ (some 6) Try.func28 #[.slice A0_0 l0_0.length c0_0] ?_; (with_reducible refine (laws_toIntS.calls k _ _ l0_0 t114 _ ?side1 ?side2 A2.out).mono ?_); (case side1 => repeat (first | exact (Kd.C_below HR0_0.out HB.out) | (with_reducible refine Kd.C_alloc ?_ _) | (with_reducible refine Kd.C_drewN ?_ _) | (with_reducible refine Kd.C_drew ?_))); (case side2 => exact HC0_0.out); rintro e w12 ⟨v115, rfl, ho0, hb⟩; refine ⟨_, rfl, ?_⟩; have HO116 := A_ (Kd.R_lower ho0 (below_size (bw_ HB.out))); replace BK111 := A_ (blk_below (bk_ BK111.out) hb); replace BK112 := A_ (blk_below (bk_ BK112.out) hb); replace BK113 := A_ (blk_below (bk_ BK113.out) hb); replace HB := A_ (below_step (bw_ HB.out) hb); clear hb; (try clear ho0); obtain ⟨Ao13, co13, eo13⟩ := Kd.R_slice HO116.out; subst eo13; have hnb14 := NB113_112.out; have hnc14 := NB112_113.out; obtain ⟨y15_0, y15_1, y15_2, y15_3, y15_4, y15_5, y15_6, y15_7, y15_8, z15_0, z15_1, z15_2, z15_3, z15_4, z15_5, z15_6, z15_7, z15_8⟩ := cz9_ BK113.out; obtain ⟨y16_0, y16_1, y16_2, y16_3, y16_4, y16_5, y16_6, y16_7, y16_8, z16_0, z16_1, z16_2, z16_3, z16_4, z16_5, z16_6, z16_7, z16_8⟩ := cz9_ BK111.out) | ((with_reducible refine gate_callee (f := 28) rfl ?_); refine gL_ (some 10) Try.func28 #[.slice A0_1 l0_1.length c0_1] ?_; (with_reducible refine (laws_toIntS.calls k _ _ l0_1 t117 _ ?side1 ?side2 A3.out).mono ?_); (case side1 => exact Kd.C_below HR0_1.out (bw_ HB.out)); (case side2 => exact HC0_1.out); rintro e w17 ⟨v118, rfl, ho0, hb⟩; refine ⟨_, rfl, ?_⟩; have HO119 := A_ (Kd.R_lower (Kd.R_new' ho0 (Kd.R_lt (kr_ (Kd.R_mono (Kd.R_far (p := ⟨gb113, 0, none⟩) (Kd.R_types HO116.out BK113.out (by decide)) (fun _ hk => hk.2) (.slice Ao13 t114.length co13)) (fun _ h_ => h_.1))))) (below_size (bw_ HB.out))); replace HO116 := A_ (Kd.R_elder' (kr_ (Kd.R_mono (Kd.R_far (p := ⟨gb113, 0, none⟩) (Kd.R_types HO116.out BK113.out (by decide)) (fun _ hk => hk.2) (.slice Ao13 t114.length co13)) (fun _ h_ => h_.1))) (Kd.R_base ho0) hb); replace BK111 := A_ (blk_below (g := gb111) (o := .cells #[.slice A0_0 l0_0.length c0_0, .slice A0_1 l0_1.length c0_1, .bool a0_2, .bool a0_3, .bool a0_4, .bool a0_5, .slice A0_6 l0_6.length c0_6, .slice A0_7 l0_7.length c0_7, .int .i64 a0_8] 24 (0, 0)) (by refine bk_ ?_; refine blk_far ?_ NB111_113.out _; refine bk_ ?_; exact BK111.out) hb); replace BK112 := A_ (blk_below (g := gb112) (o := .cells #[.slice none 0 0, .slice none 0 0, .bool false, .bool false, .bool false, .bool false, .slice none 0 0, .slice none 0 0, .int .i64 0] 28 (0, 0)) (by refine bk_ ?_; refine blk_far ?_ NB112_113.out _; refine bk_ ?_; exact BK112.out) hb); replace BK113 := A_ (blk_below (g := gb113) (o := .cells #[.slice Ao13 t114.length co13, .slice none 0 0, .bool false, .bool false, .bool false, .bool false, .slice none 0 0, .slice none 0 0, .int .i64 0] 28 (0, 0)) (by refine bk_ ?_; refine blk_put (cs := #[.slice none 0 0, .slice none 0 0, .bool false, .bool false, .bool false, .bool false, .slice none 0 0, .slice none 0 0, .int .i64 0]) ?_ 0 _ rfl; refine bk_ ?_; exact BK113.out) hb); replace HB := A_ (below_step (bw_ HB.out) hb); clear hb; (try clear ho0); obtain ⟨Ao18, co18, eo18⟩ := Kd.R_slice HO119.out; subst eo18; obtain ⟨y19_0, y19_1, y19_2, y19_3, y19_4, y19_5, y19_6, y19_7, y19_8, z19_0, z19_1, z19_2, z19_3, z19_4, z19_5, z19_6, z19_7, z19_8⟩ := cz9_ BK113.out; obtain ⟨y20_0, y20_1, y20_2, y20_3, y20_4, y20_5, y20_6, y20_7, y20_8, z20_0, z20_1, z20_2, z20_3, z20_4, z20_5, z20_6, z20_7, z20_8⟩ := cz9_ BK111.out) | ((with_reducible refine gate_callee (f := 28) rfl ?_); refine gL_ (some 26) Try.func28 #[.slice A0_6 l0_6.length c0_6] ?_; (with_reducible refine (laws_toIntS.calls k _ _ l0_6 t120 _ ?side1 ?side2 A4.out).mono ?_); (case side1 => exact Kd.C_below HR0_6.out (bw_ HB.out)); (case side2 => exact HC0_6.out); rintro e w21 ⟨v121, rfl, ho0, hb⟩; refine ⟨_, rfl, ?_⟩; have HO122 := A_ (Kd.R_lower (Kd.R_new' (Kd.R_new' ho0 (Kd.R_lt (kr_ (Kd.R_mono (Kd.R_far (p := ⟨gb113, 5, none⟩) (Kd.R_far (p := ⟨gb113, 4, none⟩) (Kd.R_far (p := ⟨gb113, 3, none⟩) (Kd.R_far (p := ⟨gb113, 2, none⟩) (Kd.R_far (p := ⟨gb113, 1, none⟩) (Kd.R_types HO116.out BK113.out (by decide)) (fun _ hk => hk.2) (.slice Ao18 t117.length co18)) (fun _ hk => hk.2) (.bool a0_2)) (fun _ hk => hk.2) (.bool a0_3)) (fun _ hk => hk.2) (.bool a0_4)) (fun _ hk => hk.2) (.bool a0_5)) (fun _ h_ => h_.1))))) (Kd.R_lt (kr_ (Kd.R_mono (Kd.R_far (p := ⟨gb113, 5, none⟩) (Kd.R_far (p := ⟨gb113, 4, none⟩) (Kd.R_far (p := ⟨gb113, 3, none⟩) (Kd.R_far (p := ⟨gb113, 2, none⟩) (Kd.R_far (p := ⟨gb113, 1, none⟩) (Kd.R_types HO119.out BK113.out (by decide)) (fun _ hk => hk.2) (.slice Ao18 t117.length co18)) (fun _ hk => hk.2) (.bool a0_2)) (fun _ hk => hk.2) (.bool a0_3)) (fun _ hk => hk.2) (.bool a0_4)) (fun _ hk => hk.2) (.bool a0_5)) (fun _ h_ => h_.1))))) (below_size (bw_ HB.out))); replace HO116 := A_ (Kd.R_elder' (kr_ (Kd.R_mono (Kd.R_far (p := ⟨gb113, 5, none⟩) (Kd.R_far (p := ⟨gb113, 4, none⟩) (Kd.R_far (p := ⟨gb113, 3, none⟩) (Kd.R_far (p := ⟨gb113, 2, none⟩) (Kd.R_far (p := ⟨gb113, 1, none⟩) (Kd.R_types HO116.out BK113.out (by decide)) (fun _ hk => hk.2) (.slice Ao18 t117.length co18)) (fun _ hk => hk.2) (.bool a0_2)) (fun _ hk => hk.2) (.bool a0_3)) (fun _ hk => hk.2) (.bool a0_4)) (fun _ hk => hk.2) (.bool a0_5)) (fun _ h_ => h_.1))) (Kd.R_base ho0) hb); replace HO119 := A_ (Kd.R_elder' (kr_ (Kd.R_mono (Kd.R_far (p := ⟨gb113, 5, none⟩) (Kd.R_far (p := ⟨gb113, 4, none⟩) (Kd.R_far (p := ⟨gb113, 3, none⟩) (Kd.R_far (p := ⟨gb113, 2, none⟩) (Kd.R_far (p := ⟨gb113, 1, none⟩) (Kd.R_types HO119.out BK113.out (by decide)) (fun _ hk => hk.2) (.slice Ao18 t117.length co18)) (fun _ hk => hk.2) (.bool a0_2)) (fun _ hk => hk.2) (.bool a0_3)) (fun _ hk => hk.2) (.bool a0_4)) (fun _ hk => hk.2) (.bool a0_5)) (fun _ h_ => h_.1))) (Kd.R_base ho0) hb); replace BK111 := A_ (blk_below (g := gb111) (o := .cells #[.slice A0_0 l0_0.length c0_0, .slice A0_1 l0_1.length c0_1, .bool a0_2, .bool a0_3, .bool a0_4, .bool a0_5, .slice A0_6 l0_6.length c0_6, .slice A0_7 l0_7.length c0_7, .int .i64 a0_8] 24 (0, 0)) (by refine bk_ ?_; refine blk_far ?_ NB111_113.out _; refine bk_ ?_; refine blk_far ?_ NB111_113.out _; refine bk_ ?_; refine blk_far ?_ NB111_113.out _; refine bk_ ?_; refine blk_far ?_ NB111_113.out _; refine bk_ ?_; refine blk_far ?_ NB111_113.out _; refine bk_ ?_; exact BK111.out) hb); replace BK112 := A_ (blk_below (g := gb112) (o := .cells #[.slice none 0 0, .slice none 0 0, .bool false, .bool false, .bool false, .bool false, .slice none 0 0, .slice none 0 0, .int .i64 0] 28 (0, 0)) (by refine bk_ ?_; refine blk_far ?_ NB112_113.out _; refine bk_ ?_; refine blk_far ?_ NB112_113.out _; refine bk_ ?_; refine blk_far ?_ NB112_113.out _; refine bk_ ?_; refine blk_far ?_ NB112_113.out _; refine bk_ ?_; refine blk_far ?_ NB112_113.out _; refine bk_ ?_; exact BK112.out) hb); replace BK113 := A_ (blk_below (g := gb113) (o := .cells #[.slice Ao13 t114.length co13, .slice Ao18 t117.length co18, .bool a0_2, .bool a0_3, .bool a0_4, .bool a0_5, .slice none 0 0, .slice none 0 0, .int .i64 0] 28 (0, 0)) (by refine bk_ ?_; refine blk_put (cs := #[.slice Ao13 t114.length co13, .slice Ao18 t117.length co18, .bool a0_2, .bool a0_3, .bool a0_4, .bool false, .slice none 0 0, .slice none 0 0, .int .i64 0]) ?_ 5 _ rfl; refine bk_ ?_; refine blk_put (cs := #[.slice Ao13 t114.length co13, .slice Ao18 t117.length co18, .bool a0_2, .bool a0_3, .bool false, .bool false, .slice none 0 0, .slice none 0 0, .int .i64 0]) ?_ 4 _ rfl; refine bk_ ?_; refine blk_put (cs := #[.slice Ao13 t114.length co13, .slice Ao18 t117.length co18, .bool a0_2, .bool false, .bool false, .bool false, .slice none 0 0, .slice none 0 0, .int .i64 0]) ?_ 3 _ rfl; refine bk_ ?_; refine blk_put (cs := #[.slice Ao13 t114.length co13, .slice Ao18 t117.length co18, .bool false, .bool false, .bool false, .bool false, .slice none 0 0, .slice none 0 0, .int .i64 0]) ?_ 2 _ rfl; refine bk_ ?_; refine blk_put (cs := #[.slice Ao13 t114.length co13, .slice none 0 0, .bool false, .bool false, .bool false, .bool false, .slice none 0 0, .slice none 0 0, .int .i64 0]) ?_ 1 _ rfl; refine bk_ ?_; exact BK113.out) hb); replace HB := A_ (below_step (bw_ HB.out) hb); clear hb; (try clear ho0); obtain ⟨Ao22, co22, eo22⟩ := Kd.R_slice HO122.out; subst eo22; obtain ⟨y23_0, y23_1, y23_2, y23_3, y23_4, y23_5, y23_6, y23_7, y23_8, z23_0, z23_1, z23_2, z23_3, z23_4, z23_5, z23_6, z23_7, z23_8⟩ := cz9_ BK113.out; obtain ⟨y24_0, y24_1, y24_2, y24_3, y24_4, y24_5, y24_6, y24_7, y24_8, z24_0, z24_1, z24_2, z24_3, z24_4, z24_5, z24_6, z24_7, z24_8⟩ := cz9_ BK111.out) | ((with_reducible refine gate_callee (f := 28) rfl ?_); refine gL_ (some 30) Try.func28 #[.slice A0_7 l0_7.length c0_7] ?_; (with_reducible refine (laws_toIntS.calls k _ _ l0_7 t123 _ ?side1 ?side2 A5.out).mono ?_); (case side1 => exact Kd.C_below HR0_7.out (bw_ HB.out)); (case side2 => exact HC0_7.out); rintro e w25 ⟨v124, rfl, ho0, hb⟩; refine ⟨_, rfl, ?_⟩; have HO125 := A_ (Kd.R_lower (Kd.R_new' (Kd.R_new' (Kd.R_new' ho0 (Kd.R_lt (kr_ (Kd.R_mono (Kd.R_far (p := ⟨gb113, 6, none⟩) (Kd.R_types HO116.out BK113.out (by decide)) (fun _ hk => hk.2) (.slice Ao22 t120.length co22)) (fun _ h_ => h_.1))))) (Kd.R_lt (kr_ (Kd.R_mono (Kd.R_far (p := ⟨gb113, 6, none⟩) (Kd.R_types HO119.out BK113.out (by decide)) (fun _ hk => hk.2) (.slice Ao22 t120.length co22)) (fun _ h_ => h_.1))))) (Kd.R_lt (kr_ (Kd.R_mono (Kd.R_far (p := ⟨gb113, 6, none⟩) (Kd.R_types HO122.out BK113.out (by decide)) (fun _ hk => hk.2) (.slice Ao22 t120.length co22)) (fun _ h_ => h_.1))))) (below_size (bw_ HB.out))); replace HO116 := A_ (Kd.R_elder' (kr_ (Kd.R_mono (Kd.R_far (p := ⟨gb113, 6, none⟩) (Kd.R_types HO116.out BK113.out (by decide)) (fun _ hk => hk.2) (.slice Ao22 t120.length co22)) (fun _ h_ => h_.1))) (Kd.R_base ho0) hb); replace HO119 := A_ (Kd.R_elder' (kr_ (Kd.R_mono (Kd.R_far (p := ⟨gb113, 6, none⟩) (Kd.R_types HO119.out BK113.out (by decide)) (fun _ hk => hk.2) (.slice Ao22 t120.length co22)) (fun _ h_ => h_.1))) (Kd.R_base ho0) hb); replace HO122 := A_ (Kd.R_elder' (kr_ (Kd.R_mono (Kd.R_far (p := ⟨gb113, 6, none⟩) (Kd.R_types HO122.out BK113.out (by decide)) (fun _ hk => hk.2) (.slice Ao22 t120.length co22)) (fun _ h_ => h_.1))) (Kd.R_base ho0) hb); replace BK111 := A_ (blk_below (g := gb111) (o := .cells #[.slice A0_0 l0_0.length c0_0, .slice A0_1 l0_1.length c0_1, .bool a0_2, .bool a0_3, .bool a0_4, .bool a0_5, .slice A0_6 l0_6.length c0_6, .slice A0_7 l0_7.length c0_7, .int .i64 a0_8] 24 (0, 0)) (by refine bk_ ?_; refine blk_far ?_ NB111_113.out _; refine bk_ ?_; exact BK111.out) hb); replace BK112 := A_ (blk_below (g := gb112) (o := .cells #[.slice none 0 0, .slice none 0 0, .bool false, .bool false, .bool false, .bool false, .slice none 0 0, .slice none 0 0, .int .i64 0] 28 (0, 0)) (by refine bk_ ?_; refine blk_far ?_ NB112_113.out _; refine bk_ ?_; exact BK112.out) hb); replace BK113 := A_ (blk_below (g := gb113) (o := .cells #[.slice Ao13 t114.length co13, .slice Ao18 t117.length co18, .bool a0_2, .bool a0_3, .bool a0_4, .bool a0_5, .slice Ao22 t120.length co22, .slice none 0 0, .int .i64 0] 28 (0, 0)) (by refine bk_ ?_; refine blk_put (cs := #[.slice Ao13 t114.length co13, .slice Ao18 t117.length co18, .bool a0_2, .bool a0_3, .bool a0_4, .bool a0_5, .slice none 0 0, .slice none 0 0, .int .i64 0]) ?_ 6 _ rfl; refine bk_ ?_; exact BK113.out) hb); replace HB := A_ (below_step (bw_ HB.out) hb); clear hb; (try clear ho0); obtain ⟨Ao26, co26, eo26⟩ := Kd.R_slice HO125.out; subst eo26; obtain ⟨y27_0, y27_1, y27_2, y27_3, y27_4, y27_5, y27_6, y27_7, y27_8, z27_0, z27_1, z27_2, z27_3, z27_4, z27_5, z27_6, z27_7, z27_8⟩ := cz9_ BK113.out; obtain ⟨y28_0, y28_1, y28_2, y28_3, y28_4, y28_5, y28_6, y28_7, y28_8, z28_0, z28_1, z28_2, z28_3, z28_4, z28_5, z28_6, z28_7, z28_8⟩ := cz9_ BK111.out; obtain ⟨y29_0, y29_1, y29_2, y29_3, y29_4, y29_5, y29_6, y29_7, y29_8, z29_0, z29_1, z29_2, z29_3, z29_4, z29_5, z29_6, z29_7, z29_8⟩ := cz9_ BK112.out))
 refine bodyPost_ret (results_cell_row rfl _ _ gb112 28 #[.slice Ao13 t114.length co13, .slice Ao18 t117.length co18, .bool a0_2, .bool a0_3, .bool a0_4, .bool a0_5, .slice Ao22 t120.length co22, .slice Ao26 t123.length co26, .int .i64 a0_8] (0, 0) _ rfl ?hb_ Try.underlying28 rfl (by kernel_rfl)) rfl ?_
 (case hb_ => refine bk_ ?_; refine blk_put (cs := #[.slice Ao13 t114.length co13, .slice Ao18 t117.length co18, .bool a0_2, .bool a0_3, .bool a0_4, .bool a0_5, .slice Ao22 t120.length co22, .slice Ao26 t123.length co26, .int .i64 0]) ?_ 8 _ rfl; refine bk_ ?_; refine blk_put (cs := #[.slice Ao13 t114.length co13, .slice Ao18 t117.length co18, .bool a0_2, .bool a0_3, .bool a0_4, .bool a0_5, .slice Ao22 t120.length co22, .slice none 0 0, .int .i64 0]) ?_ 7 _ rfl; refine bk_ ?_; refine blk_put (cs := #[.slice Ao13 t114.length co13, .slice Ao18 t117.length co18, .bool a0_2, .bool a0_3, .bool a0_4, .bool a0_5, .slice none 0 0, .slice none 0 0, .int .i64 0]) ?_ 6 _ rfl; refine bk_ ?_; refine blk_put (cs := #[.slice Ao13 t114.length co13, .slice Ao18 t117.length co18, .bool a0_2, .bool a0_3, .bool a0_4, .bool false, .slice none 0 0, .slice none 0 0, .int .i64 0]) ?_ 5 _ rfl; refine bk_ ?_; refine blk_put (cs := #[.slice Ao13 t114.length co13, .slice Ao18 t117.length co18, .bool a0_2, .bool a0_3, .bool false, .bool false, .slice none 0 0, .slice none 0 0, .int .i64 0]) ?_ 4 _ rfl; refine bk_ ?_; refine blk_put (cs := #[.slice Ao13 t114.length co13, .slice Ao18 t117.length co18, .bool a0_2, .bool false, .bool false, .bool false, .slice none 0 0, .slice none 0 0, .int .i64 0]) ?_ 3 _ rfl; refine bk_ ?_; refine blk_put (cs := #[.slice Ao13 t114.length co13, .slice Ao18 t117.length co18, .bool false, .bool false, .bool false, .bool false, .slice none 0 0, .slice none 0 0, .int .i64 0]) ?_ 2 _ rfl; refine bk_ ?_; refine blk_put (cs := #[.slice Ao13 t114.length co13, .slice none 0 0, .bool false, .bool false, .bool false, .bool false, .slice none 0 0, .slice none 0 0, .int .i64 0]) ?_ 1 _ rfl; refine bk_ ?_; refine blk_put (cs := #[.slice none 0 0, .slice none 0 0, .bool false, .bool false, .bool false, .bool false, .slice none 0 0, .slice none 0 0, .int .i64 0]) ?_ 0 _ rfl; refine bk_ ?_; refine blk_far ?_ NB112_113.out _; refine bk_ ?_; refine blk_far ?_ NB112_113.out _; refine bk_ ?_; exact BK112.out)
 exact ⟨_, _, _, _, by first | rfl | (simp [errW_none, errW_some] <;> rfl) | (simp [*, errW_none, errW_some] <;> rfl), kr_ (Kd.R_mono (rf9_ (Kd.R_far (p := ⟨gb113, 8, none⟩) (Kd.R_far (p := ⟨gb113, 7, none⟩) (Kd.R_types (Kd.R_types HO116.out BK113.out (by decide)) BK112.out (by decide)) (fun _ hk => hk.1.2) (.slice Ao26 t123.length co26)) (fun _ hk => hk.1.2) (.int .i64 a0_8)) (fun _ hk => hk.2)) (fun _ hk => ⟨hk.1.1.1.1.2, ⟨hk.1.1.1.2, hk.1.1.2⟩⟩)), kr_ (Kd.R_mono (rf9_ (Kd.R_far (p := ⟨gb113, 8, none⟩) (Kd.R_far (p := ⟨gb113, 7, none⟩) (Kd.R_types (Kd.R_types HO119.out BK113.out (by decide)) BK112.out (by decide)) (fun _ hk => hk.1.2) (.slice Ao26 t123.length co26)) (fun _ hk => hk.1.2) (.int .i64 a0_8)) (fun _ hk => hk.2)) (fun _ hk => ⟨hk.1.1.1.1.2, ⟨hk.1.1.1.2, hk.1.1.2⟩⟩)), kr_ (Kd.R_mono (rf9_ (Kd.R_far (p := ⟨gb113, 8, none⟩) (Kd.R_far (p := ⟨gb113, 7, none⟩) (Kd.R_types (Kd.R_types HO122.out BK113.out (by decide)) BK112.out (by decide)) (fun _ hk => hk.1.2) (.slice Ao26 t123.length co26)) (fun _ hk => hk.1.2) (.int .i64 a0_8)) (fun _ hk => hk.2)) (fun _ hk => ⟨hk.1.1.1.1.2, ⟨hk.1.1.1.2, hk.1.1.2⟩⟩)), kr_ (Kd.R_mono (rf9_ (Kd.R_far (p := ⟨gb113, 8, none⟩) (Kd.R_far (p := ⟨gb113, 7, none⟩) (Kd.R_types (Kd.R_types HO125.out BK113.out (by decide)) BK112.out (by decide)) (fun _ hk => hk.1.2) (.slice Ao26 t123.length co26)) (fun _ hk => hk.1.2) (.int .i64 a0_8)) (fun _ hk => hk.2)) (fun _ hk => ⟨hk.1.1.1.1.2, ⟨hk.1.1.1.2, hk.1.1.2⟩⟩)), bw_ HB.out⟩

/-! ### laws_eqIntS: function 30 -/
def laws_eqIntS.l0 : Nat → List Int → List Int → Int → Option (Bool)
 | 0, _, _, _ => none
 | k + 1, x0, x1, x5 => if x5 < (x0.length : Int) then (if 0 ≤ x5 then (if x5 < (x1.length : Int) then (if (rd x0 x5) = (rd x1 x5) then (laws_eqIntS.l0 k x0 x1 (wrap64 (x5 + 1))) else (some false)) else (none)) else (none)) else (some true)
def laws_eqIntS.f (k : Nat) (l0 : List Int) (l1 : List Int) : Option (Bool) := if (l0.length : Int) = (l1.length : Int) then (laws_eqIntS.l0 k l0 l1 0) else (some false)
theorem laws_eqIntS.mono_l : ∀ k, (∀ y0 y1 y2, LeO (laws_eqIntS.l0 k y0 y1 y2) (laws_eqIntS.l0 (k + 1) y0 y1 y2))
 | 0 => fun _ _ _ r h => by simp [laws_eqIntS.l0] at h
 | k + 1 => by
  have ih0 := laws_eqIntS.mono_l k
  ·intro y0 y1 y2
   unfold laws_eqIntS.l0
   repeat' first
   | (with_reducible exact ih0 _ _ _)
   | (with_reducible exact LeO.refl _)
   | (with_reducible exact LeO.none _)
   | (with_reducible refine LeO.ite ?_ ?_)
   | (with_reducible refine LeO.bind ?_ (fun _ => ?_))
   | exact ih0 _ _ _
   | exact LeO.none _
   | refine LeO.ite ?_ ?_
   | refine LeO.bind ?_ (fun _ => ?_)
theorem laws_eqIntS.mono : ∀ a0 a1 k, LeO (laws_eqIntS.f k a0 a1) (laws_eqIntS.f (k + 1) a0 a1) := by
 intro a0 a1 k
 have ih0 := laws_eqIntS.mono_l k
 unfold laws_eqIntS.f
 repeat' first
   | (with_reducible exact ih0 _ _ _)
   | (with_reducible exact LeO.refl _)
   | (with_reducible exact LeO.none _)
   | (with_reducible refine LeO.ite ?_ ?_)
   | (with_reducible refine LeO.bind ?_ (fun _ => ?_))
   | exact ih0 _ _ _
   | exact LeO.none _
   | refine LeO.ite ?_ ?_
   | refine LeO.bind ?_ (fun _ => ?_)
set_option maxHeartbeats 8000000 in
set_option maxRecDepth 100000 in
theorem laws_eqIntS.calls (k : Nat) (A0 : Option Addr) (c0 : Nat) (l0 : List Int) (A1 : Option Addr) (c1 : Nat) (l1 : List Int) (r : Bool) (w : World) (hr0 : Kd.C (Kd.int .i64) w A0 l0.length l0) (hc0 : l0.length ≤ c0) (hr1 : Kd.C (Kd.int .i64) w A1 l1.length l1) (hc1 : l1.length ≤ c1) (h : laws_eqIntS.f k l0 l1 = some r) :
  Calls Try.prog 30 #[.slice A0 l0.length c0, .slice A1 l1.length c1] w fun e w' => e = .returned (.bool r) ∧ Drawn0 w w' := by
 have HR0 := A_ hr0
 have HC0 := A_ hc0
 clear hr0 hc0
 have HR1 := A_ hr1
 have HC1 := A_ hc1
 clear hr1 hc1
 have H : (if (l0.length : Int) = (l1.length : Int) then (laws_eqIntS.l0 k l0 l1 0) else (some false)) = some r := h
 clear h
 by_cases c3 : (l0.length : Int) = (l1.length : Int)
 ·rw [if_pos c3] at H
  have c3b0 := beq_iff_eq.mpr c3
  have c3b1 := bne_eq_false_iff_eq.mpr c3
  have c3b2 : (l0.length == l1.length) = true := by first | simpa using c3 | (simp at c3 ⊢; omega)
  clear c3
  have H' := A_ H
  clear H
  go_enter Try.func30, Try.ntmps30
  go_wp2
  repeat (go_quiet (fail); try go_wp2)
  go_loopg [5] k (fun kq v5 w' => ∃ (x5_1 : Int), v5 = .int .i64 x5_1 ∧ Aside0 (laws_eqIntS.l0 kq l0 l1 x5_1 = some r) ∧ Aside0 (kq ≤ k) ∧ Drawn0 w w')
  case atStart => exact ⟨(0), d2_, H', ⟨Nat.le_refl _⟩, by repeat (first | exact Drawn0.refl _ | apply Drawn0.step)⟩
  case round =>
   clear H'
   try clear c1
   try clear p2
   try clear c3
   try clear c3b0
   try clear c3b1
   try clear c3b2
   obtain ⟨x5_1, rfl, HA, HK1, ⟨m1, rfl⟩⟩ := hrel
   cases gk with
   | zero => exact absurd HA.out (by simp [laws_eqIntS.l0])
   | succ k1 =>
    have H := HA.out
    clear HA
    simp only [laws_eqIntS.l0] at H
    by_cases c4 : x5_1 < (l0.length : Int)
    ·rw [if_pos c4] at H
     have c4b0 := decide_eq_true c4
     clear c4
     by_cases c5 : 0 ≤ x5_1
     ·rw [if_pos c5] at H
      have c5b0 := decide_eq_true c5
      clear c5
      by_cases c6 : x5_1 < (l1.length : Int)
      ·rw [if_pos c6] at H
       have c6b0 := decide_eq_true c6
       clear c6
       by_cases c7 : (rd l0 x5_1) = (rd l1 x5_1)
       ·rw [if_pos c7] at H
        have c7b0 := beq_iff_eq.mpr c7
        have c7b1 := bne_eq_false_iff_eq.mpr c7
        clear c7
        have H' := A_ H
        clear H
        have p126 : 0 ≤ (x5_1 : Int) := of_decide_eq_true d1_
        have q126 : x5_1 < (l0.length : Int) := of_decide_eq_true d1_
        obtain ⟨ad126, e126, hx126_0⟩ := Kd.at_int HR0.out x5_1 p126 q126
        cases e126
        replace p126 := eq_true p126
        replace q126 := eq_true q126
        have p127 : 0 ≤ (x5_1 : Int) := of_decide_eq_true d1_
        have q127 : x5_1 < (l1.length : Int) := of_decide_eq_true d1_
        obtain ⟨ad127, e127, hx127_0⟩ := Kd.at_int HR1.out x5_1 p127 q127
        cases e127
        replace p127 := eq_true p127
        replace q127 := eq_true q127
        go_wp2
        repeat (go_quiet (fail); try go_wp2)
        go_roundg k1
        case measure => have := HK1.out; omega
        case rel => exact ⟨(wrap64 (x5_1 + 1)), d2_, H', ⟨by have := HK1.out; omega⟩, by repeat (first | exact Drawn0.refl _ | apply Drawn0.step)⟩
       ·rw [if_neg c7] at H
        have c7b0 := beq_eq_false_iff_ne.mpr c7
        have c7b1 := bne_iff_ne.mpr c7
        obtain rfl := Option.some.inj H
        have p126 : 0 ≤ (x5_1 : Int) := of_decide_eq_true d1_
        have q126 : x5_1 < (l0.length : Int) := of_decide_eq_true d1_
        obtain ⟨ad126, e126, hx126_0⟩ := Kd.at_int HR0.out x5_1 p126 q126
        cases e126
        replace p126 := eq_true p126
        replace q126 := eq_true q126
        have p127 : 0 ≤ (x5_1 : Int) := of_decide_eq_true d1_
        have q127 : x5_1 < (l1.length : Int) := of_decide_eq_true d1_
        obtain ⟨ad127, e127, hx127_0⟩ := Kd.at_int HR1.out x5_1 p127 q127
        cases e127
        replace p127 := eq_true p127
        replace q127 := eq_true q127
        go_wp2
        repeat (go_quiet (fail); try go_wp2)
        go_ret
        exact ⟨by first | rfl | (simp; done) | (simp [*]; done), by repeat (first | exact Drawn0.refl _ | apply Drawn0.step)⟩
      ·rw [if_neg c6] at H
       exact absurd H (by simp)
     ·rw [if_neg c5] at H
      exact absurd H (by simp)
    ·rw [if_neg c4] at H
     have c4b0 := decide_eq_false c4
     clear c4
     obtain rfl := Option.some.inj H
     go_wp2
     repeat (go_quiet (fail); try go_wp2)
     go_ret
     exact ⟨by first | rfl | (simp; done) | (simp [*]; done), by repeat (first | exact Drawn0.refl _ | apply Drawn0.step)⟩
 ·rw [if_neg c3] at H
  have c3b0 := beq_eq_false_iff_ne.mpr c3
  have c3b1 := bne_iff_ne.mpr c3
  have c3b2 : (l0.length == l1.length) = false := by first | simpa using c3 | (simp at c3 ⊢; omega)
  obtain rfl := Option.some.inj H
  go_enter Try.func30, Try.ntmps30
  go_wp2
  repeat (go_quiet (fail); try go_wp2)
  go_ret
  exact ⟨by first | rfl | (simp; done) | (simp [*]; done), by repeat (first | exact Drawn0.refl _ | apply Drawn0.step)⟩

/-! ### laws_eqMach: function 19 -/
def laws_eqMach.f (k : Nat) (l0_0 : List Int) (l0_1 : List Int) (a0_2 : Bool) (a0_3 : Bool) (a0_4 : Bool) (a0_5 : Bool) (l0_6 : List Int) (l0_7 : List Int) (a0_8 : Int) (l1_0 : List Int) (l1_1 : List Int) (a1_2 : Bool) (a1_3 : Bool) (a1_4 : Bool) (a1_5 : Bool) (l1_6 : List Int) (l1_7 : List Int) (a1_8 : Int) : Option (Bool) := (laws_eqIntS.f k l0_0 l1_0).bind fun t130 => (if t130 = true then ((laws_eqIntS.f k l0_1 l1_1).bind fun t131 => (if t131 = true then (if (a0_2 != a1_2) = true then (some false) else (if (a0_3 != a1_3) = true then (some false) else (if (a0_4 != a1_4) = true then (some false) else (if (a0_5 != a1_5) = true then (some false) else ((laws_eqIntS.f k l0_6 l1_6).bind fun t132 => (if t132 = true then ((laws_eqIntS.f k l0_7 l1_7).bind fun t133 => (if t133 = true then (if a0_8 = a1_8 then (some true) else (some false)) else (some false))) else (some false))))))) else (some false))) else (some false))
theorem laws_eqMach.mono : ∀ a0 a1 a2 a3 a4 a5 a6 a7 a8 a9 a10 a11 a12 a13 a14 a15 a16 a17 k, LeO (laws_eqMach.f k a0 a1 a2 a3 a4 a5 a6 a7 a8 a9 a10 a11 a12 a13 a14 a15 a16 a17) (laws_eqMach.f (k + 1) a0 a1 a2 a3 a4 a5 a6 a7 a8 a9 a10 a11 a12 a13 a14 a15 a16 a17) := by
 intro a0 a1 a2 a3 a4 a5 a6 a7 a8 a9 a10 a11 a12 a13 a14 a15 a16 a17 k
 unfold laws_eqMach.f
 repeat' first
   | (with_reducible exact laws_eqIntS.mono _ _ _)
   | (with_reducible exact LeO.refl _)
   | (with_reducible exact LeO.none _)
   | (with_reducible refine LeO.ite ?_ ?_)
   | (with_reducible refine LeO.bind ?_ (fun _ => ?_))
   | exact laws_eqIntS.mono _ _ _
   | exact LeO.none _
   | refine LeO.ite ?_ ?_
   | refine LeO.bind ?_ (fun _ => ?_)
set_option maxHeartbeats 8000000 in
set_option maxRecDepth 100000 in
theorem laws_eqMach.calls (k : Nat) (A0_0 : Option Addr) (c0_0 : Nat) (l0_0 : List Int) (A0_1 : Option Addr) (c0_1 : Nat) (l0_1 : List Int) (a0_2 : Bool) (a0_3 : Bool) (a0_4 : Bool) (a0_5 : Bool) (A0_6 : Option Addr) (c0_6 : Nat) (l0_6 : List Int) (A0_7 : Option Addr) (c0_7 : Nat) (l0_7 : List Int) (a0_8 : Int) (A1_0 : Option Addr) (c1_0 : Nat) (l1_0 : List Int) (A1_1 : Option Addr) (c1_1 : Nat) (l1_1 : List Int) (a1_2 : Bool) (a1_3 : Bool) (a1_4 : Bool) (a1_5 : Bool) (A1_6 : Option Addr) (c1_6 : Nat) (l1_6 : List Int) (A1_7 : Option Addr) (c1_7 : Nat) (l1_7 : List Int) (a1_8 : Int) (r : Bool) (w : World) (hr0_0 : Kd.C (Kd.int .i64) w A0_0 l0_0.length l0_0) (hc0_0 : l0_0.length ≤ c0_0) (hr0_1 : Kd.C (Kd.int .i64) w A0_1 l0_1.length l0_1) (hc0_1 : l0_1.length ≤ c0_1) (hr0_6 : Kd.C (Kd.int .i64) w A0_6 l0_6.length l0_6) (hc0_6 : l0_6.length ≤ c0_6) (hr0_7 : Kd.C (Kd.int .i64) w A0_7 l0_7.length l0_7) (hc0_7 : l0_7.length ≤ c0_7) (hr1_0 : Kd.C (Kd.int .i64) w A1_0 l1_0.length l1_0) (hc1_0 : l1_0.length ≤ c1_0) (hr1_1 : Kd.C (Kd.int .i64) w A1_1 l1_1.length l1_1) (hc1_1 : l1_1.length ≤ c1_1) (hr1_6 : Kd.C (Kd.int .i64) w A1_6 l1_6.length l1_6) (hc1_6 : l1_6.length ≤ c1_6) (hr1_7 : Kd.C (Kd.int .i64) w A1_7 l1_7.length l1_7) (hc1_7 : l1_7.length ≤ c1_7) (h : laws_eqMach.f k l0_0 l0_1 a0_2 a0_3 a0_4 a0_5 l0_6 l0_7 a0_8 l1_0 l1_1 a1_2 a1_3 a1_4 a1_5 l1_6 l1_7 a1_8 = some r) :
  Calls Try.prog 19 #[.agg #[.slice A0_0 l0_0.length c0_0, .slice A0_1 l0_1.length c0_1, .bool a0_2, .bool a0_3, .bool a0_4, .bool a0_5, .slice A0_6 l0_6.length c0_6, .slice A0_7 l0_7.length c0_7, .int .i64 a0_8], .agg #[.slice A1_0 l1_0.length c1_0, .slice A1_1 l1_1.length c1_1, .bool a1_2, .bool a1_3, .bool a1_4, .bool a1_5, .slice A1_6 l1_6.length c1_6, .slice A1_7 l1_7.length c1_7, .int .i64 a1_8]] w fun e w' => e = .returned (.bool r) ∧ Below w.heap.size w w' := by
 have hu28 := Try.underlying28
 have HR0_0 := A_ hr0_0
 have HC0_0 := A_ hc0_0
 clear hr0_0 hc0_0
 have HR0_1 := A_ hr0_1
 have HC0_1 := A_ hc0_1
 clear hr0_1 hc0_1
 have HR0_6 := A_ hr0_6
 have HC0_6 := A_ hc0_6
 clear hr0_6 hc0_6
 have HR0_7 := A_ hr0_7
 have HC0_7 := A_ hc0_7
 clear hr0_7 hc0_7
 have HR1_0 := A_ hr1_0
 have HC1_0 := A_ hc1_0
 clear hr1_0 hc1_0
 have HR1_1 := A_ hr1_1
 have HC1_1 := A_ hc1_1
 clear hr1_1 hc1_1
 have HR1_6 := A_ hr1_6
 have HC1_6 := A_ hc1_6
 clear hr1_6 hc1_6
 have HR1_7 := A_ hr1_7
 have HC1_7 := A_ hc1_7
 clear hr1_7 hc1_7
 have HB := A_ (Below.refl w.heap.size w)
 have H : ((laws_eqIntS.f k l0_0 l1_0).bind fun t130 => (if t130 = true then ((laws_eqIntS.f k l0_1 l1_1).bind fun t131 => (if t131 = true then (if (a0_2 != a1_2) = true then (some false) else (if (a0_3 != a1_3) = true then (some false) else (if (a0_4 != a1_4) = true then (some false) else (if (a0_5 != a1_5) = true then (some false) else ((laws_eqIntS.f k l0_6 l1_6).bind fun t132 => (if t132 = true then ((laws_eqIntS.f k l0_7 l1_7).bind fun t133 => (if t133 = true then (if a0_8 = a1_8 then (some true) else (some false)) else (some false))) else (some false))))))) else (some false))) else (some false))) = some r := h
 clear h
 replace H := Option.bind_eq_some_iff.mp H
 obtain ⟨t130, A30, H⟩ := H
 try dsimp only at H
 have A3 := A_ A30
 clear A30
 by_cases c4 : t130 = true
 subst c4
 rw [if_pos rfl] at H
 replace H := Option.bind_eq_some_iff.mp H
 obtain ⟨t131, A50, H⟩ := H
 try dsimp only at H
 have A5 := A_ A50
 clear A50
 by_cases c6 : t131 = true
 subst c6
 rw [if_pos rfl] at H
 by_cases c7 : (a0_2 != a1_2) = true
 rw [if_pos c7] at H
 have c7b0 : (a0_2 != a1_2) = true := c7
 (try (have c7b1 : decide (a0_2 = a1_2) = false := by simpa using c7))
 (try (have c7b2 : (a0_2 == a1_2) = false := by simpa using c7))
 (try (have c7b3 : ¬ (a0_2 = a1_2) := by simpa using c7))
 clear c7
 obtain rfl := Option.some.inj H
 rotate_left
 rw [if_neg c7] at H
 have c7b0 : (a0_2 != a1_2) = false := by simpa using c7
 (try (have c7b1 : decide (a0_2 = a1_2) = true := by simpa using c7))
 (try (have c7b2 : (a0_2 == a1_2) = true := by simpa using c7))
 clear c7
 by_cases c13 : (a0_3 != a1_3) = true
 rw [if_pos c13] at H
 have c13b0 : (a0_3 != a1_3) = true := c13
 (try (have c13b1 : decide (a0_3 = a1_3) = false := by simpa using c13))
 (try (have c13b2 : (a0_3 == a1_3) = false := by simpa using c13))
 (try (have c13b3 : ¬ (a0_3 = a1_3) := by simpa using c13))
 clear c13
 obtain rfl := Option.some.inj H
 rotate_left
 rw [if_neg c13] at H
 have c13b0 : (a0_3 != a1_3) = false := by simpa using c13
 (try (have c13b1 : decide (a0_3 = a1_3) = true := by simpa using c13))
 (try (have c13b2 : (a0_3 == a1_3) = true := by simpa using c13))
 clear c13
 by_cases c19 : (a0_4 != a1_4) = true
 rw [if_pos c19] at H
 have c19b0 : (a0_4 != a1_4) = true := c19
 (try (have c19b1 : decide (a0_4 = a1_4) = false := by simpa using c19))
 (try (have c19b2 : (a0_4 == a1_4) = false := by simpa using c19))
 (try (have c19b3 : ¬ (a0_4 = a1_4) := by simpa using c19))
 clear c19
 obtain rfl := Option.some.inj H
 rotate_left
 rw [if_neg c19] at H
 have c19b0 : (a0_4 != a1_4) = false := by simpa using c19
 (try (have c19b1 : decide (a0_4 = a1_4) = true := by simpa using c19))
 (try (have c19b2 : (a0_4 == a1_4) = true := by simpa using c19))
 clear c19
 by_cases c25 : (a0_5 != a1_5) = true
 rw [if_pos c25] at H
 have c25b0 : (a0_5 != a1_5) = true := c25
 (try (have c25b1 : decide (a0_5 = a1_5) = false := by simpa using c25))
 (try (have c25b2 : (a0_5 == a1_5) = false := by simpa using c25))
 (try (have c25b3 : ¬ (a0_5 = a1_5) := by simpa using c25))
 clear c25
 obtain rfl := Option.some.inj H
 rotate_left
 rw [if_neg c25] at H
 have c25b0 : (a0_5 != a1_5) = false := by simpa using c25
 (try (have c25b1 : decide (a0_5 = a1_5) = true := by simpa using c25))
 (try (have c25b2 : (a0_5 == a1_5) = true := by simpa using c25))
 clear c25
 replace H := Option.bind_eq_some_iff.mp H
 obtain ⟨t132, A310, H⟩ := H
 try dsimp only at H
 have A31 := A_ A310
 clear A310
 by_cases c32 : t132 = true
 subst c32
 rw [if_pos rfl] at H
 replace H := Option.bind_eq_some_iff.mp H
 obtain ⟨t133, A330, H⟩ := H
 try dsimp only at H
 have A33 := A_ A330
 clear A330
 by_cases c34 : t133 = true
 subst c34
 rw [if_pos rfl] at H
 by_cases c35 : a0_8 = a1_8
 rw [if_pos c35] at H
 have c35b0 := beq_iff_eq.mpr c35
 have c35b1 := bne_eq_false_iff_eq.mpr c35
 clear c35
 obtain rfl := Option.some.inj H
 rotate_left
 rw [if_neg c35] at H
 have c35b0 := beq_eq_false_iff_ne.mpr c35
 have c35b1 := bne_iff_ne.mpr c35
 obtain rfl := Option.some.inj H
 rotate_left
 replace c34 := Bool.eq_false_iff.mpr c34
 subst c34
 rw [if_neg (show ¬ (false = true) by decide)] at H
 obtain rfl := Option.some.inj H
 rotate_left
 replace c32 := Bool.eq_false_iff.mpr c32
 subst c32
 rw [if_neg (show ¬ (false = true) by decide)] at H
 obtain rfl := Option.some.inj H
 rotate_left
 replace c6 := Bool.eq_false_iff.mpr c6
 subst c6
 rw [if_neg (show ¬ (false = true) by decide)] at H
 obtain rfl := Option.some.inj H
 rotate_left
 replace c4 := Bool.eq_false_iff.mpr c4
 subst c4
 rw [if_neg (show ¬ (false = true) by decide)] at H
 obtain rfl := Option.some.inj H
 rotate_left
 all_goals go_enter Try.func19, Try.ntmps19
 all_goals go_wp2_with (first | ((with_reducible refine gate_dst (N := 2) rfl ?_); refine bx_ 2 #[.slice A0_0 l0_0.length c0_0, .slice A0_1 l0_1.length c0_1, .bool a0_2, .bool a0_3, .bool a0_4, .bool a0_5, .slice A0_6 l0_6.length c0_6, .slice A0_7 l0_7.length c0_7, .int .i64 a0_8] 28 ?_; intro gb128 hg w8 hbox hb; have n0_ := A_ (below_step (bw_ HB.out) hb); have n1_ := A_ (hbox); have n2_ := A_ ((d0_ : w.heap.size ≤ gb128)); have n3_ := n2_; clear HB; have HB := n0_; have BK128 := n1_; have GW128 := n2_; have GE128 := n3_; have GI128 := GeI.mk GE128.out; clear n0_ n1_ n2_ n3_; clear hb hbox hg) | ((with_reducible refine gate_dst (N := 3) rfl ?_); refine bx_ 3 #[.slice A1_0 l1_0.length c1_0, .slice A1_1 l1_1.length c1_1, .bool a1_2, .bool a1_3, .bool a1_4, .bool a1_5, .slice A1_6 l1_6.length c1_6, .slice A1_7 l1_7.length c1_7, .int .i64 a1_8] 28 ?_; intro gb129 hg w9 hbox hb; have n0_ := A_ (blk_below (bk_ BK128.out) hb); have n1_ := A_ (below_step (bw_ HB.out) hb); have n2_ := A_ (hbox); have n3_ := A_ ((d0_ : w.heap.size ≤ gb129)); have n4_ := n3_; have n5_ := A_ ((by rw [hg]; exact Nat.ne_of_lt (blk_lt (bk_ BK128.out)) : gb128 ≠ gb129)); have n6_ := A_ n5_.out.symm; clear BK128; clear HB; have BK128 := n0_; have HB := n1_; have BK129 := n2_; have GW129 := n3_; have GE129 := n4_; have GI129 := GeI.mk GE129.out; have NB128_129 := n5_; have NB129_128 := n6_; clear n0_ n1_ n2_ n3_ n4_ n5_ n6_; clear hb hbox hg; have hnb10 := NB128_129.out; have hnc10 := NB129_128.out; obtain ⟨y11_0, y11_1, y11_2, y11_3, y11_4, y11_5, y11_6, y11_7, y11_8, z11_0, z11_1, z11_2, z11_3, z11_4, z11_5, z11_6, z11_7, z11_8⟩ := cz9_ BK128.out; obtain ⟨y12_0, y12_1, y12_2, y12_3, y12_4, y12_5, y12_6, y12_7, y12_8, z12_0, z12_1, z12_2, z12_3, z12_4, z12_5, z12_6, z12_7, z12_8⟩ := cz9_ BK129.out) | ((with_reducible refine gate_callee (f := 30) rfl ?_); refine gL_ (some 9) Try.func30 #[.slice A0_0 l0_0.length c0_0, .slice A1_0 l1_0.length c1_0] ?_; (with_reducible refine (laws_eqIntS.calls k _ _ l0_0 _ _ l1_0 false _ ?side1 ?side2 ?side3 ?side4 A3.out).mono ?_); (case side1 => repeat (first | exact (Kd.C_below HR0_0.out HB.out) | (with_reducible refine Kd.C_alloc ?_ _) | (with_reducible refine Kd.C_drewN ?_ _) | (with_reducible refine Kd.C_drew ?_))); (case side2 => exact HC0_0.out); (case side3 => repeat (first | exact (Kd.C_below HR1_0.out HB.out) | (with_reducible refine Kd.C_alloc ?_ _) | (with_reducible refine Kd.C_drewN ?_ _) | (with_reducible refine Kd.C_drew ?_))); (case side4 => exact HC1_0.out); rintro e w' ⟨rfl, ⟨nd, rfl⟩⟩; refine ⟨_, rfl, ?_⟩) | ((with_reducible refine gate_callee (f := 30) rfl ?_); refine gL_ (some 9) Try.func30 #[.slice A0_0 l0_0.length c0_0, .slice A1_0 l1_0.length c1_0] ?_; (with_reducible refine (laws_eqIntS.calls k _ _ l0_0 _ _ l1_0 true _ ?side1 ?side2 ?side3 ?side4 A3.out).mono ?_); (case side1 => repeat (first | exact (Kd.C_below HR0_0.out HB.out) | (with_reducible refine Kd.C_alloc ?_ _) | (with_reducible refine Kd.C_drewN ?_ _) | (with_reducible refine Kd.C_drew ?_))); (case side2 => exact HC0_0.out); (case side3 => repeat (first | exact (Kd.C_below HR1_0.out HB.out) | (with_reducible refine Kd.C_alloc ?_ _) | (with_reducible refine Kd.C_drewN ?_ _) | (with_reducible refine Kd.C_drew ?_))); (case side4 => exact HC1_0.out); rintro e w' ⟨rfl, ⟨nd, rfl⟩⟩; refine ⟨_, rfl, ?_⟩) | ((with_reducible refine gate_callee (f := 30) rfl ?_); refine gL_ (some 15) Try.func30 #[.slice A0_1 l0_1.length c0_1, .slice A1_1 l1_1.length c1_1] ?_; (with_reducible refine (laws_eqIntS.calls k _ _ l0_1 _ _ l1_1 false _ ?side1 ?side2 ?side3 ?side4 A5.out).mono ?_); (case side1 => repeat (first | exact (Kd.C_below HR0_1.out (bw_ HB.out)) | (with_reducible refine Kd.C_alloc ?_ _) | (with_reducible refine Kd.C_drewN ?_ _) | (with_reducible refine Kd.C_drew ?_))); (case side2 => exact HC0_1.out); (case side3 => repeat (first | exact (Kd.C_below HR1_1.out (bw_ HB.out)) | (with_reducible refine Kd.C_alloc ?_ _) | (with_reducible refine Kd.C_drewN ?_ _) | (with_reducible refine Kd.C_drew ?_))); (case side4 => exact HC1_1.out); rintro e w' ⟨rfl, ⟨nd, rfl⟩⟩; refine ⟨_, rfl, ?_⟩) | ((with_reducible refine gate_callee (f := 30) rfl ?_); refine gL_ (some 15) Try.func30 #[.slice A0_1 l0_1.length c0_1, .slice A1_1 l1_1.length c1_1] ?_; (with_reducible refine (laws_eqIntS.calls k _ _ l0_1 _ _ l1_1 true _ ?side1 ?side2 ?side3 ?side4 A5.out).mono ?_); (case side1 => repeat (first | exact (Kd.C_below HR0_1.out (bw_ HB.out)) | (with_reducible refine Kd.C_alloc ?_ _) | (with_reducible refine Kd.C_drewN ?_ _) | (with_reducible refine Kd.C_drew ?_))); (case side2 => exact HC0_1.out); (case side3 => repeat (first | exact (Kd.C_below HR1_1.out (bw_ HB.out)) | (with_reducible refine Kd.C_alloc ?_ _) | (with_reducible refine Kd.C_drewN ?_ _) | (with_reducible refine Kd.C_drew ?_))); (case side4 => exact HC1_1.out); rintro e w' ⟨rfl, ⟨nd, rfl⟩⟩; refine ⟨_, rfl, ?_⟩) | ((with_reducible refine gate_callee (f := 30) rfl ?_); refine gL_ (some 41) Try.func30 #[.slice A0_6 l0_6.length c0_6, .slice A1_6 l1_6.length c1_6] ?_; (with_reducible refine (laws_eqIntS.calls k _ _ l0_6 _ _ l1_6 false _ ?side1 ?side2 ?side3 ?side4 A31.out).mono ?_); (case side1 => repeat (first | exact (Kd.C_below HR0_6.out (bw_ HB.out)) | (with_reducible refine Kd.C_alloc ?_ _) | (with_reducible refine Kd.C_drewN ?_ _) | (with_reducible refine Kd.C_drew ?_))); (case side2 => exact HC0_6.out); (case side3 => repeat (first | exact (Kd.C_below HR1_6.out (bw_ HB.out)) | (with_reducible refine Kd.C_alloc ?_ _) | (with_reducible refine Kd.C_drewN ?_ _) | (with_reducible refine Kd.C_drew ?_))); (case side4 => exact HC1_6.out); rintro e w' ⟨rfl, ⟨nd, rfl⟩⟩; refine ⟨_, rfl, ?_⟩) | ((with_reducible refine gate_callee (f := 30) rfl ?_); refine gL_ (some 41) Try.func30 #[.slice A0_6 l0_6.length c0_6, .slice A1_6 l1_6.length c1_6] ?_; (with_reducible refine (laws_eqIntS.calls k _ _ l0_6 _ _ l1_6 true _ ?side1 ?side2 ?side3 ?side4 A31.out).mono ?_); (case side1 => repeat (first | exact (Kd.C_below HR0_6.out (bw_ HB.out)) | (with_reducible refine Kd.C_alloc ?_ _) | (with_reducible refine Kd.C_drewN ?_ _) | (with_reducible refine Kd.C_drew ?_))); (case side2 => exact HC0_6.out); (case side3 => repeat (first | exact (Kd.C_below HR1_6.out (bw_ HB.out)) | (with_reducible refine Kd.C_alloc ?_ _) | (with_reducible refine Kd.C_drewN ?_ _) | (with_reducible refine Kd.C_drew ?_))); (case side4 => exact HC1_6.out); rintro e w' ⟨rfl, ⟨nd, rfl⟩⟩; refine ⟨_, rfl, ?_⟩) | ((with_reducible refine gate_callee (f := 30) rfl ?_); refine gL_ (some 47) Try.func30 #[.slice A0_7 l0_7.length c0_7, .slice A1_7 l1_7.length c1_7] ?_; (with_reducible refine (laws_eqIntS.calls k _ _ l0_7 _ _ l1_7 false _ ?side1 ?side2 ?side3 ?side4 A33.out).mono ?_); (case side1 => repeat (first | exact (Kd.C_below HR0_7.out (bw_ HB.out)) | (with_reducible refine Kd.C_alloc ?_ _) | (with_reducible refine Kd.C_drewN ?_ _) | (with_reducible refine Kd.C_drew ?_))); (case side2 => exact HC0_7.out); (case side3 => repeat (first | exact (Kd.C_below HR1_7.out (bw_ HB.out)) | (with_reducible refine Kd.C_alloc ?_ _) | (with_reducible refine Kd.C_drewN ?_ _) | (with_reducible refine Kd.C_drew ?_))); (case side4 => exact HC1_7.out); rintro e w' ⟨rfl, ⟨nd, rfl⟩⟩; refine ⟨_, rfl, ?_⟩) | ((with_reducible refine gate_callee (f := 30) rfl ?_); refine gL_ (some 47) Try.func30 #[.slice A0_7 l0_7.length c0_7, .slice A1_7 l1_7.length c1_7] ?_; (with_reducible refine (laws_eqIntS.calls k _ _ l0_7 _ _ l1_7 true _ ?side1 ?side2 ?side3 ?side4 A33.out).mono ?_); (case side1 => repeat (first | exact (Kd.C_below HR0_7.out (bw_ HB.out)) | (with_reducible refine Kd.C_alloc ?_ _) | (with_reducible refine Kd.C_drewN ?_ _) | (with_reducible refine Kd.C_drew ?_))); (case side2 => exact HC0_7.out); (case side3 => repeat (first | exact (Kd.C_below HR1_7.out (bw_ HB.out)) | (with_reducible refine Kd.C_alloc ?_ _) | (with_reducible refine Kd.C_drewN ?_ _) | (with_reducible refine Kd.C_drew ?_))); (case side4 => exact HC1_7.out); rintro e w' ⟨rfl, ⟨nd, rfl⟩⟩; refine ⟨_, rfl, ?_⟩))
 ·go_ret
  exact rt_ (bw_ HB.out)
 ·go_ret
  exact rt_ (bw_ HB.out)
 ·go_ret
  exact rt_ (bw_ HB.out)
 ·go_ret
  exact rt_ (bw_ HB.out)
 ·go_ret
  exact rt_ (bw_ HB.out)
 ·go_ret
  exact rt_ (bw_ HB.out)
 ·go_ret
  exact rt_ (bw_ HB.out)
 ·go_ret
  exact rt_ (bw_ HB.out)
 ·go_ret
  exact rt_ (bw_ HB.out)
 ·go_ret
  exact rt_ (bw_ HB.out)

/-! ### laws_markIntS: function 31 -/
def laws_markIntS.l0 : Nat → List Int → Int → Int → Option (Int × List Int)
 | 0, _, _, _ => none
 | k + 1, x0, x1, x5 => if x5 < (x0.length : Int) then (if 0 ≤ x5 then (laws_markIntS.l0 k (x0.set (x5 : Int).toNat x1) (wrap64 (x1 + 1)) (wrap64 (x5 + 1))) else (none)) else (some (x1, x0))
def laws_markIntS.f (k : Nat) (l0 : List Int) (a1 : Int) : Option (Int × List Int) := laws_markIntS.l0 k l0 a1 0
theorem laws_markIntS.mono_l : ∀ k, (∀ y0 y1 y2, LeO (laws_markIntS.l0 k y0 y1 y2) (laws_markIntS.l0 (k + 1) y0 y1 y2))
 | 0 => fun _ _ _ r h => by simp [laws_markIntS.l0] at h
 | k + 1 => by
  have ih0 := laws_markIntS.mono_l k
  ·intro y0 y1 y2
   unfold laws_markIntS.l0
   repeat' first
   | (with_reducible exact ih0 _ _ _)
   | (with_reducible exact LeO.refl _)
   | (with_reducible exact LeO.none _)
   | (with_reducible refine LeO.ite ?_ ?_)
   | (with_reducible refine LeO.bind ?_ (fun _ => ?_))
   | exact ih0 _ _ _
   | exact LeO.none _
   | refine LeO.ite ?_ ?_
   | refine LeO.bind ?_ (fun _ => ?_)
theorem laws_markIntS.mono : ∀ a0 a1 k, LeO (laws_markIntS.f k a0 a1) (laws_markIntS.f (k + 1) a0 a1) := by
 intro a0 a1 k
 have ih0 := laws_markIntS.mono_l k
 unfold laws_markIntS.f
 repeat' first
   | (with_reducible exact ih0 _ _ _)
   | (with_reducible exact LeO.refl _)
   | (with_reducible exact LeO.none _)
   | (with_reducible refine LeO.ite ?_ ?_)
   | (with_reducible refine LeO.bind ?_ (fun _ => ?_))
   | exact ih0 _ _ _
   | exact LeO.none _
   | refine LeO.ite ?_ ?_
   | refine LeO.bind ?_ (fun _ => ?_)
set_option maxHeartbeats 8000000 in
set_option maxRecDepth 100000 in
theorem laws_markIntS.calls (k : Nat) (P0_ : Nat → Prop) (u9000_ : Value) (l0 : List Int) (a1 : Int) (r1 : Int) (r2 : List Int) (w0 w : World) (hB : Below w0.heap.size w0 w) (ho0 : Kd.R (Kd.int .i64) 3 w w0.heap.size P0_ u9000_ l0) (h : laws_markIntS.f k l0 a1 = some (r1, r2)) :
  Calls Try.prog 31 #[u9000_, .int .i64 a1] w fun e w' => e = .returned (.int .i64 r1) ∧ Kd.R (Kd.int .i64) 3 w' w0.heap.size (fun k_ => (P0_ k_ ∨ w.heap.size ≤ k_)) u9000_ r2 ∧ Below w0.heap.size w0 w' ∧ Kept w w' (fun k_ => P0_ k_) := by
 have HO0 := A_ (show Kd.R (Kd.int .i64) 3 w w0.heap.size (fun k_ => (P0_ k_ ∨ w.heap.size ≤ k_)) u9000_ l0 from Kd.R_mono ho0 (fun k_ hk => (.inl hk)))
 have HK := A_ (Kept.refl w (fun k_ => P0_ k_))
 have HW0 := A_ hB.size
 have HB := A_ hB
 clear hB
 have H : (laws_markIntS.l0 k l0 a1 0) = some (r1, r2) := h
 clear h
 have H' := A_ H
 clear H
 go_enter Try.func31, Try.ntmps31
 go_wp2
 go_loopg [1, 5] k (fun kq v1 v5 w' => ∃ (x0_1 : List Int) (x1_1 : Int) (x5_1 : Int), v1 = .int .i64 x1_1 ∧ v5 = .int .i64 x5_1 ∧ Aside0 (laws_markIntS.l0 kq x0_1 x1_1 x5_1 = some (r1, r2)) ∧ Aside0 (kq ≤ k) ∧ Aside0 (Kd.R (Kd.int .i64) 3 w' w0.heap.size (fun k_ => (P0_ k_ ∨ w.heap.size ≤ k_)) u9000_ x0_1) ∧ Aside0 (Kept w w' (fun k_ => P0_ k_)) ∧ Aside0 (Below w0.heap.size w0 w'))
 case atStart => exact ⟨(l0), (a1), (0), d2_, d2_, H', ⟨Nat.le_refl _⟩, ⟨kr_ HO0.out⟩, ⟨by repeat (first | (with_reducible first | exact HK.out | apply Kept.alloc | apply Kept.drewN | apply Kept.drew) | exact HK.out)⟩, ⟨bw_ HB.out⟩⟩
 case round =>
  clear H'
  try clear p2
  obtain ⟨x0_1, x1_1, x5_1, rfl, rfl, HA, HK1, HO_0, HK, HB⟩ := hrel
  cases gk with
  | zero => exact absurd HA.out (by simp [laws_markIntS.l0])
  | succ k1 =>
   have H := HA.out
   clear HA
   simp only [laws_markIntS.l0] at H
   by_cases c3 : x5_1 < (x0_1.length : Int)
   ·rw [if_pos c3] at H
    have c3b0 := decide_eq_true c3
    clear c3
    by_cases c4 : 0 ≤ x5_1
    ·rw [if_pos c4] at H
     have c4b0 := decide_eq_true c4
     clear c4
     obtain ⟨y134, hy134⟩ : ∃ y_ : List Int, y_ = (x0_1.set (x5_1 : Int).toNat x1_1) := ⟨_, rfl⟩
     replace H : (laws_markIntS.l0 k1 y134 (wrap64 (x1_1 + 1)) (wrap64 (x5_1 + 1))) = some (r1, r2) := by first | (rw [hy134]; with_reducible exact H) | (have H2_ := (Option.bind_some _ _).symm.trans H; rw [hy134]; with_reducible exact H2_) | (have H2_ := (Option.bind_some _ _).symm.trans H; with_reducible exact H2_) | with_reducible exact H | (rw [hy134]; exact H) | exact H
     have Ny134 := A_ hy134
     clear hy134
     have H' := A_ H
     clear H
     obtain ⟨Ao6, co6, eo6⟩ := Kd.R_slice HO_0.out
     subst eo6
     have p5 : 0 ≤ (x5_1 : Int) := of_decide_eq_true d1_
     have q5 : (x5_1 : Int) < ((x0_1.length : Int) : Int) := of_decide_eq_true d1_
     obtain ⟨go5, co5, eo5, gb5, gl5, cl5, HG5⟩ := Kd.R_form HO_0.out (by omega)
     (first | cases eo5 | (injection eo5 with ea_ en_ ec_; (first | subst ea_ | (injection ea_ with ea_; subst ea_)); subst ec_; clear en_))
     have GB5 := A_ gb5
     have GG5 := A_ HG5
     clear gb5 gl5 HG5
     have HMgo5 := A_ (show (P0_ go5 ∨ w.heap.size ≤ go5) from (HO_0.out.1 _ rfl))
     obtain ⟨hx5_0, hf5_0⟩ := Kd.R_celln 0 HO_0.out (x5_1 : Int) p5 q5
     replace p5 := eq_true p5
     replace q5 := eq_true q5
     have HP7 := Kd.R_putg HO_0.out (x5_1 : Int) x1_1
     go_wp2_with (first | ((with_reducible refine gate_store (t := 3) (p := 15) rfl ?_); refine store_event (t := 3) (p := 15) (v := ?vo_w8) (w1 := (wr.setCell ⟨go5, (x5_1 : Int).toNat, none⟩ (.int .i64 x1_1))) ?hg ?ho ?hn ?hr ?_; (case ho => rfl); (case hg => rfl); (case hn => rfl); (case hr => first | (go_simp; done) | (go_simp; rfl)); intro w8 hw; have hg : wr.grownBy w8 (some go5) := (by rw [hw]; exact HP7.2); have hp_ : Kd.R (Kd.int .i64) 3 w8 w0.heap.size (fun k_ => (P0_ k_ ∨ w.heap.size ≤ k_)) (.slice (some ⟨go5, 0, none⟩) x0_1.length co6) y134 := (by rw [hw, Ny134.out]; exact HP7.1); clear HP7; replace HB := A_ ((by rw [hw]; exact below_set (HB.out) GB5.out : Below w0.heap.size w0 w8)); replace HK := A_ (Kept.of_grown (S := (fun k_ => P0_ k_)) hg (by repeat (first | (with_reducible first | exact HK.out | apply Kept.alloc | apply Kept.drewN | apply Kept.drew) | exact HK.out)) (fun k_ e_ => (HO_0.out.1 k_ e_))); replace HO_0 := A_ (hp_); clear hg hw hp_))
     go_roundg k1
     case measure => have := HK1.out; omega
     case rel => exact ⟨(y134), (wrap64 (x1_1 + 1)), (wrap64 (x5_1 + 1)), d2_, d2_, H', ⟨by have := HK1.out; omega⟩, ⟨kr_ HO_0.out⟩, ⟨by repeat (first | (with_reducible first | exact HK.out | apply Kept.alloc | apply Kept.drewN | apply Kept.drew) | exact HK.out)⟩, ⟨bw_ HB.out⟩⟩
    ·rw [if_neg c4] at H
     exact absurd H (by simp)
   ·rw [if_neg c3] at H
    have c3b0 := decide_eq_false c3
    clear c3
    simp only [Option.some.injEq, Prod.mk.injEq] at H
    obtain ⟨rfl, rfl⟩ := H
    obtain ⟨Ao9, co9, eo9⟩ := Kd.R_slice HO_0.out
    subst eo9
    go_wp2
    go_ret
    exact rt_ ⟨kr_ HO_0.out, bw_ HB.out, by repeat (first | (with_reducible first | exact HK.out | apply Kept.alloc | apply Kept.drewN | apply Kept.drew) | exact HK.out)⟩

/-! ### laws_markMach: function 32 -/
def laws_markMach.f (k : Nat) (l0_0 : List Int) (l0_1 : List Int) (a0_2 : Bool) (a0_3 : Bool) (a0_4 : Bool) (a0_5 : Bool) (l0_6 : List Int) (l0_7 : List Int) (a0_8 : Int) (a1 : Int) : Option (Int × List Int × List Int × List Int × List Int) := (laws_markIntS.f k l0_0 a1).bind fun bt136 => ((laws_markIntS.f k l0_1 bt136.1).bind fun bt138 => ((laws_markIntS.f k l0_6 bt138.1).bind fun bt140 => ((laws_markIntS.f k l0_7 bt140.1).bind fun bt142 => (some (bt142.1, bt136.2, bt138.2, bt140.2, bt142.2)))))
theorem laws_markMach.mono : ∀ a0 a1 a2 a3 a4 a5 a6 a7 a8 a9 k, LeO (laws_markMach.f k a0 a1 a2 a3 a4 a5 a6 a7 a8 a9) (laws_markMach.f (k + 1) a0 a1 a2 a3 a4 a5 a6 a7 a8 a9) := by
 intro a0 a1 a2 a3 a4 a5 a6 a7 a8 a9 k
 unfold laws_markMach.f
 repeat' first
   | (with_reducible exact laws_markIntS.mono _ _ _)
   | (with_reducible exact LeO.refl _)
   | (with_reducible exact LeO.none _)
   | (with_reducible refine LeO.ite ?_ ?_)
   | (with_reducible refine LeO.bind ?_ (fun _ => ?_))
   | exact laws_markIntS.mono _ _ _
   | exact LeO.none _
   | refine LeO.ite ?_ ?_
   | refine LeO.bind ?_ (fun _ => ?_)
set_option maxHeartbeats 8000000 in
set_option maxRecDepth 100000 in
theorem laws_markMach.calls (k : Nat) (P0_0_ : Nat → Prop) (u9000_ : Value) (l0_0 : List Int) (P0_1_ : Nat → Prop) (u9001_ : Value) (l0_1 : List Int) (a0_2 : Bool) (a0_3 : Bool) (a0_4 : Bool) (a0_5 : Bool) (P0_6_ : Nat → Prop) (u9002_ : Value) (l0_6 : List Int) (P0_7_ : Nat → Prop) (u9003_ : Value) (l0_7 : List Int) (a0_8 : Int) (a1 : Int) (r1 : Int) (r2 : List Int) (r3 : List Int) (r4 : List Int) (r5 : List Int) (w0 w : World) (hB : Below w0.heap.size w0 w) (ho0_0 : Kd.R (Kd.int .i64) 3 w w0.heap.size P0_0_ u9000_ l0_0) (hp0_0_0_1 : ∀ k_, P0_0_ k_ → ¬ P0_1_ k_) (hp0_0_0_6 : ∀ k_, P0_0_ k_ → ¬ P0_6_ k_) (hp0_0_0_7 : ∀ k_, P0_0_ k_ → ¬ P0_7_ k_) (ho0_1 : Kd.R (Kd.int .i64) 3 w w0.heap.size P0_1_ u9001_ l0_1) (hp0_1_0_0 : ∀ k_, P0_1_ k_ → ¬ P0_0_ k_) (hp0_1_0_6 : ∀ k_, P0_1_ k_ → ¬ P0_6_ k_) (hp0_1_0_7 : ∀ k_, P0_1_ k_ → ¬ P0_7_ k_) (ho0_6 : Kd.R (Kd.int .i64) 3 w w0.heap.size P0_6_ u9002_ l0_6) (hp0_6_0_0 : ∀ k_, P0_6_ k_ → ¬ P0_0_ k_) (hp0_6_0_1 : ∀ k_, P0_6_ k_ → ¬ P0_1_ k_) (hp0_6_0_7 : ∀ k_, P0_6_ k_ → ¬ P0_7_ k_) (ho0_7 : Kd.R (Kd.int .i64) 3 w w0.heap.size P0_7_ u9003_ l0_7) (hp0_7_0_0 : ∀ k_, P0_7_ k_ → ¬ P0_0_ k_) (hp0_7_0_1 : ∀ k_, P0_7_ k_ → ¬ P0_1_ k_) (hp0_7_0_6 : ∀ k_, P0_7_ k_ → ¬ P0_6_ k_) (h : laws_markMach.f k l0_0 l0_1 a0_2 a0_3 a0_4 a0_5 l0_6 l0_7 a0_8 a1 = some (r1, r2, r3, r4, r5)) :
  Calls Try.prog 32 #[.agg #[u9000_, u9001_, .bool a0_2, .bool a0_3, .bool a0_4, .bool a0_5, u9002_, u9003_, .int .i64 a0_8], .int .i64 a1] w fun e w' => e = .returned (.int .i64 r1) ∧ Kd.R (Kd.int .i64) 3 w' w0.heap.size (fun k_ => ((P0_0_ k_ ∨ P0_1_ k_ ∨ P0_6_ k_ ∨ P0_7_ k_) ∨ w.heap.size ≤ k_)) u9000_ r2 ∧ Kd.R (Kd.int .i64) 3 w' w0.heap.size (fun k_ => ((P0_0_ k_ ∨ P0_1_ k_ ∨ P0_6_ k_ ∨ P0_7_ k_) ∨ w.heap.size ≤ k_)) u9001_ r3 ∧ Kd.R (Kd.int .i64) 3 w' w0.heap.size (fun k_ => ((P0_0_ k_ ∨ P0_1_ k_ ∨ P0_6_ k_ ∨ P0_7_ k_) ∨ w.heap.size ≤ k_)) u9002_ r4 ∧ Kd.R (Kd.int .i64) 3 w' w0.heap.size (fun k_ => ((P0_0_ k_ ∨ P0_1_ k_ ∨ P0_6_ k_ ∨ P0_7_ k_) ∨ w.heap.size ≤ k_)) u9003_ r5 ∧ Below w0.heap.size w0 w' ∧ Kept w w' (fun k_ => P0_0_ k_ ∨ P0_1_ k_ ∨ P0_6_ k_ ∨ P0_7_ k_) := by
 have hu28 := Try.underlying28
 have HO0_0 := A_ (show Kd.R (Kd.int .i64) 3 w w0.heap.size (fun k_ => ((P0_0_ k_ ∨ P0_1_ k_ ∨ P0_6_ k_ ∨ P0_7_ k_) ∨ w.heap.size ≤ k_) ∧ some k_ ≠ (u9001_ : Value).ownBlock ∧ some k_ ≠ (u9002_ : Value).ownBlock ∧ some k_ ≠ (u9003_ : Value).ownBlock) u9000_ l0_0 from Kd.R_mono ho0_0 (fun k_ hk => ⟨(.inl (.inl hk)), fun e_ => hp0_0_0_1 k_ hk (ho0_1.1 k_ e_.symm), fun e_ => hp0_0_0_6 k_ hk (ho0_6.1 k_ e_.symm), fun e_ => hp0_0_0_7 k_ hk (ho0_7.1 k_ e_.symm)⟩))
 have HO0_1 := A_ (show Kd.R (Kd.int .i64) 3 w w0.heap.size (fun k_ => ((P0_0_ k_ ∨ P0_1_ k_ ∨ P0_6_ k_ ∨ P0_7_ k_) ∨ w.heap.size ≤ k_) ∧ some k_ ≠ (u9000_ : Value).ownBlock ∧ some k_ ≠ (u9002_ : Value).ownBlock ∧ some k_ ≠ (u9003_ : Value).ownBlock) u9001_ l0_1 from Kd.R_mono ho0_1 (fun k_ hk => ⟨(.inl (.inr (.inl hk))), fun e_ => hp0_1_0_0 k_ hk (ho0_0.1 k_ e_.symm), fun e_ => hp0_1_0_6 k_ hk (ho0_6.1 k_ e_.symm), fun e_ => hp0_1_0_7 k_ hk (ho0_7.1 k_ e_.symm)⟩))
 have HO0_6 := A_ (show Kd.R (Kd.int .i64) 3 w w0.heap.size (fun k_ => ((P0_0_ k_ ∨ P0_1_ k_ ∨ P0_6_ k_ ∨ P0_7_ k_) ∨ w.heap.size ≤ k_) ∧ some k_ ≠ (u9000_ : Value).ownBlock ∧ some k_ ≠ (u9001_ : Value).ownBlock ∧ some k_ ≠ (u9003_ : Value).ownBlock) u9002_ l0_6 from Kd.R_mono ho0_6 (fun k_ hk => ⟨(.inl (.inr (.inr (.inl hk)))), fun e_ => hp0_6_0_0 k_ hk (ho0_0.1 k_ e_.symm), fun e_ => hp0_6_0_1 k_ hk (ho0_1.1 k_ e_.symm), fun e_ => hp0_6_0_7 k_ hk (ho0_7.1 k_ e_.symm)⟩))
 have HO0_7 := A_ (show Kd.R (Kd.int .i64) 3 w w0.heap.size (fun k_ => ((P0_0_ k_ ∨ P0_1_ k_ ∨ P0_6_ k_ ∨ P0_7_ k_) ∨ w.heap.size ≤ k_) ∧ some k_ ≠ (u9000_ : Value).ownBlock ∧ some k_ ≠ (u9001_ : Value).ownBlock ∧ some k_ ≠ (u9002_ : Value).ownBlock) u9003_ l0_7 from Kd.R_mono ho0_7 (fun k_ hk => ⟨(.inl (.inr (.inr (.inr hk)))), fun e_ => hp0_7_0_0 k_ hk (ho0_0.1 k_ e_.symm), fun e_ => hp0_7_0_1 k_ hk (ho0_1.1 k_ e_.symm), fun e_ => hp0_7_0_6 k_ hk (ho0_6.1 k_ e_.symm)⟩))
 have HK := A_ (Kept.refl w (fun k_ => P0_0_ k_ ∨ P0_1_ k_ ∨ P0_6_ k_ ∨ P0_7_ k_))
 have HW0 := A_ hB.size
 have HB := A_ hB
 clear hB
 have H : ((laws_markIntS.f k l0_0 a1).bind fun bt136 => ((laws_markIntS.f k l0_1 bt136.1).bind fun bt138 => ((laws_markIntS.f k l0_6 bt138.1).bind fun bt140 => ((laws_markIntS.f k l0_7 bt140.1).bind fun bt142 => (some (bt142.1, bt136.2, bt138.2, bt140.2, bt142.2)))))) = some (r1, r2, r3, r4, r5) := h
 clear h
 replace H := Option.bind_eq_some_iff.mp H
 obtain ⟨⟨t136, t137⟩, A30, H⟩ := H
 try dsimp only at H
 have A3 := A_ A30
 clear A30
 replace H := Option.bind_eq_some_iff.mp H
 obtain ⟨⟨t138, t139⟩, A40, H⟩ := H
 try dsimp only at H
 have A4 := A_ A40
 clear A40
 replace H := Option.bind_eq_some_iff.mp H
 obtain ⟨⟨t140, t141⟩, A50, H⟩ := H
 try dsimp only at H
 have A5 := A_ A50
 clear A50
 replace H := Option.bind_eq_some_iff.mp H
 obtain ⟨⟨t142, t143⟩, A60, H⟩ := H
 try dsimp only at H
 have A6 := A_ A60
 clear A60
 simp only [Option.some.injEq, Prod.mk.injEq] at H
 obtain ⟨rfl, rfl, rfl, rfl, rfl⟩ := H
 obtain ⟨Ao7, co7, eo7⟩ := Kd.R_slice HO0_0.out
 subst eo7
 obtain ⟨Ao8, co8, eo8⟩ := Kd.R_slice HO0_1.out
 subst eo8
 obtain ⟨Ao9, co9, eo9⟩ := Kd.R_slice HO0_6.out
 subst eo9
 obtain ⟨Ao10, co10, eo10⟩ := Kd.R_slice HO0_7.out
 subst eo10
 go_enter Try.func32, Try.ntmps32
 go_wp2_with (first | ((with_reducible refine gate_dst (N := 2) rfl ?_); refine bx_ 2 #[.slice Ao7 l0_0.length co7, .slice Ao8 l0_1.length co8, .bool a0_2, .bool a0_3, .bool a0_4, .bool a0_5, .slice Ao9 l0_6.length co9, .slice Ao10 l0_7.length co10, .int .i64 a0_8] 28 ?_; intro gb135 hg w11 hbox hb; replace HO0_0 := A_ (Kd.R_below (kr_ HO0_0.out) hb); replace HO0_1 := A_ (Kd.R_below (kr_ HO0_1.out) hb); replace HO0_6 := A_ (Kd.R_below (kr_ HO0_6.out) hb); replace HO0_7 := A_ (Kd.R_below (kr_ HO0_7.out) hb); have BK135 := A_ (hbox); have GW135 := A_ ((by rw [hg]; exact (by first | exact HK.out.1 | exact (show Kept w _ (fun k_ => P0_0_ k_ ∨ P0_1_ k_ ∨ P0_6_ k_ ∨ P0_7_ k_) from by repeat (first | (with_reducible first | exact HK.out | apply Kept.alloc | apply Kept.drewN | apply Kept.drew) | exact HK.out)).1) : w.heap.size ≤ gb135)); replace HK := A_ (Kept.below (S := (fun k_ => P0_0_ k_ ∨ P0_1_ k_ ∨ P0_6_ k_ ∨ P0_7_ k_)) (by repeat (first | (with_reducible first | exact HK.out | apply Kept.alloc | apply Kept.drewN | apply Kept.drew) | exact HK.out)) hb); have GE135 := A_ ((d0_ : w0.heap.size ≤ gb135)); replace HB := A_ (below_step (bw_ HB.out) hb); have GI135 := GeI.mk GE135.out; clear hb hbox hg; obtain ⟨y12_0, y12_1, y12_2, y12_3, y12_4, y12_5, y12_6, y12_7, y12_8, z12_0, z12_1, z12_2, z12_3, z12_4, z12_5, z12_6, z12_7, z12_8⟩ := cz9_ BK135.out) | ((with_reducible refine gate_callee (f := 31) rfl ?_); refine gL_ (some 8) Try.func31 #[.slice Ao7 l0_0.length co7, .int .i64 a1] ?_; (with_reducible refine (laws_markIntS.calls k (fun k_ => some k_ = (.slice Ao7 l0_0.length co7 : Value).ownBlock) (.slice Ao7 l0_0.length co7) l0_0 a1 t136 t137 w0 _ ?side1 ?side2 A3.out).mono ?_); (case side1 => exact bw_ HB.out); (case side2 => exact Kd.R_tight rfl HO0_0.out); rintro e w13 ⟨rfl, hy0, hb, hkp⟩; refine ⟨_, rfl, ?_⟩; replace HO0_1 := A_ (Kd.R_mono (ok' := fun k_ => ((P0_0_ k_ ∨ P0_1_ k_ ∨ P0_6_ k_ ∨ P0_7_ k_) ∨ w.heap.size ≤ k_) ∧ some k_ ≠ (.slice Ao7 l0_0.length co7 : Value).ownBlock ∧ some k_ ≠ (.slice Ao9 l0_6.length co9 : Value).ownBlock ∧ some k_ ≠ (.slice Ao10 l0_7.length co10 : Value).ownBlock) (Kd.R_keptB (HO0_1.out) hkp (fun k_ hk_ hs_ => (hk_.2.1) hs_)) (fun k_ hk_ => ⟨hk_.1.1, hk_.1.2.1, hk_.1.2.2.1, hk_.1.2.2.2⟩)); replace HO0_6 := A_ (Kd.R_mono (ok' := fun k_ => ((P0_0_ k_ ∨ P0_1_ k_ ∨ P0_6_ k_ ∨ P0_7_ k_) ∨ w.heap.size ≤ k_) ∧ some k_ ≠ (.slice Ao7 l0_0.length co7 : Value).ownBlock ∧ some k_ ≠ (.slice Ao8 l0_1.length co8 : Value).ownBlock ∧ some k_ ≠ (.slice Ao10 l0_7.length co10 : Value).ownBlock) (Kd.R_keptB (HO0_6.out) hkp (fun k_ hk_ hs_ => (hk_.2.1) hs_)) (fun k_ hk_ => ⟨hk_.1.1, hk_.1.2.1, hk_.1.2.2.1, hk_.1.2.2.2⟩)); replace HO0_7 := A_ (Kd.R_mono (ok' := fun k_ => ((P0_0_ k_ ∨ P0_1_ k_ ∨ P0_6_ k_ ∨ P0_7_ k_) ∨ w.heap.size ≤ k_) ∧ some k_ ≠ (.slice Ao7 l0_0.length co7 : Value).ownBlock ∧ some k_ ≠ (.slice Ao8 l0_1.length co8 : Value).ownBlock ∧ some k_ ≠ (.slice Ao9 l0_6.length co9 : Value).ownBlock) (Kd.R_keptB (HO0_7.out) hkp (fun k_ hk_ hs_ => (hk_.2.1) hs_)) (fun k_ hk_ => ⟨hk_.1.1, hk_.1.2.1, hk_.1.2.2.1, hk_.1.2.2.2⟩)); replace BK135 := A_ (blk_kept (bk_ BK135.out) hkp (fun hs_ => (fun e_ => (Kd.R_ne HO0_0.out BK135.out (by decide)) e_) hs_)); replace HK := A_ (Kept.then_ (S := (fun k_ => P0_0_ k_ ∨ P0_1_ k_ ∨ P0_6_ k_ ∨ P0_7_ k_)) d3_ hkp (fun k_ hs_ => (fun e_ => (HO0_0.out.1 k_ e_.symm).1) hs_)); replace HO0_0 := A_ (Kd.R_reok rfl hy0 (fun k_ e_ => HO0_0.out.1 k_ e_)); replace HB := A_ (hb); (try clear hb); (try clear hkp); (try clear hy0); obtain ⟨y14_0, y14_1, y14_2, y14_3, y14_4, y14_5, y14_6, y14_7, y14_8, z14_0, z14_1, z14_2, z14_3, z14_4, z14_5, z14_6, z14_7, z14_8⟩ := cz9_ BK135.out) | ((with_reducible refine gate_callee (f := 31) rfl ?_); refine gL_ (some 12) Try.func31 #[.slice Ao8 l0_1.length co8, .int .i64 t136] ?_; (with_reducible refine (laws_markIntS.calls k (fun k_ => some k_ = (.slice Ao8 l0_1.length co8 : Value).ownBlock) (.slice Ao8 l0_1.length co8) l0_1 t136 t138 t139 w0 _ ?side1 ?side2 A4.out).mono ?_); (case side1 => exact bw_ HB.out); (case side2 => exact Kd.R_tight rfl HO0_1.out); rintro e w15 ⟨rfl, hy0, hb, hkp⟩; refine ⟨_, rfl, ?_⟩; replace HO0_0 := A_ (Kd.R_mono (ok' := fun k_ => ((P0_0_ k_ ∨ P0_1_ k_ ∨ P0_6_ k_ ∨ P0_7_ k_) ∨ w.heap.size ≤ k_) ∧ some k_ ≠ (.slice Ao8 l0_1.length co8 : Value).ownBlock ∧ some k_ ≠ (.slice Ao9 l0_6.length co9 : Value).ownBlock ∧ some k_ ≠ (.slice Ao10 l0_7.length co10 : Value).ownBlock) (Kd.R_keptB (HO0_0.out) hkp (fun k_ hk_ hs_ => (hk_.2.1) hs_)) (fun k_ hk_ => ⟨hk_.1.1, hk_.1.2.1, hk_.1.2.2.1, hk_.1.2.2.2⟩)); replace HO0_6 := A_ (Kd.R_mono (ok' := fun k_ => ((P0_0_ k_ ∨ P0_1_ k_ ∨ P0_6_ k_ ∨ P0_7_ k_) ∨ w.heap.size ≤ k_) ∧ some k_ ≠ (.slice Ao7 l0_0.length co7 : Value).ownBlock ∧ some k_ ≠ (.slice Ao8 l0_1.length co8 : Value).ownBlock ∧ some k_ ≠ (.slice Ao10 l0_7.length co10 : Value).ownBlock) (Kd.R_keptB (HO0_6.out) hkp (fun k_ hk_ hs_ => (hk_.2.2.1) hs_)) (fun k_ hk_ => ⟨hk_.1.1, hk_.1.2.1, hk_.1.2.2.1, hk_.1.2.2.2⟩)); replace HO0_7 := A_ (Kd.R_mono (ok' := fun k_ => ((P0_0_ k_ ∨ P0_1_ k_ ∨ P0_6_ k_ ∨ P0_7_ k_) ∨ w.heap.size ≤ k_) ∧ some k_ ≠ (.slice Ao7 l0_0.length co7 : Value).ownBlock ∧ some k_ ≠ (.slice Ao8 l0_1.length co8 : Value).ownBlock ∧ some k_ ≠ (.slice Ao9 l0_6.length co9 : Value).ownBlock) (Kd.R_keptB (HO0_7.out) hkp (fun k_ hk_ hs_ => (hk_.2.2.1) hs_)) (fun k_ hk_ => ⟨hk_.1.1, hk_.1.2.1, hk_.1.2.2.1, hk_.1.2.2.2⟩)); replace BK135 := A_ (blk_kept (bk_ BK135.out) hkp (fun hs_ => (fun e_ => (Kd.R_ne HO0_1.out BK135.out (by decide)) e_) hs_)); replace HK := A_ (Kept.then_ (S := (fun k_ => P0_0_ k_ ∨ P0_1_ k_ ∨ P0_6_ k_ ∨ P0_7_ k_)) d3_ hkp (fun k_ hs_ => (fun e_ => (HO0_1.out.1 k_ e_.symm).1) hs_)); replace HO0_1 := A_ (Kd.R_reok rfl hy0 (fun k_ e_ => HO0_1.out.1 k_ e_)); replace HB := A_ (hb); (try clear hb); (try clear hkp); (try clear hy0); obtain ⟨y16_0, y16_1, y16_2, y16_3, y16_4, y16_5, y16_6, y16_7, y16_8, z16_0, z16_1, z16_2, z16_3, z16_4, z16_5, z16_6, z16_7, z16_8⟩ := cz9_ BK135.out) | ((with_reducible refine gate_callee (f := 31) rfl ?_); refine gL_ (some 16) Try.func31 #[.slice Ao9 l0_6.length co9, .int .i64 t138] ?_; (with_reducible refine (laws_markIntS.calls k (fun k_ => some k_ = (.slice Ao9 l0_6.length co9 : Value).ownBlock) (.slice Ao9 l0_6.length co9) l0_6 t138 t140 t141 w0 _ ?side1 ?side2 A5.out).mono ?_); (case side1 => exact bw_ HB.out); (case side2 => exact Kd.R_tight rfl HO0_6.out); rintro e w17 ⟨rfl, hy0, hb, hkp⟩; refine ⟨_, rfl, ?_⟩; replace HO0_0 := A_ (Kd.R_mono (ok' := fun k_ => ((P0_0_ k_ ∨ P0_1_ k_ ∨ P0_6_ k_ ∨ P0_7_ k_) ∨ w.heap.size ≤ k_) ∧ some k_ ≠ (.slice Ao8 l0_1.length co8 : Value).ownBlock ∧ some k_ ≠ (.slice Ao9 l0_6.length co9 : Value).ownBlock ∧ some k_ ≠ (.slice Ao10 l0_7.length co10 : Value).ownBlock) (Kd.R_keptB (HO0_0.out) hkp (fun k_ hk_ hs_ => (hk_.2.2.1) hs_)) (fun k_ hk_ => ⟨hk_.1.1, hk_.1.2.1, hk_.1.2.2.1, hk_.1.2.2.2⟩)); replace HO0_1 := A_ (Kd.R_mono (ok' := fun k_ => ((P0_0_ k_ ∨ P0_1_ k_ ∨ P0_6_ k_ ∨ P0_7_ k_) ∨ w.heap.size ≤ k_) ∧ some k_ ≠ (.slice Ao7 l0_0.length co7 : Value).ownBlock ∧ some k_ ≠ (.slice Ao9 l0_6.length co9 : Value).ownBlock ∧ some k_ ≠ (.slice Ao10 l0_7.length co10 : Value).ownBlock) (Kd.R_keptB (HO0_1.out) hkp (fun k_ hk_ hs_ => (hk_.2.2.1) hs_)) (fun k_ hk_ => ⟨hk_.1.1, hk_.1.2.1, hk_.1.2.2.1, hk_.1.2.2.2⟩)); replace HO0_7 := A_ (Kd.R_mono (ok' := fun k_ => ((P0_0_ k_ ∨ P0_1_ k_ ∨ P0_6_ k_ ∨ P0_7_ k_) ∨ w.heap.size ≤ k_) ∧ some k_ ≠ (.slice Ao7 l0_0.length co7 : Value).ownBlock ∧ some k_ ≠ (.slice Ao8 l0_1.length co8 : Value).ownBlock ∧ some k_ ≠ (.slice Ao9 l0_6.length co9 : Value).ownBlock) (Kd.R_keptB (HO0_7.out) hkp (fun k_ hk_ hs_ => (hk_.2.2.2) hs_)) (fun k_ hk_ => ⟨hk_.1.1, hk_.1.2.1, hk_.1.2.2.1, hk_.1.2.2.2⟩)); replace BK135 := A_ (blk_kept (bk_ BK135.out) hkp (fun hs_ => (fun e_ => (Kd.R_ne HO0_6.out BK135.out (by decide)) e_) hs_)); replace HK := A_ (Kept.then_ (S := (fun k_ => P0_0_ k_ ∨ P0_1_ k_ ∨ P0_6_ k_ ∨ P0_7_ k_)) d3_ hkp (fun k_ hs_ => (fun e_ => (HO0_6.out.1 k_ e_.symm).1) hs_)); replace HO0_6 := A_ (Kd.R_reok rfl hy0 (fun k_ e_ => HO0_6.out.1 k_ e_)); replace HB := A_ (hb); (try clear hb); (try clear hkp); (try clear hy0); obtain ⟨y18_0, y18_1, y18_2, y18_3, y18_4, y18_5, y18_6, y18_7, y18_8, z18_0, z18_1, z18_2, z18_3, z18_4, z18_5, z18_6, z18_7, z18_8⟩ := cz9_ BK135.out) | ((with_reducible refine gate_callee (f := 31) rfl ?_); refine gL_ (some 20) Try.func31 #[.slice Ao10 l0_7.length co10, .int .i64 t140] ?_; (with_reducible refine (laws_markIntS.calls k (fun k_ => some k_ = (.slice Ao10 l0_7.length co10 : Value).ownBlock) (.slice Ao10 l0_7.length co10) l0_7 t140 t142 t143 w0 _ ?side1 ?side2 A6.out).mono ?_); (case side1 => exact bw_ HB.out); (case side2 => exact Kd.R_tight rfl HO0_7.out); rintro e w19 ⟨rfl, hy0, hb, hkp⟩; refine ⟨_, rfl, ?_⟩; replace HO0_0 := A_ (Kd.R_mono (ok' := fun k_ => ((P0_0_ k_ ∨ P0_1_ k_ ∨ P0_6_ k_ ∨ P0_7_ k_) ∨ w.heap.size ≤ k_) ∧ some k_ ≠ (.slice Ao8 l0_1.length co8 : Value).ownBlock ∧ some k_ ≠ (.slice Ao9 l0_6.length co9 : Value).ownBlock ∧ some k_ ≠ (.slice Ao10 l0_7.length co10 : Value).ownBlock) (Kd.R_keptB (HO0_0.out) hkp (fun k_ hk_ hs_ => (hk_.2.2.2) hs_)) (fun k_ hk_ => ⟨hk_.1.1, hk_.1.2.1, hk_.1.2.2.1, hk_.1.2.2.2⟩)); replace HO0_1 := A_ (Kd.R_mono (ok' := fun k_ => ((P0_0_ k_ ∨ P0_1_ k_ ∨ P0_6_ k_ ∨ P0_7_ k_) ∨ w.heap.size ≤ k_) ∧ some k_ ≠ (.slice Ao7 l0_0.length co7 : Value).ownBlock ∧ some k_ ≠ (.slice Ao9 l0_6.length co9 : Value).ownBlock ∧ some k_ ≠ (.slice Ao10 l0_7.length co10 : Value).ownBlock) (Kd.R_keptB (HO0_1.out) hkp (fun k_ hk_ hs_ => (hk_.2.2.2) hs_)) (fun k_ hk_ => ⟨hk_.1.1, hk_.1.2.1, hk_.1.2.2.1, hk_.1.2.2.2⟩)); replace HO0_6 := A_ (Kd.R_mono (ok' := fun k_ => ((P0_0_ k_ ∨ P0_1_ k_ ∨ P0_6_ k_ ∨ P0_7_ k_) ∨ w.heap.size ≤ k_) ∧ some k_ ≠ (.slice Ao7 l0_0.length co7 : Value).ownBlock ∧ some k_ ≠ (.slice Ao8 l0_1.length co8 : Value).ownBlock ∧ some k_ ≠ (.slice Ao10 l0_7.length co10 : Value).ownBlock) (Kd.R_keptB (HO0_6.out) hkp (fun k_ hk_ hs_ => (hk_.2.2.2) hs_)) (fun k_ hk_ => ⟨hk_.1.1, hk_.1.2.1, hk_.1.2.2.1, hk_.1.2.2.2⟩)); replace BK135 := A_ (blk_kept (bk_ BK135.out) hkp (fun hs_ => (fun e_ => (Kd.R_ne HO0_7.out BK135.out (by decide)) e_) hs_)); replace HK := A_ (Kept.then_ (S := (fun k_ => P0_0_ k_ ∨ P0_1_ k_ ∨ P0_6_ k_ ∨ P0_7_ k_)) d3_ hkp (fun k_ hs_ => (fun e_ => (HO0_7.out.1 k_ e_.symm).1) hs_)); replace HO0_7 := A_ (Kd.R_reok rfl hy0 (fun k_ e_ => HO0_7.out.1 k_ e_)); replace HB := A_ (hb); (try clear hb); (try clear hkp); (try clear hy0)))
 go_ret
 exact rt_ ⟨kr_ (Kd.R_mono HO0_0.out (fun _ hk => hk.1)), kr_ (Kd.R_mono HO0_1.out (fun _ hk => hk.1)), kr_ (Kd.R_mono HO0_6.out (fun _ hk => hk.1)), kr_ (Kd.R_mono HO0_7.out (fun _ hk => hk.1)), bw_ HB.out, by repeat (first | (with_reducible first | exact HK.out | apply Kept.alloc | apply Kept.drewN | apply Kept.drew | refine Kept.setCell ?_ (.inr GW135.out) _) | exact HK.out)⟩

end Go.Proofs.Ytiagbfilffbljaa.PFnExactPlaceOf
