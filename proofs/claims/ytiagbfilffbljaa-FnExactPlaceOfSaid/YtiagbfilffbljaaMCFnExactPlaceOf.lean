/- The contracts of the law's callees over machines, said over the four rows at once (R4). -/
import Derived.Test.YtiagbfilffbljaaPFnExactPlaceOfx1
import Derived.Test.YtiagbfilffbljaaPFnExactPlaceOfx2
import Derived.Test.YtiagbfilffbljaaPFnExactPlaceOfx3
import Derived.Test.YtiagbfilffbljaaPFnExactPlaceOfx4
import Derived.Test.YtiagbfilffbljaaPFnExactPlaceOfx5
import Derived.Test.YtiagbfilffbljaaPFnExactPlaceOfx6
import Derived.Test.YtiagbfilffbljaaVGFnExactPlaceOf
namespace Go.Proofs.Ytiagbfilffbljaa.MCFnExactPlaceOf
open Go.RowKit Go.Proofs.YtiagbfilffbljaaW.PrintWords Go.Proofs.YtiagbfilffbljaaW.PrintLast Go.Proofs.YtiagbfilffbljaaW.PrintMore Go.Proofs.Ytiagbfilffbljaa.Chg Go.Proofs.Ytiagbfilffbljaa.PFnExactPlaceOf
set_option linter.unusedVariables false
set_option linter.unusedSimpArgs false
theorem to4 (k : Nat) (Aa_0 : Option Addr) (ca_0 : Nat) (la_0 : List Int) (Aa_1 : Option Addr) (ca_1 : Nat) (la_1 : List Int) (ba_2 : Bool) (ba_3 : Bool) (ba_4 : Bool) (ba_5 : Bool) (Aa_6 : Option Addr) (ca_6 : Nat) (la_6 : List Int) (Aa_7 : Option Addr) (ca_7 : Nat) (la_7 : List Int) (ba_8 : Int) (lr_0 : List Int) (lr_1 : List Int) (br_2 : Bool) (br_3 : Bool) (br_4 : Bool) (br_5 : Bool) (lr_6 : List Int) (lr_7 : List Int) (br_8 : Int) (w0 w : World) (hB : Below w0.heap.size w0 w) (hra_0 : Kd.C (Kd.int .i64) w0 Aa_0 la_0.length la_0) (hca_0 : la_0.length ≤ ca_0) (hra_1 : Kd.C (Kd.int .i64) w0 Aa_1 la_1.length la_1) (hca_1 : la_1.length ≤ ca_1) (hra_6 : Kd.C (Kd.int .i64) w0 Aa_6 la_6.length la_6) (hca_6 : la_6.length ≤ ca_6) (hra_7 : Kd.C (Kd.int .i64) w0 Aa_7 la_7.length la_7) (hca_7 : la_7.length ≤ ca_7) (h : laws_toMach.f k la_0 la_1 ba_2 ba_3 ba_4 ba_5 la_6 la_7 ba_8 = some (lr_0, lr_1, br_2, br_3, br_4, br_5, lr_6, lr_7, br_8)) :
    Calls Try.prog 17 #[.agg #[.slice Aa_0 la_0.length ca_0, .slice Aa_1 la_1.length ca_1, .bool ba_2, .bool ba_3, .bool ba_4, .bool ba_5, .slice Aa_6 la_6.length ca_6, .slice Aa_7 la_7.length ca_7, .int .i64 ba_8]] w fun e w' => ∃ Ar_0 cr_0 Ar_1 cr_1 Ar_6 cr_6 Ar_7 cr_7 lo hi, e = .returned (.agg #[.slice Ar_0 lr_0.length cr_0, .slice Ar_1 lr_1.length cr_1, .bool br_2, .bool br_3, .bool br_4, .bool br_5, .slice Ar_6 lr_6.length cr_6, .slice Ar_7 lr_7.length cr_7, .int .i64 br_8]) ∧ w.heap.size ≤ lo ∧ lo ≤ hi ∧ hi ≤ w'.heap.size ∧ R4 w' lo hi (.slice Ar_0 lr_0.length cr_0) (.slice Ar_1 lr_1.length cr_1) (.slice Ar_6 lr_6.length cr_6) (.slice Ar_7 lr_7.length cr_7) lr_0 lr_1 lr_6 lr_7 ∧ Ch w w' 0 0 := by
  refine (laws_toMach.calls k Aa_0 ca_0 la_0 Aa_1 ca_1 la_1 ba_2 ba_3 ba_4 ba_5 Aa_6 ca_6 la_6 Aa_7 ca_7 la_7 ba_8 lr_0 lr_1 br_2 br_3 br_4 br_5 lr_6 lr_7 br_8 w (Kd.C_below hra_0 hB) hca_0 (Kd.C_below hra_1 hB) hca_1 (Kd.C_below hra_6 hB) hca_6 (Kd.C_below hra_7 hB) hca_7 h).mono ?_
  rintro e w' ⟨v0, v1, v6, v7, rfl, h0, h1, h6, h7, hb⟩
  obtain ⟨Ar_0, cr_0, rfl⟩ := Kd.R_slice h0
  obtain ⟨Ar_1, cr_1, rfl⟩ := Kd.R_slice h1
  obtain ⟨Ar_6, cr_6, rfl⟩ := Kd.R_slice h6
  obtain ⟨Ar_7, cr_7, rfl⟩ := Kd.R_slice h7
  exact ⟨Ar_0, cr_0, Ar_1, cr_1, Ar_6, cr_6, Ar_7, cr_7, w.heap.size, w'.heap.size, rfl, Nat.le_refl _, hb.size, Nat.le_refl _, R4_of h0 h1 h6 h7, Ch.of_below hb⟩
theorem spec4 (k : Nat) (Aa_0 : Option Addr) (ca_0 : Nat) (na_0 : Nat) (la_0 : List Int) (Aa_1 : Option Addr) (ca_1 : Nat) (na_1 : Nat) (la_1 : List Int) (ba_2 : Bool) (ba_3 : Bool) (ba_4 : Bool) (ba_5 : Bool) (Aa_6 : Option Addr) (ca_6 : Nat) (na_6 : Nat) (la_6 : List Int) (Aa_7 : Option Addr) (ca_7 : Nat) (na_7 : Nat) (la_7 : List Int) (ba_8 : Int) (p0 : Int) (p1 : Int) (p2 : Int) (lr_0 : List Int) (lr_1 : List Int) (br_2 : Bool) (br_3 : Bool) (br_4 : Bool) (br_5 : Bool) (lr_6 : List Int) (lr_7 : List Int) (br_8 : Int) (y0 : Int) (y1 : Int) (ok : Bool) (lo hi : Nat) (w : World) (hR : R4 w lo hi (.slice Aa_0 na_0 ca_0) (.slice Aa_1 na_1 ca_1) (.slice Aa_6 na_6 ca_6) (.slice Aa_7 na_7 ca_7) la_0 la_1 la_6 la_7) (h : spec_PlaceOf.f k la_0 la_1 ba_2 ba_3 ba_4 ba_5 la_6 la_7 ba_8 p0 p1 p2 = some (lr_0, lr_1, br_2, br_3, br_4, br_5, lr_6, lr_7, br_8, y0, y1, ok)) :
    Calls Try.prog 44 #[.agg #[.slice Aa_0 na_0 ca_0, .slice Aa_1 na_1 ca_1, .bool ba_2, .bool ba_3, .bool ba_4, .bool ba_5, .slice Aa_6 na_6 ca_6, .slice Aa_7 na_7 ca_7, .int .i64 ba_8], .agg #[.int .i64 p0, .int .i64 p1, .int .i64 p2]] w fun e w' => ∃ Ar_0 cr_0 Ar_1 cr_1 Ar_6 cr_6 Ar_7 cr_7 lo' hi', e = .returned (.tuple #[.agg #[.slice Ar_0 lr_0.length cr_0, .slice Ar_1 lr_1.length cr_1, .bool br_2, .bool br_3, .bool br_4, .bool br_5, .slice Ar_6 lr_6.length cr_6, .slice Ar_7 lr_7.length cr_7, .int .i64 br_8], .agg #[.int .i64 y0, .int .i64 y1], .bool ok]) ∧ w.heap.size ≤ lo' ∧ lo' ≤ hi' ∧ hi' ≤ w'.heap.size ∧ R4 w' lo' hi' (.slice Ar_0 lr_0.length cr_0) (.slice Ar_1 lr_1.length cr_1) (.slice Ar_6 lr_6.length cr_6) (.slice Ar_7 lr_7.length cr_7) lr_0 lr_1 lr_6 lr_7 ∧ Ch w w' 0 0 := by
  obtain ⟨rfl, hca_0, hra_0⟩ := Kd.R_reads' hR.1
  obtain ⟨rfl, hca_1, hra_1⟩ := Kd.R_reads' hR.2.1
  obtain ⟨rfl, hca_6, hra_6⟩ := Kd.R_reads' hR.2.2.1
  obtain ⟨rfl, hca_7, hra_7⟩ := Kd.R_reads' hR.2.2.2
  refine (spec_PlaceOf.calls k Aa_0 ca_0 la_0 Aa_1 ca_1 la_1 ba_2 ba_3 ba_4 ba_5 Aa_6 ca_6 la_6 Aa_7 ca_7 la_7 ba_8 p0 p1 p2 lr_0 lr_1 br_2 br_3 br_4 br_5 lr_6 lr_7 br_8 y0 y1 ok w hra_0 hca_0 hra_1 hca_1 hra_6 hca_6 hra_7 hca_7 h).mono ?_
  rintro e w' ⟨v0, v1, v6, v7, rfl, h0, h1, h6, h7, hb⟩
  obtain ⟨Ar_0, cr_0, rfl⟩ := Kd.R_slice h0
  obtain ⟨Ar_1, cr_1, rfl⟩ := Kd.R_slice h1
  obtain ⟨Ar_6, cr_6, rfl⟩ := Kd.R_slice h6
  obtain ⟨Ar_7, cr_7, rfl⟩ := Kd.R_slice h7
  exact ⟨Ar_0, cr_0, Ar_1, cr_1, Ar_6, cr_6, Ar_7, cr_7, w.heap.size, w'.heap.size, rfl, Nat.le_refl _, hb.size, Nat.le_refl _, R4_of h0 h1 h6 h7, Ch.of_below hb⟩
theorem impl4 (k : Nat) (Aa_0 : Option Addr) (ca_0 : Nat) (na_0 : Nat) (la_0 : List Int) (Aa_1 : Option Addr) (ca_1 : Nat) (na_1 : Nat) (la_1 : List Int) (ba_2 : Bool) (ba_3 : Bool) (ba_4 : Bool) (ba_5 : Bool) (Aa_6 : Option Addr) (ca_6 : Nat) (na_6 : Nat) (la_6 : List Int) (Aa_7 : Option Addr) (ca_7 : Nat) (na_7 : Nat) (la_7 : List Int) (ba_8 : Int) (p0 : Int) (p1 : Int) (p2 : Int) (lr_0 : List Int) (lr_1 : List Int) (br_2 : Bool) (br_3 : Bool) (br_4 : Bool) (br_5 : Bool) (lr_6 : List Int) (lr_7 : List Int) (br_8 : Int) (y0 : Int) (y1 : Int) (ok : Bool) (lo hi : Nat) (w : World) (hR : R4 w lo hi (.slice Aa_0 na_0 ca_0) (.slice Aa_1 na_1 ca_1) (.slice Aa_6 na_6 ca_6) (.slice Aa_7 na_7 ca_7) la_0 la_1 la_6 la_7) (h : impl_PlaceOf.f k la_0 la_1 ba_2 ba_3 ba_4 ba_5 la_6 la_7 ba_8 p0 p1 p2 = some (lr_0, lr_1, br_2, br_3, br_4, br_5, lr_6, lr_7, br_8, y0, y1, ok)) :
    Calls Try.prog 46 #[.agg #[.slice Aa_0 na_0 ca_0, .slice Aa_1 na_1 ca_1, .bool ba_2, .bool ba_3, .bool ba_4, .bool ba_5, .slice Aa_6 na_6 ca_6, .slice Aa_7 na_7 ca_7, .int .i64 ba_8], .agg #[.int .i64 p0, .int .i64 p1, .int .i64 p2]] w fun e w' => ∃ Ar_0 cr_0 Ar_1 cr_1 Ar_6 cr_6 Ar_7 cr_7 lo' hi', e = .returned (.tuple #[.agg #[.slice Ar_0 lr_0.length cr_0, .slice Ar_1 lr_1.length cr_1, .bool br_2, .bool br_3, .bool br_4, .bool br_5, .slice Ar_6 lr_6.length cr_6, .slice Ar_7 lr_7.length cr_7, .int .i64 br_8], .agg #[.int .i64 y0, .int .i64 y1], .bool ok]) ∧ w.heap.size ≤ lo' ∧ lo' ≤ hi' ∧ hi' ≤ w'.heap.size ∧ R4 w' lo' hi' (.slice Ar_0 lr_0.length cr_0) (.slice Ar_1 lr_1.length cr_1) (.slice Ar_6 lr_6.length cr_6) (.slice Ar_7 lr_7.length cr_7) lr_0 lr_1 lr_6 lr_7 ∧ Ch w w' 0 0 := by
  obtain ⟨rfl, hca_0, hra_0⟩ := Kd.R_reads' hR.1
  obtain ⟨rfl, hca_1, hra_1⟩ := Kd.R_reads' hR.2.1
  obtain ⟨rfl, hca_6, hra_6⟩ := Kd.R_reads' hR.2.2.1
  obtain ⟨rfl, hca_7, hra_7⟩ := Kd.R_reads' hR.2.2.2
  refine (impl_PlaceOf.calls k Aa_0 ca_0 la_0 Aa_1 ca_1 la_1 ba_2 ba_3 ba_4 ba_5 Aa_6 ca_6 la_6 Aa_7 ca_7 la_7 ba_8 p0 p1 p2 lr_0 lr_1 br_2 br_3 br_4 br_5 lr_6 lr_7 br_8 y0 y1 ok w hra_0 hca_0 hra_1 hca_1 hra_6 hca_6 hra_7 hca_7 h).mono ?_
  rintro e w' ⟨v0, v1, v6, v7, rfl, h0, h1, h6, h7, hb⟩
  obtain ⟨Ar_0, cr_0, rfl⟩ := Kd.R_slice h0
  obtain ⟨Ar_1, cr_1, rfl⟩ := Kd.R_slice h1
  obtain ⟨Ar_6, cr_6, rfl⟩ := Kd.R_slice h6
  obtain ⟨Ar_7, cr_7, rfl⟩ := Kd.R_slice h7
  exact ⟨Ar_0, cr_0, Ar_1, cr_1, Ar_6, cr_6, Ar_7, cr_7, w.heap.size, w'.heap.size, rfl, Nat.le_refl _, hb.size, Nat.le_refl _, R4_of h0 h1 h6 h7, Ch.of_below hb⟩
theorem eq4 (k : Nat) (Aa_0 : Option Addr) (ca_0 : Nat) (na_0 : Nat) (la_0 : List Int) (Aa_1 : Option Addr) (ca_1 : Nat) (na_1 : Nat) (la_1 : List Int) (ba_2 : Bool) (ba_3 : Bool) (ba_4 : Bool) (ba_5 : Bool) (Aa_6 : Option Addr) (ca_6 : Nat) (na_6 : Nat) (la_6 : List Int) (Aa_7 : Option Addr) (ca_7 : Nat) (na_7 : Nat) (la_7 : List Int) (ba_8 : Int) (Ab_0 : Option Addr) (cb_0 : Nat) (nb_0 : Nat) (lb_0 : List Int) (Ab_1 : Option Addr) (cb_1 : Nat) (nb_1 : Nat) (lb_1 : List Int) (bb_2 : Bool) (bb_3 : Bool) (bb_4 : Bool) (bb_5 : Bool) (Ab_6 : Option Addr) (cb_6 : Nat) (nb_6 : Nat) (lb_6 : List Int) (Ab_7 : Option Addr) (cb_7 : Nat) (nb_7 : Nat) (lb_7 : List Int) (bb_8 : Int) (r : Bool) (lo hi lo' hi' : Nat) (w : World) (hR : R4 w lo hi (.slice Aa_0 na_0 ca_0) (.slice Aa_1 na_1 ca_1) (.slice Aa_6 na_6 ca_6) (.slice Aa_7 na_7 ca_7) la_0 la_1 la_6 la_7) (hS : R4 w lo' hi' (.slice Ab_0 nb_0 cb_0) (.slice Ab_1 nb_1 cb_1) (.slice Ab_6 nb_6 cb_6) (.slice Ab_7 nb_7 cb_7) lb_0 lb_1 lb_6 lb_7) (h : laws_eqMach.f k la_0 la_1 ba_2 ba_3 ba_4 ba_5 la_6 la_7 ba_8 lb_0 lb_1 bb_2 bb_3 bb_4 bb_5 lb_6 lb_7 bb_8 = some r) :
    Calls Try.prog 19 #[.agg #[.slice Aa_0 na_0 ca_0, .slice Aa_1 na_1 ca_1, .bool ba_2, .bool ba_3, .bool ba_4, .bool ba_5, .slice Aa_6 na_6 ca_6, .slice Aa_7 na_7 ca_7, .int .i64 ba_8], .agg #[.slice Ab_0 nb_0 cb_0, .slice Ab_1 nb_1 cb_1, .bool bb_2, .bool bb_3, .bool bb_4, .bool bb_5, .slice Ab_6 nb_6 cb_6, .slice Ab_7 nb_7 cb_7, .int .i64 bb_8]] w fun e w' => e = .returned (.bool r) ∧ Ch w w' 0 0 := by
  obtain ⟨rfl, hca_0, hra_0⟩ := Kd.R_reads' hR.1
  obtain ⟨rfl, hca_1, hra_1⟩ := Kd.R_reads' hR.2.1
  obtain ⟨rfl, hca_6, hra_6⟩ := Kd.R_reads' hR.2.2.1
  obtain ⟨rfl, hca_7, hra_7⟩ := Kd.R_reads' hR.2.2.2
  obtain ⟨rfl, hcb_0, hrb_0⟩ := Kd.R_reads' hS.1
  obtain ⟨rfl, hcb_1, hrb_1⟩ := Kd.R_reads' hS.2.1
  obtain ⟨rfl, hcb_6, hrb_6⟩ := Kd.R_reads' hS.2.2.1
  obtain ⟨rfl, hcb_7, hrb_7⟩ := Kd.R_reads' hS.2.2.2
  refine (laws_eqMach.calls k Aa_0 ca_0 la_0 Aa_1 ca_1 la_1 ba_2 ba_3 ba_4 ba_5 Aa_6 ca_6 la_6 Aa_7 ca_7 la_7 ba_8 Ab_0 cb_0 lb_0 Ab_1 cb_1 lb_1 bb_2 bb_3 bb_4 bb_5 Ab_6 cb_6 lb_6 Ab_7 cb_7 lb_7 bb_8 r w hra_0 hca_0 hra_1 hca_1 hra_6 hca_6 hra_7 hca_7 hrb_0 hcb_0 hrb_1 hcb_1 hrb_6 hcb_6 hrb_7 hcb_7 h).mono ?_
  rintro e w' ⟨rfl, hb⟩
  exact ⟨rfl, Ch.of_below hb⟩
theorem held4 (k : Nat) (Aa_0 : Option Addr) (ca_0 : Nat) (na_0 : Nat) (la_0 : List Int) (Aa_1 : Option Addr) (ca_1 : Nat) (na_1 : Nat) (la_1 : List Int) (ba_2 : Bool) (ba_3 : Bool) (ba_4 : Bool) (ba_5 : Bool) (Aa_6 : Option Addr) (ca_6 : Nat) (na_6 : Nat) (la_6 : List Int) (Aa_7 : Option Addr) (ca_7 : Nat) (na_7 : Nat) (la_7 : List Int) (ba_8 : Int) (m r : Int) (lo hi : Nat) (w : World) (hR : R4 w lo hi (.slice Aa_0 na_0 ca_0) (.slice Aa_1 na_1 ca_1) (.slice Aa_6 na_6 ca_6) (.slice Aa_7 na_7 ca_7) la_0 la_1 la_6 la_7) (h : laws_heldMach.f k la_0 la_1 ba_2 ba_3 ba_4 ba_5 la_6 la_7 ba_8 m = some r) :
    Calls Try.prog 33 #[.agg #[.slice Aa_0 na_0 ca_0, .slice Aa_1 na_1 ca_1, .bool ba_2, .bool ba_3, .bool ba_4, .bool ba_5, .slice Aa_6 na_6 ca_6, .slice Aa_7 na_7 ca_7, .int .i64 ba_8], .int .i64 m] w fun e w' => e = .returned (.int .i64 r) ∧ Ch w w' 0 0 := by
  obtain ⟨rfl, hca_0, hra_0⟩ := Kd.R_reads' hR.1
  obtain ⟨rfl, hca_1, hra_1⟩ := Kd.R_reads' hR.2.1
  obtain ⟨rfl, hca_6, hra_6⟩ := Kd.R_reads' hR.2.2.1
  obtain ⟨rfl, hca_7, hra_7⟩ := Kd.R_reads' hR.2.2.2
  refine (laws_heldMach.calls k Aa_0 ca_0 la_0 Aa_1 ca_1 la_1 ba_2 ba_3 ba_4 ba_5 Aa_6 ca_6 la_6 Aa_7 ca_7 la_7 ba_8 m r w hra_0 hca_0 hra_1 hca_1 hra_6 hca_6 hra_7 hca_7 h).mono ?_
  rintro e w' ⟨rfl, hb⟩
  exact ⟨rfl, Ch.of_below hb⟩
theorem mark4 (k : Nat) (v0 v1 v6 v7 : Value) (la_0 : List Int) (la_1 : List Int) (ba_2 : Bool) (ba_3 : Bool) (ba_4 : Bool) (ba_5 : Bool) (la_6 : List Int) (la_7 : List Int) (ba_8 : Int) (m r : Int) (q_0 q_1 q_6 q_7 : List Int) (lo hi : Nat) (w0 w : World) (hB : Below w0.heap.size w0 w) (hlo : w0.heap.size ≤ lo) (hR : R4 w lo hi v0 v1 v6 v7 la_0 la_1 la_6 la_7) (h : laws_markMach.f k la_0 la_1 ba_2 ba_3 ba_4 ba_5 la_6 la_7 ba_8 m = some (r, q_0, q_1, q_6, q_7)) :
    Calls Try.prog 32 #[.agg #[v0, v1, .bool ba_2, .bool ba_3, .bool ba_4, .bool ba_5, v6, v7, .int .i64 ba_8], .int .i64 m] w fun e w' => e = .returned (.int .i64 r) ∧ R4 w' lo hi v0 v1 v6 v7 q_0 q_1 q_6 q_7 ∧ Ch w w' lo hi := by
  obtain ⟨R0, R1, R6, R7⟩ := hR
  have g0 := fun k hk => R0.1 k hk
  have g1 := fun k hk => R1.1 k hk
  have g6 := fun k hk => R6.1 k hk
  have g7 := fun k hk => R7.1 k hk
  have ne : ∀ {u v : Value} {k : Nat}, some k ≠ v.ownBlock → v.ownBlock = some k → False := fun h1 h2 => h1 h2.symm
  refine (laws_markMach.calls k (fun k => v0.ownBlock = some k) v0 la_0 (fun k => v1.ownBlock = some k) v1 la_1 ba_2 ba_3 ba_4 ba_5 (fun k => v6.ownBlock = some k) v6 la_6 (fun k => v7.ownBlock = some k) v7 la_7 ba_8 m r q_0 q_1 q_6 q_7 w0 w hB
    (Kd.R_lower (R_own1 R0) hlo) (fun k h1 h2 => (g0 k h1).2.1 h2.symm) (fun k h1 h2 => (g0 k h1).2.2.1 h2.symm) (fun k h1 h2 => (g0 k h1).2.2.2 h2.symm)
    (Kd.R_lower (R_own1 R1) hlo) (fun k h1 h2 => (g1 k h1).2.1 h2.symm) (fun k h1 h2 => (g1 k h1).2.2.1 h2.symm) (fun k h1 h2 => (g1 k h1).2.2.2 h2.symm)
    (Kd.R_lower (R_own1 R6) hlo) (fun k h1 h2 => (g6 k h1).2.1 h2.symm) (fun k h1 h2 => (g6 k h1).2.2.1 h2.symm) (fun k h1 h2 => (g6 k h1).2.2.2 h2.symm)
    (Kd.R_lower (R_own1 R7) hlo) (fun k h1 h2 => (g7 k h1).2.1 h2.symm) (fun k h1 h2 => (g7 k h1).2.2.1 h2.symm) (fun k h1 h2 => (g7 k h1).2.2.2 h2.symm) h).mono ?_
  rintro e w' ⟨rfl, h0, h1, h6, h7, hb, hk⟩
  refine ⟨rfl, ⟨R_raise h0 (fun k hk => (g0 k hk).1.1) g0, R_raise h1 (fun k hk => (g1 k hk).1.1) g1, R_raise h6 (fun k hk => (g6 k hk).1.1) g6, R_raise h7 (fun k hk => (g7 k hk).1.1) g7⟩,
    ⟨hb.os.trans hB.os.symm, hb.tape.trans hB.tape.symm, hb.output.trans hB.output.symm, hk.1, fun i hi ho => hk.2 i hi ?_⟩⟩
  rintro (h | h | h | h)
  · have := (g0 i h).1; omega
  · have := (g1 i h).1; omega
  · have := (g6 i h).1; omega
  · have := (g7 i h).1; omega
end Go.Proofs.Ytiagbfilffbljaa.MCFnExactPlaceOf
