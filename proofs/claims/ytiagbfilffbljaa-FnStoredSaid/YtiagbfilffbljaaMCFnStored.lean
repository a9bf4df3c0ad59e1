/- The contracts of the law's callees over machines, said over the four rows at once (R4). -/
import Derived.Test.YtiagbfilffbljaaPFnStoredx1
import Derived.Test.YtiagbfilffbljaaPFnStoredx2
import Derived.Test.YtiagbfilffbljaaPFnStoredx3
import Derived.Test.YtiagbfilffbljaaPFnStoredx4
import Derived.Test.YtiagbfilffbljaaPFnStoredx5
import Derived.Test.YtiagbfilffbljaaPFnStoredx6
import Derived.Test.YtiagbfilffbljaaPFnStoredx7
import Derived.Test.YtiagbfilffbljaaPFnStoredx8
import Derived.Test.YtiagbfilffbljaaPFnStoredx9
import Derived.Test.YtiagbfilffbljaaPFnStoredx10
import Derived.Test.YtiagbfilffbljaaPFnStoredx11
import Derived.Test.YtiagbfilffbljaaPFnStoredx12
import Derived.Test.YtiagbfilffbljaaPFnStoredx13
import Derived.Test.YtiagbfilffbljaaPFnStoredx14
import Derived.Test.YtiagbfilffbljaaVGFnStored
namespace Go.Proofs.Ytiagbfilffbljaa.MCFnStored
open Go.RowKit Go.Proofs.YtiagbfilffbljaaW.PrintWords Go.Proofs.YtiagbfilffbljaaW.PrintLast Go.Proofs.YtiagbfilffbljaaW.PrintMore Go.Proofs.Ytiagbfilffbljaa.Chg Go.Proofs.Ytiagbfilffbljaa.PFnStored
set_option linter.unusedVariables false
set_option linter.unusedSimpArgs false
theorem dm4 (k : Nat) (Ab : Option Addr) (cb : Nat) (lb : List Int) (lr_0 : List Int) (lr_1 : List Int) (br_2 : Bool) (br_3 : Bool) (br_4 : Bool) (br_5 : Bool) (lr_6 : List Int) (lr_7 : List Int) (br_8 : Int)  (w0 w : World) (hB : Below w0.heap.size w0 w) (hr : Kd.C (Kd.int .u8) w0 Ab lb.length lb) (hc : lb.length ≤ cb) (h : spec_DrawMach.f k lb = some (lr_0, lr_1, br_2, br_3, br_4, br_5, lr_6, lr_7, br_8)) :
    Calls Try.prog 40 #[.slice Ab lb.length cb] w fun e w' => ∃ Ar_0 cr_0 Ar_1 cr_1 Ar_6 cr_6 Ar_7 cr_7 lo hi, e = .returned (.agg #[.slice Ar_0 lr_0.length cr_0, .slice Ar_1 lr_1.length cr_1, .bool br_2, .bool br_3, .bool br_4, .bool br_5, .slice Ar_6 lr_6.length cr_6, .slice Ar_7 lr_7.length cr_7, .int .i64 br_8]) ∧ w.heap.size ≤ lo ∧ lo ≤ hi ∧ hi ≤ w'.heap.size ∧ R4 w' lo hi (.slice Ar_0 lr_0.length cr_0) (.slice Ar_1 lr_1.length cr_1) (.slice Ar_6 lr_6.length cr_6) (.slice Ar_7 lr_7.length cr_7) lr_0 lr_1 lr_6 lr_7 ∧ Ch w w' 0 0 := by
  refine (spec_DrawMach.calls k Ab cb lb lr_0 lr_1 br_2 br_3 br_4 br_5 lr_6 lr_7 br_8  w (Kd.C_below hr hB) hc h).mono ?_
  rintro e w' ⟨v0, v1, v6, v7, rfl, h0, h1, h6, h7, hb⟩
  obtain ⟨Ar_0, cr_0, rfl⟩ := Kd.R_slice h0
  obtain ⟨Ar_1, cr_1, rfl⟩ := Kd.R_slice h1
  obtain ⟨Ar_6, cr_6, rfl⟩ := Kd.R_slice h6
  obtain ⟨Ar_7, cr_7, rfl⟩ := Kd.R_slice h7
  exact ⟨Ar_0, cr_0, Ar_1, cr_1, Ar_6, cr_6, Ar_7, cr_7, w.heap.size, w'.heap.size, rfl, Nat.le_refl _, hb.size, Nat.le_refl _, R4_of h0 h1 h6 h7, Ch.of_below hb⟩
theorem dp4 (k : Nat) (Ab : Option Addr) (cb : Nat) (lb : List Int) (lr_0 : List Int) (lr_1 : List Int) (br_2 : Bool) (br_3 : Bool) (br_4 : Bool) (br_5 : Bool) (lr_6 : List Int) (lr_7 : List Int) (br_8 : Int) (o0 : Int) (o1 : Int) (o2 : Int) (w0 w : World) (hB : Below w0.heap.size w0 w) (hr : Kd.C (Kd.int .u8) w0 Ab lb.length lb) (hc : lb.length ≤ cb) (h : spec_DrawPlaceOf.f k lb = some (lr_0, lr_1, br_2, br_3, br_4, br_5, lr_6, lr_7, br_8, o0, o1, o2)) :
    Calls Try.prog 52 #[.slice Ab lb.length cb] w fun e w' => ∃ Ar_0 cr_0 Ar_1 cr_1 Ar_6 cr_6 Ar_7 cr_7 lo hi, e = .returned (.tuple #[.agg #[.slice Ar_0 lr_0.length cr_0, .slice Ar_1 lr_1.length cr_1, .bool br_2, .bool br_3, .bool br_4, .bool br_5, .slice Ar_6 lr_6.length cr_6, .slice Ar_7 lr_7.length cr_7, .int .i64 br_8], .agg #[.int .i64 o0, .int .i64 o1, .int .i64 o2]]) ∧ w.heap.size ≤ lo ∧ lo ≤ hi ∧ hi ≤ w'.heap.size ∧ R4 w' lo hi (.slice Ar_0 lr_0.length cr_0) (.slice Ar_1 lr_1.length cr_1) (.slice Ar_6 lr_6.length cr_6) (.slice Ar_7 lr_7.length cr_7) lr_0 lr_1 lr_6 lr_7 ∧ Ch w w' 0 0 := by
  exact spec_DrawPlaceOf.made k Ab cb lb lr_0 lr_1 br_2 br_3 br_4 br_5 lr_6 lr_7 br_8 o0 o1 o2 w (Kd.C_below hr hB) hc h
theorem po4 (k : Nat) (Aa_0 : Option Addr) (ca_0 : Nat) (na_0 : Nat) (la_0 : List Int) (Aa_1 : Option Addr) (ca_1 : Nat) (na_1 : Nat) (la_1 : List Int) (ba_2 : Bool) (ba_3 : Bool) (ba_4 : Bool) (ba_5 : Bool) (Aa_6 : Option Addr) (ca_6 : Nat) (na_6 : Nat) (la_6 : List Int) (Aa_7 : Option Addr) (ca_7 : Nat) (na_7 : Nat) (la_7 : List Int) (ba_8 : Int) (o0 : Int) (o1 : Int) (o2 : Int) (lr_0 : List Int) (lr_1 : List Int) (br_2 : Bool) (br_3 : Bool) (br_4 : Bool) (br_5 : Bool) (lr_6 : List Int) (lr_7 : List Int) (br_8 : Int) (y0 : Int) (y1 : Int) (ok : Bool) (lo hi : Nat) (w : World) (hR : R4 w lo hi (.slice Aa_0 na_0 ca_0) (.slice Aa_1 na_1 ca_1) (.slice Aa_6 na_6 ca_6) (.slice Aa_7 na_7 ca_7) la_0 la_1 la_6 la_7) (h : impl_PlaceOf.f k la_0 la_1 ba_2 ba_3 ba_4 ba_5 la_6 la_7 ba_8 o0 o1 o2 = some (lr_0, lr_1, br_2, br_3, br_4, br_5, lr_6, lr_7, br_8, y0, y1, ok)) :
    Calls Try.prog 46 #[.agg #[.slice Aa_0 na_0 ca_0, .slice Aa_1 na_1 ca_1, .bool ba_2, .bool ba_3, .bool ba_4, .bool ba_5, .slice Aa_6 na_6 ca_6, .slice Aa_7 na_7 ca_7, .int .i64 ba_8], .agg #[.int .i64 o0, .int .i64 o1, .int .i64 o2]] w fun e w' => ∃ Ar_0 cr_0 Ar_1 cr_1 Ar_6 cr_6 Ar_7 cr_7 lo' hi', e = .returned (.tuple #[.agg #[.slice Ar_0 lr_0.length cr_0, .slice Ar_1 lr_1.length cr_1, .bool br_2, .bool br_3, .bool br_4, .bool br_5, .slice Ar_6 lr_6.length cr_6, .slice Ar_7 lr_7.length cr_7, .int .i64 br_8], .agg #[.int .i64 y0, .int .i64 y1], .bool ok]) ∧ w.heap.size ≤ lo' ∧ lo' ≤ hi' ∧ hi' ≤ w'.heap.size ∧ R4 w' lo' hi' (.slice Ar_0 lr_0.length cr_0) (.slice Ar_1 lr_1.length cr_1) (.slice Ar_6 lr_6.length cr_6) (.slice Ar_7 lr_7.length cr_7) lr_0 lr_1 lr_6 lr_7 ∧ Ch w w' 0 0 := by
  obtain ⟨rfl, hca_0, hra_0⟩ := Kd.R_reads' hR.1
  obtain ⟨rfl, hca_1, hra_1⟩ := Kd.R_reads' hR.2.1
  obtain ⟨rfl, hca_6, hra_6⟩ := Kd.R_reads' hR.2.2.1
  obtain ⟨rfl, hca_7, hra_7⟩ := Kd.R_reads' hR.2.2.2
  refine (impl_PlaceOf.calls k Aa_0 ca_0 la_0 Aa_1 ca_1 la_1 ba_2 ba_3 ba_4 ba_5 Aa_6 ca_6 la_6 Aa_7 ca_7 la_7 ba_8 o0 o1 o2 lr_0 lr_1 br_2 br_3 br_4 br_5 lr_6 lr_7 br_8 y0 y1 ok w hra_0 hca_0 hra_1 hca_1 hra_6 hca_6 hra_7 hca_7 h).mono ?_
  rintro e w' ⟨v0, v1, v6, v7, rfl, h0, h1, h6, h7, hb⟩
  obtain ⟨Ar_0, cr_0, rfl⟩ := Kd.R_slice h0
  obtain ⟨Ar_1, cr_1, rfl⟩ := Kd.R_slice h1
  obtain ⟨Ar_6, cr_6, rfl⟩ := Kd.R_slice h6
  obtain ⟨Ar_7, cr_7, rfl⟩ := Kd.R_slice h7
  exact ⟨Ar_0, cr_0, Ar_1, cr_1, Ar_6, cr_6, Ar_7, cr_7, w.heap.size, w'.heap.size, rfl, Nat.le_refl _, hb.size, Nat.le_refl _, R4_of h0 h1 h6 h7, Ch.of_below hb⟩
theorem st4 (k : Nat) (Aa_0 : Option Addr) (ca_0 : Nat) (na_0 : Nat) (la_0 : List Int) (Aa_1 : Option Addr) (ca_1 : Nat) (na_1 : Nat) (la_1 : List Int) (ba_2 : Bool) (ba_3 : Bool) (ba_4 : Bool) (ba_5 : Bool) (Aa_6 : Option Addr) (ca_6 : Nat) (na_6 : Nat) (la_6 : List Int) (Aa_7 : Option Addr) (ca_7 : Nat) (na_7 : Nat) (la_7 : List Int) (ba_8 : Int) (y0 : Int) (y1 : Int) (n : Int) (lr_0 : List Int) (lr_1 : List Int) (br_2 : Bool) (br_3 : Bool) (br_4 : Bool) (br_5 : Bool) (lr_6 : List Int) (lr_7 : List Int) (br_8 : Int) (is : Bool) (lo hi : Nat) (w : World) (hR : R4 w lo hi (.slice Aa_0 na_0 ca_0) (.slice Aa_1 na_1 ca_1) (.slice Aa_6 na_6 ca_6) (.slice Aa_7 na_7 ca_7) la_0 la_1 la_6 la_7) (h : impl_Store.f la_0 la_1 ba_2 ba_3 ba_4 ba_5 la_6 la_7 ba_8 y0 y1 n = some (lr_0, lr_1, br_2, br_3, br_4, br_5, lr_6, lr_7, br_8, is)) :
    Calls Try.prog 37 #[.agg #[.slice Aa_0 na_0 ca_0, .slice Aa_1 na_1 ca_1, .bool ba_2, .bool ba_3, .bool ba_4, .bool ba_5, .slice Aa_6 na_6 ca_6, .slice Aa_7 na_7 ca_7, .int .i64 ba_8], .agg #[.int .i64 y0, .int .i64 y1], .int .i64 n] w fun e w' => ∃ Ar_0 cr_0 Ar_1 cr_1 Ar_6 cr_6 Ar_7 cr_7 lo' hi', e = .returned (.tuple #[.agg #[.slice Ar_0 lr_0.length cr_0, .slice Ar_1 lr_1.length cr_1, .bool br_2, .bool br_3, .bool br_4, .bool br_5, .slice Ar_6 lr_6.length cr_6, .slice Ar_7 lr_7.length cr_7, .int .i64 br_8], .bool is]) ∧ w.heap.size ≤ lo' ∧ lo' ≤ hi' ∧ hi' ≤ w'.heap.size ∧ R4 w' lo' hi' (.slice Ar_0 lr_0.length cr_0) (.slice Ar_1 lr_1.length cr_1) (.slice Ar_6 lr_6.length cr_6) (.slice Ar_7 lr_7.length cr_7) lr_0 lr_1 lr_6 lr_7 ∧ Ch w w' 0 0 := by
  obtain ⟨rfl, hca_0, hra_0⟩ := Kd.R_reads' hR.1
  obtain ⟨rfl, hca_1, hra_1⟩ := Kd.R_reads' hR.2.1
  obtain ⟨rfl, hca_6, hra_6⟩ := Kd.R_reads' hR.2.2.1
  obtain ⟨rfl, hca_7, hra_7⟩ := Kd.R_reads' hR.2.2.2
  refine (impl_Store.calls Aa_0 ca_0 la_0 Aa_1 ca_1 la_1 ba_2 ba_3 ba_4 ba_5 Aa_6 ca_6 la_6 Aa_7 ca_7 la_7 ba_8 y0 y1 n lr_0 lr_1 br_2 br_3 br_4 br_5 lr_6 lr_7 br_8 is w hra_0 hca_0 hra_1 hca_1 hra_6 hca_6 hra_7 hca_7 h).mono ?_
  rintro e w' ⟨v0, v1, v6, v7, rfl, h0, h1, h6, h7, hb⟩
  obtain ⟨Ar_0, cr_0, rfl⟩ := Kd.R_slice h0
  obtain ⟨Ar_1, cr_1, rfl⟩ := Kd.R_slice h1
  obtain ⟨Ar_6, cr_6, rfl⟩ := Kd.R_slice h6
  obtain ⟨Ar_7, cr_7, rfl⟩ := Kd.R_slice h7
  exact ⟨Ar_0, cr_0, Ar_1, cr_1, Ar_6, cr_6, Ar_7, cr_7, w.heap.size, w'.heap.size, rfl, Nat.le_refl _, hb.size, Nat.le_refl _, R4_of h0 h1 h6 h7, Ch.of_below hb⟩
theorem li4 (k : Nat) (Aa_0 : Option Addr) (ca_0 : Nat) (na_0 : Nat) (la_0 : List Int) (Aa_1 : Option Addr) (ca_1 : Nat) (na_1 : Nat) (la_1 : List Int) (ba_2 : Bool) (ba_3 : Bool) (ba_4 : Bool) (ba_5 : Bool) (Aa_6 : Option Addr) (ca_6 : Nat) (na_6 : Nat) (la_6 : List Int) (Aa_7 : Option Addr) (ca_7 : Nat) (na_7 : Nat) (la_7 : List Int) (ba_8 : Int)  (y0 : Int) (y1 : Int) (u : Int) (can : Bool) (lo hi : Nat)  (w : World) (hR : R4 w lo hi (.slice Aa_0 na_0 ca_0) (.slice Aa_1 na_1 ca_1) (.slice Aa_6 na_6 ca_6) (.slice Aa_7 na_7 ca_7) la_0 la_1 la_6 la_7)  (h : impl_Load.f la_0 la_1 ba_2 ba_3 ba_4 ba_5 la_6 la_7 ba_8  y0 y1 = some (u, can)) :
    Calls Try.prog 26 #[.agg #[.slice Aa_0 na_0 ca_0, .slice Aa_1 na_1 ca_1, .bool ba_2, .bool ba_3, .bool ba_4, .bool ba_5, .slice Aa_6 na_6 ca_6, .slice Aa_7 na_7 ca_7, .int .i64 ba_8], .agg #[.int .i64 y0, .int .i64 y1]] w fun e w' => e = .returned (.tuple #[.int .i64 u, .bool can]) ∧ Ch w w' 0 0 := by
  obtain ⟨rfl, hca_0, hra_0⟩ := Kd.R_reads' hR.1
  obtain ⟨rfl, hca_1, hra_1⟩ := Kd.R_reads' hR.2.1
  obtain ⟨rfl, hca_6, hra_6⟩ := Kd.R_reads' hR.2.2.1
  obtain ⟨rfl, hca_7, hra_7⟩ := Kd.R_reads' hR.2.2.2
  refine (impl_Load.calls Aa_0 ca_0 la_0 Aa_1 ca_1 la_1 ba_2 ba_3 ba_4 ba_5 Aa_6 ca_6 la_6 Aa_7 ca_7 la_7 ba_8  y0 y1 u can w hra_0 hca_0 hra_1 hca_1 hra_6 hca_6 hra_7 hca_7  h).mono ?_
  rintro e w' ⟨rfl, hb⟩
  exact ⟨rfl, Ch.of_below hb⟩
theorem ls4 (k : Nat) (Aa_0 : Option Addr) (ca_0 : Nat) (na_0 : Nat) (la_0 : List Int) (Aa_1 : Option Addr) (ca_1 : Nat) (na_1 : Nat) (la_1 : List Int) (ba_2 : Bool) (ba_3 : Bool) (ba_4 : Bool) (ba_5 : Bool) (Aa_6 : Option Addr) (ca_6 : Nat) (na_6 : Nat) (la_6 : List Int) (Aa_7 : Option Addr) (ca_7 : Nat) (na_7 : Nat) (la_7 : List Int) (ba_8 : Int)  (y0 : Int) (y1 : Int) (u : Int) (can : Bool) (lo hi : Nat)  (w : World) (hR : R4 w lo hi (.slice Aa_0 na_0 ca_0) (.slice Aa_1 na_1 ca_1) (.slice Aa_6 na_6 ca_6) (.slice Aa_7 na_7 ca_7) la_0 la_1 la_6 la_7)  (h : spec_Load.f la_0 la_1 ba_2 ba_3 ba_4 ba_5 la_6 la_7 ba_8  y0 y1 = some (u, can)) :
    Calls Try.prog 24 #[.agg #[.slice Aa_0 na_0 ca_0, .slice Aa_1 na_1 ca_1, .bool ba_2, .bool ba_3, .bool ba_4, .bool ba_5, .slice Aa_6 na_6 ca_6, .slice Aa_7 na_7 ca_7, .int .i64 ba_8], .agg #[.int .i64 y0, .int .i64 y1]] w fun e w' => e = .returned (.tuple #[.int .i64 u, .bool can]) ∧ Ch w w' 0 0 := by
  obtain ⟨rfl, hca_0, hra_0⟩ := Kd.R_reads' hR.1
  obtain ⟨rfl, hca_1, hra_1⟩ := Kd.R_reads' hR.2.1
  obtain ⟨rfl, hca_6, hra_6⟩ := Kd.R_reads' hR.2.2.1
  obtain ⟨rfl, hca_7, hra_7⟩ := Kd.R_reads' hR.2.2.2
  refine (spec_Load.calls Aa_0 ca_0 la_0 Aa_1 ca_1 la_1 ba_2 ba_3 ba_4 ba_5 Aa_6 ca_6 la_6 Aa_7 ca_7 la_7 ba_8  y0 y1 u can w hra_0 hca_0 hra_1 hca_1 hra_6 hca_6 hra_7 hca_7  h).mono ?_
  rintro e w' ⟨rfl, hb⟩
  exact ⟨rfl, Ch.of_below hb⟩
theorem sm4 (k : Nat) (Aa_0 : Option Addr) (ca_0 : Nat) (na_0 : Nat) (la_0 : List Int) (Aa_1 : Option Addr) (ca_1 : Nat) (na_1 : Nat) (la_1 : List Int) (ba_2 : Bool) (ba_3 : Bool) (ba_4 : Bool) (ba_5 : Bool) (Aa_6 : Option Addr) (ca_6 : Nat) (na_6 : Nat) (la_6 : List Int) (Aa_7 : Option Addr) (ca_7 : Nat) (na_7 : Nat) (la_7 : List Int) (ba_8 : Int) (Ab_0 : Option Addr) (cb_0 : Nat) (nb_0 : Nat) (lb_0 : List Int) (Ab_1 : Option Addr) (cb_1 : Nat) (nb_1 : Nat) (lb_1 : List Int) (bb_2 : Bool) (bb_3 : Bool) (bb_4 : Bool) (bb_5 : Bool) (Ab_6 : Option Addr) (cb_6 : Nat) (nb_6 : Nat) (lb_6 : List Int) (Ab_7 : Option Addr) (cb_7 : Nat) (nb_7 : Nat) (lb_7 : List Int) (bb_8 : Int)  (r : Bool) (lo hi : Nat) (lo' hi' : Nat) (w : World) (hR : R4 w lo hi (.slice Aa_0 na_0 ca_0) (.slice Aa_1 na_1 ca_1) (.slice Aa_6 na_6 ca_6) (.slice Aa_7 na_7 ca_7) la_0 la_1 la_6 la_7) (hS : R4 w lo' hi' (.slice Ab_0 nb_0 cb_0) (.slice Ab_1 nb_1 cb_1) (.slice Ab_6 nb_6 cb_6) (.slice Ab_7 nb_7 cb_7) lb_0 lb_1 lb_6 lb_7) (h : laws_sameMach.f k la_0 la_1 ba_2 ba_3 ba_4 ba_5 la_6 la_7 ba_8 lb_0 lb_1 bb_2 bb_3 bb_4 bb_5 lb_6 lb_7 bb_8  = some r) :
    Calls Try.prog 42 #[.agg #[.slice Aa_0 na_0 ca_0, .slice Aa_1 na_1 ca_1, .bool ba_2, .bool ba_3, .bool ba_4, .bool ba_5, .slice Aa_6 na_6 ca_6, .slice Aa_7 na_7 ca_7, .int .i64 ba_8], .agg #[.slice Ab_0 nb_0 cb_0, .slice Ab_1 nb_1 cb_1, .bool bb_2, .bool bb_3, .bool bb_4, .bool bb_5, .slice Ab_6 nb_6 cb_6, .slice Ab_7 nb_7 cb_7, .int .i64 bb_8]] w fun e w' => e = .returned (.bool r) ∧ Ch w w' 0 0 := by
  obtain ⟨rfl, hca_0, hra_0⟩ := Kd.R_reads' hR.1
  obtain ⟨rfl, hca_1, hra_1⟩ := Kd.R_reads' hR.2.1
  obtain ⟨rfl, hca_6, hra_6⟩ := Kd.R_reads' hR.2.2.1
  obtain ⟨rfl, hca_7, hra_7⟩ := Kd.R_reads' hR.2.2.2
  obtain ⟨rfl, hcb_0, hrb_0⟩ := Kd.R_reads' hS.1
  obtain ⟨rfl, hcb_1, hrb_1⟩ := Kd.R_reads' hS.2.1
  obtain ⟨rfl, hcb_6, hrb_6⟩ := Kd.R_reads' hS.2.2.1
  obtain ⟨rfl, hcb_7, hrb_7⟩ := Kd.R_reads' hS.2.2.2
  refine (laws_sameMach.calls k Aa_0 ca_0 la_0 Aa_1 ca_1 la_1 ba_2 ba_3 ba_4 ba_5 Aa_6 ca_6 la_6 Aa_7 ca_7 la_7 ba_8 Ab_0 cb_0 lb_0 Ab_1 cb_1 lb_1 bb_2 bb_3 bb_4 bb_5 Ab_6 cb_6 lb_6 Ab_7 cb_7 lb_7 bb_8  r w hra_0 hca_0 hra_1 hca_1 hra_6 hca_6 hra_7 hca_7 hrb_0 hcb_0 hrb_1 hcb_1 hrb_6 hcb_6 hrb_7 hcb_7 h).mono ?_
  rintro e w' ⟨rfl, hb⟩
  exact ⟨rfl, Ch.of_below hb⟩
theorem mo4 (k : Nat) (Aa_0 : Option Addr) (ca_0 : Nat) (na_0 : Nat) (la_0 : List Int) (Aa_1 : Option Addr) (ca_1 : Nat) (na_1 : Nat) (la_1 : List Int) (ba_2 : Bool) (ba_3 : Bool) (ba_4 : Bool) (ba_5 : Bool) (Aa_6 : Option Addr) (ca_6 : Nat) (na_6 : Nat) (la_6 : List Int) (Aa_7 : Option Addr) (ca_7 : Nat) (na_7 : Nat) (la_7 : List Int) (ba_8 : Int)   (r : Bool) (lo hi : Nat)  (w : World) (hR : R4 w lo hi (.slice Aa_0 na_0 ca_0) (.slice Aa_1 na_1 ca_1) (.slice Aa_6 na_6 ca_6) (.slice Aa_7 na_7 ca_7) la_0 la_1 la_6 la_7)  (h : impl_MachOk.f k la_0 la_1 ba_2 ba_3 ba_4 ba_5 la_6 la_7 ba_8   = some r) :
    Calls Try.prog 23 #[.agg #[.slice Aa_0 na_0 ca_0, .slice Aa_1 na_1 ca_1, .bool ba_2, .bool ba_3, .bool ba_4, .bool ba_5, .slice Aa_6 na_6 ca_6, .slice Aa_7 na_7 ca_7, .int .i64 ba_8]] w fun e w' => e = .returned (.bool r) ∧ Ch w w' 0 0 := by
  obtain ⟨rfl, hca_0, hra_0⟩ := Kd.R_reads' hR.1
  obtain ⟨rfl, hca_1, hra_1⟩ := Kd.R_reads' hR.2.1
  obtain ⟨rfl, hca_6, hra_6⟩ := Kd.R_reads' hR.2.2.1
  obtain ⟨rfl, hca_7, hra_7⟩ := Kd.R_reads' hR.2.2.2
  refine (impl_MachOk.calls k Aa_0 ca_0 la_0 Aa_1 ca_1 la_1 ba_2 ba_3 ba_4 ba_5 Aa_6 ca_6 la_6 Aa_7 ca_7 la_7 ba_8   r w hra_0 hca_0 hra_1 hca_1 hra_6 hca_6 hra_7 hca_7  h).mono ?_
  rintro e w' ⟨rfl, hb⟩
  exact ⟨rfl, Ch.of_below hb⟩
end Go.Proofs.Ytiagbfilffbljaa.MCFnStored
