/- The walk of the law FnPutIn: where the plain functions tell these values, the law returns true and leaves what was there as it was. -/
import Derived.Test.YtcpnhlhigpgonaaPureFnPutIn
namespace Go.Proofs.Ytcpnhlhigpgonaa.WFnPutIn
open Go.Proofs.Ytcpnhlhigpgonaa.PFnPutIn Go.RowKit Go.Proofs.YtcpnhlhigpgonaaW.PrintWords Go.Proofs.YtcpnhlhigpgonaaW.PrintLast Go.Proofs.YtcpnhlhigpgonaaW.PrintMore Go.Proofs.Ytcpnhlhigpgonaa.Chg
set_option linter.unusedVariables false
set_option linter.unusedSimpArgs false
attribute [local go_sem] max2_int min2_int max_two min_two max_three min_three max_four min_four
set_option maxHeartbeats 32000000 in
set_option maxRecDepth 100000 in
theorem law_z (k : Nat) (Ab : Option Addr) (cb : Nat) (lb : List Int) (e0 e1 : Int) (e2 : ByteArray) (le : List S29) (z0 z1 : Int) (z2 : ByteArray) (lz : List S29) (ll : List S29) (p0 p1 : Int) (p2 : ByteArray) (lp : List S29) (u0 u1 : Int) (u2 : ByteArray) (lu : List S29) (lx ly : List Int) (n : Int) (ok : Bool) (w : World) (hr : Kd.C (Kd.int .u8) w Ab lb.length lb) (hc : lb.length ≤ cb) (hbg : laws_big.f lb = some false) (hdp : DrewPut k lb e0 e1 e2 le z0 z1 z2 lz ll) (hip : impl_Put.f k e0 e1 e2 le z0 z1 z2 lz [(⟨#[97]⟩ : ByteArray), (⟨#[98]⟩ : ByteArray)] ll = some (p0, p1, p2, lp)) (hsp : spec_Put.f k e0 e1 e2 le z0 z1 z2 lz [(⟨#[97]⟩ : ByteArray), (⟨#[98]⟩ : ByteArray)] ll = some (p0, p1, p2, lp)) (hdw : DrewWorth k lb u0 u1 u2 lu lx ly) (hiw : impl_Worth.f k u0 u1 u2 lu lx [(⟨#[103]⟩ : ByteArray), (⟨#[104]⟩ : ByteArray)] ly = some (n, ok)) (hsw : spec_Worth.f k u0 u1 u2 lu lx [(⟨#[103]⟩ : ByteArray), (⟨#[104]⟩ : ByteArray)] ly = some (n, ok)) (hsm : impl_SameExpr.f k p0 p1 p2 lp p0 p1 p2 lp = some true) (hn : 0 ≤ n ∧ n ≤ 65535) (hz : (p0 == 0) = true) :
    Calls Try.prog 11 #[.slice Ab lb.length cb] w fun e w' => e = .returned (.bool true) ∧ Below w.heap.size w w' := by
  have HR := A_ hr
  have HC := A_ hc
  clear hr hc
  have HB := A_ (Below.refl w.heap.size w)
  have S : Aside0 (w.heap.size ≤ w.heap.size) := A_ (Nat.le_refl _)
  have Hbg := A_ hbg
  have Hdp := A_ hdp
  have Hip := A_ hip
  have Hsp := A_ hsp
  have Hdw := A_ hdw
  have Hiw := A_ hiw
  have Hsw := A_ hsw
  have Hsm := A_ hsm
  have Hn := A_ hn
  clear hbg hdp hip hsp hdw hiw hsw hsm hn
  go_enter Try.func11, Try.ntmps11
  go_wp2_with (first | ((with_reducible refine gate_callee (f := 21) rfl ?_); (try (refine gate_guard (by rfl) ?_; dsimp only)); refine gL_ (some 17) Try.func21 #[.slice Ab lb.length cb] ?_; refine (laws_big.calls Ab cb lb false _ (Kd.C_below HR.out HB.out) HC.out Hbg.out).mono ?_; rintro e w' ⟨rfl, hd⟩; have hc := Ch.of_drawn hd; refine ⟨_, rfl, ?_⟩; replace HB := hz_ hc HB; replace S := t_ hc S; clear hc hd) | ((with_reducible refine gate_callee (f := 44) rfl ?_); (try (refine gate_guard (by rfl) ?_; dsimp only)); refine gL_ (some 20) Try.func44 #[.slice Ab lb.length cb] ?_; obtain ⟨loP, hlo_⟩ : ∃ q_, q_ = w'.heap.size := ⟨_, rfl⟩; have F1 : w.heap.size ≤ loP := (by have := S.out; omega); refine (dput k Ab cb lb e0 e1 e2 le z0 z1 z2 lz ll _ (Kd.C_below HR.out HB.out) HC.out Hdp.out).mono ?_; rintro e w' ⟨Ae, ce, Az, cz, An, Al, cl, rfl, hle, hlz, hll, je_, jz_, jn_, jl_, hb⟩; have hc := co_ hb; refine ⟨_, rfl, ?_⟩; rw [← hlo_] at je_ jz_ jn_ jl_; obtain ⟨hiP, hhi_⟩ : ∃ q_, q_ = w'.heap.size := ⟨_, rfl⟩; rw [← hhi_] at je_ jz_ jn_ jl_; have F2 : loP ≤ hiP := (by have := hc.size; omega); replace HB := hz_ hc HB; replace S := t_ hc S; clear S hc hb; have S : Aside0 (hiP ≤ w'.heap.size) := A_ (by omega); have Te := A_ je_; have Tz := A_ jz_; have Tn := A_ jn_; have Tl := A_ jl_; have Ghle := A_ hle; have Ghlz := A_ hlz; have Ghll := A_ hll; clear je_ jz_ jn_ jl_ hle hlz hll hlo_ hhi_) | ((with_reducible refine gate_dst (N := 3) rfl ?_); refine bx_ 3 #[.int .i64 0, .int .i64 0, .string (⟨#[]⟩ : ByteArray), .slice none 0 0] 29 ?_; intro g3 hg w' hbox hb; have hc := co_ hb; have F3 : hiP ≤ g3 := (by have := S.out; omega); clear hg; replace Te := fz_ hc Te; replace Tz := fz_ hc Tz; replace Tn := fz_ hc Tn; replace Tl := fz_ hc Tl; replace HB := hz_ hc HB; replace S := t_ hc S; clear S; have S : Aside0 (g3 + 1 ≤ w'.heap.size) := A_ (blk_lt hbox); have BK3 := A_ hbox; clear hbox hb hc) | ((with_reducible refine gate_dst (N := 4) rfl ?_); refine bx_ 4 #[.int .i64 0, .int .i64 0, .string (⟨#[]⟩ : ByteArray), .slice none 0 0] 29 ?_; intro g4 hg w' hbox hb; have hc := co_ hb; have F4 : g3 + 1 ≤ g4 := (by have := S.out; omega); clear hg; replace Te := fz_ hc Te; replace Tz := fz_ hc Tz; replace Tn := fz_ hc Tn; replace Tl := fz_ hc Tl; replace BK3 := bz_ hc BK3; replace HB := hz_ hc HB; replace S := t_ hc S; clear S; have S : Aside0 (g4 + 1 ≤ w'.heap.size) := A_ (blk_lt hbox); have BK4 := A_ hbox; clear hbox hb hc) | ((with_reducible refine gate_ (.store 29 (.tmp 3) (.tmp 21)) rfl ?_); refine ss_ 29 3 21 #[.int .i64 e0, .int .i64 e1, .string e2, .slice Ae le.length ce] BK3.out ?_; intro w' hbox hc; replace Te := fs_ hc Te (by have := S.out; omega); replace Tz := fs_ hc Tz (by have := S.out; omega); replace Tn := fs_ hc Tn (by have := S.out; omega); replace Tl := fs_ hc Tl (by have := S.out; omega); replace BK4 := bs_ hc BK4 (by have := S.out; omega); replace HB := hs_ hc HB (by have := S.out; omega); replace S := t_ hc S; clear BK3; have BK3 := A_ hbox; clear hbox hc) | ((with_reducible refine gate_ (.store 29 (.tmp 4) (.tmp 22)) rfl ?_); refine ss_ 29 4 22 #[.int .i64 z0, .int .i64 z1, .string z2, .slice Az lz.length cz] BK4.out ?_; intro w' hbox hc; replace Te := fs_ hc Te (by have := S.out; omega); replace Tz := fs_ hc Tz (by have := S.out; omega); replace Tn := fs_ hc Tn (by have := S.out; omega); replace Tl := fs_ hc Tl (by have := S.out; omega); replace BK3 := bs_ hc BK3 (by have := S.out; omega); replace HB := hs_ hc HB (by have := S.out; omega); replace S := t_ hc S; clear BK4; have BK4 := A_ hbox; clear hbox hc) | ((with_reducible refine gate_ (.load 29 (.tmp 3)) rfl ?_); (try (refine gate_guard (by rfl) ?_; dsimp only)); refine ld_ 29 3 BK3.out Try.underlying29 ?_) | ((with_reducible refine gate_ (.load 29 (.tmp 4)) rfl ?_); (try (refine gate_guard (by rfl) ?_; dsimp only)); refine ld_ 29 4 BK4.out Try.underlying29 ?_) | ((with_reducible refine gate_callee (f := 34) rfl ?_); (try (refine gate_guard (by rfl) ?_; dsimp only)); refine gL_ (some 29) Try.func34 #[.agg #[.int .i64 e0, .int .i64 e1, .string e2, .slice Ae le.length ce], .agg #[.int .i64 z0, .int .i64 z1, .string z2, .slice Az lz.length cz], .slice An 2 2, .slice Al ll.length cl] ?_; obtain ⟨lop, hlo_⟩ : ∃ q_, q_ = w'.heap.size := ⟨_, rfl⟩; have F5 : g4 + 1 ≤ lop := (by have := S.out; omega); refine (impl_Put.calls k e0 e1 e2 Ae ce le z0 z1 z2 Az cz lz An 2 [(⟨#[97]⟩ : ByteArray), (⟨#[98]⟩ : ByteArray)] Al cl ll p0 p1 p2 lp _ (Kd.F_now Te.out) Ghle.out (Kd.F_now Tz.out) Ghlz.out (Kd.F_now Tn.out) (Nat.le_refl 2) (Kd.F_now Tl.out) Ghll.out Hip.out).mono ?_; rintro e w' ⟨vv_, rfl, hR, hb⟩; obtain ⟨Ap, cp, rfl, hlp, hF⟩ := R_in hR; have hc := co_ hb; refine ⟨_, rfl, ?_⟩; rw [← hlo_] at hF; obtain ⟨hip, hhi_⟩ : ∃ q_, q_ = w'.heap.size := ⟨_, rfl⟩; rw [← hhi_] at hF; have F6 : lop ≤ hip := (by have := hc.size; omega); replace Te := fz_ hc Te; replace Tz := fz_ hc Tz; replace Tn := fz_ hc Tn; replace Tl := fz_ hc Tl; replace BK3 := bz_ hc BK3; replace BK4 := bz_ hc BK4; replace HB := hz_ hc HB; replace S := t_ hc S; clear hb; clear S hR hc; have S : Aside0 (hip ≤ w'.heap.size) := A_ (by omega); have Tp := A_ hF; clear hF hlo_ hhi_) | ((with_reducible refine gate_dst (N := 7) rfl ?_); refine bx_ 7 #[.int .i64 0, .int .i64 0, .string (⟨#[]⟩ : ByteArray), .slice none 0 0] 29 ?_; intro g7 hg w' hbox hb; have hc := co_ hb; have F7 : hip ≤ g7 := (by have := S.out; omega); clear hg; replace Te := fz_ hc Te; replace Tz := fz_ hc Tz; replace Tn := fz_ hc Tn; replace Tl := fz_ hc Tl; replace BK3 := bz_ hc BK3; replace BK4 := bz_ hc BK4; replace Tp := fz_ hc Tp; replace HB := hz_ hc HB; replace S := t_ hc S; clear S; have S : Aside0 (g7 + 1 ≤ w'.heap.size) := A_ (blk_lt hbox); have BK7 := A_ hbox; clear hbox hb hc) | ((with_reducible refine gate_ (.store 29 (.tmp 7) (.tmp 29)) rfl ?_); refine ss_ 29 7 29 #[.int .i64 p0, .int .i64 p1, .string p2, .slice Ap lp.length cp] BK7.out ?_; intro w' hbox hc; replace Te := fs_ hc Te (by have := S.out; omega); replace Tz := fs_ hc Tz (by have := S.out; omega); replace Tn := fs_ hc Tn (by have := S.out; omega); replace Tl := fs_ hc Tl (by have := S.out; omega); replace BK3 := bs_ hc BK3 (by have := S.out; omega); replace BK4 := bs_ hc BK4 (by have := S.out; omega); replace Tp := fs_ hc Tp (by have := S.out; omega); replace HB := hs_ hc HB (by have := S.out; omega); replace S := t_ hc S; clear BK7; have BK7 := A_ hbox; clear hbox hc) | ((with_reducible refine gate_callee (f := 45) rfl ?_); (try (refine gate_guard (by rfl) ?_; dsimp only)); refine gL_ (some 32) Try.func45 #[.slice Ab lb.length cb] ?_; obtain ⟨loW, hlo_⟩ : ∃ q_, q_ = w'.heap.size := ⟨_, rfl⟩; have F8 : g7 + 1 ≤ loW := (by have := S.out; omega); refine (dworth k Ab cb lb u0 u1 u2 lu lx ly _ (Kd.C_below HR.out HB.out) HC.out Hdw.out).mono ?_; rintro e w' ⟨Au, cu, Ax, Ag, Ay, rfl, hlu, hlx, hly, ju_, jx_, jg_, jy_, hb⟩; have hc := co_ hb; refine ⟨_, rfl, ?_⟩; rw [← hlo_] at ju_ jx_ jg_ jy_; obtain ⟨hiW, hhi_⟩ : ∃ q_, q_ = w'.heap.size := ⟨_, rfl⟩; rw [← hhi_] at ju_ jx_ jg_ jy_; have F9 : loW ≤ hiW := (by have := hc.size; omega); replace Te := fz_ hc Te; replace Tz := fz_ hc Tz; replace Tn := fz_ hc Tn; replace Tl := fz_ hc Tl; replace BK3 := bz_ hc BK3; replace BK4 := bz_ hc BK4; replace Tp := fz_ hc Tp; replace BK7 := bz_ hc BK7; replace HB := hz_ hc HB; replace S := t_ hc S; clear S hc hb; have S : Aside0 (hiW ≤ w'.heap.size) := A_ (by omega); have Tu := A_ ju_; have Tx := A_ jx_; have Tg := A_ jg_; have Ty := A_ jy_; have Ghlu := A_ hlu; have Ghlx := A_ hlx; have Ghly := A_ hly; clear ju_ jx_ jg_ jy_ hlu hlx hly hlo_ hhi_) | ((with_reducible refine gate_dst (N := 8) rfl ?_); refine bx_ 8 #[.int .i64 0, .int .i64 0, .string (⟨#[]⟩ : ByteArray), .slice none 0 0] 29 ?_; intro g8 hg w' hbox hb; have hc := co_ hb; have F10 : hiW ≤ g8 := (by have := S.out; omega); clear hg; replace Te := fz_ hc Te; replace Tz := fz_ hc Tz; replace Tn := fz_ hc Tn; replace Tl := fz_ hc Tl; replace BK3 := bz_ hc BK3; replace BK4 := bz_ hc BK4; replace Tp := fz_ hc Tp; replace BK7 := bz_ hc BK7; replace Tu := fz_ hc Tu; replace Tx := fz_ hc Tx; replace Tg := fz_ hc Tg; replace Ty := fz_ hc Ty; replace HB := hz_ hc HB; replace S := t_ hc S; clear S; have S : Aside0 (g8 + 1 ≤ w'.heap.size) := A_ (blk_lt hbox); have BK8 := A_ hbox; clear hbox hb hc) | ((with_reducible refine gate_ (.store 29 (.tmp 8) (.tmp 33)) rfl ?_); refine ss_ 29 8 33 #[.int .i64 u0, .int .i64 u1, .string u2, .slice Au lu.length cu] BK8.out ?_; intro w' hbox hc; replace Te := fs_ hc Te (by have := S.out; omega); replace Tz := fs_ hc Tz (by have := S.out; omega); replace Tn := fs_ hc Tn (by have := S.out; omega); replace Tl := fs_ hc Tl (by have := S.out; omega); replace BK3 := bs_ hc BK3 (by have := S.out; omega); replace BK4 := bs_ hc BK4 (by have := S.out; omega); replace Tp := fs_ hc Tp (by have := S.out; omega); replace BK7 := bs_ hc BK7 (by have := S.out; omega); replace Tu := fs_ hc Tu (by have := S.out; omega); replace Tx := fs_ hc Tx (by have := S.out; omega); replace Tg := fs_ hc Tg (by have := S.out; omega); replace Ty := fs_ hc Ty (by have := S.out; omega); replace HB := hs_ hc HB (by have := S.out; omega); replace S := t_ hc S; clear BK8; have BK8 := A_ hbox; clear hbox hc) | ((with_reducible refine gate_ (.load 29 (.tmp 8)) rfl ?_); (try (refine gate_guard (by rfl) ?_; dsimp only)); refine ld_ 29 8 BK8.out Try.underlying29 ?_) | ((with_reducible refine gate_callee (f := 28) rfl ?_); (try (refine gate_guard (by rfl) ?_; dsimp only)); refine gL_ (some 42) Try.func28 #[.agg #[.int .i64 u0, .int .i64 u1, .string u2, .slice Au lu.length cu], .slice Ax lx.length 3, .slice Ag 2 2, .slice Ay ly.length 2] ?_; refine (impl_Worth.calls k u0 u1 u2 Au cu lu Ax 3 lx Ag 2 [(⟨#[103]⟩ : ByteArray), (⟨#[104]⟩ : ByteArray)] Ay 2 ly n ok _ (Kd.F_now Tu.out) Ghlu.out (Kd.F_now Tx.out) Ghlx.out (Kd.F_now Tg.out) (Nat.le_refl 2) (Kd.F_now Ty.out) Ghly.out Hiw.out).mono ?_; rintro e w' ⟨rfl, hb⟩; have hc := co_ hb; refine ⟨_, rfl, ?_⟩; replace Te := fz_ hc Te; replace Tz := fz_ hc Tz; replace Tn := fz_ hc Tn; replace Tl := fz_ hc Tl; replace BK3 := bz_ hc BK3; replace BK4 := bz_ hc BK4; replace Tp := fz_ hc Tp; replace BK7 := bz_ hc BK7; replace Tu := fz_ hc Tu; replace Tx := fz_ hc Tx; replace Tg := fz_ hc Tg; replace Ty := fz_ hc Ty; replace BK8 := bz_ hc BK8; replace HB := hz_ hc HB; replace S := t_ hc S; clear hc hb) | ((with_reducible refine gate_callee (f := 25) rfl ?_); (try (refine gate_guard (by rfl) ?_; dsimp only)); refine gL_ (some 50) Try.func25 #[.agg #[.int .i64 u0, .int .i64 u1, .string u2, .slice Au lu.length cu], .slice Ax lx.length 3, .slice Ag 2 2, .slice Ay ly.length 2] ?_; refine (spec_Worth.calls k u0 u1 u2 Au cu lu Ax 3 lx Ag 2 [(⟨#[103]⟩ : ByteArray), (⟨#[104]⟩ : ByteArray)] Ay 2 ly n ok _ (Kd.F_now Tu.out) Ghlu.out (Kd.F_now Tx.out) Ghlx.out (Kd.F_now Tg.out) (Nat.le_refl 2) (Kd.F_now Ty.out) Ghly.out Hsw.out).mono ?_; rintro e w' ⟨rfl, hb⟩; have hc := co_ hb; refine ⟨_, rfl, ?_⟩; replace Te := fz_ hc Te; replace Tz := fz_ hc Tz; replace Tn := fz_ hc Tn; replace Tl := fz_ hc Tl; replace BK3 := bz_ hc BK3; replace BK4 := bz_ hc BK4; replace Tp := fz_ hc Tp; replace BK7 := bz_ hc BK7; replace Tu := fz_ hc Tu; replace Tx := fz_ hc Tx; replace Tg := fz_ hc Tg; replace Ty := fz_ hc Ty; replace BK8 := bz_ hc BK8; replace HB := hz_ hc HB; replace S := t_ hc S; clear hc hb))
  have hc := Ch.drew w'
  replace Te := fz_ hc Te
  replace Tz := fz_ hc Tz
  replace Tn := fz_ hc Tn
  replace Tl := fz_ hc Tl
  replace BK3 := bz_ hc BK3
  replace BK4 := bz_ hc BK4
  replace Tp := fz_ hc Tp
  replace BK7 := bz_ hc BK7
  replace Tu := fz_ hc Tu
  replace Tx := fz_ hc Tx
  replace Tg := fz_ hc Tg
  replace Ty := fz_ hc Ty
  replace BK8 := bz_ hc BK8
  replace HB := hz_ hc HB
  replace S := t_ hc S
  clear hc
  refine start_ (n := 35) (S := fun _ => True) (ds := []) #[false, false, false, false, false, false, false, false, false, false, false, false, false, false, false, false, false, false, false, false, false, false, false, false, false, false, false, false, false, false, false, false, false, false, false] (by kernel_rfl) rfl rfl trivial (fun _ => ?_)
  generalize w'.drew = w' at Te Tz Tn Tl BK3 BK4 Tp BK7 Tu Tx Tg Ty BK8 HB S ⊢
  generalize hA : Act.mk _ _ = aA
  refine open2_ (n := 35) (σ := (Nat → Value) × (Option Addr × Nat)) (fun s => ns11 s.1) (fun l s w1 => LW (lV (.agg #[.int .i64 p0, .int .i64 p1, .string p2, .slice Ap lp.length cp]) (.agg #[.int .i64 e0, .int .i64 e1, .string e2, .slice Ae le.length ce]) (.agg #[.int .i64 z0, .int .i64 z1, .string z2, .slice Az lz.length cz]) (.slice An 2 2) (.slice Al ll.length cl) (fun b_ => .agg #[.int .i64 p0, .int .i64 p1, .string p2, .slice b_.1 lp.length b_.2]) ok n (.pointer (some ⟨g7, 0, none⟩)) (.int .i64 p0) true) lU lp w w' (fun j => l.getD j false) s.1 s.2 w1) rfl (by kernel_rfl) ?step ?stop (lU, (none, 0)) ?act rfl (by decide) ?init
  case act =>
    subst hA
    simp only [putAll, ns11, Act.put, List.setIfInBounds_toArray, List.set_cons_zero, List.set_cons_succ, lU]
  case init =>
    have l0_ : ∀ i, (#[false, false, false, false, false, false, false, false, false, false, false, false, false, false, false, false, false, false, false, false, false, false, false, false, false, false, false, false, false, false, false, false, false, false, false] : Array Bool).getD i false = false := fun i => getD_rep 35 i
    refine ⟨fun i hi => ?_, ⟨rfl, rfl, rfl, Nat.le_refl _, fun _ _ _ => rfl⟩, HB.out, fun h => absurd (h.symm.trans (l0_ 5)) (by decide)⟩
    show lU i = if _ then _ else lU i
    rw [if_neg (by rw [l0_ i]; decide)]
  case step =>
    rintro i oi l ⟨s, b⟩ w1 hi ho hl hun hd hI K hK
    have e : (fun j => (l.setIfInBounds i true).getD j false) = PFnPutIn.up (fun j => l.getD j false) i := funext (fun j => gst hl hi)
    dsimp only at hI
    refine Aside0.out ?_
    obtain rfl | rfl | rfl | rfl | rfl | rfl | rfl | rfl | rfl | rfl | rfl | rfl | rfl | rfl | rfl | rfl | rfl | rfl | rfl | rfl | rfl | rfl | rfl | rfl | rfl | rfl | rfl | rfl | rfl | rfl | rfl | rfl | rfl | rfl | rfl : i = 0 ∨ i = 1 ∨ i = 2 ∨ i = 3 ∨ i = 4 ∨ i = 5 ∨ i = 6 ∨ i = 7 ∨ i = 8 ∨ i = 9 ∨ i = 10 ∨ i = 11 ∨ i = 12 ∨ i = 13 ∨ i = 14 ∨ i = 15 ∨ i = 16 ∨ i = 17 ∨ i = 18 ∨ i = 19 ∨ i = 20 ∨ i = 21 ∨ i = 22 ∨ i = 23 ∨ i = 24 ∨ i = 25 ∨ i = 26 ∨ i = 27 ∨ i = 28 ∨ i = 29 ∨ i = 30 ∨ i = 31 ∨ i = 32 ∨ i = 33 ∨ i = 34 := by omega
    all_goals (simp only [List.getElem?_toArray, List.getElem?_cons_zero, List.getElem?_cons_succ, Option.some.injEq] at ho; subst ho)
    · refine lit2A_ (a1 := ?_) ?_ (fun eA_ => ?_)
      rotate_left
      · subst hA
        simp only [putAll, ns11, Act.put, List.setIfInBounds_toArray, List.set_cons_zero, List.set_cons_succ]
        rfl
      refine valueA_ (N := some 53) (by rfl) rfl (v := .agg #[.int .i64 p0, .int .i64 p1, .string p2, .slice Ap lp.length cp]) (w1 := w1) ?_ ?_
      · refine load_yields 29 (.tmp 7) (by rfl) g7 (by rfl) 29 _ _ ?_ Try.underlying29 rfl (by kernel_rfl)
        exact (hI.ch.block g7 (blk_lt BK7.out) (Or.inr (Nat.zero_le _))).trans BK7.out
      have hq : K ((putAll aA (ns11 s)).put (some 53) (.agg #[.int .i64 p0, .int .i64 p1, .string p2, .slice Ap lp.length cp])) w1 := by
        have hq0 := hK (us s 0 (.agg #[.int .i64 p0, .int .i64 p1, .string p2, .slice Ap lp.length cp]), b) w1 (by show LW _ _ _ _ _ (fun j => (l.setIfInBounds 0 true).getD j false) _ _ _; rw [e]; exact hI.pure (by decide))
        subst hA
        simp (disch := decide) only [putAll, ns11, Act.put, List.setIfInBounds_toArray, List.set_cons_zero, List.set_cons_succ, us_self, us_ne] at hq0 ⊢
        exact hq0
      rw [eA_] at hq
      exact hq
    · refine lit2A_ (a1 := ?_) ?_ (fun eA_ => ?_)
      rotate_left
      · subst hA
        simp only [putAll, ns11, Act.put, List.setIfInBounds_toArray, List.set_cons_zero, List.set_cons_succ]
        rfl
      refine valueA_ (N := some 54) (by rfl) rfl (v := .agg #[.int .i64 e0, .int .i64 e1, .string e2, .slice Ae le.length ce]) (w1 := w1) ?_ ?_
      · refine load_yields 29 (.tmp 3) (by rfl) g3 (by rfl) 29 _ _ ?_ Try.underlying29 rfl (by kernel_rfl)
        exact (hI.ch.block g3 (blk_lt BK3.out) (Or.inr (Nat.zero_le _))).trans BK3.out
      have hq : K ((putAll aA (ns11 s)).put (some 54) (.agg #[.int .i64 e0, .int .i64 e1, .string e2, .slice Ae le.length ce])) w1 := by
        have hq0 := hK (us s 1 (.agg #[.int .i64 e0, .int .i64 e1, .string e2, .slice Ae le.length ce]), b) w1 (by show LW _ _ _ _ _ (fun j => (l.setIfInBounds 1 true).getD j false) _ _ _; rw [e]; exact hI.pure (by decide))
        subst hA
        simp (disch := decide) only [putAll, ns11, Act.put, List.setIfInBounds_toArray, List.set_cons_zero, List.set_cons_succ, us_self, us_ne] at hq0 ⊢
        exact hq0
      rw [eA_] at hq
      exact hq
    · refine lit2A_ (a1 := ?_) ?_ (fun eA_ => ?_)
      rotate_left
      · subst hA
        simp only [putAll, ns11, Act.put, List.setIfInBounds_toArray, List.set_cons_zero, List.set_cons_succ]
        rfl
      refine valueA_ (N := some 55) (by rfl) rfl (v := .agg #[.int .i64 z0, .int .i64 z1, .string z2, .slice Az lz.length cz]) (w1 := w1) ?_ ?_
      · refine load_yields 29 (.tmp 4) (by rfl) g4 (by rfl) 29 _ _ ?_ Try.underlying29 rfl (by kernel_rfl)
        exact (hI.ch.block g4 (blk_lt BK4.out) (Or.inr (Nat.zero_le _))).trans BK4.out
      have hq : K ((putAll aA (ns11 s)).put (some 55) (.agg #[.int .i64 z0, .int .i64 z1, .string z2, .slice Az lz.length cz])) w1 := by
        have hq0 := hK (us s 2 (.agg #[.int .i64 z0, .int .i64 z1, .string z2, .slice Az lz.length cz]), b) w1 (by show LW _ _ _ _ _ (fun j => (l.setIfInBounds 2 true).getD j false) _ _ _; rw [e]; exact hI.pure (by decide))
        subst hA
        simp (disch := decide) only [putAll, ns11, Act.put, List.setIfInBounds_toArray, List.set_cons_zero, List.set_cons_succ, us_self, us_ne] at hq0 ⊢
        exact hq0
      rw [eA_] at hq
      exact hq
    · refine lit2A_ (a1 := ?_) ?_ (fun eA_ => ?_)
      rotate_left
      · subst hA
        simp only [putAll, ns11, Act.put, List.setIfInBounds_toArray, List.set_cons_zero, List.set_cons_succ]
        rfl
      refine valueA_ (N := some 56) (by rfl) rfl (v := (.slice An 2 2)) (w1 := w1) ?_ ?_
      · first
        | (go_simp; done)
        | (go_simp; with_reducible rfl)
      have hq : K ((putAll aA (ns11 s)).put (some 56) (.slice An 2 2)) w1 := by
        have hq0 := hK (us s 3 (.slice An 2 2), b) w1 (by show LW _ _ _ _ _ (fun j => (l.setIfInBounds 3 true).getD j false) _ _ _; rw [e]; exact hI.pure (by decide))
        subst hA
        simp (disch := decide) only [putAll, ns11, Act.put, List.setIfInBounds_toArray, List.set_cons_zero, List.set_cons_succ, us_self, us_ne] at hq0 ⊢
        exact hq0
      rw [eA_] at hq
      exact hq
    · refine lit2A_ (a1 := ?_) ?_ (fun eA_ => ?_)
      rotate_left
      · subst hA
        simp only [putAll, ns11, Act.put, List.setIfInBounds_toArray, List.set_cons_zero, List.set_cons_succ]
        rfl
      refine valueA_ (N := some 57) (by rfl) rfl (v := (.slice Al ll.length cl)) (w1 := w1) ?_ ?_
      · first
        | (go_simp; done)
        | (go_simp; with_reducible rfl)
      have hq : K ((putAll aA (ns11 s)).put (some 57) (.slice Al ll.length cl)) w1 := by
        have hq0 := hK (us s 4 (.slice Al ll.length cl), b) w1 (by show LW _ _ _ _ _ (fun j => (l.setIfInBounds 4 true).getD j false) _ _ _; rw [e]; exact hI.pure (by decide))
        subst hA
        simp (disch := decide) only [putAll, ns11, Act.put, List.setIfInBounds_toArray, List.set_cons_zero, List.set_cons_succ, us_self, us_ne] at hq0 ⊢
        exact hq0
      rw [eA_] at hq
      exact hq
    · have q1 := hI.of_true 1 (hd { on := 1, ground := .data } (by simp) rfl)
      dsimp only [lV, cond] at q1
      have q2 := hI.of_true 2 (hd { on := 2, ground := .data } (by simp) rfl)
      dsimp only [lV, cond] at q2
      have q3 := hI.of_true 3 (hd { on := 3, ground := .data } (by simp) rfl)
      dsimp only [lV, cond] at q3
      have q4 := hI.of_true 4 (hd { on := 4, ground := .data } (by simp) rfl)
      dsimp only [lV, cond] at q4
      refine lit2A_ (a1 := ?_) ?_ (fun eA_ => ?_)
      rotate_left
      · subst hA
        simp only [putAll, ns11, Act.put, List.setIfInBounds_toArray, List.set_cons_zero, List.set_cons_succ, q1, q2, q3, q4]
        rfl
      refine Aside0.mk ?_
      refine goes_ Try.func32 (by kernel_rfl) rfl #[.agg #[.int .i64 e0, .int .i64 e1, .string e2, .slice Ae le.length ce], .agg #[.int .i64 z0, .int .i64 z1, .string z2, .slice Az lz.length cz], .slice An 2 2, .slice Al ll.length cl] (by rfl) rfl rfl (by simp only [List.map_toArray, List.map_cons, List.map_nil]; rfl) ?_
      refine (spec_Put.calls k e0 e1 e2 Ae ce le z0 z1 z2 Az cz lz An 2 [(⟨#[97]⟩ : ByteArray), (⟨#[98]⟩ : ByteArray)] Al cl ll p0 p1 p2 lp w1 (hI.now Te) Ghle.out (hI.now Tz) Ghlz.out (hI.now Tn) (Nat.le_refl 2) (hI.now Tl) Ghll.out Hsp.out).mono ?_
      rintro _ w2 ⟨vv_, rfl, hR, hb⟩
      obtain ⟨Aq, cq, rfl, hlq, hF⟩ := R_in hR
      refine ⟨_, rfl, ?_⟩
      have hq : K ((putAll aA (ns11 s)).put (some 58) (.agg #[.int .i64 p0, .int .i64 p1, .string p2, .slice Aq lp.length cq])) w2 := by
        have hq0 := hK (us s 5 (.agg #[.int .i64 p0, .int .i64 p1, .string p2, .slice Aq lp.length cq]), (Aq, cq)) w2 (by show LW _ _ _ _ _ (fun j => (l.setIfInBounds 5 true).getD j false) _ _ _; rw [e]; exact hI.made (b' := (Aq, cq)) lV_ne hb hlq hF)
        subst hA
        simp (disch := decide) only [putAll, ns11, Act.put, List.setIfInBounds_toArray, List.set_cons_zero, List.set_cons_succ, us_self, us_ne] at hq0 ⊢
        exact hq0
      rw [eA_] at hq
      exact hq
    · have hp5 := hI.put (hd { on := 5, ground := .data } (by simp) rfl)
      have q0 := hI.of_true 0 (hd { on := 0, ground := .data } (by simp) rfl)
      dsimp only [lV, cond] at q0
      have q5 := hI.of_true 5 (hd { on := 5, ground := .data } (by simp) rfl)
      dsimp only [lV, cond] at q5
      refine lit2A_ (a1 := ?_) ?_ (fun eA_ => ?_)
      rotate_left
      · subst hA
        simp only [putAll, ns11, Act.put, List.setIfInBounds_toArray, List.set_cons_zero, List.set_cons_succ, q0, q5]
        rfl
      refine Aside0.mk ?_
      refine goes_ Try.func15 (by kernel_rfl) rfl #[.agg #[.int .i64 p0, .int .i64 p1, .string p2, .slice Ap lp.length cp], .agg #[.int .i64 p0, .int .i64 p1, .string p2, .slice b.1 lp.length b.2]] (by rfl) rfl rfl (by simp only [List.map_toArray, List.map_cons, List.map_nil]; rfl) ?_
      refine (impl_SameExpr.calls k p0 p1 p2 Ap cp lp p0 p1 p2 b.1 b.2 lp true w1 (hI.now Tp) hlp (Kd.F_now hp5.2) hp5.1 Hsm.out).mono ?_
      rintro _ w2 ⟨rfl, hb⟩
      refine ⟨_, rfl, ?_⟩
      have hq : K ((putAll aA (ns11 s)).put (some 59) (.bool true)) w2 := by
        have hq0 := hK (us s 6 (.bool true), b) w2 (by show LW _ _ _ _ _ (fun j => (l.setIfInBounds 6 true).getD j false) _ _ _; rw [e]; exact hI.call (by decide) hb)
        subst hA
        simp (disch := decide) only [putAll, ns11, Act.put, List.setIfInBounds_toArray, List.set_cons_zero, List.set_cons_succ, us_self, us_ne] at hq0 ⊢
        exact hq0
      rw [eA_] at hq
      exact hq
    · have q6 := hI.of_true 6 (hd { on := 6, ground := .data } (by simp) rfl)
      dsimp only [lV, cond] at q6
      refine lit2A_ (a1 := ?_) ?_ (fun eA_ => ?_)
      rotate_left
      · subst hA
        simp only [putAll, ns11, Act.put, List.setIfInBounds_toArray, List.set_cons_zero, List.set_cons_succ, q6]
        rfl
      refine valueA_ (N := some 60) (by rfl) rfl (v := (.bool true)) (w1 := w1) ?_ ?_
      · first
        | (go_simp; done)
        | (go_simp; with_reducible rfl)
        | (go_simp; simp [Hn.out.1, Hn.out.2])
      have hq : K ((putAll aA (ns11 s)).put (some 60) (.bool true)) w1 := by
        have hq0 := hK (us s 7 (.bool true), b) w1 (by show LW _ _ _ _ _ (fun j => (l.setIfInBounds 7 true).getD j false) _ _ _; rw [e]; exact hI.pure (by decide))
        subst hA
        simp (disch := decide) only [putAll, ns11, Act.put, List.setIfInBounds_toArray, List.set_cons_zero, List.set_cons_succ, us_self, us_ne] at hq0 ⊢
        exact hq0
      rw [eA_] at hq
      exact hq
    · have q7 := hI.of_true 7 (hd { on := 7, ground := .guard } (by simp) rfl)
      dsimp only [lV, cond] at q7
      refine lit2A_ (a1 := ?_) ?_ (fun eA_ => ?_)
      rotate_left
      · subst hA
        simp only [putAll, ns11, Act.put, List.setIfInBounds_toArray, List.set_cons_zero, List.set_cons_succ, q7]
        rfl
      refine valueA_ (N := some 61) (by rfl) rfl (v := (.bool ok)) (w1 := w1) ?_ ?_
      · first
        | (go_simp; done)
        | (go_simp; with_reducible rfl)
      have hq : K ((putAll aA (ns11 s)).put (some 61) (.bool ok)) w1 := by
        have hq0 := hK (us s 8 (.bool ok), b) w1 (by show LW _ _ _ _ _ (fun j => (l.setIfInBounds 8 true).getD j false) _ _ _; rw [e]; exact hI.pure (by decide))
        subst hA
        simp (disch := decide) only [putAll, ns11, Act.put, List.setIfInBounds_toArray, List.set_cons_zero, List.set_cons_succ, us_self, us_ne] at hq0 ⊢
        exact hq0
      rw [eA_] at hq
      exact hq
    · have q7 := hI.of_true 7 (hd { on := 7, ground := .guard } (by simp) rfl)
      dsimp only [lV, cond] at q7
      refine lit2A_ (a1 := ?_) ?_ (fun eA_ => ?_)
      rotate_left
      · subst hA
        simp only [putAll, ns11, Act.put, List.setIfInBounds_toArray, List.set_cons_zero, List.set_cons_succ, q7]
        rfl
      refine valueA_ (N := some 62) (by rfl) rfl (v := (.bool ok)) (w1 := w1) ?_ ?_
      · first
        | (go_simp; done)
        | (go_simp; with_reducible rfl)
      have hq : K ((putAll aA (ns11 s)).put (some 62) (.bool ok)) w1 := by
        have hq0 := hK (us s 9 (.bool ok), b) w1 (by show LW _ _ _ _ _ (fun j => (l.setIfInBounds 9 true).getD j false) _ _ _; rw [e]; exact hI.pure (by decide))
        subst hA
        simp (disch := decide) only [putAll, ns11, Act.put, List.setIfInBounds_toArray, List.set_cons_zero, List.set_cons_succ, us_self, us_ne] at hq0 ⊢
        exact hq0
      rw [eA_] at hq
      exact hq
    · have q7 := hI.of_true 7 (hd { on := 7, ground := .guard } (by simp) rfl)
      dsimp only [lV, cond] at q7
      have q8 := hI.of_true 8 (hd { on := 8, ground := .data } (by simp) rfl)
      dsimp only [lV, cond] at q8
      have q9 := hI.of_true 9 (hd { on := 9, ground := .data } (by simp) rfl)
      dsimp only [lV, cond] at q9
      refine lit2A_ (a1 := ?_) ?_ (fun eA_ => ?_)
      rotate_left
      · subst hA
        simp only [putAll, ns11, Act.put, List.setIfInBounds_toArray, List.set_cons_zero, List.set_cons_succ, q7, q8, q9]
        rfl
      refine valueA_ (N := some 63) (by rfl) rfl (v := (.bool true)) (w1 := w1) ?_ ?_
      · first
        | (go_simp; done)
        | (go_simp; with_reducible rfl)
        | (go_simp; simp [Hn.out.1, Hn.out.2])
      have hq : K ((putAll aA (ns11 s)).put (some 63) (.bool true)) w1 := by
        have hq0 := hK (us s 10 (.bool true), b) w1 (by show LW _ _ _ _ _ (fun j => (l.setIfInBounds 10 true).getD j false) _ _ _; rw [e]; exact hI.pure (by decide))
        subst hA
        simp (disch := decide) only [putAll, ns11, Act.put, List.setIfInBounds_toArray, List.set_cons_zero, List.set_cons_succ, us_self, us_ne] at hq0 ⊢
        exact hq0
      rw [eA_] at hq
      exact hq
    · have q7 := hI.of_true 7 (hd { on := 7, ground := .data } (by simp) rfl)
      dsimp only [lV, cond] at q7
      have q10 := hI.of_true 10 (hd { on := 10, ground := .data } (by simp) rfl)
      dsimp only [lV, cond] at q10
      refine lit2A_ (a1 := ?_) ?_ (fun eA_ => ?_)
      rotate_left
      · subst hA
        simp only [putAll, ns11, Act.put, List.setIfInBounds_toArray, List.set_cons_zero, List.set_cons_succ, q7, q10]
        rfl
      refine valueA_ (N := some 64) (by rfl) rfl (v := (.bool true)) (w1 := w1) ?_ ?_
      · first
        | (go_simp; done)
        | (go_simp; with_reducible rfl)
        | (go_simp; simp [Hn.out.1, Hn.out.2])
      have hq : K ((putAll aA (ns11 s)).put (some 64) (.bool true)) w1 := by
        have hq0 := hK (us s 11 (.bool true), b) w1 (by show LW _ _ _ _ _ (fun j => (l.setIfInBounds 11 true).getD j false) _ _ _; rw [e]; exact hI.pure (by decide))
        subst hA
        simp (disch := decide) only [putAll, ns11, Act.put, List.setIfInBounds_toArray, List.set_cons_zero, List.set_cons_succ, us_self, us_ne] at hq0 ⊢
        exact hq0
      rw [eA_] at hq
      exact hq
    · have q11 := hI.of_true 11 (hd { on := 11, ground := .data } (by simp) rfl)
      dsimp only [lV, cond] at q11
      refine lit2A_ (a1 := ?_) ?_ (fun eA_ => ?_)
      rotate_left
      · subst hA
        simp only [putAll, ns11, Act.put, List.setIfInBounds_toArray, List.set_cons_zero, List.set_cons_succ, q11]
        rfl
      refine valueA_ (N := some 65) (by rfl) rfl (v := (.bool true)) (w1 := w1) ?_ ?_
      · first
        | (go_simp; done)
        | (go_simp; with_reducible rfl)
        | (go_simp; simp [Hn.out.1, Hn.out.2])
      have hq : K ((putAll aA (ns11 s)).put (some 65) (.bool true)) w1 := by
        have hq0 := hK (us s 12 (.bool true), b) w1 (by show LW _ _ _ _ _ (fun j => (l.setIfInBounds 12 true).getD j false) _ _ _; rw [e]; exact hI.pure (by decide))
        subst hA
        simp (disch := decide) only [putAll, ns11, Act.put, List.setIfInBounds_toArray, List.set_cons_zero, List.set_cons_succ, us_self, us_ne] at hq0 ⊢
        exact hq0
      rw [eA_] at hq
      exact hq
    · have q12 := hI.of_true 12 (hd { on := 12, ground := .guard } (by simp) rfl)
      dsimp only [lV, cond] at q12
      refine lit2A_ (a1 := ?_) ?_ (fun eA_ => ?_)
      rotate_left
      · subst hA
        simp only [putAll, ns11, Act.put, List.setIfInBounds_toArray, List.set_cons_zero, List.set_cons_succ, q12]
        rfl
      refine valueA_ (N := some 66) (by rfl) rfl (v := (.int .i64 n)) (w1 := w1) ?_ ?_
      · first
        | (go_simp; done)
        | (go_simp; with_reducible rfl)
      have hq : K ((putAll aA (ns11 s)).put (some 66) (.int .i64 n)) w1 := by
        have hq0 := hK (us s 13 (.int .i64 n), b) w1 (by show LW _ _ _ _ _ (fun j => (l.setIfInBounds 13 true).getD j false) _ _ _; rw [e]; exact hI.pure (by decide))
        subst hA
        simp (disch := decide) only [putAll, ns11, Act.put, List.setIfInBounds_toArray, List.set_cons_zero, List.set_cons_succ, us_self, us_ne] at hq0 ⊢
        exact hq0
      rw [eA_] at hq
      exact hq
    · have q12 := hI.of_true 12 (hd { on := 12, ground := .guard } (by simp) rfl)
      dsimp only [lV, cond] at q12
      refine lit2A_ (a1 := ?_) ?_ (fun eA_ => ?_)
      rotate_left
      · subst hA
        simp only [putAll, ns11, Act.put, List.setIfInBounds_toArray, List.set_cons_zero, List.set_cons_succ, q12]
        rfl
      refine valueA_ (N := some 67) (by rfl) rfl (v := (.int .i64 n)) (w1 := w1) ?_ ?_
      · first
        | (go_simp; done)
        | (go_simp; with_reducible rfl)
      have hq : K ((putAll aA (ns11 s)).put (some 67) (.int .i64 n)) w1 := by
        have hq0 := hK (us s 14 (.int .i64 n), b) w1 (by show LW _ _ _ _ _ (fun j => (l.setIfInBounds 14 true).getD j false) _ _ _; rw [e]; exact hI.pure (by decide))
        subst hA
        simp (disch := decide) only [putAll, ns11, Act.put, List.setIfInBounds_toArray, List.set_cons_zero, List.set_cons_succ, us_self, us_ne] at hq0 ⊢
        exact hq0
      rw [eA_] at hq
      exact hq
    · have q12 := hI.of_true 12 (hd { on := 12, ground := .guard } (by simp) rfl)
      dsimp only [lV, cond] at q12
      have q13 := hI.of_true 13 (hd { on := 13, ground := .data } (by simp) rfl)
      dsimp only [lV, cond] at q13
      have q14 := hI.of_true 14 (hd { on := 14, ground := .data } (by simp) rfl)
      dsimp only [lV, cond] at q14
      refine lit2A_ (a1 := ?_) ?_ (fun eA_ => ?_)
      rotate_left
      · subst hA
        simp only [putAll, ns11, Act.put, List.setIfInBounds_toArray, List.set_cons_zero, List.set_cons_succ, q12, q13, q14]
        rfl
      refine valueA_ (N := some 68) (by rfl) rfl (v := (.bool true)) (w1 := w1) ?_ ?_
      · first
        | (go_simp; done)
        | (go_simp; with_reducible rfl)
        | (go_simp; simp [Hn.out.1, Hn.out.2])
      have hq : K ((putAll aA (ns11 s)).put (some 68) (.bool true)) w1 := by
        have hq0 := hK (us s 15 (.bool true), b) w1 (by show LW _ _ _ _ _ (fun j => (l.setIfInBounds 15 true).getD j false) _ _ _; rw [e]; exact hI.pure (by decide))
        subst hA
        simp (disch := decide) only [putAll, ns11, Act.put, List.setIfInBounds_toArray, List.set_cons_zero, List.set_cons_succ, us_self, us_ne] at hq0 ⊢
        exact hq0
      rw [eA_] at hq
      exact hq
    · have q12 := hI.of_true 12 (hd { on := 12, ground := .data } (by simp) rfl)
      dsimp only [lV, cond] at q12
      have q15 := hI.of_true 15 (hd { on := 15, ground := .data } (by simp) rfl)
      dsimp only [lV, cond] at q15
      refine lit2A_ (a1 := ?_) ?_ (fun eA_ => ?_)
      rotate_left
      · subst hA
        simp only [putAll, ns11, Act.put, List.setIfInBounds_toArray, List.set_cons_zero, List.set_cons_succ, q12, q15]
        rfl
      refine valueA_ (N := some 69) (by rfl) rfl (v := (.bool true)) (w1 := w1) ?_ ?_
      · first
        | (go_simp; done)
        | (go_simp; with_reducible rfl)
        | (go_simp; simp [Hn.out.1, Hn.out.2])
      have hq : K ((putAll aA (ns11 s)).put (some 69) (.bool true)) w1 := by
        have hq0 := hK (us s 16 (.bool true), b) w1 (by show LW _ _ _ _ _ (fun j => (l.setIfInBounds 16 true).getD j false) _ _ _; rw [e]; exact hI.pure (by decide))
        subst hA
        simp (disch := decide) only [putAll, ns11, Act.put, List.setIfInBounds_toArray, List.set_cons_zero, List.set_cons_succ, us_self, us_ne] at hq0 ⊢
        exact hq0
      rw [eA_] at hq
      exact hq
    · have q16 := hI.of_true 16 (hd { on := 16, ground := .data } (by simp) rfl)
      dsimp only [lV, cond] at q16
      refine lit2A_ (a1 := ?_) ?_ (fun eA_ => ?_)
      rotate_left
      · subst hA
        simp only [putAll, ns11, Act.put, List.setIfInBounds_toArray, List.set_cons_zero, List.set_cons_succ, q16]
        rfl
      refine valueA_ (N := some 70) (by rfl) rfl (v := (.bool true)) (w1 := w1) ?_ ?_
      · first
        | (go_simp; done)
        | (go_simp; with_reducible rfl)
        | (go_simp; simp [Hn.out.1, Hn.out.2])
      have hq : K ((putAll aA (ns11 s)).put (some 70) (.bool true)) w1 := by
        have hq0 := hK (us s 17 (.bool true), b) w1 (by show LW _ _ _ _ _ (fun j => (l.setIfInBounds 17 true).getD j false) _ _ _; rw [e]; exact hI.pure (by decide))
        subst hA
        simp (disch := decide) only [putAll, ns11, Act.put, List.setIfInBounds_toArray, List.set_cons_zero, List.set_cons_succ, us_self, us_ne] at hq0 ⊢
        exact hq0
      rw [eA_] at hq
      exact hq
    · have q17 := hI.of_true 17 (hd { on := 17, ground := .guard } (by simp) rfl)
      dsimp only [lV, cond] at q17
      refine lit2A_ (a1 := ?_) ?_ (fun eA_ => ?_)
      rotate_left
      · subst hA
        simp only [putAll, ns11, Act.put, List.setIfInBounds_toArray, List.set_cons_zero, List.set_cons_succ, q17]
        rfl
      refine valueA_ (N := some 71) (by rfl) rfl (v := (.pointer (some ⟨g7, 0, none⟩))) (w1 := w1) ?_ ?_
      · first
        | (go_simp; done)
        | (go_simp; with_reducible rfl)
      have hq : K ((putAll aA (ns11 s)).put (some 71) (.pointer (some ⟨g7, 0, none⟩))) w1 := by
        have hq0 := hK (us s 18 (.pointer (some ⟨g7, 0, none⟩)), b) w1 (by show LW _ _ _ _ _ (fun j => (l.setIfInBounds 18 true).getD j false) _ _ _; rw [e]; exact hI.pure (by decide))
        subst hA
        simp (disch := decide) only [putAll, ns11, Act.put, List.setIfInBounds_toArray, List.set_cons_zero, List.set_cons_succ, us_self, us_ne] at hq0 ⊢
        exact hq0
      rw [eA_] at hq
      exact hq
    · have q17 := hI.of_true 17 (hd { on := 17, ground := .guard } (by simp) rfl)
      dsimp only [lV, cond] at q17
      have q18 := hI.of_true 18 (hd { on := 18, ground := .data } (by simp) rfl)
      dsimp only [lV, cond] at q18
      refine lit2A_ (a1 := ?_) ?_ (fun eA_ => ?_)
      rotate_left
      · subst hA
        simp only [putAll, ns11, Act.put, List.setIfInBounds_toArray, List.set_cons_zero, List.set_cons_succ, q17, q18]
        rfl
      refine valueA_ (N := some 72) (by rfl) rfl (v := .int .i64 p0) (w1 := w1) ?_ ?_
      · have hb_ := (hI.ch.block g7 (blk_lt BK7.out) (Or.inr (Nat.zero_le _))).trans BK7.out
        have hc_ : w1.cell? ⟨g7, 0, none⟩ = some (.int .i64 p0) := by simp [World.cell?, hb_]
        first
        | (go_simp; done)
        | (go_simp; simp [hc_])
      have hq : K ((putAll aA (ns11 s)).put (some 72) (.int .i64 p0)) w1 := by
        have hq0 := hK (us s 19 (.int .i64 p0), b) w1 (by show LW _ _ _ _ _ (fun j => (l.setIfInBounds 19 true).getD j false) _ _ _; rw [e]; exact hI.pure (by decide))
        subst hA
        simp (disch := decide) only [putAll, ns11, Act.put, List.setIfInBounds_toArray, List.set_cons_zero, List.set_cons_succ, us_self, us_ne] at hq0 ⊢
        exact hq0
      rw [eA_] at hq
      exact hq
    · have q17 := hI.of_true 17 (hd { on := 17, ground := .guard } (by simp) rfl)
      dsimp only [lV, cond] at q17
      have q19 := hI.of_true 19 (hd { on := 19, ground := .data } (by simp) rfl)
      dsimp only [lV, cond] at q19
      refine lit2A_ (a1 := ?_) ?_ (fun eA_ => ?_)
      rotate_left
      · subst hA
        simp only [putAll, ns11, Act.put, List.setIfInBounds_toArray, List.set_cons_zero, List.set_cons_succ, q17, q19]
        rfl
      refine valueA_ (N := some 73) (by rfl) rfl (v := (.bool true)) (w1 := w1) ?_ ?_
      · first
        | (go_simp; done)
        | (go_simp; with_reducible rfl)
        | (go_simp; simp [Hn.out.1, Hn.out.2])
      have hq : K ((putAll aA (ns11 s)).put (some 73) (.bool true)) w1 := by
        have hq0 := hK (us s 20 (.bool true), b) w1 (by show LW _ _ _ _ _ (fun j => (l.setIfInBounds 20 true).getD j false) _ _ _; rw [e]; exact hI.pure (by decide))
        subst hA
        simp (disch := decide) only [putAll, ns11, Act.put, List.setIfInBounds_toArray, List.set_cons_zero, List.set_cons_succ, us_self, us_ne] at hq0 ⊢
        exact hq0
      rw [eA_] at hq
      exact hq
    · have q17 := hI.of_true 17 (hd { on := 17, ground := .chain } (by simp) rfl)
      dsimp only [lV, cond] at q17
      have q20 := hI.of_true 20 (hd { on := 20, ground := .data } (by simp) rfl)
      dsimp only [lV, cond] at q20
      refine lit2A_ (a1 := ?_) ?_ (fun eA_ => ?_)
      rotate_left
      · subst hA
        simp only [putAll, ns11, Act.put, List.setIfInBounds_toArray, List.set_cons_zero, List.set_cons_succ, q17, q20]
        rfl
      refine valueA_ (N := some 74) (by rfl) rfl (v := (.bool true)) (w1 := w1) ?_ ?_
      · first
        | (go_simp; done)
        | (go_simp; with_reducible rfl)
        | (go_simp; simp [Hn.out.1, Hn.out.2])
      have hq : K ((putAll aA (ns11 s)).put (some 74) (.bool true)) w1 := by
        have hq0 := hK (us s 21 (.bool true), b) w1 (by show LW _ _ _ _ _ (fun j => (l.setIfInBounds 21 true).getD j false) _ _ _; rw [e]; exact hI.pure (by decide))
        subst hA
        simp (disch := decide) only [putAll, ns11, Act.put, List.setIfInBounds_toArray, List.set_cons_zero, List.set_cons_succ, us_self, us_ne] at hq0 ⊢
        exact hq0
      rw [eA_] at hq
      exact hq
    · have q21 := hI.of_true 21 (hd { on := 21, ground := .guard } (by simp) rfl)
      dsimp only [lV, cond] at q21
      refine lit2A_ (a1 := ?_) ?_ (fun eA_ => ?_)
      rotate_left
      · subst hA
        simp only [putAll, ns11, Act.put, List.setIfInBounds_toArray, List.set_cons_zero, List.set_cons_succ, q21]
        rfl
      refine offA_ (N := some 75) (by rfl) ?_
      have hq : K ((putAll aA (ns11 s)).put (some 75) (undef)) w1 := by
        have hq0 := hK (us s 22 (undef), b) w1 (by show LW _ _ _ _ _ (fun j => (l.setIfInBounds 22 true).getD j false) _ _ _; rw [e]; exact hI.pure (by decide))
        subst hA
        simp (disch := decide) only [putAll, ns11, Act.put, List.setIfInBounds_toArray, List.set_cons_zero, List.set_cons_succ, us_self, us_ne] at hq0 ⊢
        exact hq0
      rw [eA_] at hq
      exact hq
    · have q21 := hI.of_true 21 (hd { on := 21, ground := .chain } (by simp) rfl)
      dsimp only [lV, cond] at q21
      refine lit2A_ (a1 := ?_) ?_ (fun eA_ => ?_)
      rotate_left
      · subst hA
        simp only [putAll, ns11, Act.put, List.setIfInBounds_toArray, List.set_cons_zero, List.set_cons_succ, q21]
        rfl
      refine offA_ (N := some 76) (by rfl) ?_
      have hq : K ((putAll aA (ns11 s)).put (some 76) (undef)) w1 := by
        have hq0 := hK (us s 23 (undef), b) w1 (by show LW _ _ _ _ _ (fun j => (l.setIfInBounds 23 true).getD j false) _ _ _; rw [e]; exact hI.pure (by decide))
        subst hA
        simp (disch := decide) only [putAll, ns11, Act.put, List.setIfInBounds_toArray, List.set_cons_zero, List.set_cons_succ, us_self, us_ne] at hq0 ⊢
        exact hq0
      rw [eA_] at hq
      exact hq
    · have q17 := hI.of_true 17 (hd { on := 17, ground := .guard } (by simp) rfl)
      dsimp only [lV, cond] at q17
      have q21 := hI.of_true 21 (hd { on := 21, ground := .data } (by simp) rfl)
      dsimp only [lV, cond] at q21
      have q23 := hI.of_true 23 (hd { on := 23, ground := .data } (by simp) rfl)
      dsimp only [lV, cond] at q23
      refine lit2A_ (a1 := ?_) ?_ (fun eA_ => ?_)
      rotate_left
      · subst hA
        simp only [putAll, ns11, Act.put, List.setIfInBounds_toArray, List.set_cons_zero, List.set_cons_succ, q17, q21, q23]
        rfl
      refine valueA_ (N := some 77) (by rfl) rfl (v := (.bool true)) (w1 := w1) ?_ ?_
      · first
        | (go_simp; done)
        | (go_simp; with_reducible rfl)
        | (go_simp; simp [Hn.out.1, Hn.out.2])
      have hq : K ((putAll aA (ns11 s)).put (some 77) (.bool true)) w1 := by
        have hq0 := hK (us s 24 (.bool true), b) w1 (by show LW _ _ _ _ _ (fun j => (l.setIfInBounds 24 true).getD j false) _ _ _; rw [e]; exact hI.pure (by decide))
        subst hA
        simp (disch := decide) only [putAll, ns11, Act.put, List.setIfInBounds_toArray, List.set_cons_zero, List.set_cons_succ, us_self, us_ne] at hq0 ⊢
        exact hq0
      rw [eA_] at hq
      exact hq
    · have q17 := hI.of_true 17 (hd { on := 17, ground := .data } (by simp) rfl)
      dsimp only [lV, cond] at q17
      have q24 := hI.of_true 24 (hd { on := 24, ground := .data } (by simp) rfl)
      dsimp only [lV, cond] at q24
      refine lit2A_ (a1 := ?_) ?_ (fun eA_ => ?_)
      rotate_left
      · subst hA
        simp only [putAll, ns11, Act.put, List.setIfInBounds_toArray, List.set_cons_zero, List.set_cons_succ, q17, q24]
        rfl
      refine valueA_ (N := some 78) (by rfl) rfl (v := (.bool true)) (w1 := w1) ?_ ?_
      · first
        | (go_simp; done)
        | (go_simp; with_reducible rfl)
        | (go_simp; simp [Hn.out.1, Hn.out.2])
      have hq : K ((putAll aA (ns11 s)).put (some 78) (.bool true)) w1 := by
        have hq0 := hK (us s 25 (.bool true), b) w1 (by show LW _ _ _ _ _ (fun j => (l.setIfInBounds 25 true).getD j false) _ _ _; rw [e]; exact hI.pure (by decide))
        subst hA
        simp (disch := decide) only [putAll, ns11, Act.put, List.setIfInBounds_toArray, List.set_cons_zero, List.set_cons_succ, us_self, us_ne] at hq0 ⊢
        exact hq0
      rw [eA_] at hq
      exact hq
    · have q25 := hI.of_true 25 (hd { on := 25, ground := .data } (by simp) rfl)
      dsimp only [lV, cond] at q25
      refine lit2A_ (a1 := ?_) ?_ (fun eA_ => ?_)
      rotate_left
      · subst hA
        simp only [putAll, ns11, Act.put, List.setIfInBounds_toArray, List.set_cons_zero, List.set_cons_succ, q25]
        rfl
      refine valueA_ (N := some 79) (by rfl) rfl (v := (.bool true)) (w1 := w1) ?_ ?_
      · first
        | (go_simp; done)
        | (go_simp; with_reducible rfl)
        | (go_simp; simp [Hn.out.1, Hn.out.2])
      have hq : K ((putAll aA (ns11 s)).put (some 79) (.bool true)) w1 := by
        have hq0 := hK (us s 26 (.bool true), b) w1 (by show LW _ _ _ _ _ (fun j => (l.setIfInBounds 26 true).getD j false) _ _ _; rw [e]; exact hI.pure (by decide))
        subst hA
        simp (disch := decide) only [putAll, ns11, Act.put, List.setIfInBounds_toArray, List.set_cons_zero, List.set_cons_succ, us_self, us_ne] at hq0 ⊢
        exact hq0
      rw [eA_] at hq
      exact hq
    · have q26 := hI.of_true 26 (hd { on := 26, ground := .guard } (by simp) rfl)
      dsimp only [lV, cond] at q26
      refine lit2A_ (a1 := ?_) ?_ (fun eA_ => ?_)
      rotate_left
      · subst hA
        simp only [putAll, ns11, Act.put, List.setIfInBounds_toArray, List.set_cons_zero, List.set_cons_succ, q26]
        rfl
      refine valueA_ (N := some 80) (by rfl) rfl (v := (.int .i64 n)) (w1 := w1) ?_ ?_
      · first
        | (go_simp; done)
        | (go_simp; with_reducible rfl)
      have hq : K ((putAll aA (ns11 s)).put (some 80) (.int .i64 n)) w1 := by
        have hq0 := hK (us s 27 (.int .i64 n), b) w1 (by show LW _ _ _ _ _ (fun j => (l.setIfInBounds 27 true).getD j false) _ _ _; rw [e]; exact hI.pure (by decide))
        subst hA
        simp (disch := decide) only [putAll, ns11, Act.put, List.setIfInBounds_toArray, List.set_cons_zero, List.set_cons_succ, us_self, us_ne] at hq0 ⊢
        exact hq0
      rw [eA_] at hq
      exact hq
    · have q26 := hI.of_true 26 (hd { on := 26, ground := .guard } (by simp) rfl)
      dsimp only [lV, cond] at q26
      have q27 := hI.of_true 27 (hd { on := 27, ground := .data } (by simp) rfl)
      dsimp only [lV, cond] at q27
      refine lit2A_ (a1 := ?_) ?_ (fun eA_ => ?_)
      rotate_left
      · subst hA
        simp only [putAll, ns11, Act.put, List.setIfInBounds_toArray, List.set_cons_zero, List.set_cons_succ, q26, q27]
        rfl
      refine valueA_ (N := some 81) (by rfl) rfl (v := (.bool true)) (w1 := w1) ?_ ?_
      · first
        | (go_simp; done)
        | (go_simp; with_reducible rfl)
        | (go_simp; simp [Hn.out.1, Hn.out.2])
      have hq : K ((putAll aA (ns11 s)).put (some 81) (.bool true)) w1 := by
        have hq0 := hK (us s 28 (.bool true), b) w1 (by show LW _ _ _ _ _ (fun j => (l.setIfInBounds 28 true).getD j false) _ _ _; rw [e]; exact hI.pure (by decide))
        subst hA
        simp (disch := decide) only [putAll, ns11, Act.put, List.setIfInBounds_toArray, List.set_cons_zero, List.set_cons_succ, us_self, us_ne] at hq0 ⊢
        exact hq0
      rw [eA_] at hq
      exact hq
    · have q26 := hI.of_true 26 (hd { on := 26, ground := .data } (by simp) rfl)
      dsimp only [lV, cond] at q26
      have q28 := hI.of_true 28 (hd { on := 28, ground := .data } (by simp) rfl)
      dsimp only [lV, cond] at q28
      refine lit2A_ (a1 := ?_) ?_ (fun eA_ => ?_)
      rotate_left
      · subst hA
        simp only [putAll, ns11, Act.put, List.setIfInBounds_toArray, List.set_cons_zero, List.set_cons_succ, q26, q28]
        rfl
      refine valueA_ (N := some 82) (by rfl) rfl (v := (.bool true)) (w1 := w1) ?_ ?_
      · first
        | (go_simp; done)
        | (go_simp; with_reducible rfl)
        | (go_simp; simp [Hn.out.1, Hn.out.2])
      have hq : K ((putAll aA (ns11 s)).put (some 82) (.bool true)) w1 := by
        have hq0 := hK (us s 29 (.bool true), b) w1 (by show LW _ _ _ _ _ (fun j => (l.setIfInBounds 29 true).getD j false) _ _ _; rw [e]; exact hI.pure (by decide))
        subst hA
        simp (disch := decide) only [putAll, ns11, Act.put, List.setIfInBounds_toArray, List.set_cons_zero, List.set_cons_succ, us_self, us_ne] at hq0 ⊢
        exact hq0
      rw [eA_] at hq
      exact hq
    · have q29 := hI.of_true 29 (hd { on := 29, ground := .data } (by simp) rfl)
      dsimp only [lV, cond] at q29
      refine lit2A_ (a1 := ?_) ?_ (fun eA_ => ?_)
      rotate_left
      · subst hA
        simp only [putAll, ns11, Act.put, List.setIfInBounds_toArray, List.set_cons_zero, List.set_cons_succ, q29]
        rfl
      refine valueA_ (N := some 83) (by rfl) rfl (v := (.bool true)) (w1 := w1) ?_ ?_
      · first
        | (go_simp; done)
        | (go_simp; with_reducible rfl)
        | (go_simp; simp [Hn.out.1, Hn.out.2])
      have hq : K ((putAll aA (ns11 s)).put (some 83) (.bool true)) w1 := by
        have hq0 := hK (us s 30 (.bool true), b) w1 (by show LW _ _ _ _ _ (fun j => (l.setIfInBounds 30 true).getD j false) _ _ _; rw [e]; exact hI.pure (by decide))
        subst hA
        simp (disch := decide) only [putAll, ns11, Act.put, List.setIfInBounds_toArray, List.set_cons_zero, List.set_cons_succ, us_self, us_ne] at hq0 ⊢
        exact hq0
      rw [eA_] at hq
      exact hq
    · have q30 := hI.of_true 30 (hd { on := 30, ground := .guard } (by simp) rfl)
      dsimp only [lV, cond] at q30
      refine lit2A_ (a1 := ?_) ?_ (fun eA_ => ?_)
      rotate_left
      · subst hA
        simp only [putAll, ns11, Act.put, List.setIfInBounds_toArray, List.set_cons_zero, List.set_cons_succ, q30]
        rfl
      refine valueA_ (N := some 84) (by rfl) rfl (v := (.int .i64 n)) (w1 := w1) ?_ ?_
      · first
        | (go_simp; done)
        | (go_simp; with_reducible rfl)
      have hq : K ((putAll aA (ns11 s)).put (some 84) (.int .i64 n)) w1 := by
        have hq0 := hK (us s 31 (.int .i64 n), b) w1 (by show LW _ _ _ _ _ (fun j => (l.setIfInBounds 31 true).getD j false) _ _ _; rw [e]; exact hI.pure (by decide))
        subst hA
        simp (disch := decide) only [putAll, ns11, Act.put, List.setIfInBounds_toArray, List.set_cons_zero, List.set_cons_succ, us_self, us_ne] at hq0 ⊢
        exact hq0
      rw [eA_] at hq
      exact hq
    · have q30 := hI.of_true 30 (hd { on := 30, ground := .guard } (by simp) rfl)
      dsimp only [lV, cond] at q30
      have q31 := hI.of_true 31 (hd { on := 31, ground := .data } (by simp) rfl)
      dsimp only [lV, cond] at q31
      refine lit2A_ (a1 := ?_) ?_ (fun eA_ => ?_)
      rotate_left
      · subst hA
        simp only [putAll, ns11, Act.put, List.setIfInBounds_toArray, List.set_cons_zero, List.set_cons_succ, q30, q31]
        rfl
      refine valueA_ (N := some 85) (by rfl) rfl (v := (.bool true)) (w1 := w1) ?_ ?_
      · first
        | (go_simp; done)
        | (go_simp; with_reducible rfl)
        | (go_simp; simp [Hn.out.1, Hn.out.2])
      have hq : K ((putAll aA (ns11 s)).put (some 85) (.bool true)) w1 := by
        have hq0 := hK (us s 32 (.bool true), b) w1 (by show LW _ _ _ _ _ (fun j => (l.setIfInBounds 32 true).getD j false) _ _ _; rw [e]; exact hI.pure (by decide))
        subst hA
        simp (disch := decide) only [putAll, ns11, Act.put, List.setIfInBounds_toArray, List.set_cons_zero, List.set_cons_succ, us_self, us_ne] at hq0 ⊢
        exact hq0
      rw [eA_] at hq
      exact hq
    · have q30 := hI.of_true 30 (hd { on := 30, ground := .data } (by simp) rfl)
      dsimp only [lV, cond] at q30
      have q32 := hI.of_true 32 (hd { on := 32, ground := .data } (by simp) rfl)
      dsimp only [lV, cond] at q32
      refine lit2A_ (a1 := ?_) ?_ (fun eA_ => ?_)
      rotate_left
      · subst hA
        simp only [putAll, ns11, Act.put, List.setIfInBounds_toArray, List.set_cons_zero, List.set_cons_succ, q30, q32]
        rfl
      refine valueA_ (N := some 86) (by rfl) rfl (v := (.bool true)) (w1 := w1) ?_ ?_
      · first
        | (go_simp; done)
        | (go_simp; with_reducible rfl)
        | (go_simp; simp [Hn.out.1, Hn.out.2])
      have hq : K ((putAll aA (ns11 s)).put (some 86) (.bool true)) w1 := by
        have hq0 := hK (us s 33 (.bool true), b) w1 (by show LW _ _ _ _ _ (fun j => (l.setIfInBounds 33 true).getD j false) _ _ _; rw [e]; exact hI.pure (by decide))
        subst hA
        simp (disch := decide) only [putAll, ns11, Act.put, List.setIfInBounds_toArray, List.set_cons_zero, List.set_cons_succ, us_self, us_ne] at hq0 ⊢
        exact hq0
      rw [eA_] at hq
      exact hq
    · have q33 := hI.of_true 33 (hd { on := 33, ground := .data } (by simp) rfl)
      dsimp only [lV, cond] at q33
      refine lit2A_ (a1 := ?_) ?_ (fun eA_ => ?_)
      rotate_left
      · subst hA
        simp only [putAll, ns11, Act.put, List.setIfInBounds_toArray, List.set_cons_zero, List.set_cons_succ, q33]
        rfl
      refine valueA_ (N := some 2) (by rfl) rfl (v := (.bool true)) (w1 := w1) ?_ ?_
      · first
        | (go_simp; done)
        | (go_simp; with_reducible rfl)
        | (go_simp; simp [Hn.out.1, Hn.out.2])
      have hq : K ((putAll aA (ns11 s)).put (some 2) (.bool true)) w1 := by
        have hq0 := hK (us s 34 (.bool true), b) w1 (by show LW _ _ _ _ _ (fun j => (l.setIfInBounds 34 true).getD j false) _ _ _; rw [e]; exact hI.pure (by decide))
        subst hA
        simp (disch := decide) only [putAll, ns11, Act.put, List.setIfInBounds_toArray, List.set_cons_zero, List.set_cons_succ, us_self, us_ne] at hq0 ⊢
        exact hq0
      rw [eA_] at hq
      exact hq
  case stop =>
    rintro ⟨s, b⟩ w2 hI
    dsimp only at hI
    have z34 := hI.of_true 34 (getD_rept (by decide))
    dsimp only [lV] at z34
    subst hA
    simp only [putAll, ns11, Act.put, List.setIfInBounds_toArray, List.set_cons_zero, List.set_cons_succ, z34]
    go_wp2
    go_ret
    exact ⟨rfl, hI.bel⟩
set_option maxHeartbeats 32000000 in
set_option maxRecDepth 100000 in
theorem law_o (k : Nat) (Ab : Option Addr) (cb : Nat) (lb : List Int) (e0 e1 : Int) (e2 : ByteArray) (le : List S29) (z0 z1 : Int) (z2 : ByteArray) (lz : List S29) (ll : List S29) (p0 p1 : Int) (p2 : ByteArray) (lp : List S29) (u0 u1 : Int) (u2 : ByteArray) (lu : List S29) (lx ly : List Int) (n : Int) (ok : Bool) (w : World) (hr : Kd.C (Kd.int .u8) w Ab lb.length lb) (hc : lb.length ≤ cb) (hbg : laws_big.f lb = some false) (hdp : DrewPut k lb e0 e1 e2 le z0 z1 z2 lz ll) (hip : impl_Put.f k e0 e1 e2 le z0 z1 z2 lz [(⟨#[97]⟩ : ByteArray), (⟨#[98]⟩ : ByteArray)] ll = some (p0, p1, p2, lp)) (hsp : spec_Put.f k e0 e1 e2 le z0 z1 z2 lz [(⟨#[97]⟩ : ByteArray), (⟨#[98]⟩ : ByteArray)] ll = some (p0, p1, p2, lp)) (hdw : DrewWorth k lb u0 u1 u2 lu lx ly) (hiw : impl_Worth.f k u0 u1 u2 lu lx [(⟨#[103]⟩ : ByteArray), (⟨#[104]⟩ : ByteArray)] ly = some (n, ok)) (hsw : spec_Worth.f k u0 u1 u2 lu lx [(⟨#[103]⟩ : ByteArray), (⟨#[104]⟩ : ByteArray)] ly = some (n, ok)) (hsm : impl_SameExpr.f k p0 p1 p2 lp p0 p1 p2 lp = some true) (hn : 0 ≤ n ∧ n ≤ 65535) (hz : (p0 == 0) = false) (hx : impl_ExprOk.f k p0 p1 p2 lp = some true) :
    Calls Try.prog 11 #[.slice Ab lb.length cb] w fun e w' => e = .returned (.bool true) ∧ Below w.heap.size w w' := by
  have HR := A_ hr
  have HC := A_ hc
  clear hr hc
  have HB := A_ (Below.refl w.heap.size w)
  have S : Aside0 (w.heap.size ≤ w.heap.size) := A_ (Nat.le_refl _)
  have Hbg := A_ hbg
  have Hdp := A_ hdp
  have Hip := A_ hip
  have Hsp := A_ hsp
  have Hdw := A_ hdw
  have Hiw := A_ hiw
  have Hsw := A_ hsw
  have Hsm := A_ hsm
  have Hn := A_ hn
  clear hbg hdp hip hsp hdw hiw hsw hsm hn
  have Hx := A_ hx
  clear hx
  go_enter Try.func11, Try.ntmps11
  go_wp2_with (first | ((with_reducible refine gate_callee (f := 21) rfl ?_); (try (refine gate_guard (by rfl) ?_; dsimp only)); refine gL_ (some 17) Try.func21 #[.slice Ab lb.length cb] ?_; refine (laws_big.calls Ab cb lb false _ (Kd.C_below HR.out HB.out) HC.out Hbg.out).mono ?_; rintro e w' ⟨rfl, hd⟩; have hc := Ch.of_drawn hd; refine ⟨_, rfl, ?_⟩; replace HB := hz_ hc HB; replace S := t_ hc S; clear hc hd) | ((with_reducible refine gate_callee (f := 44) rfl ?_); (try (refine gate_guard (by rfl) ?_; dsimp only)); refine gL_ (some 20) Try.func44 #[.slice Ab lb.length cb] ?_; obtain ⟨loP, hlo_⟩ : ∃ q_, q_ = w'.heap.size := ⟨_, rfl⟩; have F1 : w.heap.size ≤ loP := (by have := S.out; omega); refine (dput k Ab cb lb e0 e1 e2 le z0 z1 z2 lz ll _ (Kd.C_below HR.out HB.out) HC.out Hdp.out).mono ?_; rintro e w' ⟨Ae, ce, Az, cz, An, Al, cl, rfl, hle, hlz, hll, je_, jz_, jn_, jl_, hb⟩; have hc := co_ hb; refine ⟨_, rfl, ?_⟩; rw [← hlo_] at je_ jz_ jn_ jl_; obtain ⟨hiP, hhi_⟩ : ∃ q_, q_ = w'.heap.size := ⟨_, rfl⟩; rw [← hhi_] at je_ jz_ jn_ jl_; have F2 : loP ≤ hiP := (by have := hc.size; omega); replace HB := hz_ hc HB; replace S := t_ hc S; clear S hc hb; have S : Aside0 (hiP ≤ w'.heap.size) := A_ (by omega); have Te := A_ je_; have Tz := A_ jz_; have Tn := A_ jn_; have Tl := A_ jl_; have Ghle := A_ hle; have Ghlz := A_ hlz; have Ghll := A_ hll; clear je_ jz_ jn_ jl_ hle hlz hll hlo_ hhi_) | ((with_reducible refine gate_dst (N := 3) rfl ?_); refine bx_ 3 #[.int .i64 0, .int .i64 0, .string (⟨#[]⟩ : ByteArray), .slice none 0 0] 29 ?_; intro g3 hg w' hbox hb; have hc := co_ hb; have F3 : hiP ≤ g3 := (by have := S.out; omega); clear hg; replace Te := fz_ hc Te; replace Tz := fz_ hc Tz; replace Tn := fz_ hc Tn; replace Tl := fz_ hc Tl; replace HB := hz_ hc HB; replace S := t_ hc S; clear S; have S : Aside0 (g3 + 1 ≤ w'.heap.size) := A_ (blk_lt hbox); have BK3 := A_ hbox; clear hbox hb hc) | ((with_reducible refine gate_dst (N := 4) rfl ?_); refine bx_ 4 #[.int .i64 0, .int .i64 0, .string (⟨#[]⟩ : ByteArray), .slice none 0 0] 29 ?_; intro g4 hg w' hbox hb; have hc := co_ hb; have F4 : g3 + 1 ≤ g4 := (by have := S.out; omega); clear hg; replace Te := fz_ hc Te; replace Tz := fz_ hc Tz; replace Tn := fz_ hc Tn; replace Tl := fz_ hc Tl; replace BK3 := bz_ hc BK3; replace HB := hz_ hc HB; replace S := t_ hc S; clear S; have S : Aside0 (g4 + 1 ≤ w'.heap.size) := A_ (blk_lt hbox); have BK4 := A_ hbox; clear hbox hb hc) | ((with_reducible refine gate_ (.store 29 (.tmp 3) (.tmp 21)) rfl ?_); refine ss_ 29 3 21 #[.int .i64 e0, .int .i64 e1, .string e2, .slice Ae le.length ce] BK3.out ?_; intro w' hbox hc; replace Te := fs_ hc Te (by have := S.out; omega); replace Tz := fs_ hc Tz (by have := S.out; omega); replace Tn := fs_ hc Tn (by have := S.out; omega); replace Tl := fs_ hc Tl (by have := S.out; omega); replace BK4 := bs_ hc BK4 (by have := S.out; omega); replace HB := hs_ hc HB (by have := S.out; omega); replace S := t_ hc S; clear BK3; have BK3 := A_ hbox; clear hbox hc) | ((with_reducible refine gate_ (.store 29 (.tmp 4) (.tmp 22)) rfl ?_); refine ss_ 29 4 22 #[.int .i64 z0, .int .i64 z1, .string z2, .slice Az lz.length cz] BK4.out ?_; intro w' hbox hc; replace Te := fs_ hc Te (by have := S.out; omega); replace Tz := fs_ hc Tz (by have := S.out; omega); replace Tn := fs_ hc Tn (by have := S.out; omega); replace Tl := fs_ hc Tl (by have := S.out; omega); replace BK3 := bs_ hc BK3 (by have := S.out; omega); replace HB := hs_ hc HB (by have := S.out; omega); replace S := t_ hc S; clear BK4; have BK4 := A_ hbox; clear hbox hc) | ((with_reducible refine gate_ (.load 29 (.tmp 3)) rfl ?_); (try (refine gate_guard (by rfl) ?_; dsimp only)); refine ld_ 29 3 BK3.out Try.underlying29 ?_) | ((with_reducible refine gate_ (.load 29 (.tmp 4)) rfl ?_); (try (refine gate_guard (by rfl) ?_; dsimp only)); refine ld_ 29 4 BK4.out Try.underlying29 ?_) | ((with_reducible refine gate_callee (f := 34) rfl ?_); (try (refine gate_guard (by rfl) ?_; dsimp only)); refine gL_ (some 29) Try.func34 #[.agg #[.int .i64 e0, .int .i64 e1, .string e2, .slice Ae le.length ce], .agg #[.int .i64 z0, .int .i64 z1, .string z2, .slice Az lz.length cz], .slice An 2 2, .slice Al ll.length cl] ?_; obtain ⟨lop, hlo_⟩ : ∃ q_, q_ = w'.heap.size := ⟨_, rfl⟩; have F5 : g4 + 1 ≤ lop := (by have := S.out; omega); refine (impl_Put.calls k e0 e1 e2 Ae ce le z0 z1 z2 Az cz lz An 2 [(⟨#[97]⟩ : ByteArray), (⟨#[98]⟩ : ByteArray)] Al cl ll p0 p1 p2 lp _ (Kd.F_now Te.out) Ghle.out (Kd.F_now Tz.out) Ghlz.out (Kd.F_now Tn.out) (Nat.le_refl 2) (Kd.F_now Tl.out) Ghll.out Hip.out).mono ?_; rintro e w' ⟨vv_, rfl, hR, hb⟩; obtain ⟨Ap, cp, rfl, hlp, hF⟩ := R_in hR; have hc := co_ hb; refine ⟨_, rfl, ?_⟩; rw [← hlo_] at hF; obtain ⟨hip, hhi_⟩ : ∃ q_, q_ = w'.heap.size := ⟨_, rfl⟩; rw [← hhi_] at hF; have F6 : lop ≤ hip := (by have := hc.size; omega); replace Te := fz_ hc Te; replace Tz := fz_ hc Tz; replace Tn := fz_ hc Tn; replace Tl := fz_ hc Tl; replace BK3 := bz_ hc BK3; replace BK4 := bz_ hc BK4; replace HB := hz_ hc HB; replace S := t_ hc S; clear hb; clear S hR hc; have S : Aside0 (hip ≤ w'.heap.size) := A_ (by omega); have Tp := A_ hF; clear hF hlo_ hhi_) | ((with_reducible refine gate_dst (N := 7) rfl ?_); refine bx_ 7 #[.int .i64 0, .int .i64 0, .string (⟨#[]⟩ : ByteArray), .slice none 0 0] 29 ?_; intro g7 hg w' hbox hb; have hc := co_ hb; have F7 : hip ≤ g7 := (by have := S.out; omega); clear hg; replace Te := fz_ hc Te; replace Tz := fz_ hc Tz; replace Tn := fz_ hc Tn; replace Tl := fz_ hc Tl; replace BK3 := bz_ hc BK3; replace BK4 := bz_ hc BK4; replace Tp := fz_ hc Tp; replace HB := hz_ hc HB; replace S := t_ hc S; clear S; have S : Aside0 (g7 + 1 ≤ w'.heap.size) := A_ (blk_lt hbox); have BK7 := A_ hbox; clear hbox hb hc) | ((with_reducible refine gate_ (.store 29 (.tmp 7) (.tmp 29)) rfl ?_); refine ss_ 29 7 29 #[.int .i64 p0, .int .i64 p1, .string p2, .slice Ap lp.length cp] BK7.out ?_; intro w' hbox hc; replace Te := fs_ hc Te (by have := S.out; omega); replace Tz := fs_ hc Tz (by have := S.out; omega); replace Tn := fs_ hc Tn (by have := S.out; omega); replace Tl := fs_ hc Tl (by have := S.out; omega); replace BK3 := bs_ hc BK3 (by have := S.out; omega); replace BK4 := bs_ hc BK4 (by have := S.out; omega); replace Tp := fs_ hc Tp (by have := S.out; omega); replace HB := hs_ hc HB (by have := S.out; omega); replace S := t_ hc S; clear BK7; have BK7 := A_ hbox; clear hbox hc) | ((with_reducible refine gate_callee (f := 45) rfl ?_); (try (refine gate_guard (by rfl) ?_; dsimp only)); refine gL_ (some 32) Try.func45 #[.slice Ab lb.length cb] ?_; obtain ⟨loW, hlo_⟩ : ∃ q_, q_ = w'.heap.size := ⟨_, rfl⟩; have F8 : g7 + 1 ≤ loW := (by have := S.out; omega); refine (dworth k Ab cb lb u0 u1 u2 lu lx ly _ (Kd.C_below HR.out HB.out) HC.out Hdw.out).mono ?_; rintro e w' ⟨Au, cu, Ax, Ag, Ay, rfl, hlu, hlx, hly, ju_, jx_, jg_, jy_, hb⟩; have hc := co_ hb; refine ⟨_, rfl, ?_⟩; rw [← hlo_] at ju_ jx_ jg_ jy_; obtain ⟨hiW, hhi_⟩ : ∃ q_, q_ = w'.heap.size := ⟨_, rfl⟩; rw [← hhi_] at ju_ jx_ jg_ jy_; have F9 : loW ≤ hiW := (by have := hc.size; omega); replace Te := fz_ hc Te; replace Tz := fz_ hc Tz; replace Tn := fz_ hc Tn; replace Tl := fz_ hc Tl; replace BK3 := bz_ hc BK3; replace BK4 := bz_ hc BK4; replace Tp := fz_ hc Tp; replace BK7 := bz_ hc BK7; replace HB := hz_ hc HB; replace S := t_ hc S; clear S hc hb; have S : Aside0 (hiW ≤ w'.heap.size) := A_ (by omega); have Tu := A_ ju_; have Tx := A_ jx_; have Tg := A_ jg_; have Ty := A_ jy_; have Ghlu := A_ hlu; have Ghlx := A_ hlx; have Ghly := A_ hly; clear ju_ jx_ jg_ jy_ hlu hlx hly hlo_ hhi_) | ((with_reducible refine gate_dst (N := 8) rfl ?_); refine bx_ 8 #[.int .i64 0, .int .i64 0, .string (⟨#[]⟩ : ByteArray), .slice none 0 0] 29 ?_; intro g8 hg w' hbox hb; have hc := co_ hb; have F10 : hiW ≤ g8 := (by have := S.out; omega); clear hg; replace Te := fz_ hc Te; replace Tz := fz_ hc Tz; replace Tn := fz_ hc Tn; replace Tl := fz_ hc Tl; replace BK3 := bz_ hc BK3; replace BK4 := bz_ hc BK4; replace Tp := fz_ hc Tp; replace BK7 := bz_ hc BK7; replace Tu := fz_ hc Tu; replace Tx := fz_ hc Tx; replace Tg := fz_ hc Tg; replace Ty := fz_ hc Ty; replace HB := hz_ hc HB; replace S := t_ hc S; clear S; have S : Aside0 (g8 + 1 ≤ w'.heap.size) := A_ (blk_lt hbox); have BK8 := A_ hbox; clear hbox hb hc) | ((with_reducible refine gate_ (.store 29 (.tmp 8) (.tmp 33)) rfl ?_); refine ss_ 29 8 33 #[.int .i64 u0, .int .i64 u1, .string u2, .slice Au lu.length cu] BK8.out ?_; intro w' hbox hc; replace Te := fs_ hc Te (by have := S.out; omega); replace Tz := fs_ hc Tz (by have := S.out; omega); replace Tn := fs_ hc Tn (by have := S.out; omega); replace Tl := fs_ hc Tl (by have := S.out; omega); replace BK3 := bs_ hc BK3 (by have := S.out; omega); replace BK4 := bs_ hc BK4 (by have := S.out; omega); replace Tp := fs_ hc Tp (by have := S.out; omega); replace BK7 := bs_ hc BK7 (by have := S.out; omega); replace Tu := fs_ hc Tu (by have := S.out; omega); replace Tx := fs_ hc Tx (by have := S.out; omega); replace Tg := fs_ hc Tg (by have := S.out; omega); replace Ty := fs_ hc Ty (by have := S.out; omega); replace HB := hs_ hc HB (by have := S.out; omega); replace S := t_ hc S; clear BK8; have BK8 := A_ hbox; clear hbox hc) | ((with_reducible refine gate_ (.load 29 (.tmp 8)) rfl ?_); (try (refine gate_guard (by rfl) ?_; dsimp only)); refine ld_ 29 8 BK8.out Try.underlying29 ?_) | ((with_reducible refine gate_callee (f := 28) rfl ?_); (try (refine gate_guard (by rfl) ?_; dsimp only)); refine gL_ (some 42) Try.func28 #[.agg #[.int .i64 u0, .int .i64 u1, .string u2, .slice Au lu.length cu], .slice Ax lx.length 3, .slice Ag 2 2, .slice Ay ly.length 2] ?_; refine (impl_Worth.calls k u0 u1 u2 Au cu lu Ax 3 lx Ag 2 [(⟨#[103]⟩ : ByteArray), (⟨#[104]⟩ : ByteArray)] Ay 2 ly n ok _ (Kd.F_now Tu.out) Ghlu.out (Kd.F_now Tx.out) Ghlx.out (Kd.F_now Tg.out) (Nat.le_refl 2) (Kd.F_now Ty.out) Ghly.out Hiw.out).mono ?_; rintro e w' ⟨rfl, hb⟩; have hc := co_ hb; refine ⟨_, rfl, ?_⟩; replace Te := fz_ hc Te; replace Tz := fz_ hc Tz; replace Tn := fz_ hc Tn; replace Tl := fz_ hc Tl; replace BK3 := bz_ hc BK3; replace BK4 := bz_ hc BK4; replace Tp := fz_ hc Tp; replace BK7 := bz_ hc BK7; replace Tu := fz_ hc Tu; replace Tx := fz_ hc Tx; replace Tg := fz_ hc Tg; replace Ty := fz_ hc Ty; replace BK8 := bz_ hc BK8; replace HB := hz_ hc HB; replace S := t_ hc S; clear hc hb) | ((with_reducible refine gate_callee (f := 25) rfl ?_); (try (refine gate_guard (by rfl) ?_; dsimp only)); refine gL_ (some 50) Try.func25 #[.agg #[.int .i64 u0, .int .i64 u1, .string u2, .slice Au lu.length cu], .slice Ax lx.length 3, .slice Ag 2 2, .slice Ay ly.length 2] ?_; refine (spec_Worth.calls k u0 u1 u2 Au cu lu Ax 3 lx Ag 2 [(⟨#[103]⟩ : ByteArray), (⟨#[104]⟩ : ByteArray)] Ay 2 ly n ok _ (Kd.F_now Tu.out) Ghlu.out (Kd.F_now Tx.out) Ghlx.out (Kd.F_now Tg.out) (Nat.le_refl 2) (Kd.F_now Ty.out) Ghly.out Hsw.out).mono ?_; rintro e w' ⟨rfl, hb⟩; have hc := co_ hb; refine ⟨_, rfl, ?_⟩; replace Te := fz_ hc Te; replace Tz := fz_ hc Tz; replace Tn := fz_ hc Tn; replace Tl := fz_ hc Tl; replace BK3 := bz_ hc BK3; replace BK4 := bz_ hc BK4; replace Tp := fz_ hc Tp; replace BK7 := bz_ hc BK7; replace Tu := fz_ hc Tu; replace Tx := fz_ hc Tx; replace Tg := fz_ hc Tg; replace Ty := fz_ hc Ty; replace BK8 := bz_ hc BK8; replace HB := hz_ hc HB; replace S := t_ hc S; clear hc hb))
  have hc := Ch.drew w'
  replace Te := fz_ hc Te
  replace Tz := fz_ hc Tz
  replace Tn := fz_ hc Tn
  replace Tl := fz_ hc Tl
  replace BK3 := bz_ hc BK3
  replace BK4 := bz_ hc BK4
  replace Tp := fz_ hc Tp
  replace BK7 := bz_ hc BK7
  replace Tu := fz_ hc Tu
  replace Tx := fz_ hc Tx
  replace Tg := fz_ hc Tg
  replace Ty := fz_ hc Ty
  replace BK8 := bz_ hc BK8
  replace HB := hz_ hc HB
  replace S := t_ hc S
  clear hc
  refine start_ (n := 35) (S := fun _ => True) (ds := []) #[false, false, false, false, false, false, false, false, false, false, false, false, false, false, false, false, false, false, false, false, false, false, false, false, false, false, false, false, false, false, false, false, false, false, false] (by kernel_rfl) rfl rfl trivial (fun _ => ?_)
  generalize w'.drew = w' at Te Tz Tn Tl BK3 BK4 Tp BK7 Tu Tx Tg Ty BK8 HB S ⊢
  generalize hA : Act.mk _ _ = aA
  refine open2_ (n := 35) (σ := (Nat → Value) × (Option Addr × Nat)) (fun s => ns11 s.1) (fun l s w1 => LW (lV (.agg #[.int .i64 p0, .int .i64 p1, .string p2, .slice Ap lp.length cp]) (.agg #[.int .i64 e0, .int .i64 e1, .string e2, .slice Ae le.length ce]) (.agg #[.int .i64 z0, .int .i64 z1, .string z2, .slice Az lz.length cz]) (.slice An 2 2) (.slice Al ll.length cl) (fun b_ => .agg #[.int .i64 p0, .int .i64 p1, .string p2, .slice b_.1 lp.length b_.2]) ok n (.pointer (some ⟨g7, 0, none⟩)) (.int .i64 p0) false) lU lp w w' (fun j => l.getD j false) s.1 s.2 w1) rfl (by kernel_rfl) ?step ?stop (lU, (none, 0)) ?act rfl (by decide) ?init
  case act =>
    subst hA
    simp only [putAll, ns11, Act.put, List.setIfInBounds_toArray, List.set_cons_zero, List.set_cons_succ, lU]
  case init =>
    have l0_ : ∀ i, (#[false, false, false, false, false, false, false, false, false, false, false, false, false, false, false, false, false, false, false, false, false, false, false, false, false, false, false, false, false, false, false, false, false, false, false] : Array Bool).getD i false = false := fun i => getD_rep 35 i
    refine ⟨fun i hi => ?_, ⟨rfl, rfl, rfl, Nat.le_refl _, fun _ _ _ => rfl⟩, HB.out, fun h => absurd (h.symm.trans (l0_ 5)) (by decide)⟩
    show lU i = if _ then _ else lU i
    rw [if_neg (by rw [l0_ i]; decide)]
  case step =>
    rintro i oi l ⟨s, b⟩ w1 hi ho hl hun hd hI K hK
    have e : (fun j => (l.setIfInBounds i true).getD j false) = PFnPutIn.up (fun j => l.getD j false) i := funext (fun j => gst hl hi)
    dsimp only at hI
    refine Aside0.out ?_
    obtain rfl | rfl | rfl | rfl | rfl | rfl | rfl | rfl | rfl | rfl | rfl | rfl | rfl | rfl | rfl | rfl | rfl | rfl | rfl | rfl | rfl | rfl | rfl | rfl | rfl | rfl | rfl | rfl | rfl | rfl | rfl | rfl | rfl | rfl | rfl : i = 0 ∨ i = 1 ∨ i = 2 ∨ i = 3 ∨ i = 4 ∨ i = 5 ∨ i = 6 ∨ i = 7 ∨ i = 8 ∨ i = 9 ∨ i = 10 ∨ i = 11 ∨ i = 12 ∨ i = 13 ∨ i = 14 ∨ i = 15 ∨ i = 16 ∨ i = 17 ∨ i = 18 ∨ i = 19 ∨ i = 20 ∨ i = 21 ∨ i = 22 ∨ i = 23 ∨ i = 24 ∨ i = 25 ∨ i = 26 ∨ i = 27 ∨ i = 28 ∨ i = 29 ∨ i = 30 ∨ i = 31 ∨ i = 32 ∨ i = 33 ∨ i = 34 := by omega
    all_goals (simp only [List.getElem?_toArray, List.getElem?_cons_zero, List.getElem?_cons_succ, Option.some.injEq] at ho; subst ho)
    · refine lit2A_ (a1 := ?_) ?_ (fun eA_ => ?_)
      rotate_left
      · subst hA
        simp only [putAll, ns11, Act.put, List.setIfInBounds_toArray, List.set_cons_zero, List.set_cons_succ]
        rfl
      refine valueA_ (N := some 53) (by rfl) rfl (v := .agg #[.int .i64 p0, .int .i64 p1, .string p2, .slice Ap lp.length cp]) (w1 := w1) ?_ ?_
      · refine load_yields 29 (.tmp 7) (by rfl) g7 (by rfl) 29 _ _ ?_ Try.underlying29 rfl (by kernel_rfl)
        exact (hI.ch.block g7 (blk_lt BK7.out) (Or.inr (Nat.zero_le _))).trans BK7.out
      have hq : K ((putAll aA (ns11 s)).put (some 53) (.agg #[.int .i64 p0, .int .i64 p1, .string p2, .slice Ap lp.length cp])) w1 := by
        have hq0 := hK (us s 0 (.agg #[.int .i64 p0, .int .i64 p1, .string p2, .slice Ap lp.length cp]), b) w1 (by show LW _ _ _ _ _ (fun j => (l.setIfInBounds 0 true).getD j false) _ _ _; rw [e]; exact hI.pure (by decide))
        subst hA
        simp (disch := decide) only [putAll, ns11, Act.put, List.setIfInBounds_toArray, List.set_cons_zero, List.set_cons_succ, us_self, us_ne] at hq0 ⊢
        exact hq0
      rw [eA_] at hq
      exact hq
    · refine lit2A_ (a1 := ?_) ?_ (fun eA_ => ?_)
      rotate_left
      · subst hA
        simp only [putAll, ns11, Act.put, List.setIfInBounds_toArray, List.set_cons_zero, List.set_cons_succ]
        rfl
      refine valueA_ (N := some 54) (by rfl) rfl (v := .agg #[.int .i64 e0, .int .i64 e1, .string e2, .slice Ae le.length ce]) (w1 := w1) ?_ ?_
      · refine load_yields 29 (.tmp 3) (by rfl) g3 (by rfl) 29 _ _ ?_ Try.underlying29 rfl (by kernel_rfl)
        exact (hI.ch.block g3 (blk_lt BK3.out) (Or.inr (Nat.zero_le _))).trans BK3.out
      have hq : K ((putAll aA (ns11 s)).put (some 54) (.agg #[.int .i64 e0, .int .i64 e1, .string e2, .slice Ae le.length ce])) w1 := by
        have hq0 := hK (us s 1 (.agg #[.int .i64 e0, .int .i64 e1, .string e2, .slice Ae le.length ce]), b) w1 (by show LW _ _ _ _ _ (fun j => (l.setIfInBounds 1 true).getD j false) _ _ _; rw [e]; exact hI.pure (by decide))
        subst hA
        simp (disch := decide) only [putAll, ns11, Act.put, List.setIfInBounds_toArray, List.set_cons_zero, List.set_cons_succ, us_self, us_ne] at hq0 ⊢
        exact hq0
      rw [eA_] at hq
      exact hq
    · refine lit2A_ (a1 := ?_) ?_ (fun eA_ => ?_)
      rotate_left
      · subst hA
        simp only [putAll, ns11, Act.put, List.setIfInBounds_toArray, List.set_cons_zero, List.set_cons_succ]
        rfl
      refine valueA_ (N := some 55) (by rfl) rfl (v := .agg #[.int .i64 z0, .int .i64 z1, .string z2, .slice Az lz.length cz]) (w1 := w1) ?_ ?_
      · refine load_yields 29 (.tmp 4) (by rfl) g4 (by rfl) 29 _ _ ?_ Try.underlying29 rfl (by kernel_rfl)
        exact (hI.ch.block g4 (blk_lt BK4.out) (Or.inr (Nat.zero_le _))).trans BK4.out
      have hq : K ((putAll aA (ns11 s)).put (some 55) (.agg #[.int .i64 z0, .int .i64 z1, .string z2, .slice Az lz.length cz])) w1 := by
        have hq0 := hK (us s 2 (.agg #[.int .i64 z0, .int .i64 z1, .string z2, .slice Az lz.length cz]), b) w1 (by show LW _ _ _ _ _ (fun j => (l.setIfInBounds 2 true).getD j false) _ _ _; rw [e]; exact hI.pure (by decide))
        subst hA
        simp (disch := decide) only [putAll, ns11, Act.put, List.setIfInBounds_toArray, List.set_cons_zero, List.set_cons_succ, us_self, us_ne] at hq0 ⊢
        exact hq0
      rw [eA_] at hq
      exact hq
    · refine lit2A_ (a1 := ?_) ?_ (fun eA_ => ?_)
      rotate_left
      · subst hA
        simp only [putAll, ns11, Act.put, List.setIfInBounds_toArray, List.set_cons_zero, List.set_cons_succ]
        rfl
      refine valueA_ (N := some 56) (by rfl) rfl (v := (.slice An 2 2)) (w1 := w1) ?_ ?_
      · first
        | (go_simp; done)
        | (go_simp; with_reducible rfl)
      have hq : K ((putAll aA (ns11 s)).put (some 56) (.slice An 2 2)) w1 := by
        have hq0 := hK (us s 3 (.slice An 2 2), b) w1 (by show LW _ _ _ _ _ (fun j => (l.setIfInBounds 3 true).getD j false) _ _ _; rw [e]; exact hI.pure (by decide))
        subst hA
        simp (disch := decide) only [putAll, ns11, Act.put, List.setIfInBounds_toArray, List.set_cons_zero, List.set_cons_succ, us_self, us_ne] at hq0 ⊢
        exact hq0
      rw [eA_] at hq
      exact hq
    · refine lit2A_ (a1 := ?_) ?_ (fun eA_ => ?_)
      rotate_left
      · subst hA
        simp only [putAll, ns11, Act.put, List.setIfInBounds_toArray, List.set_cons_zero, List.set_cons_succ]
        rfl
      refine valueA_ (N := some 57) (by rfl) rfl (v := (.slice Al ll.length cl)) (w1 := w1) ?_ ?_
      · first
        | (go_simp; done)
        | (go_simp; with_reducible rfl)
      have hq : K ((putAll aA (ns11 s)).put (some 57) (.slice Al ll.length cl)) w1 := by
        have hq0 := hK (us s 4 (.slice Al ll.length cl), b) w1 (by show LW _ _ _ _ _ (fun j => (l.setIfInBounds 4 true).getD j false) _ _ _; rw [e]; exact hI.pure (by decide))
        subst hA
        simp (disch := decide) only [putAll, ns11, Act.put, List.setIfInBounds_toArray, List.set_cons_zero, List.set_cons_succ, us_self, us_ne] at hq0 ⊢
        exact hq0
      rw [eA_] at hq
      exact hq
    · have q1 := hI.of_true 1 (hd { on := 1, ground := .data } (by simp) rfl)
      dsimp only [lV, cond] at q1
      have q2 := hI.of_true 2 (hd { on := 2, ground := .data } (by simp) rfl)
      dsimp only [lV, cond] at q2
      have q3 := hI.of_true 3 (hd { on := 3, ground := .data } (by simp) rfl)
      dsimp only [lV, cond] at q3
      have q4 := hI.of_true 4 (hd { on := 4, ground := .data } (by simp) rfl)
      dsimp only [lV, cond] at q4
      refine lit2A_ (a1 := ?_) ?_ (fun eA_ => ?_)
      rotate_left
      · subst hA
        simp only [putAll, ns11, Act.put, List.setIfInBounds_toArray, List.set_cons_zero, List.set_cons_succ, q1, q2, q3, q4]
        rfl
      refine Aside0.mk ?_
      refine goes_ Try.func32 (by kernel_rfl) rfl #[.agg #[.int .i64 e0, .int .i64 e1, .string e2, .slice Ae le.length ce], .agg #[.int .i64 z0, .int .i64 z1, .string z2, .slice Az lz.length cz], .slice An 2 2, .slice Al ll.length cl] (by rfl) rfl rfl (by simp only [List.map_toArray, List.map_cons, List.map_nil]; rfl) ?_
      refine (spec_Put.calls k e0 e1 e2 Ae ce le z0 z1 z2 Az cz lz An 2 [(⟨#[97]⟩ : ByteArray), (⟨#[98]⟩ : ByteArray)] Al cl ll p0 p1 p2 lp w1 (hI.now Te) Ghle.out (hI.now Tz) Ghlz.out (hI.now Tn) (Nat.le_refl 2) (hI.now Tl) Ghll.out Hsp.out).mono ?_
      rintro _ w2 ⟨vv_, rfl, hR, hb⟩
      obtain ⟨Aq, cq, rfl, hlq, hF⟩ := R_in hR
      refine ⟨_, rfl, ?_⟩
      have hq : K ((putAll aA (ns11 s)).put (some 58) (.agg #[.int .i64 p0, .int .i64 p1, .string p2, .slice Aq lp.length cq])) w2 := by
        have hq0 := hK (us s 5 (.agg #[.int .i64 p0, .int .i64 p1, .string p2, .slice Aq lp.length cq]), (Aq, cq)) w2 (by show LW _ _ _ _ _ (fun j => (l.setIfInBounds 5 true).getD j false) _ _ _; rw [e]; exact hI.made (b' := (Aq, cq)) lV_ne hb hlq hF)
        subst hA
        simp (disch := decide) only [putAll, ns11, Act.put, List.setIfInBounds_toArray, List.set_cons_zero, List.set_cons_succ, us_self, us_ne] at hq0 ⊢
        exact hq0
      rw [eA_] at hq
      exact hq
    · have hp5 := hI.put (hd { on := 5, ground := .data } (by simp) rfl)
      have q0 := hI.of_true 0 (hd { on := 0, ground := .data } (by simp) rfl)
      dsimp only [lV, cond] at q0
      have q5 := hI.of_true 5 (hd { on := 5, ground := .data } (by simp) rfl)
      dsimp only [lV, cond] at q5
      refine lit2A_ (a1 := ?_) ?_ (fun eA_ => ?_)
      rotate_left
      · subst hA
        simp only [putAll, ns11, Act.put, List.setIfInBounds_toArray, List.set_cons_zero, List.set_cons_succ, q0, q5]
        rfl
      refine Aside0.mk ?_
      refine goes_ Try.func15 (by kernel_rfl) rfl #[.agg #[.int .i64 p0, .int .i64 p1, .string p2, .slice Ap lp.length cp], .agg #[.int .i64 p0, .int .i64 p1, .string p2, .slice b.1 lp.length b.2]] (by rfl) rfl rfl (by simp only [List.map_toArray, List.map_cons, List.map_nil]; rfl) ?_
      refine (impl_SameExpr.calls k p0 p1 p2 Ap cp lp p0 p1 p2 b.1 b.2 lp true w1 (hI.now Tp) hlp (Kd.F_now hp5.2) hp5.1 Hsm.out).mono ?_
      rintro _ w2 ⟨rfl, hb⟩
      refine ⟨_, rfl, ?_⟩
      have hq : K ((putAll aA (ns11 s)).put (some 59) (.bool true)) w2 := by
        have hq0 := hK (us s 6 (.bool true), b) w2 (by show LW _ _ _ _ _ (fun j => (l.setIfInBounds 6 true).getD j false) _ _ _; rw [e]; exact hI.call (by decide) hb)
        subst hA
        simp (disch := decide) only [putAll, ns11, Act.put, List.setIfInBounds_toArray, List.set_cons_zero, List.set_cons_succ, us_self, us_ne] at hq0 ⊢
        exact hq0
      rw [eA_] at hq
      exact hq
    · have q6 := hI.of_true 6 (hd { on := 6, ground := .data } (by simp) rfl)
      dsimp only [lV, cond] at q6
      refine lit2A_ (a1 := ?_) ?_ (fun eA_ => ?_)
      rotate_left
      · subst hA
        simp only [putAll, ns11, Act.put, List.setIfInBounds_toArray, List.set_cons_zero, List.set_cons_succ, q6]
        rfl
      refine valueA_ (N := some 60) (by rfl) rfl (v := (.bool true)) (w1 := w1) ?_ ?_
      · first
        | (go_simp; done)
        | (go_simp; with_reducible rfl)
        | (go_simp; simp [Hn.out.1, Hn.out.2])
      have hq : K ((putAll aA (ns11 s)).put (some 60) (.bool true)) w1 := by
        have hq0 := hK (us s 7 (.bool true), b) w1 (by show LW _ _ _ _ _ (fun j => (l.setIfInBounds 7 true).getD j false) _ _ _; rw [e]; exact hI.pure (by decide))
        subst hA
        simp (disch := decide) only [putAll, ns11, Act.put, List.setIfInBounds_toArray, List.set_cons_zero, List.set_cons_succ, us_self, us_ne] at hq0 ⊢
        exact hq0
      rw [eA_] at hq
      exact hq
    · have q7 := hI.of_true 7 (hd { on := 7, ground := .guard } (by simp) rfl)
      dsimp only [lV, cond] at q7
      refine lit2A_ (a1 := ?_) ?_ (fun eA_ => ?_)
      rotate_left
      · subst hA
        simp only [putAll, ns11, Act.put, List.setIfInBounds_toArray, List.set_cons_zero, List.set_cons_succ, q7]
        rfl
      refine valueA_ (N := some 61) (by rfl) rfl (v := (.bool ok)) (w1 := w1) ?_ ?_
      · first
        | (go_simp; done)
        | (go_simp; with_reducible rfl)
      have hq : K ((putAll aA (ns11 s)).put (some 61) (.bool ok)) w1 := by
        have hq0 := hK (us s 8 (.bool ok), b) w1 (by show LW _ _ _ _ _ (fun j => (l.setIfInBounds 8 true).getD j false) _ _ _; rw [e]; exact hI.pure (by decide))
        subst hA
        simp (disch := decide) only [putAll, ns11, Act.put, List.setIfInBounds_toArray, List.set_cons_zero, List.set_cons_succ, us_self, us_ne] at hq0 ⊢
        exact hq0
      rw [eA_] at hq
      exact hq
    · have q7 := hI.of_true 7 (hd { on := 7, ground := .guard } (by simp) rfl)
      dsimp only [lV, cond] at q7
      refine lit2A_ (a1 := ?_) ?_ (fun eA_ => ?_)
      rotate_left
      · subst hA
        simp only [putAll, ns11, Act.put, List.setIfInBounds_toArray, List.set_cons_zero, List.set_cons_succ, q7]
        rfl
      refine valueA_ (N := some 62) (by rfl) rfl (v := (.bool ok)) (w1 := w1) ?_ ?_
      · first
        | (go_simp; done)
        | (go_simp; with_reducible rfl)
      have hq : K ((putAll aA (ns11 s)).put (some 62) (.bool ok)) w1 := by
        have hq0 := hK (us s 9 (.bool ok), b) w1 (by show LW _ _ _ _ _ (fun j => (l.setIfInBounds 9 true).getD j false) _ _ _; rw [e]; exact hI.pure (by decide))
        subst hA
        simp (disch := decide) only [putAll, ns11, Act.put, List.setIfInBounds_toArray, List.set_cons_zero, List.set_cons_succ, us_self, us_ne] at hq0 ⊢
        exact hq0
      rw [eA_] at hq
      exact hq
    · have q7 := hI.of_true 7 (hd { on := 7, ground := .guard } (by simp) rfl)
      dsimp only [lV, cond] at q7
      have q8 := hI.of_true 8 (hd { on := 8, ground := .data } (by simp) rfl)
      dsimp only [lV, cond] at q8
      have q9 := hI.of_true 9 (hd { on := 9, ground := .data } (by simp) rfl)
      dsimp only [lV, cond] at q9
      refine lit2A_ (a1 := ?_) ?_ (fun eA_ => ?_)
      rotate_left
      · subst hA
        simp only [putAll, ns11, Act.put, List.setIfInBounds_toArray, List.set_cons_zero, List.set_cons_succ, q7, q8, q9]
        rfl
      refine valueA_ (N := some 63) (by rfl) rfl (v := (.bool true)) (w1 := w1) ?_ ?_
      · first
        | (go_simp; done)
        | (go_simp; with_reducible rfl)
        | (go_simp; simp [Hn.out.1, Hn.out.2])
      have hq : K ((putAll aA (ns11 s)).put (some 63) (.bool true)) w1 := by
        have hq0 := hK (us s 10 (.bool true), b) w1 (by show LW _ _ _ _ _ (fun j => (l.setIfInBounds 10 true).getD j false) _ _ _; rw [e]; exact hI.pure (by decide))
        subst hA
        simp (disch := decide) only [putAll, ns11, Act.put, List.setIfInBounds_toArray, List.set_cons_zero, List.set_cons_succ, us_self, us_ne] at hq0 ⊢
        exact hq0
      rw [eA_] at hq
      exact hq
    · have q7 := hI.of_true 7 (hd { on := 7, ground := .data } (by simp) rfl)
      dsimp only [lV, cond] at q7
      have q10 := hI.of_true 10 (hd { on := 10, ground := .data } (by simp) rfl)
      dsimp only [lV, cond] at q10
      refine lit2A_ (a1 := ?_) ?_ (fun eA_ => ?_)
      rotate_left
      · subst hA
        simp only [putAll, ns11, Act.put, List.setIfInBounds_toArray, List.set_cons_zero, List.set_cons_succ, q7, q10]
        rfl
      refine valueA_ (N := some 64) (by rfl) rfl (v := (.bool true)) (w1 := w1) ?_ ?_
      · first
        | (go_simp; done)
        | (go_simp; with_reducible rfl)
        | (go_simp; simp [Hn.out.1, Hn.out.2])
      have hq : K ((putAll aA (ns11 s)).put (some 64) (.bool true)) w1 := by
        have hq0 := hK (us s 11 (.bool true), b) w1 (by show LW _ _ _ _ _ (fun j => (l.setIfInBounds 11 true).getD j false) _ _ _; rw [e]; exact hI.pure (by decide))
        subst hA
        simp (disch := decide) only [putAll, ns11, Act.put, List.setIfInBounds_toArray, List.set_cons_zero, List.set_cons_succ, us_self, us_ne] at hq0 ⊢
        exact hq0
      rw [eA_] at hq
      exact hq
    · have q11 := hI.of_true 11 (hd { on := 11, ground := .data } (by simp) rfl)
      dsimp only [lV, cond] at q11
      refine lit2A_ (a1 := ?_) ?_ (fun eA_ => ?_)
      rotate_left
      · subst hA
        simp only [putAll, ns11, Act.put, List.setIfInBounds_toArray, List.set_cons_zero, List.set_cons_succ, q11]
        rfl
      refine valueA_ (N := some 65) (by rfl) rfl (v := (.bool true)) (w1 := w1) ?_ ?_
      · first
        | (go_simp; done)
        | (go_simp; with_reducible rfl)
        | (go_simp; simp [Hn.out.1, Hn.out.2])
      have hq : K ((putAll aA (ns11 s)).put (some 65) (.bool true)) w1 := by
        have hq0 := hK (us s 12 (.bool true), b) w1 (by show LW _ _ _ _ _ (fun j => (l.setIfInBounds 12 true).getD j false) _ _ _; rw [e]; exact hI.pure (by decide))
        subst hA
        simp (disch := decide) only [putAll, ns11, Act.put, List.setIfInBounds_toArray, List.set_cons_zero, List.set_cons_succ, us_self, us_ne] at hq0 ⊢
        exact hq0
      rw [eA_] at hq
      exact hq
    · have q12 := hI.of_true 12 (hd { on := 12, ground := .guard } (by simp) rfl)
      dsimp only [lV, cond] at q12
      refine lit2A_ (a1 := ?_) ?_ (fun eA_ => ?_)
      rotate_left
      · subst hA
        simp only [putAll, ns11, Act.put, List.setIfInBounds_toArray, List.set_cons_zero, List.set_cons_succ, q12]
        rfl
      refine valueA_ (N := some 66) (by rfl) rfl (v := (.int .i64 n)) (w1 := w1) ?_ ?_
      · first
        | (go_simp; done)
        | (go_simp; with_reducible rfl)
      have hq : K ((putAll aA (ns11 s)).put (some 66) (.int .i64 n)) w1 := by
        have hq0 := hK (us s 13 (.int .i64 n), b) w1 (by show LW _ _ _ _ _ (fun j => (l.setIfInBounds 13 true).getD j false) _ _ _; rw [e]; exact hI.pure (by decide))
        subst hA
        simp (disch := decide) only [putAll, ns11, Act.put, List.setIfInBounds_toArray, List.set_cons_zero, List.set_cons_succ, us_self, us_ne] at hq0 ⊢
        exact hq0
      rw [eA_] at hq
      exact hq
    · have q12 := hI.of_true 12 (hd { on := 12, ground := .guard } (by simp) rfl)
      dsimp only [lV, cond] at q12
      refine lit2A_ (a1 := ?_) ?_ (fun eA_ => ?_)
      rotate_left
      · subst hA
        simp only [putAll, ns11, Act.put, List.setIfInBounds_toArray, List.set_cons_zero, List.set_cons_succ, q12]
        rfl
      refine valueA_ (N := some 67) (by rfl) rfl (v := (.int .i64 n)) (w1 := w1) ?_ ?_
      · first
        | (go_simp; done)
        | (go_simp; with_reducible rfl)
      have hq : K ((putAll aA (ns11 s)).put (some 67) (.int .i64 n)) w1 := by
        have hq0 := hK (us s 14 (.int .i64 n), b) w1 (by show LW _ _ _ _ _ (fun j => (l.setIfInBounds 14 true).getD j false) _ _ _; rw [e]; exact hI.pure (by decide))
        subst hA
        simp (disch := decide) only [putAll, ns11, Act.put, List.setIfInBounds_toArray, List.set_cons_zero, List.set_cons_succ, us_self, us_ne] at hq0 ⊢
        exact hq0
      rw [eA_] at hq
      exact hq
    · have q12 := hI.of_true 12 (hd { on := 12, ground := .guard } (by simp) rfl)
      dsimp only [lV, cond] at q12
      have q13 := hI.of_true 13 (hd { on := 13, ground := .data } (by simp) rfl)
      dsimp only [lV, cond] at q13
      have q14 := hI.of_true 14 (hd { on := 14, ground := .data } (by simp) rfl)
      dsimp only [lV, cond] at q14
      refine lit2A_ (a1 := ?_) ?_ (fun eA_ => ?_)
      rotate_left
      · subst hA
        simp only [putAll, ns11, Act.put, List.setIfInBounds_toArray, List.set_cons_zero, List.set_cons_succ, q12, q13, q14]
        rfl
      refine valueA_ (N := some 68) (by rfl) rfl (v := (.bool true)) (w1 := w1) ?_ ?_
      · first
        | (go_simp; done)
        | (go_simp; with_reducible rfl)
        | (go_simp; simp [Hn.out.1, Hn.out.2])
      have hq : K ((putAll aA (ns11 s)).put (some 68) (.bool true)) w1 := by
        have hq0 := hK (us s 15 (.bool true), b) w1 (by show LW _ _ _ _ _ (fun j => (l.setIfInBounds 15 true).getD j false) _ _ _; rw [e]; exact hI.pure (by decide))
        subst hA
        simp (disch := decide) only [putAll, ns11, Act.put, List.setIfInBounds_toArray, List.set_cons_zero, List.set_cons_succ, us_self, us_ne] at hq0 ⊢
        exact hq0
      rw [eA_] at hq
      exact hq
    · have q12 := hI.of_true 12 (hd { on := 12, ground := .data } (by simp) rfl)
      dsimp only [lV, cond] at q12
      have q15 := hI.of_true 15 (hd { on := 15, ground := .data } (by simp) rfl)
      dsimp only [lV, cond] at q15
      refine lit2A_ (a1 := ?_) ?_ (fun eA_ => ?_)
      rotate_left
      · subst hA
        simp only [putAll, ns11, Act.put, List.setIfInBounds_toArray, List.set_cons_zero, List.set_cons_succ, q12, q15]
        rfl
      refine valueA_ (N := some 69) (by rfl) rfl (v := (.bool true)) (w1 := w1) ?_ ?_
      · first
        | (go_simp; done)
        | (go_simp; with_reducible rfl)
        | (go_simp; simp [Hn.out.1, Hn.out.2])
      have hq : K ((putAll aA (ns11 s)).put (some 69) (.bool true)) w1 := by
        have hq0 := hK (us s 16 (.bool true), b) w1 (by show LW _ _ _ _ _ (fun j => (l.setIfInBounds 16 true).getD j false) _ _ _; rw [e]; exact hI.pure (by decide))
        subst hA
        simp (disch := decide) only [putAll, ns11, Act.put, List.setIfInBounds_toArray, List.set_cons_zero, List.set_cons_succ, us_self, us_ne] at hq0 ⊢
        exact hq0
      rw [eA_] at hq
      exact hq
    · have q16 := hI.of_true 16 (hd { on := 16, ground := .data } (by simp) rfl)
      dsimp only [lV, cond] at q16
      refine lit2A_ (a1 := ?_) ?_ (fun eA_ => ?_)
      rotate_left
      · subst hA
        simp only [putAll, ns11, Act.put, List.setIfInBounds_toArray, List.set_cons_zero, List.set_cons_succ, q16]
        rfl
      refine valueA_ (N := some 70) (by rfl) rfl (v := (.bool true)) (w1 := w1) ?_ ?_
      · first
        | (go_simp; done)
        | (go_simp; with_reducible rfl)
        | (go_simp; simp [Hn.out.1, Hn.out.2])
      have hq : K ((putAll aA (ns11 s)).put (some 70) (.bool true)) w1 := by
        have hq0 := hK (us s 17 (.bool true), b) w1 (by show LW _ _ _ _ _ (fun j => (l.setIfInBounds 17 true).getD j false) _ _ _; rw [e]; exact hI.pure (by decide))
        subst hA
        simp (disch := decide) only [putAll, ns11, Act.put, List.setIfInBounds_toArray, List.set_cons_zero, List.set_cons_succ, us_self, us_ne] at hq0 ⊢
        exact hq0
      rw [eA_] at hq
      exact hq
    · have q17 := hI.of_true 17 (hd { on := 17, ground := .guard } (by simp) rfl)
      dsimp only [lV, cond] at q17
      refine lit2A_ (a1 := ?_) ?_ (fun eA_ => ?_)
      rotate_left
      · subst hA
        simp only [putAll, ns11, Act.put, List.setIfInBounds_toArray, List.set_cons_zero, List.set_cons_succ, q17]
        rfl
      refine valueA_ (N := some 71) (by rfl) rfl (v := (.pointer (some ⟨g7, 0, none⟩))) (w1 := w1) ?_ ?_
      · first
        | (go_simp; done)
        | (go_simp; with_reducible rfl)
      have hq : K ((putAll aA (ns11 s)).put (some 71) (.pointer (some ⟨g7, 0, none⟩))) w1 := by
        have hq0 := hK (us s 18 (.pointer (some ⟨g7, 0, none⟩)), b) w1 (by show LW _ _ _ _ _ (fun j => (l.setIfInBounds 18 true).getD j false) _ _ _; rw [e]; exact hI.pure (by decide))
        subst hA
        simp (disch := decide) only [putAll, ns11, Act.put, List.setIfInBounds_toArray, List.set_cons_zero, List.set_cons_succ, us_self, us_ne] at hq0 ⊢
        exact hq0
      rw [eA_] at hq
      exact hq
    · have q17 := hI.of_true 17 (hd { on := 17, ground := .guard } (by simp) rfl)
      dsimp only [lV, cond] at q17
      have q18 := hI.of_true 18 (hd { on := 18, ground := .data } (by simp) rfl)
      dsimp only [lV, cond] at q18
      refine lit2A_ (a1 := ?_) ?_ (fun eA_ => ?_)
      rotate_left
      · subst hA
        simp only [putAll, ns11, Act.put, List.setIfInBounds_toArray, List.set_cons_zero, List.set_cons_succ, q17, q18]
        rfl
      refine valueA_ (N := some 72) (by rfl) rfl (v := .int .i64 p0) (w1 := w1) ?_ ?_
      · have hb_ := (hI.ch.block g7 (blk_lt BK7.out) (Or.inr (Nat.zero_le _))).trans BK7.out
        have hc_ : w1.cell? ⟨g7, 0, none⟩ = some (.int .i64 p0) := by simp [World.cell?, hb_]
        first
        | (go_simp; done)
        | (go_simp; simp [hc_])
      have hq : K ((putAll aA (ns11 s)).put (some 72) (.int .i64 p0)) w1 := by
        have hq0 := hK (us s 19 (.int .i64 p0), b) w1 (by show LW _ _ _ _ _ (fun j => (l.setIfInBounds 19 true).getD j false) _ _ _; rw [e]; exact hI.pure (by decide))
        subst hA
        simp (disch := decide) only [putAll, ns11, Act.put, List.setIfInBounds_toArray, List.set_cons_zero, List.set_cons_succ, us_self, us_ne] at hq0 ⊢
        exact hq0
      rw [eA_] at hq
      exact hq
    · have q17 := hI.of_true 17 (hd { on := 17, ground := .guard } (by simp) rfl)
      dsimp only [lV, cond] at q17
      have q19 := hI.of_true 19 (hd { on := 19, ground := .data } (by simp) rfl)
      dsimp only [lV, cond] at q19
      refine lit2A_ (a1 := ?_) ?_ (fun eA_ => ?_)
      rotate_left
      · subst hA
        simp only [putAll, ns11, Act.put, List.setIfInBounds_toArray, List.set_cons_zero, List.set_cons_succ, q17, q19]
        rfl
      refine valueA_ (N := some 73) (by rfl) rfl (v := (.bool false)) (w1 := w1) ?_ ?_
      · first
        | (go_simp; done)
        | (go_simp; with_reducible rfl)
        | (go_simp; simp [Hn.out.1, Hn.out.2])
      have hq : K ((putAll aA (ns11 s)).put (some 73) (.bool false)) w1 := by
        have hq0 := hK (us s 20 (.bool false), b) w1 (by show LW _ _ _ _ _ (fun j => (l.setIfInBounds 20 true).getD j false) _ _ _; rw [e]; exact hI.pure (by decide))
        subst hA
        simp (disch := decide) only [putAll, ns11, Act.put, List.setIfInBounds_toArray, List.set_cons_zero, List.set_cons_succ, us_self, us_ne] at hq0 ⊢
        exact hq0
      rw [eA_] at hq
      exact hq
    · have q17 := hI.of_true 17 (hd { on := 17, ground := .chain } (by simp) rfl)
      dsimp only [lV, cond] at q17
      have q20 := hI.of_true 20 (hd { on := 20, ground := .data } (by simp) rfl)
      dsimp only [lV, cond] at q20
      refine lit2A_ (a1 := ?_) ?_ (fun eA_ => ?_)
      rotate_left
      · subst hA
        simp only [putAll, ns11, Act.put, List.setIfInBounds_toArray, List.set_cons_zero, List.set_cons_succ, q17, q20]
        rfl
      refine valueA_ (N := some 74) (by rfl) rfl (v := (.bool false)) (w1 := w1) ?_ ?_
      · first
        | (go_simp; done)
        | (go_simp; with_reducible rfl)
        | (go_simp; simp [Hn.out.1, Hn.out.2])
      have hq : K ((putAll aA (ns11 s)).put (some 74) (.bool false)) w1 := by
        have hq0 := hK (us s 21 (.bool false), b) w1 (by show LW _ _ _ _ _ (fun j => (l.setIfInBounds 21 true).getD j false) _ _ _; rw [e]; exact hI.pure (by decide))
        subst hA
        simp (disch := decide) only [putAll, ns11, Act.put, List.setIfInBounds_toArray, List.set_cons_zero, List.set_cons_succ, us_self, us_ne] at hq0 ⊢
        exact hq0
      rw [eA_] at hq
      exact hq
    · have q21 := hI.of_true 21 (hd { on := 21, ground := .guard } (by simp) rfl)
      dsimp only [lV, cond] at q21
      refine lit2A_ (a1 := ?_) ?_ (fun eA_ => ?_)
      rotate_left
      · subst hA
        simp only [putAll, ns11, Act.put, List.setIfInBounds_toArray, List.set_cons_zero, List.set_cons_succ, q21]
        rfl
      refine valueA_ (N := some 75) (by rfl) rfl (v := .agg #[.int .i64 p0, .int .i64 p1, .string p2, .slice Ap lp.length cp]) (w1 := w1) ?_ ?_
      · refine load_yields 29 (.tmp 7) (by rfl) g7 (by rfl) 29 _ _ ?_ Try.underlying29 rfl (by kernel_rfl)
        exact (hI.ch.block g7 (blk_lt BK7.out) (Or.inr (Nat.zero_le _))).trans BK7.out
      have hq : K ((putAll aA (ns11 s)).put (some 75) (.agg #[.int .i64 p0, .int .i64 p1, .string p2, .slice Ap lp.length cp])) w1 := by
        have hq0 := hK (us s 22 (.agg #[.int .i64 p0, .int .i64 p1, .string p2, .slice Ap lp.length cp]), b) w1 (by show LW _ _ _ _ _ (fun j => (l.setIfInBounds 22 true).getD j false) _ _ _; rw [e]; exact hI.pure (by decide))
        subst hA
        simp (disch := decide) only [putAll, ns11, Act.put, List.setIfInBounds_toArray, List.set_cons_zero, List.set_cons_succ, us_self, us_ne] at hq0 ⊢
        exact hq0
      rw [eA_] at hq
      exact hq
    · have q21 := hI.of_true 21 (hd { on := 21, ground := .chain } (by simp) rfl)
      dsimp only [lV, cond] at q21
      have q22 := hI.of_true 22 (hd { on := 22, ground := .data } (by simp) rfl)
      dsimp only [lV, cond] at q22
      refine lit2A_ (a1 := ?_) ?_ (fun eA_ => ?_)
      rotate_left
      · subst hA
        simp only [putAll, ns11, Act.put, List.setIfInBounds_toArray, List.set_cons_zero, List.set_cons_succ, q21, q22]
        rfl
      refine Aside0.mk ?_
      refine goes_ Try.func18 (by kernel_rfl) rfl #[.agg #[.int .i64 p0, .int .i64 p1, .string p2, .slice Ap lp.length cp]] (by rfl) rfl rfl (by simp only [List.map_toArray, List.map_cons, List.map_nil]; rfl) ?_
      refine (impl_ExprOk.calls k p0 p1 p2 Ap cp lp true w1 (hI.now Tp) hlp Hx.out).mono ?_
      rintro _ w2 ⟨rfl, hb⟩
      refine ⟨_, rfl, ?_⟩
      have hq : K ((putAll aA (ns11 s)).put (some 76) (.bool true)) w2 := by
        have hq0 := hK (us s 23 (.bool true), b) w2 (by show LW _ _ _ _ _ (fun j => (l.setIfInBounds 23 true).getD j false) _ _ _; rw [e]; exact hI.call (by decide) hb)
        subst hA
        simp (disch := decide) only [putAll, ns11, Act.put, List.setIfInBounds_toArray, List.set_cons_zero, List.set_cons_succ, us_self, us_ne] at hq0 ⊢
        exact hq0
      rw [eA_] at hq
      exact hq
    · have q17 := hI.of_true 17 (hd { on := 17, ground := .guard } (by simp) rfl)
      dsimp only [lV, cond] at q17
      have q21 := hI.of_true 21 (hd { on := 21, ground := .data } (by simp) rfl)
      dsimp only [lV, cond] at q21
      have q23 := hI.of_true 23 (hd { on := 23, ground := .data } (by simp) rfl)
      dsimp only [lV, cond] at q23
      refine lit2A_ (a1 := ?_) ?_ (fun eA_ => ?_)
      rotate_left
      · subst hA
        simp only [putAll, ns11, Act.put, List.setIfInBounds_toArray, List.set_cons_zero, List.set_cons_succ, q17, q21, q23]
        rfl
      refine valueA_ (N := some 77) (by rfl) rfl (v := (.bool true)) (w1 := w1) ?_ ?_
      · first
        | (go_simp; done)
        | (go_simp; with_reducible rfl)
        | (go_simp; simp [Hn.out.1, Hn.out.2])
      have hq : K ((putAll aA (ns11 s)).put (some 77) (.bool true)) w1 := by
        have hq0 := hK (us s 24 (.bool true), b) w1 (by show LW _ _ _ _ _ (fun j => (l.setIfInBounds 24 true).getD j false) _ _ _; rw [e]; exact hI.pure (by decide))
        subst hA
        simp (disch := decide) only [putAll, ns11, Act.put, List.setIfInBounds_toArray, List.set_cons_zero, List.set_cons_succ, us_self, us_ne] at hq0 ⊢
        exact hq0
      rw [eA_] at hq
      exact hq
    · have q17 := hI.of_true 17 (hd { on := 17, ground := .data } (by simp) rfl)
      dsimp only [lV, cond] at q17
      have q24 := hI.of_true 24 (hd { on := 24, ground := .data } (by simp) rfl)
      dsimp only [lV, cond] at q24
      refine lit2A_ (a1 := ?_) ?_ (fun eA_ => ?_)
      rotate_left
      · subst hA
        simp only [putAll, ns11, Act.put, List.setIfInBounds_toArray, List.set_cons_zero, List.set_cons_succ, q17, q24]
        rfl
      refine valueA_ (N := some 78) (by rfl) rfl (v := (.bool true)) (w1 := w1) ?_ ?_
      · first
        | (go_simp; done)
        | (go_simp; with_reducible rfl)
        | (go_simp; simp [Hn.out.1, Hn.out.2])
      have hq : K ((putAll aA (ns11 s)).put (some 78) (.bool true)) w1 := by
        have hq0 := hK (us s 25 (.bool true), b) w1 (by show LW _ _ _ _ _ (fun j => (l.setIfInBounds 25 true).getD j false) _ _ _; rw [e]; exact hI.pure (by decide))
        subst hA
        simp (disch := decide) only [putAll, ns11, Act.put, List.setIfInBounds_toArray, List.set_cons_zero, List.set_cons_succ, us_self, us_ne] at hq0 ⊢
        exact hq0
      rw [eA_] at hq
      exact hq
    · have q25 := hI.of_true 25 (hd { on := 25, ground := .data } (by simp) rfl)
      dsimp only [lV, cond] at q25
      refine lit2A_ (a1 := ?_) ?_ (fun eA_ => ?_)
      rotate_left
      · subst hA
        simp only [putAll, ns11, Act.put, List.setIfInBounds_toArray, List.set_cons_zero, List.set_cons_succ, q25]
        rfl
      refine valueA_ (N := some 79) (by rfl) rfl (v := (.bool true)) (w1 := w1) ?_ ?_
      · first
        | (go_simp; done)
        | (go_simp; with_reducible rfl)
        | (go_simp; simp [Hn.out.1, Hn.out.2])
      have hq : K ((putAll aA (ns11 s)).put (some 79) (.bool true)) w1 := by
        have hq0 := hK (us s 26 (.bool true), b) w1 (by show LW _ _ _ _ _ (fun j => (l.setIfInBounds 26 true).getD j false) _ _ _; rw [e]; exact hI.pure (by decide))
        subst hA
        simp (disch := decide) only [putAll, ns11, Act.put, List.setIfInBounds_toArray, List.set_cons_zero, List.set_cons_succ, us_self, us_ne] at hq0 ⊢
        exact hq0
      rw [eA_] at hq
      exact hq
    · have q26 := hI.of_true 26 (hd { on := 26, ground := .guard } (by simp) rfl)
      dsimp only [lV, cond] at q26
      refine lit2A_ (a1 := ?_) ?_ (fun eA_ => ?_)
      rotate_left
      · subst hA
        simp only [putAll, ns11, Act.put, List.setIfInBounds_toArray, List.set_cons_zero, List.set_cons_succ, q26]
        rfl
      refine valueA_ (N := some 80) (by rfl) rfl (v := (.int .i64 n)) (w1 := w1) ?_ ?_
      · first
        | (go_simp; done)
        | (go_simp; with_reducible rfl)
      have hq : K ((putAll aA (ns11 s)).put (some 80) (.int .i64 n)) w1 := by
        have hq0 := hK (us s 27 (.int .i64 n), b) w1 (by show LW _ _ _ _ _ (fun j => (l.setIfInBounds 27 true).getD j false) _ _ _; rw [e]; exact hI.pure (by decide))
        subst hA
        simp (disch := decide) only [putAll, ns11, Act.put, List.setIfInBounds_toArray, List.set_cons_zero, List.set_cons_succ, us_self, us_ne] at hq0 ⊢
        exact hq0
      rw [eA_] at hq
      exact hq
    · have q26 := hI.of_true 26 (hd { on := 26, ground := .guard } (by simp) rfl)
      dsimp only [lV, cond] at q26
      have q27 := hI.of_true 27 (hd { on := 27, ground := .data } (by simp) rfl)
      dsimp only [lV, cond] at q27
      refine lit2A_ (a1 := ?_) ?_ (fun eA_ => ?_)
      rotate_left
      · subst hA
        simp only [putAll, ns11, Act.put, List.setIfInBounds_toArray, List.set_cons_zero, List.set_cons_succ, q26, q27]
        rfl
      refine valueA_ (N := some 81) (by rfl) rfl (v := (.bool true)) (w1 := w1) ?_ ?_
      · first
        | (go_simp; done)
        | (go_simp; with_reducible rfl)
        | (go_simp; simp [Hn.out.1, Hn.out.2])
      have hq : K ((putAll aA (ns11 s)).put (some 81) (.bool true)) w1 := by
        have hq0 := hK (us s 28 (.bool true), b) w1 (by show LW _ _ _ _ _ (fun j => (l.setIfInBounds 28 true).getD j false) _ _ _; rw [e]; exact hI.pure (by decide))
        subst hA
        simp (disch := decide) only [putAll, ns11, Act.put, List.setIfInBounds_toArray, List.set_cons_zero, List.set_cons_succ, us_self, us_ne] at hq0 ⊢
        exact hq0
      rw [eA_] at hq
      exact hq
    · have q26 := hI.of_true 26 (hd { on := 26, ground := .data } (by simp) rfl)
      dsimp only [lV, cond] at q26
      have q28 := hI.of_true 28 (hd { on := 28, ground := .data } (by simp) rfl)
      dsimp only [lV, cond] at q28
      refine lit2A_ (a1 := ?_) ?_ (fun eA_ => ?_)
      rotate_left
      · subst hA
        simp only [putAll, ns11, Act.put, List.setIfInBounds_toArray, List.set_cons_zero, List.set_cons_succ, q26, q28]
        rfl
      refine valueA_ (N := some 82) (by rfl) rfl (v := (.bool true)) (w1 := w1) ?_ ?_
      · first
        | (go_simp; done)
        | (go_simp; with_reducible rfl)
        | (go_simp; simp [Hn.out.1, Hn.out.2])
      have hq : K ((putAll aA (ns11 s)).put (some 82) (.bool true)) w1 := by
        have hq0 := hK (us s 29 (.bool true), b) w1 (by show LW _ _ _ _ _ (fun j => (l.setIfInBounds 29 true).getD j false) _ _ _; rw [e]; exact hI.pure (by decide))
        subst hA
        simp (disch := decide) only [putAll, ns11, Act.put, List.setIfInBounds_toArray, List.set_cons_zero, List.set_cons_succ, us_self, us_ne] at hq0 ⊢
        exact hq0
      rw [eA_] at hq
      exact hq
    · have q29 := hI.of_true 29 (hd { on := 29, ground := .data } (by simp) rfl)
      dsimp only [lV, cond] at q29
      refine lit2A_ (a1 := ?_) ?_ (fun eA_ => ?_)
      rotate_left
      · subst hA
        simp only [putAll, ns11, Act.put, List.setIfInBounds_toArray, List.set_cons_zero, List.set_cons_succ, q29]
        rfl
      refine valueA_ (N := some 83) (by rfl) rfl (v := (.bool true)) (w1 := w1) ?_ ?_
      · first
        | (go_simp; done)
        | (go_simp; with_reducible rfl)
        | (go_simp; simp [Hn.out.1, Hn.out.2])
      have hq : K ((putAll aA (ns11 s)).put (some 83) (.bool true)) w1 := by
        have hq0 := hK (us s 30 (.bool true), b) w1 (by show LW _ _ _ _ _ (fun j => (l.setIfInBounds 30 true).getD j false) _ _ _; rw [e]; exact hI.pure (by decide))
        subst hA
        simp (disch := decide) only [putAll, ns11, Act.put, List.setIfInBounds_toArray, List.set_cons_zero, List.set_cons_succ, us_self, us_ne] at hq0 ⊢
        exact hq0
      rw [eA_] at hq
      exact hq
    · have q30 := hI.of_true 30 (hd { on := 30, ground := .guard } (by simp) rfl)
      dsimp only [lV, cond] at q30
      refine lit2A_ (a1 := ?_) ?_ (fun eA_ => ?_)
      rotate_left
      · subst hA
        simp only [putAll, ns11, Act.put, List.setIfInBounds_toArray, List.set_cons_zero, List.set_cons_succ, q30]
        rfl
      refine valueA_ (N := some 84) (by rfl) rfl (v := (.int .i64 n)) (w1 := w1) ?_ ?_
      · first
        | (go_simp; done)
        | (go_simp; with_reducible rfl)
      have hq : K ((putAll aA (ns11 s)).put (some 84) (.int .i64 n)) w1 := by
        have hq0 := hK (us s 31 (.int .i64 n), b) w1 (by show LW _ _ _ _ _ (fun j => (l.setIfInBounds 31 true).getD j false) _ _ _; rw [e]; exact hI.pure (by decide))
        subst hA
        simp (disch := decide) only [putAll, ns11, Act.put, List.setIfInBounds_toArray, List.set_cons_zero, List.set_cons_succ, us_self, us_ne] at hq0 ⊢
        exact hq0
      rw [eA_] at hq
      exact hq
    · have q30 := hI.of_true 30 (hd { on := 30, ground := .guard } (by simp) rfl)
      dsimp only [lV, cond] at q30
      have q31 := hI.of_true 31 (hd { on := 31, ground := .data } (by simp) rfl)
      dsimp only [lV, cond] at q31
      refine lit2A_ (a1 := ?_) ?_ (fun eA_ => ?_)
      rotate_left
      · subst hA
        simp only [putAll, ns11, Act.put, List.setIfInBounds_toArray, List.set_cons_zero, List.set_cons_succ, q30, q31]
        rfl
      refine valueA_ (N := some 85) (by rfl) rfl (v := (.bool true)) (w1 := w1) ?_ ?_
      · first
        | (go_simp; done)
        | (go_simp; with_reducible rfl)
        | (go_simp; simp [Hn.out.1, Hn.out.2])
      have hq : K ((putAll aA (ns11 s)).put (some 85) (.bool true)) w1 := by
        have hq0 := hK (us s 32 (.bool true), b) w1 (by show LW _ _ _ _ _ (fun j => (l.setIfInBounds 32 true).getD j false) _ _ _; rw [e]; exact hI.pure (by decide))
        subst hA
        simp (disch := decide) only [putAll, ns11, Act.put, List.setIfInBounds_toArray, List.set_cons_zero, List.set_cons_succ, us_self, us_ne] at hq0 ⊢
        exact hq0
      rw [eA_] at hq
      exact hq
    · have q30 := hI.of_true 30 (hd { on := 30, ground := .data } (by simp) rfl)
      dsimp only [lV, cond] at q30
      have q32 := hI.of_true 32 (hd { on := 32, ground := .data } (by simp) rfl)
      dsimp only [lV, cond] at q32
      refine lit2A_ (a1 := ?_) ?_ (fun eA_ => ?_)
      rotate_left
      · subst hA
        simp only [putAll, ns11, Act.put, List.setIfInBounds_toArray, List.set_cons_zero, List.set_cons_succ, q30, q32]
        rfl
      refine valueA_ (N := some 86) (by rfl) rfl (v := (.bool true)) (w1 := w1) ?_ ?_
      · first
        | (go_simp; done)
        | (go_simp; with_reducible rfl)
        | (go_simp; simp [Hn.out.1, Hn.out.2])
      have hq : K ((putAll aA (ns11 s)).put (some 86) (.bool true)) w1 := by
        have hq0 := hK (us s 33 (.bool true), b) w1 (by show LW _ _ _ _ _ (fun j => (l.setIfInBounds 33 true).getD j false) _ _ _; rw [e]; exact hI.pure (by decide))
        subst hA
        simp (disch := decide) only [putAll, ns11, Act.put, List.setIfInBounds_toArray, List.set_cons_zero, List.set_cons_succ, us_self, us_ne] at hq0 ⊢
        exact hq0
      rw [eA_] at hq
      exact hq
    · have q33 := hI.of_true 33 (hd { on := 33, ground := .data } (by simp) rfl)
      dsimp only [lV, cond] at q33
      refine lit2A_ (a1 := ?_) ?_ (fun eA_ => ?_)
      rotate_left
      · subst hA
        simp only [putAll, ns11, Act.put, List.setIfInBounds_toArray, List.set_cons_zero, List.set_cons_succ, q33]
        rfl
      refine valueA_ (N := some 2) (by rfl) rfl (v := (.bool true)) (w1 := w1) ?_ ?_
      · first
        | (go_simp; done)
        | (go_simp; with_reducible rfl)
        | (go_simp; simp [Hn.out.1, Hn.out.2])
      have hq : K ((putAll aA (ns11 s)).put (some 2) (.bool true)) w1 := by
        have hq0 := hK (us s 34 (.bool true), b) w1 (by show LW _ _ _ _ _ (fun j => (l.setIfInBounds 34 true).getD j false) _ _ _; rw [e]; exact hI.pure (by decide))
        subst hA
        simp (disch := decide) only [putAll, ns11, Act.put, List.setIfInBounds_toArray, List.set_cons_zero, List.set_cons_succ, us_self, us_ne] at hq0 ⊢
        exact hq0
      rw [eA_] at hq
      exact hq
  case stop =>
    rintro ⟨s, b⟩ w2 hI
    dsimp only at hI
    have z34 := hI.of_true 34 (getD_rept (by decide))
    dsimp only [lV] at z34
    subst hA
    simp only [putAll, ns11, Act.put, List.setIfInBounds_toArray, List.set_cons_zero, List.set_cons_succ, z34]
    go_wp2
    go_ret
    exact ⟨rfl, hI.bel⟩
set_option maxHeartbeats 32000000 in
set_option maxRecDepth 100000 in
theorem early (Ab : Option Addr) (cb : Nat) (lb : List Int) (w : World) (hr : Kd.C (Kd.int .u8) w Ab lb.length lb) (hc : lb.length ≤ cb) (hbg : laws_big.f lb = some true) :
    Calls Try.prog 11 #[.slice Ab lb.length cb] w fun e w' => e = .returned (.bool true) ∧ Below w.heap.size w w' := by
  have HR := A_ hr
  have HC := A_ hc
  clear hr hc
  have HB := A_ (Below.refl w.heap.size w)
  have S : Aside0 (w.heap.size ≤ w.heap.size) := A_ (Nat.le_refl _)
  have Hbg := A_ hbg
  clear hbg
  go_enter Try.func11, Try.ntmps11
  go_wp2_with (first | ((with_reducible refine gate_callee (f := 21) rfl ?_); (try (refine gate_guard (by rfl) ?_; dsimp only)); refine gL_ (some 17) Try.func21 #[.slice Ab lb.length cb] ?_; refine (laws_big.calls Ab cb lb true _ (Kd.C_below HR.out HB.out) HC.out Hbg.out).mono ?_; rintro e w' ⟨rfl, hd⟩; have hc := Ch.of_drawn hd; refine ⟨_, rfl, ?_⟩; replace HB := hz_ hc HB; replace S := t_ hc S; clear hc hd))
  go_ret
  exact ⟨rfl, HB.out⟩
theorem law (Ab : Option Addr) (cb : Nat) (lb : List Int) (w : World) (hr : Kd.C (Kd.int .u8) w Ab lb.length lb) (hc : lb.length ≤ cb) (h : Pure.Facts lb) :
    Calls Try.prog 11 #[.slice Ab lb.length cb] w fun e w' => e = .returned (.bool true) ∧ Below w.heap.size w w' := by
  rcases h with h | ⟨k, e0, e1, e2, le, z0, z1, z2, lz, ll, p0, p1, p2, lp, u0, u1, u2, lu, lx, ly, n, ok, h1, h2, h3, h4, h5, h6, h7, h8, h9, h⟩
  · exact early Ab cb lb w hr hc h
  rcases h with h | ⟨h, hx⟩
  · exact law_z k Ab cb lb e0 e1 e2 le z0 z1 z2 lz ll p0 p1 p2 lp u0 u1 u2 lu lx ly n ok w hr hc h1 h2 h3 h4 h5 h6 h7 h8 h9 h
  · exact law_o k Ab cb lb e0 e1 e2 le z0 z1 z2 lz ll p0 p1 p2 lp u0 u1 u2 lu lx ly n ok w hr hc h1 h2 h3 h4 h5 h6 h7 h8 h9 h hx
theorem walk (P : ∀ lb : List Int, lb.length ≤ maxLen → lb.length * 1 ≤ 140737488351232 → (∀ x ∈ lb, (Lit.int .u8 x).wf = true) → Pure.Facts lb) (a0 : Option Addr) (len0 cap0 : Nat) (z0 : List Int) (w : World)
    (w0 : (a0 = none ∧ len0 = 0 ∧ cap0 = 0 ∧ z0 = []) ∨ ∃ x, a0 = some x ∧ len0 ≤ cap0 ∧ cap0 ≤ maxLen ∧ z0.length = cap0 ∧ (∀ i, i < z0.length → w.cell? (x.add i) = some (.int .u8 (z0.getD i 0))) ∧ ∀ n ∈ z0, (Lit.int .u8 n).wf = true) (y0 : len0 * 1 ≤ 140737488351232) :
    Calls Try.prog 11 #[.slice a0 len0 cap0] w fun e w' => e = .returned (.bool true) ∧ Below w.heap.size w w' := by
  obtain ⟨l0, rfl, hr0, hm0, hw0, hc0⟩ := ReadsInt.ofRowC w0
  exact law _ _ l0 w (Kd.C_of_reads (d := (0 : Int)) (h1 := fun _ => rfl) hr0) hc0 (P l0 hm0 y0 hw0)
end Go.Proofs.Ytcpnhlhigpgonaa.WFnPutIn
