-- Laid by a program of this session; Lean checks every line.
import Derived.Test.YtcpnhlhigpgonaaPFnExactFoldx15
namespace Go.Proofs.Ytcpnhlhigpgonaa.PFnExactFold
open Go.RowKit Go.Proofs.YtcpnhlhigpgonaaW.PrintWords Go.Proofs.YtcpnhlhigpgonaaW.PrintLast Go.Proofs.YtcpnhlhigpgonaaW.PrintMore Go.Proofs.Ytcpnhlhigpgonaa.Chg
set_option linter.unusedVariables false
set_option linter.unusedSimpArgs false
attribute [local go_sem] max2_int min2_int max_two min_two max_three min_three max_four min_four
theorem nrm_ {P : Program} {ops : Array Oper} {Q : Exit → Act → World → Prop} {rest : List Oper} {a a' : Act} {w : World} (e : a = a') (h : wpList P ops Q rest a' w) : wpList P ops Q rest a w := by
  subst e
  exact h
theorem dA_ {p : Prop} (h : p := by (try simp only [List.map_toArray, List.map_cons, List.map_nil]); first | done | rfl) : p := h
def TR (b : Nat) (w : World) (lo hi : Nat) (A : Option Addr) (c : Nat) (l : List S29) : Prop := Kd.S q29 29 w b (fun k => lo ≤ k ∧ k < hi) (.slice A l.length c) l
def SR (b : Nat) (w : World) (lo hi : Nat) (A : Option Addr) (c : Nat) (l : List ByteArray) : Prop := Kd.R Kd.string 9 w b (fun k => lo ≤ k ∧ k < hi) (.slice A l.length c) l
def FR (w : World) (lo hi : Nat) (A : Option Addr) (c : Nat) (l : List S29) : Prop := l.length ≤ c ∧ Kd.F k29 w (fun k => lo ≤ k ∧ k < hi) A l.length l
def RdT (w : World) (A : Option Addr) (c : Nat) (l : List S29) : Prop := l.length ≤ c ∧ Kd.C k29 w A l.length l
def RdS (w : World) (A : Option Addr) (c : Nat) (l : List ByteArray) : Prop := l.length ≤ c ∧ Kd.C Kd.string w A l.length l
section
variable {b lo hi lo' hi' c : Nat} {w w0 w1 : World} {A : Option Addr} {l l1 : List S29} {ls ls1 : List ByteArray}
theorem uz_ (hc : Ch w w1 0 0) (h : Aside0 (TR b w lo hi A c l)) : Aside0 (TR b w1 lo hi A c l) := ⟨Kd.S_step h.out (fun k _ hlt => hc.block k hlt (Or.inr (Nat.zero_le _)))⟩
theorem us_ (hc : Ch w w1 lo' hi') (h : Aside0 (TR b w lo hi A c l)) (hd : hi ≤ lo' ∨ hi' ≤ lo) : Aside0 (TR b w1 lo hi A c l) := ⟨Kd.S_step h.out (fun k hk hlt => hc.block k hlt (by omega))⟩
theorem fz_ (hc : Ch w w1 0 0) (h : Aside0 (FR w lo hi A c l)) : Aside0 (FR w1 lo hi A c l) := ⟨h.out.1, Kd.F_step h.out.2 (fun k _ hlt => hc.block k hlt (Or.inr (Nat.zero_le _)))⟩
theorem fs_ (hc : Ch w w1 lo' hi') (h : Aside0 (FR w lo hi A c l)) (hd : hi ≤ lo' ∨ hi' ≤ lo) : Aside0 (FR w1 lo hi A c l) := ⟨h.out.1, Kd.F_step h.out.2 (fun k hk hlt => hc.block k hlt (by omega))⟩
theorem TR.rd (h : TR b w lo hi A c l) : RdT w A c l := ⟨(Kd.S_reads' h).2.1, q29_C (Kd.S_reads' h).2.2⟩
theorem SR.rd (h : SR b w lo hi A c ls) : RdS w A c ls := ⟨(Kd.R_reads' h).2.1, (Kd.R_reads' h).2.2⟩
theorem FR.rd (h : FR w lo hi A c l) : RdT w A c l := ⟨h.1, Kd.F_now h.2⟩
theorem TR_in {v : Value} (h : Kd.S q29 29 w1 w.heap.size (fun _ => True) v l) (hb : b ≤ w.heap.size) : ∃ A c, v = .slice A l.length c ∧ TR b w1 w.heap.size w1.heap.size A c l := by
  obtain ⟨A, c, rfl⟩ := Kd.S_slice h
  exact ⟨A, c, rfl, Kd.S_mono (Kd.S_lower (Kd.S_bound h) hb) (fun k hk => ⟨hk.2.1, hk.2.2.1⟩)⟩
theorem kc_ (h0 : Below w0.heap.size w0 w) (h1 : Below w0.heap.size w0 w1) (hk : Kept w w1 (fun k => lo ≤ k ∧ k < hi)) : Ch w w1 lo hi := ⟨h1.os.trans h0.os.symm, h1.tape.trans h0.tape.symm, h1.output.trans h0.output.symm, hk.1, fun k hlt h => hk.2 k hlt (by omega)⟩
end
set_option maxHeartbeats 8000000 in
set_option maxRecDepth 100000 in
theorem laws_markExpr.calls (k : Nat) (a0 a1 : Int) (a2 : ByteArray) (P0_ : Nat → Prop) (A : Option Addr) (c : Nat) (l0 : List S29) (b1 r1 : Int) (r2 : List S29) (w0 w : World) (hB : Below w0.heap.size w0 w) (ho0 : Kd.S q29 29 w w0.heap.size P0_ (.slice A l0.length c) l0) (h : laws_markExprS.f k l0 b1 = some (r1, r2)) :
    Calls Try.prog 36 #[.agg #[.int .i64 a0, .int .i64 a1, .string a2, .slice A l0.length c], .int .i64 b1] w fun e w' => e = .returned (.int .i64 r1) ∧ Kd.S q29 29 w' w0.heap.size P0_ (.slice A l0.length c) r2 ∧ Below w0.heap.size w0 w' ∧ Kept w w' P0_ := by
  have HO := A_ ho0
  have HB := A_ hB
  have H := A_ h
  have HK := A_ (Kept.refl w P0_)
  clear ho0 hB h
  go_enter Try.func36, Try.ntmps36
  go_wp2_with (first | ((with_reducible refine gate_dst (N := 2) rfl ?_); refine bx_ 2 #[.int .i64 a0, .int .i64 a1, .string a2, .slice A l0.length c] 29 ?_; intro g2 hg w2 hbox hb; have n0_ := A_ (Kd.S_below HO.out hb); have n1_ := A_ (below_step HB.out hb); have n2_ := A_ (Kept.below (S := P0_) HK.out hb); clear HO HB HK hb hg; have HO := n0_; have HB := n1_; have HK := n2_; clear n0_ n1_ n2_; obtain ⟨y4_0, y4_1, y4_2, y4_3, z4_0, z4_1, z4_2, z4_3⟩ := cz4_ hbox) | ((with_reducible refine gate_callee (f := 38) rfl ?_); refine gL_ (some 8) Try.func38 #[.slice A l0.length c, .int .i64 b1] ?_; (with_reducible refine (laws_markExprS.calls k P0_ _ l0 b1 r1 r2 w0 _ HB.out HO.out H.out).mono ?_); rintro e w' ⟨rfl, hs_, hb, hk_⟩; refine ⟨_, rfl, ?_⟩; have n0_ := A_ hs_; have n1_ := A_ hb; have n2_ := A_ (Kept.then_ HK.out hk_ (fun k_ h_ => Or.inl h_)); clear HO HB HK y4_0 y4_1 y4_2 y4_3 z4_0 z4_1 z4_2 z4_3 hbox; have HO := n0_; have HB := n1_; have HK := n2_; clear n0_ n1_ n2_ hs_ hb hk_))
  go_ret
  exact ⟨rfl, HO.out, HB.out, HK.out⟩
theorem te4 (k : Nat) (a0 a1 : Int) (a2 : ByteArray) (A : Option Addr) (c : Nat) (l : List S24) (r0 r1 : Int) (r2 : ByteArray) (r3 : List S29) (w0 w : World) (hB : Below w0.heap.size w0 w) (hr : Kd.C k24 w0 A l.length l) (hc : l.length ≤ c) (h : laws_toExpr.f k a0 a1 a2 l = some (r0, r1, r2, r3)) :
    Calls Try.prog 14 #[.agg #[.int .i64 a0, .int .i64 a1, .string a2, .slice A l.length c]] w fun e w' => ∃ (B : Option Addr) (d lo hi : Nat), e = .returned (.agg #[.int .i64 r0, .int .i64 r1, .string r2, .slice B r3.length d]) ∧ w.heap.size ≤ lo ∧ lo ≤ hi ∧ hi ≤ w'.heap.size ∧ TR w0.heap.size w' lo hi B d r3 ∧ Ch w w' 0 0 := by
  refine (laws_toExpr.calls k a0 a1 a2 A c l r0 r1 r2 r3 w (Kd.C_below hr hB) hc h).mono ?_
  rintro e w' ⟨v, rfl, hs, hb⟩
  obtain ⟨B, d, rfl, hT⟩ := TR_in hs hB.size
  exact ⟨B, d, _, _, rfl, Nat.le_refl _, hb.size, Nat.le_refl _, hT, Ch.of_below hb⟩
theorem sz4 (k : Nat) (a0 a1 : Int) (a2 : ByteArray) (A : Option Addr) (c : Nat) (l : List S24) (n r : Int) (w0 w : World) (hB : Below w0.heap.size w0 w) (hr : Kd.C k24 w0 A l.length l) (hc : l.length ≤ c) (h : laws_szExpr.f k a0 a1 a2 l n = some r) :
    Calls Try.prog 12 #[.agg #[.int .i64 a0, .int .i64 a1, .string a2, .slice A l.length c], .int .i64 n] w fun e w' => e = .returned (.int .i64 r) ∧ Ch w w' 0 0 := by
  refine (laws_szExpr.calls k a0 a1 a2 A c l n r w (Kd.C_below hr hB) hc h).mono ?_
  rintro e w' ⟨rfl, hb⟩
  exact ⟨rfl, Ch.of_below hb⟩
theorem eq4 (k : Nat) (a0 a1 : Int) (a2 : ByteArray) (A : Option Addr) (c : Nat) (l : List S29) (b0 b1 : Int) (b2 : ByteArray) (B : Option Addr) (d : Nat) (m : List S29) (r : Bool) (w : World) (hr : RdT w A c l) (hs : RdT w B d m) (h : laws_eqExpr.f k a0 a1 a2 l b0 b1 b2 m = some r) :
    Calls Try.prog 16 #[.agg #[.int .i64 a0, .int .i64 a1, .string a2, .slice A l.length c], .agg #[.int .i64 b0, .int .i64 b1, .string b2, .slice B m.length d]] w fun e w' => e = .returned (.bool r) ∧ Ch w w' 0 0 := by
  refine (laws_eqExpr.calls k a0 a1 a2 A c l b0 b1 b2 B d m r w hr.2 hr.1 hs.2 hs.1 h).mono ?_
  rintro e w' ⟨rfl, hb⟩
  exact ⟨rfl, Ch.of_below hb⟩
theorem held4 (k : Nat) (a0 a1 : Int) (a2 : ByteArray) (A : Option Addr) (c n : Nat) (l : List S29) (hn : l.length = n) (b r : Int) (w : World) (hr : RdT w A c l) (h : laws_heldExpr.f k a0 a1 a2 l b = some r) :
    Calls Try.prog 39 #[.agg #[.int .i64 a0, .int .i64 a1, .string a2, .slice A n c], .int .i64 b] w fun e w' => e = .returned (.int .i64 r) ∧ Ch w w' 0 0 := by
  subst hn
  refine (laws_heldExpr.calls k a0 a1 a2 A c l b r w hr.2 hr.1 h).mono ?_
  rintro e w' ⟨rfl, hb⟩
  exact ⟨rfl, Ch.of_below hb⟩
theorem mark4 (k : Nat) (a0 a1 : Int) (a2 : ByteArray) (A : Option Addr) (c : Nat) (l m : List S29) (b r : Int) (lo hi : Nat) (w0 w : World) (hB : Below w0.heap.size w0 w) (hT : TR w0.heap.size w lo hi A c l) (h : laws_markExprS.f k l b = some (r, m)) (hl : m.length = l.length) :
    Calls Try.prog 36 #[.agg #[.int .i64 a0, .int .i64 a1, .string a2, .slice A l.length c], .int .i64 b] w fun e w' => e = .returned (.int .i64 r) ∧ TR w0.heap.size w' lo hi A c m ∧ Ch w w' lo hi := by
  refine (laws_markExpr.calls k a0 a1 a2 (fun k => lo ≤ k ∧ k < hi) A c l b r m w0 w hB hT h).mono ?_
  rintro e w' ⟨rfl, hs, hb, hk⟩
  exact ⟨rfl, by unfold TR; rw [hl]; exact hs, kc_ hB hb hk⟩
theorem sf4 (k : Nat) (a0 a1 : Int) (a2 : ByteArray) (A : Option Addr) (c : Nat) (l : List S29) (r0 r1 : Int) (r2 : ByteArray) (r3 : List S29) (w : World) (ha : RdT w A c l) (h : spec_Fold.f k a0 a1 a2 l = some (r0, r1, r2, r3)) :
    Calls Try.prog 42 #[.agg #[.int .i64 a0, .int .i64 a1, .string a2, .slice A l.length c]] w fun e w' => ∃ (D : Option Addr) (q lo hi : Nat), e = .returned (.agg #[.int .i64 r0, .int .i64 r1, .string r2, .slice D r3.length q]) ∧ w.heap.size ≤ lo ∧ lo ≤ hi ∧ hi ≤ w'.heap.size ∧ FR w' lo hi D q r3 ∧ Ch w w' 0 0 := by
  refine (spec_Fold.calls k a0 a1 a2 A c l r0 r1 r2 r3 w ha.2 ha.1 h).mono ?_
  rintro e w' ⟨v, rfl, hs, hb⟩
  obtain ⟨D, q, rfl, hq, hF⟩ := hs
  exact ⟨D, q, _, _, rfl, Nat.le_refl _, hb.size, Nat.le_refl _, ⟨hq, Kd.F_mono (Kd.F_bound hF) (fun k hk => ⟨hk.1, hk.2⟩)⟩, Ch.of_below hb⟩
theorem if4 (k : Nat) (a0 a1 : Int) (a2 : ByteArray) (A : Option Addr) (c : Nat) (l : List S29) (r0 r1 : Int) (r2 : ByteArray) (r3 : List S29) (w0 w : World) (hB : Below w0.heap.size w0 w) (ha : RdT w A c l) (h : impl_Fold.f k a0 a1 a2 l = some (r0, r1, r2, r3)) :
    Calls Try.prog 43 #[.agg #[.int .i64 a0, .int .i64 a1, .string a2, .slice A l.length c]] w fun e w' => ∃ (D : Option Addr) (q lo hi : Nat), e = .returned (.agg #[.int .i64 r0, .int .i64 r1, .string r2, .slice D r3.length q]) ∧ w.heap.size ≤ lo ∧ lo ≤ hi ∧ hi ≤ w'.heap.size ∧ TR w0.heap.size w' lo hi D q r3 ∧ Ch w w' 0 0 := by
  refine (impl_Fold.calls k a0 a1 a2 A c l r0 r1 r2 r3 w ha.2 ha.1 h).mono ?_
  rintro e w' ⟨v, rfl, hs, hb⟩
  obtain ⟨D, q, rfl, hT⟩ := TR_in (Kd.S_mono hs (fun _ _ => trivial)) hB.size
  exact ⟨D, q, _, _, rfl, Nat.le_refl _, hb.size, Nat.le_refl _, hT, Ch.of_below hb⟩
end Go.Proofs.Ytcpnhlhigpgonaa.PFnExactFold
