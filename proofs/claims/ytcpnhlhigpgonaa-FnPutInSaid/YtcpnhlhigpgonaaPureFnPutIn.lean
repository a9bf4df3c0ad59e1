/- Proved: what the plain functions of the law FnPutIn tell at all bytes; no further conditions. -/
import Derived.Test.YtcpnhlhigpgonaaPFnPutInx1
import Derived.Test.YtcpnhlhigpgonaaPFnPutInx2
import Derived.Test.YtcpnhlhigpgonaaPFnPutInx3
import Derived.Test.YtcpnhlhigpgonaaPFnPutInx4
import Derived.Test.YtcpnhlhigpgonaaPFnPutInx5
import Derived.Test.YtcpnhlhigpgonaaPFnPutInx6
import Derived.Test.YtcpnhlhigpgonaaPFnPutInx7
import Derived.Test.YtcpnhlhigpgonaaPFnPutInx8
import Derived.Test.YtcpnhlhigpgonaaPFnPutInx9
import Derived.Test.YtcpnhlhigpgonaaPFnPutInx10
import Derived.Test.YtcpnhlhigpgonaaPFnPutInx11
import Derived.Test.YtcpnhlhigpgonaaPFnPutInx12
import Derived.Test.YtcpnhlhigpgonaaPFnPutInx13
import Derived.Test.YtcpnhlhigpgonaaPFnPutInx14
import Derived.Test.YtcpnhlhigpgonaaPFnPutInx15
import Derived.Test.YtcpnhlhigpgonaaPFnPutInx16
import Derived.Test.YtcpnhlhigpgonaaPFnPutInx17
import Derived.Test.YtcpnhlhigpgonaaPFnPutInx18
import Derived.Test.YtcpnhlhigpgonaaVCFnPutIn
namespace Go.Proofs.Ytcpnhlhigpgonaa.Pure
open Go.RowKit Go.Proofs.Ytcpnhlhigpgonaa.PFnPutIn Go.Proofs.YtcpnhlhigpgonaaW.PrintWords Go.Proofs.YtcpnhlhigpgonaaW.PrintLast Go.Proofs.Ytcpnhlhigpgonaa.Common
set_option linter.unusedVariables false
set_option linter.unusedSimpArgs false
theorem Ev.one {α : Type} {g : Nat → Option α} {r q : α} (h : Ev g r) (k : Ev g q) : r = q := by
  obtain ⟨K, h⟩ := h; obtain ⟨L, k⟩ := k
  have a := h (K + L) (by omega); have b := k (K + L) (by omega)
  rw [a] at b; exact Option.some.inj b
inductive Small : S29 → Prop
  | mk (x : S29) (h2 : x.f2.size ≤ 1048576) (h3 : x.f3.length ≤ 1048576) (h : ∀ y ∈ x.f3, Small y) : Small x
theorem rdI_in (l : List S29) (i : Nat) (h : i < l.length) : rd_T29 l (i : Int) ∈ l := by
  have : rd_T29 l (i : Int) = l[i] := by simp [rd_T29, List.getD_eq_getElem?_getD, h]
  rw [this]; exact List.getElem_mem h
theorem rdI_at (l : List S29) (i : Nat) (h : i < l.length) : rd_T29 l (i : Int) = l[i] := by simp [rd_T29, List.getD_eq_getElem?_getD, h]
theorem rd_in (l : List Int) (i : Int) (h0 : 0 ≤ i) (h1 : i < l.length) : rd l i ∈ l := by
  have hlt : i.toNat < l.length := by omega
  have : rd l i = l[i.toNat] := by simp [rd, List.getD_eq_getElem?_getD, hlt]
  rw [this]; exact List.getElem_mem hlt
theorem l1New_ok (l : List Int) (hl : l.length ≤ 1048576) (k : Nat) (hk : l.length < k) : ∃ h, spec_l1New.f k l = some (l, 0, h) := by
  unfold spec_l1New.f
  generalize wrap64 (766766 + (l.length : Int)) = h
  have H : ∀ (r : Nat) k (h : Int) (i : Nat), l.length - i = r → i ≤ l.length → r < k → ∃ h', spec_l1New.l0 k l h i = some (l, 0, h') := by
    intro r
    induction r with
    | zero =>
      intro k h i hr hi hk
      obtain ⟨k, rfl⟩ : ∃ m, k = m + 1 := ⟨k - 1, by omega⟩
      exact ⟨h, by simp only [spec_l1New.l0]; rw [if_neg (by omega)]⟩
    | succ r ih =>
      intro k h i hr hi hk
      obtain ⟨k, rfl⟩ : ∃ m, k = m + 1 := ⟨k - 1, by omega⟩
      simp only [spec_l1New.l0]
      rw [if_pos (by omega)]
      by_cases h4 : (i : Int) < 4000
      · rw [if_pos h4, if_pos (by omega), w64 (x := (i : Int) + 1) (by omega) (by omega)]
        exact ih k _ (i + 1) (by omega) (by omega) (by omega)
      · rw [if_neg h4]; exact ⟨h, rfl⟩
  exact H l.length k h 0 (by omega) (by omega) hk
theorem l1Byte_ok (l : List Int) (hl : l.length ≤ 1048576) (i : Int) (h0 : 0 ≤ i) (h1 : i ≤ l.length) (h : Int) :
    ∃ x i' h', spec_l1Byte.f l i h = some (x, i', h') ∧ 0 ≤ x ∧ x ≤ 255 ∧ 0 ≤ i' ∧ i' ≤ l.length := by
  unfold spec_l1Byte.f
  simp only [and255]
  by_cases hi : i < (l.length : Int)
  · rw [if_pos hi, if_pos h0, w64 (x := i + 1) (by omega) (by omega)]
    exact ⟨_, _, _, rfl, by omega, by omega, by omega, by omega⟩
  · rw [if_neg hi]
    exact ⟨_, _, _, rfl, by omega, by omega, by omega, by omega⟩
theorem l1Below_ok (l : List Int) (hl : l.length ≤ 1048576) (i : Int) (h0 : 0 ≤ i) (h1 : i ≤ l.length) (h : Int) (n : Int) :
    ∃ x i' h', spec_l1Below.f l i h n = some (x, i', h') ∧ 0 ≤ x ∧ (0 < n → x < n) ∧ (n ≤ 0 → x = 0) ∧ 0 ≤ i' ∧ i' ≤ l.length := by
  unfold spec_l1Below.f
  by_cases hn : n ≤ 0
  · rw [if_pos hn]; exact ⟨_, _, _, rfl, by omega, by omega, by omega, by omega, by omega⟩
  rw [if_neg hn]
  by_cases hn2 : n ≤ 256
  · rw [if_pos hn2]
    obtain ⟨x, i', h', e, x0, x1, i0, i1⟩ := l1Byte_ok l hl i h0 h1 h
    rw [e]; simp only [Option.bind_some]; rw [if_neg (by omega), Int.tmod_eq_emod_of_nonneg x0]
    exact ⟨_, _, _, rfl, Int.emod_nonneg _ (by omega), fun _ => Int.emod_lt_of_pos _ (by omega), by omega, i0, i1⟩
  · rw [if_neg hn2]
    obtain ⟨x, i', h', e, x0, x1, i0, i1⟩ := l1Byte_ok l hl i h0 h1 h
    rw [e]; simp only [Option.bind_some]
    obtain ⟨y, j', g', e, y0, y1, j0, j1⟩ := l1Byte_ok l hl i' i0 i1 h'
    rw [e]; simp only [Option.bind_some]
    obtain ⟨z, k', f', e, z0, z1, k0, k1⟩ := l1Byte_ok l hl j' j0 j1 g'
    rw [e]; simp only [Option.bind_some]
    rw [if_neg (by omega), w64 (x := x * 65536) (by omega) (by omega), w64 (x := y * 256) (by omega) (by omega), w64 (x := x * 65536 + y * 256) (by omega) (by omega), w64 (x := x * 65536 + y * 256 + z) (by omega) (by omega), Int.tmod_eq_emod_of_nonneg (by omega)]
    exact ⟨_, _, _, rfl, Int.emod_nonneg _ (by omega), fun _ => Int.emod_lt_of_pos _ (by omega), by omega, k0, k1⟩
theorem l1Int_ok (l : List Int) (hl : l.length ≤ 1048576) (i : Int) (h0 : 0 ≤ i) (h1 : i ≤ l.length) (h : Int) (xs : List Int) (hx : 0 < xs.length) :
    ∃ x i' h', spec_l1Int.f l i h xs = some (x, i', h') ∧ x ∈ xs ∧ 0 ≤ i' ∧ i' ≤ l.length := by
  unfold spec_l1Int.f
  obtain ⟨x, i', h', e, x0, x1, _, i0, i1⟩ := l1Below_ok l hl i h0 h1 h (xs.length : Int)
  rw [e]; simp only [Option.bind_some]
  have := x1 (by omega)
  rw [if_pos x0, if_pos this]
  exact ⟨_, _, _, rfl, rd_in xs x x0 this, i0, i1⟩
theorem l1New_ev (l : List Int) (hl : l.length ≤ 1048576) : ∃ h, Ev (fun k => spec_l1New.f k l) (l, 0, h) := by
  obtain ⟨h, e⟩ := l1New_ok l hl (l.length + 1) (by omega)
  exact ⟨h, Ev.of (spec_l1New.mono l) e⟩
theorem rdB_in (l : List ByteArray) (i : Int) (h0 : 0 ≤ i) (h1 : i < l.length) : rdOf ByteArray.empty l i ∈ l := by
  have h : i.toNat < l.length := by omega
  have e : rdOf ByteArray.empty l i = l[i.toNat] := by simp [rdOf, List.getD_eq_getElem?_getD, h]
  rw [e]; exact List.getElem_mem h
theorem l1Str_in (l : List Int) (hl : l.length ≤ 1048576) (i : Int) (h0 : 0 ≤ i) (h1 : i ≤ l.length) (h : Int) (xs : List ByteArray) (hx : 0 < xs.length) : ∃ s i' h', spec_l1Str.f l i h xs = some (s, i', h') ∧ s ∈ xs ∧ 0 ≤ i' ∧ i' ≤ l.length := by
  unfold spec_l1Str.f
  obtain ⟨x, i', h', e, x0, x1, _, i0, i1⟩ := l1Below_ok l hl i h0 h1 h (xs.length : Int)
  have x1 := x1 (by omega)
  rw [e, Option.bind_some, if_pos x0, if_pos x1]
  exact ⟨_, _, _, rfl, rdB_in xs x x0 x1, i0, i1⟩
theorem l1Once_in (l : List Int) (hl : l.length ≤ 1048576) (i : Int) (h0 : 0 ≤ i) (h1 : i ≤ l.length) (h : Int) (n : Int) : ∃ b i' h', spec_l1Once.f l i h n = some (b, i', h') ∧ 0 ≤ i' ∧ i' ≤ l.length := by
  unfold spec_l1Once.f
  obtain ⟨x, i', h', e, _, _, _, i0, i1⟩ := l1Below_ok l hl i h0 h1 h n
  rw [e, Option.bind_some]
  exact ⟨_, _, _, rfl, i0, i1⟩
theorem l1Word_in (l : List Int) (hl : l.length ≤ 1048576) (i : Int) (h0 : 0 ≤ i) (h1 : i ≤ l.length) (h : Int) : ∃ x i' h', spec_l1Word.f l i h = some (x, i', h') ∧ 0 ≤ x ∧ x ≤ 65535 ∧ 0 ≤ i' ∧ i' ≤ l.length := by
  unfold spec_l1Word.f
  obtain ⟨x, i', h', e, x0, x1, _, i0, i1⟩ := l1Below_ok l hl i h0 h1 h 65536
  have x1 := x1 (by omega)
  rw [e, Option.bind_some]
  obtain ⟨y, j', g', e2, hy, j0, j1⟩ := l1Int_ok l hl i' i0 i1 h' [0, 1, 2, 3, 5, 8, 255, 32767, 32768, 65535, x] (by simp)
  rw [e2, Option.bind_some]
  have hy2 : 0 ≤ y ∧ y ≤ 65535 := by simp at hy; omega
  exact ⟨_, _, _, rfl, hy2.1, hy2.2, j0, j1⟩
def DrawnE (l : List Int) (f : Nat → Option (Int × Int × ByteArray × (List (S29)) × Int × Int)) : Prop := ∃ (e : S29) (i h : Int), Ev f (e.f0, e.f1, e.f2, e.f3, i, h) ∧ Small e ∧ 0 ≤ i ∧ i ≤ l.length
theorem small_eta {e : S29} (h : Small e) : Small (⟨e.f0, e.f1, e.f2, e.f3⟩ : S29) := by cases e; exact h
theorem DrawnE.congr {l : List Int} {f g : Nat → Option (Int × Int × ByteArray × (List (S29)) × Int × Int)} (h : DrawnE l f) (e : ∀ k, g k = f k) : DrawnE l g := by
  obtain ⟨x, i, h', a, b⟩ := h
  exact ⟨x, i, h', Ev.congr e a, b⟩
theorem DrawnE.step {l : List Int} {f g : Nat → Option (Int × Int × ByteArray × (List (S29)) × Int × Int)} (h : DrawnE l f) (e : ∀ k, g (k + 1) = f k) : DrawnE l g := by
  obtain ⟨x, i, h', a, b⟩ := h
  exact ⟨x, i, h', Ev.step e a, b⟩
theorem DrawnE.leaf {l : List Int} {f : Nat → Option (Int × Int × ByteArray × (List (S29)) × Int × Int)} (K N : Int) (s : ByteArray) (i h : Int) (e : ∀ k, f k = some (K, N, s, [], i, h)) (hs : s.size ≤ 1048576) (i0 : 0 ≤ i) (i1 : i ≤ l.length) : DrawnE l f :=
  ⟨⟨K, N, s, []⟩, i, h, Ev.congr (f := fun _ => some (K, N, s, [], i, h)) e (Ev.now _), Small.mk _ hs (Nat.zero_le _) (fun y hy => by cases hy), i0, i1⟩
theorem l10Num_ok (n : Int) : ∃ m, spec_l10Num.f n = some (1, m, (⟨#[]⟩ : ByteArray), ([] : List S29)) := by
  simp only [spec_l10Num.f, spec_Wrap.f, Option.bind_some]
  exact ⟨_, rfl⟩
theorem abc_small : ∀ s ∈ [(⟨#[97]⟩ : ByteArray), (⟨#[98]⟩ : ByteArray), (⟨#[99]⟩ : ByteArray)], s.size ≤ 1048576 := by decide +kernel
theorem gh_small : ∀ s ∈ [(⟨#[103]⟩ : ByteArray), (⟨#[104]⟩ : ByteArray)], s.size ≤ 1048576 := by decide +kernel
theorem any_small : ∀ s ∈ [(⟨#[]⟩ : ByteArray), (⟨#[97]⟩ : ByteArray), (⟨#[109, 111, 118]⟩ : ByteArray), (⟨#[65]⟩ : ByteArray)], s.size ≤ 1048576 := by decide +kernel
theorem leaf_j1 (l : List Int) (hl : l.length ≤ 1048576) (i : Int) (h0 : 0 ≤ i) (h1 : i ≤ l.length) (h : Int) (p b : Bool) (x : Int) : DrawnE l (fun k => spec_l10Leaf.j1 k p x b l i h) := by
  cases b with
  | true =>
    obtain ⟨s, i2, h2, e, hs, j0, j1⟩ := l1Str_in l hl i h0 h1 h [(⟨#[97]⟩ : ByteArray), (⟨#[98]⟩ : ByteArray), (⟨#[99]⟩ : ByteArray)] (by decide)
    refine DrawnE.step (DrawnE.leaf (f := fun _ => some (2, 0, s, [], i2, h2)) 2 0 s i2 h2 (fun k => rfl) (abc_small s hs) j0 j1) (fun k => ?_)
    rw [spec_l10Leaf.j1.eq_def]; simp only []; rw [if_pos trivial, e, Option.bind_some]
  | false =>
    by_cases c4 : x = 4
    · refine DrawnE.step (DrawnE.leaf (f := fun _ => some (3, 0, (⟨#[]⟩ : ByteArray), [], i, h)) 3 0 _ i h (fun k => rfl) (by decide) h0 h1) (fun k => ?_)
      rw [spec_l10Leaf.j1.eq_def]; simp only []; rw [if_neg (by decide), if_pos c4]
    · cases p with
      | true =>
        obtain ⟨w, i2, h2, e, _, _, j0, j1⟩ := l1Word_in l hl i h0 h1 h
        obtain ⟨m, em⟩ := l10Num_ok w
        refine DrawnE.step (DrawnE.leaf (f := fun _ => some (1, m, (⟨#[]⟩ : ByteArray), [], i2, h2)) 1 m _ i2 h2 (fun k => rfl) (by decide) j0 j1) (fun k => ?_)
        rw [spec_l10Leaf.j1.eq_def]; simp only []; rw [if_neg (by decide), if_neg c4, if_pos trivial, e, Option.bind_some, em, Option.bind_some]
      | false =>
        obtain ⟨b, i2, h2, e, j0, j1⟩ := l1Once_in l hl i h0 h1 h 2
        cases b with
        | true =>
          obtain ⟨y, i3, h3, e3, _, _, _, q0, q1⟩ := l1Below_ok l hl i2 j0 j1 h2 3
          refine DrawnE.step (DrawnE.leaf (f := fun _ => some (11, y, (⟨#[]⟩ : ByteArray), [], i3, h3)) 11 y _ i3 h3 (fun k => rfl) (by decide) q0 q1) (fun k => ?_)
          rw [spec_l10Leaf.j1.eq_def]; simp only []; rw [if_neg (by decide), if_neg c4, if_neg (by decide), e, Option.bind_some]; simp only [e3, if_true, Option.bind_some]
        | false =>
          obtain ⟨s, i3, h3, e3, hs, q0, q1⟩ := l1Str_in l hl i2 j0 j1 h2 [(⟨#[103]⟩ : ByteArray), (⟨#[104]⟩ : ByteArray)] (by decide)
          refine DrawnE.step (DrawnE.leaf (f := fun _ => some (12, 0, s, [], i3, h3)) 12 0 s i3 h3 (fun k => rfl) (gh_small s hs) q0 q1) (fun k => ?_)
          rw [spec_l10Leaf.j1.eq_def]; simp only []; rw [if_neg (by decide), if_neg c4, if_neg (by decide), e, Option.bind_some]; simp only [e3, Option.bind_some]; rw [if_neg (by decide)]
theorem leaf_j0 (l : List Int) (hl : l.length ≤ 1048576) (i : Int) (h0 : 0 ≤ i) (h1 : i ≤ l.length) (h : Int) (p b : Bool) (x : Int) : DrawnE l (fun k => spec_l10Leaf.j0 k p x b l i h) := by
  cases b with
  | true =>
    obtain ⟨w, i2, h2, e, _, j0, j1⟩ := l1Int_ok l hl i h0 h1 h [0, 1, 2, 5, 8, 100, 65535] (by decide)
    obtain ⟨m, em⟩ := l10Num_ok w
    refine DrawnE.step (DrawnE.leaf (f := fun _ => some (1, m, (⟨#[]⟩ : ByteArray), [], i2, h2)) 1 m _ i2 h2 (fun k => rfl) (by decide) j0 j1) (fun k => ?_)
    rw [spec_l10Leaf.j0.eq_def]; simp only []; rw [if_pos trivial, e, Option.bind_some, em, Option.bind_some]
  | false =>
    by_cases c2 : x = 2
    · exact DrawnE.step (leaf_j1 l hl i h0 h1 h p (x == 2) x) (fun k => by rw [spec_l10Leaf.j0.eq_def]; simp only []; rw [if_neg (by decide), if_pos c2])
    · exact DrawnE.step (leaf_j1 l hl i h0 h1 h p (x == 3) x) (fun k => by rw [spec_l10Leaf.j0.eq_def]; simp only []; rw [if_neg (by decide), if_neg c2])
theorem leaf_in (l : List Int) (hl : l.length ≤ 1048576) (i : Int) (h0 : 0 ≤ i) (h1 : i ≤ l.length) (h : Int) (p : Bool) : DrawnE l (fun k => spec_l10Leaf.f k l i h p) := by
  obtain ⟨x, i2, h2, e, _, _, _, j0, j1⟩ := l1Below_ok l hl i h0 h1 h 7
  by_cases c : x = 0
  · exact DrawnE.congr (leaf_j0 l hl i2 j0 j1 h2 p (x == 0) x) (fun k => by simp only [spec_l10Leaf.f]; rw [e, Option.bind_some, if_pos c])
  · exact DrawnE.congr (leaf_j0 l hl i2 j0 j1 h2 p (x == 1) x) (fun k => by simp only [spec_l10Leaf.f]; rw [e, Option.bind_some, if_neg c])
theorem draw_in (l : List Int) (hl : l.length ≤ 1048576) (p : Bool) : ∀ (d : Nat), d ≤ 100 → ∀ (i h : Int), 0 ≤ i → i ≤ l.length → DrawnE l (fun k => spec_l10Draw.f k l i h (d : Int) p) := by
  have yes : ∀ (d : Int) (i h : Int), 0 ≤ i → i ≤ l.length → DrawnE l (fun k => spec_l10Draw.j0 k d p true l i h) := by
    intro d i h h0 h1
    obtain ⟨e, i2, h2, a, b⟩ := leaf_in l hl i h0 h1 h p
    refine ⟨e, i2, h2, Ev.step (f := fun k => (spec_l10Leaf.f k l i h p).bind fun bt257 => (some (bt257.1, bt257.2.1, bt257.2.2.1, bt257.2.2.2.1, bt257.2.2.2.2.1, bt257.2.2.2.2.2))) (fun k => ?_) (Ev.bind a (Ev.now _)), b⟩
    rw [spec_l10Draw.j0.eq_def]; simp only []; rw [if_pos trivial]
  intro d
  induction d with
  | zero =>
    intro _ i h h0 h1
    exact DrawnE.step (yes 0 i h h0 h1) (fun k => by rw [spec_l10Draw.f.eq_def]; simp only []; rw [if_pos (by rfl)]; rfl)
  | succ d ih =>
    intro hd i h h0 h1
    obtain ⟨b, i2, h2, e, j0, j1⟩ := l1Once_in l hl i h0 h1 h 3
    have hne : ¬ ((d + 1 : Nat) : Int) = 0 := by omega
    have wd : wrap64 (((d + 1 : Nat) : Int) - 1) = (d : Int) := by rw [w64 (by omega) (by omega)]; omega
    refine DrawnE.step (f := fun k => spec_l10Draw.j0 k ((d + 1 : Nat) : Int) p b l i2 h2) ?_ (fun k => by rw [spec_l10Draw.f.eq_def]; simp only []; rw [if_neg hne, e, Option.bind_some])
    cases b with
    | true => exact yes _ i2 h2 j0 j1
    | false =>
      obtain ⟨K, i3, h3, e3, _, q0, q1⟩ := l1Int_ok l hl i2 j0 j1 h2 [5, 5, 5, 6, 6, 4, 7, 8, 9, 10] (by decide)
      obtain ⟨a, i4, h4, ea, sa, r0, r1⟩ := ih (by omega) i3 h3 q0 q1
      by_cases c4 : K = 4
      · refine ⟨⟨K, 0, (⟨#[]⟩ : ByteArray), [(⟨a.f0, a.f1, a.f2, a.f3⟩ : S29)]⟩, i4, h4, Ev.step (f := fun k => (spec_l10Draw.f k l i3 h3 (d : Int) p).bind fun bt271 => (some (K, 0, (⟨#[]⟩ : ByteArray), (([(⟨bt271.1, bt271.2.1, bt271.2.2.1, bt271.2.2.2.1⟩ : S29)] : List (S29))), bt271.2.2.2.2.1, bt271.2.2.2.2.2))) (fun k => ?_) (Ev.bind ea (Ev.now _)), Small.mk _ (by show (0 : Nat) ≤ _; omega) (by show (1 : Nat) ≤ _; omega) (fun y hy => ?_), r0, r1⟩
        · rw [spec_l10Draw.j0.eq_def]; simp only []; rw [if_neg (by decide), e3, Option.bind_some]; simp only [wd, if_pos c4]
        · rw [List.mem_singleton.1 hy]; exact small_eta sa
      · obtain ⟨b, i5, h5, eb, sb, s0, s1⟩ := ih (by omega) i4 h4 r0 r1
        refine ⟨⟨K, 0, (⟨#[]⟩ : ByteArray), [(⟨a.f0, a.f1, a.f2, a.f3⟩ : S29), (⟨b.f0, b.f1, b.f2, b.f3⟩ : S29)]⟩, i5, h5, Ev.step (f := fun k => (spec_l10Draw.f k l i3 h3 (d : Int) p).bind fun bt271 => ((spec_l10Draw.f k l bt271.2.2.2.2.1 bt271.2.2.2.2.2 (d : Int) p).bind fun bt283 => (some (K, 0, (⟨#[]⟩ : ByteArray), (([(⟨bt271.1, bt271.2.1, bt271.2.2.1, bt271.2.2.2.1⟩ : S29), (⟨bt283.1, bt283.2.1, bt283.2.2.1, bt283.2.2.2.1⟩ : S29)] : List (S29))), bt283.2.2.2.2.1, bt283.2.2.2.2.2)))) (fun k => ?_) (Ev.bind ea (Ev.bind eb (Ev.now _))), Small.mk _ (by show (0 : Nat) ≤ _; omega) (by show (2 : Nat) ≤ _; omega) (fun y hy => ?_), s0, s1⟩
        · rw [spec_l10Draw.j0.eq_def]; simp only []; rw [if_neg (by decide), e3, Option.bind_some]; simp only [wd, if_neg c4]
        · rcases List.mem_cons.1 hy with q | q
          · rw [q]; exact small_eta sa
          · rw [List.mem_singleton.1 q]; exact small_eta sb
theorem neg_in (l : List Int) : ∀ (d : Nat), d ≤ 100 → ∀ (e : S29) (i h : Int), Small e → 0 ≤ i → i ≤ l.length → DrawnE l (fun k => spec_l10Any.l0 k (d : Int) l i h e.f0 e.f1 e.f2 e.f3) := by
  intro d
  induction d with
  | zero =>
    intro _ e i h se h0 h1
    refine ⟨e, i, h, Ev.step (f := fun _ => some (e.f0, e.f1, e.f2, e.f3, i, h)) (fun k => ?_) (Ev.now _), se, h0, h1⟩
    rw [spec_l10Any.l0.eq_def]; simp only []; rw [if_neg (by omega)]
  | succ d ih =>
    intro hd e i h se h0 h1
    have wd : wrap64 (((d + 1 : Nat) : Int) - 1) = (d : Int) := by rw [w64 (by omega) (by omega)]; omega
    refine DrawnE.step (ih (by omega) ⟨4, 0, (⟨#[]⟩ : ByteArray), [(⟨e.f0, e.f1, e.f2, e.f3⟩ : S29)]⟩ i h (Small.mk _ (by show (0 : Nat) ≤ _; omega) (by show (1 : Nat) ≤ _; omega) (fun y hy => by rw [List.mem_singleton.1 hy]; exact small_eta se)) h0 h1) (fun k => ?_)
    rw [spec_l10Any.l0.eq_def]; simp only [wd]; rw [if_pos (by omega)]
theorem any_in (l : List Int) (hl : l.length ≤ 1048576) (i : Int) (h0 : 0 ≤ i) (h1 : i ≤ l.length) (h : Int) : DrawnE l (fun k => spec_l10Any.f k l i h) := by
  obtain ⟨p, i1, h1', e1, a0, a1⟩ := l1Once_in l hl i h0 h1 h 2
  obtain ⟨e, i2, h2, e2, se, b0, b1⟩ := draw_in l hl p 3 (by omega) i1 h1' a0 a1
  obtain ⟨x, i3, h3, e3, x0, x1, _, c0, c1⟩ := l1Below_ok l hl i2 b0 b1 h2 14
  have e2' : Ev (fun k => spec_l10Draw.f k l i1 h1' 3 p) (e.f0, e.f1, e.f2, e.f3, i2, h2) := e2
  have st : ∀ f : Nat → Option (Int × Int × ByteArray × (List (S29)) × Int × Int), DrawnE l f → (∀ k, (if x = 0 then ((spec_l1Below.f l i3 h3 14).bind fun bt311 => (some (bt311.1, e.f1, e.f2, e.f3, bt311.2.1, bt311.2.2))) else (if x = 1 then ((spec_l1Int.f l i3 h3 (([(-1), 1, 65536] : List Int))).bind fun bt317 => (some (e.f0, bt317.1, e.f2, e.f3, bt317.2.1, bt317.2.2))) else (if x = 2 then ((spec_l1Str.f l i3 h3 (([(⟨#[]⟩ : ByteArray), (⟨#[97]⟩ : ByteArray), (⟨#[109, 111, 118]⟩ : ByteArray), (⟨#[65]⟩ : ByteArray)] : List ByteArray))).bind fun bt323 => (some (e.f0, e.f1, bt323.1, e.f3, bt323.2.1, bt323.2.2))) else (if x = 3 then ((spec_l1Below.f l i3 h3 7).bind fun bt326 => (spec_l10Any.l0 k bt326.1 l bt326.2.1 bt326.2.2 e.f0 e.f1 e.f2 e.f3)) else (some (e.f0, e.f1, e.f2, e.f3, i3, h3)))))) = f k) → DrawnE l (fun k => spec_l10Any.f k l i h) := by
    intro f ⟨z, j, g, a, b⟩ hf
    refine ⟨z, j, g, ?_, b⟩
    refine Ev.congr (f := fun k => (spec_l10Draw.f k l i1 h1' 3 p).bind fun bt299 => ((spec_l1Below.f l bt299.2.2.2.2.1 bt299.2.2.2.2.2 14).bind fun bt308 => (if bt308.1 = 0 then ((spec_l1Below.f l bt308.2.1 bt308.2.2 14).bind fun bt311 => (some (bt311.1, bt299.2.1, bt299.2.2.1, bt299.2.2.2.1, bt311.2.1, bt311.2.2))) else (if bt308.1 = 1 then ((spec_l1Int.f l bt308.2.1 bt308.2.2 (([(-1), 1, 65536] : List Int))).bind fun bt317 => (some (bt299.1, bt317.1, bt299.2.2.1, bt299.2.2.2.1, bt317.2.1, bt317.2.2))) else (if bt308.1 = 2 then ((spec_l1Str.f l bt308.2.1 bt308.2.2 (([(⟨#[]⟩ : ByteArray), (⟨#[97]⟩ : ByteArray), (⟨#[109, 111, 118]⟩ : ByteArray), (⟨#[65]⟩ : ByteArray)] : List ByteArray))).bind fun bt323 => (some (bt299.1, bt299.2.1, bt323.1, bt299.2.2.2.1, bt323.2.1, bt323.2.2))) else (if bt308.1 = 3 then ((spec_l1Below.f l bt308.2.1 bt308.2.2 7).bind fun bt326 => (spec_l10Any.l0 k bt326.1 l bt326.2.1 bt326.2.2 bt299.1 bt299.2.1 bt299.2.2.1 bt299.2.2.2.1)) else (some (bt299.1, bt299.2.1, bt299.2.2.1, bt299.2.2.2.1, bt308.2.1, bt308.2.2)))))))) (fun k => ?_) (Ev.bind e2' ?_)
    · simp only [spec_l10Any.f]; rw [e1, Option.bind_some]
    · refine Ev.congr (fun k => ?_) a
      rw [e3, Option.bind_some]; exact hf k
  have hse := se
  cases hse with
  | mk _ s2 s3 sp =>
  by_cases k0 : x = 0
  · obtain ⟨y, i4, h4, e4, _, _, _, d0, d1⟩ := l1Below_ok l hl i3 c0 c1 h3 14
    exact st (fun _ => some (y, e.f1, e.f2, e.f3, i4, h4)) ⟨⟨y, e.f1, e.f2, e.f3⟩, i4, h4, Ev.now _, Small.mk _ s2 s3 sp, d0, d1⟩ (fun k => by rw [if_pos k0, e4, Option.bind_some])
  by_cases k1 : x = 1
  · obtain ⟨y, i4, h4, e4, _, d0, d1⟩ := l1Int_ok l hl i3 c0 c1 h3 [(-1), 1, 65536] (by decide)
    exact st (fun _ => some (e.f0, y, e.f2, e.f3, i4, h4)) ⟨⟨e.f0, y, e.f2, e.f3⟩, i4, h4, Ev.now _, Small.mk _ s2 s3 sp, d0, d1⟩ (fun k => by rw [if_neg k0, if_pos k1, e4, Option.bind_some])
  by_cases k2 : x = 2
  · obtain ⟨y, i4, h4, e4, hy, d0, d1⟩ := l1Str_in l hl i3 c0 c1 h3 [(⟨#[]⟩ : ByteArray), (⟨#[97]⟩ : ByteArray), (⟨#[109, 111, 118]⟩ : ByteArray), (⟨#[65]⟩ : ByteArray)] (by decide)
    exact st (fun _ => some (e.f0, e.f1, y, e.f3, i4, h4)) ⟨⟨e.f0, e.f1, y, e.f3⟩, i4, h4, Ev.now _, Small.mk _ (any_small y hy) s3 sp, d0, d1⟩ (fun k => by rw [if_neg k0, if_neg k1, if_pos k2, e4, Option.bind_some])
  by_cases k3 : x = 3
  · obtain ⟨y, i4, h4, e4, y0, y1, _, d0, d1⟩ := l1Below_ok l hl i3 c0 c1 h3 7
    have y1 := y1 (by omega)
    obtain ⟨n, rfl⟩ := Int.eq_ofNat_of_zero_le y0
    exact st (fun k => spec_l10Any.l0 k (n : Int) l i4 h4 e.f0 e.f1 e.f2 e.f3) (neg_in l n (by omega) e i4 h4 se d0 d1) (fun k => by rw [if_neg k0, if_neg k1, if_neg k2, if_pos k3, e4, Option.bind_some])
  · exact st (fun _ => some (e.f0, e.f1, e.f2, e.f3, i3, h3)) ⟨e, i3, h3, Ev.now _, se, c0, c1⟩ (fun k => by rw [if_neg k0, if_neg k1, if_neg k2, if_neg k3])
theorem same_l0 (x : S29) (hx : x.f3.length ≤ 1048576) (h : ∀ z ∈ x.f3, Ev (fun k => impl_SameExpr.f k z.f0 z.f1 z.f2 z.f3 z.f0 z.f1 z.f2 z.f3) true) : ∀ (d i : Nat), x.f3.length - i = d → i ≤ x.f3.length →
    Ev (fun k => impl_SameExpr.l0 k x.f3 (x.f3.length : Int) (i : Int) x.f0 x.f1 x.f2 x.f3) true := by
  intro d
  induction d with
  | zero =>
    intro i hd hi
    refine Ev.step (f := fun _ => some true) (fun k => ?_) (Ev.now _)
    simp only [impl_SameExpr.l0]; rw [if_neg (by omega)]
  | succ d ih =>
    intro i hd hi
    have h1 : i < x.f3.length := by omega
    have w1 : wrap64 ((i : Int) + 1) = ((i + 1 : Nat) : Int) := by rw [w64 (by omega) (by omega)]; rfl
    refine Ev.step (f := fun k => (impl_SameExpr.f k (rd_T29 x.f3 (i : Int)).f0 (rd_T29 x.f3 (i : Int)).f1 (rd_T29 x.f3 (i : Int)).f2 (rd_T29 x.f3 (i : Int)).f3 (rd_T29 x.f3 (i : Int)).f0 (rd_T29 x.f3 (i : Int)).f1 (rd_T29 x.f3 (i : Int)).f2 (rd_T29 x.f3 (i : Int)).f3).bind fun t => if t = true then impl_SameExpr.l0 k x.f3 (x.f3.length : Int) ((i + 1 : Nat) : Int) x.f0 x.f1 x.f2 x.f3 else some false) (fun k => ?_) (Ev.bind (h _ (rdI_in x.f3 i h1)) ?_)
    · simp only [impl_SameExpr.l0, w1]; rw [if_pos (by omega), if_pos (by omega), if_pos (by omega), if_pos (by omega)]
    · exact Ev.congr (fun k => by rw [if_pos rfl]) (ih (i + 1) (by omega) (by omega))
theorem same_self (x : S29) (g : Small x) : Ev (fun k => impl_SameExpr.f k x.f0 x.f1 x.f2 x.f3 x.f0 x.f1 x.f2 x.f3) true := by
  induction g with
  | mk x h2 h3 h ih =>
    have hb : ((x.f3.length : Int) != (x.f3.length : Int)) = false := bne_self_eq_false _
    refine Ev.step (f := fun k => impl_SameExpr.j0 k false x.f0 x.f1 x.f2 x.f3 x.f0 x.f1 x.f2 x.f3) (fun k => ?_) (Ev.step (f := fun k => impl_SameExpr.l0 k x.f3 (x.f3.length : Int) ((0 : Nat) : Int) x.f0 x.f1 x.f2 x.f3) (fun k => ?_) (same_l0 x h3 ih x.f3.length 0 (by omega) (by omega)))
    · simp only [impl_SameExpr.f]; rw [if_pos trivial, if_pos trivial, if_pos trivial, hb]
    · simp only [impl_SameExpr.j0]; rw [if_neg (by decide)]; rfl
theorem etaI (y : S29) : (⟨y.f0, y.f1, y.f2, y.f3⟩ : S29) = y := by cases y; rfl
theorem specCopy_l0 (l : List S29) (hl : l.length ≤ 1048576) (h : ∀ x ∈ l, Ev (fun k => spec_l11Copy.f k x.f0 x.f1 x.f2 x.f3) (x.f0, x.f1, x.f2, x.f3)) (A B a b : Int) (s t : ByteArray) : ∀ (d i : Nat), l.length - i = d → i ≤ l.length →
    Ev (fun k => spec_l11Copy.l0 k (i : Int) A B s l a b t (l.take i)) (a, b, t, l) := by
  intro d
  induction d with
  | zero =>
    intro i hd hi
    refine Ev.step (f := fun _ => some (a, b, t, l)) (fun k => ?_) (Ev.now _)
    simp only [spec_l11Copy.l0]; rw [if_neg (by omega), List.take_of_length_le (by omega)]
  | succ d ih =>
    intro i hd hi
    have hlt : i < l.length := by omega
    have tk : l.take (i + 1) = l.take i ++ [l[i]] := by rw [List.take_add_one, List.getElem?_eq_getElem hlt]; rfl
    refine Ev.step (f := fun k => (spec_l11Copy.f k (rd_T29 l (i : Int)).f0 (rd_T29 l (i : Int)).f1 (rd_T29 l (i : Int)).f2 (rd_T29 l (i : Int)).f3).bind fun bt => if (l.take i).length < 2513169434916 then spec_l11Copy.l0 k ((i + 1 : Nat) : Int) A B s l a b t (l.take i ++ [(⟨bt.1, bt.2.1, bt.2.2.1, bt.2.2.2⟩ : S29)]) else none) (fun k => ?_) (Ev.bind (h _ (rdI_in l i hlt)) ?_)
    · simp only [spec_l11Copy.l0]; rw [if_pos (by omega), if_pos (by omega), w64 (x := (i : Int) + 1) (by omega) (by omega)]; rfl
    · refine Ev.congr (f := fun k => spec_l11Copy.l0 k ((i + 1 : Nat) : Int) A B s l a b t (l.take (i + 1))) (fun k => ?_) (ih (i + 1) (by omega) (by omega))
      rw [if_pos (by rw [List.length_take]; omega), tk, rdI_at l i hlt, etaI]
theorem specCopy_ok (x : S29) (g : Small x) : Ev (fun k => spec_l11Copy.f k x.f0 x.f1 x.f2 x.f3) (x.f0, x.f1, x.f2, x.f3) := by
  induction g with
  | mk x h2 h3 h ih =>
    refine Ev.step (f := fun k => spec_l11Copy.l0 k ((0 : Nat) : Int) x.f0 x.f1 x.f2 x.f3 x.f0 x.f1 x.f2 (x.f3.take 0)) (fun k => by simp only [spec_l11Copy.f]; rfl) ?_
    exact specCopy_l0 x.f3 h3 ih x.f0 x.f1 x.f0 x.f1 x.f2 x.f2 _ 0 rfl (by omega)
theorem implCopy_l0 (l : List S29) (hl : l.length ≤ 1048576) (h : ∀ x ∈ l, Ev (fun k => impl_copyExpr.f k x.f0 x.f1 x.f2 x.f3) (x.f0, x.f1, x.f2, x.f3)) (a b : Int) (t : ByteArray) : ∀ (d i : Nat), l.length - i = d → i ≤ l.length →
    Ev (fun k => impl_copyExpr.l0 k l (l.length : Int) (i : Int) a b t (l.take i)) (a, b, t, l) := by
  intro d
  induction d with
  | zero =>
    intro i hd hi
    refine Ev.step (f := fun _ => some (a, b, t, l)) (fun k => ?_) (Ev.now _)
    simp only [impl_copyExpr.l0]; rw [if_neg (by omega), List.take_of_length_le (by omega)]
  | succ d ih =>
    intro i hd hi
    have hlt : i < l.length := by omega
    have tk : l.take (i + 1) = l.take i ++ [l[i]] := by rw [List.take_add_one, List.getElem?_eq_getElem hlt]; rfl
    refine Ev.step (f := fun k => (impl_copyExpr.f k (rd_T29 l (i : Int)).f0 (rd_T29 l (i : Int)).f1 (rd_T29 l (i : Int)).f2 (rd_T29 l (i : Int)).f3).bind fun bt => if (l.take i).length < 2513169434916 then impl_copyExpr.l0 k l (l.length : Int) ((i + 1 : Nat) : Int) a b t (l.take i ++ [(⟨bt.1, bt.2.1, bt.2.2.1, bt.2.2.2⟩ : S29)]) else none) (fun k => ?_) (Ev.bind (h _ (rdI_in l i hlt)) ?_)
    · simp only [impl_copyExpr.l0]; rw [if_pos (by omega), if_pos (by omega), if_pos (by omega), w64 (x := (i : Int) + 1) (by omega) (by omega)]; rfl
    · refine Ev.congr (f := fun k => impl_copyExpr.l0 k l (l.length : Int) ((i + 1 : Nat) : Int) a b t (l.take (i + 1))) (fun k => ?_) (ih (i + 1) (by omega) (by omega))
      rw [if_pos (by rw [List.length_take]; omega), tk, rdI_at l i hlt, etaI]
theorem implCopy_ok (x : S29) (g : Small x) : Ev (fun k => impl_copyExpr.f k x.f0 x.f1 x.f2 x.f3) (x.f0, x.f1, x.f2, x.f3) := by
  induction g with
  | mk x h2 h3 h ih =>
    refine Ev.step (f := fun k => impl_copyExpr.l0 k x.f3 (x.f3.length : Int) ((0 : Nat) : Int) x.f0 x.f1 x.f2 (x.f3.take 0)) (fun k => by simp only [impl_copyExpr.f]; rfl) ?_
    exact implCopy_l0 x.f3 h3 ih x.f0 x.f1 x.f2 _ 0 rfl (by omega)
theorem bal (s : ByteArray) : s.toList = s.data.toList := ByteArray.toList_eq s
theorem bt_b (s : ByteArray) (i : Int) : wrap64 (bt s i) = bt s i := by have := bt_range s i; exact w64 (by omega) (by omega)
theorem l1In_ok (a b c : Int) : spec_l1In.f a b c = some (decide (b ≤ a ∧ a ≤ c)) := by
  unfold spec_l1In.f
  by_cases h : a ≥ b
  · have h' : b ≤ a := h
    rw [if_pos h]; simp [h']
  · have h' : ¬ b ≤ a := h
    rw [if_neg h]; simp [h']
theorem within_ok (a b c : Int) : impl_within.f a b c = some (decide (b ≤ a ∧ a ≤ c)) := by
  unfold impl_within.f
  by_cases h : a ≥ b
  · have h' : b ≤ a := h
    rw [if_pos h]; simp [h']
  · have h' : ¬ b ≤ a := h
    rw [if_neg h]; simp [h']
theorem bal_length (s : ByteArray) : s.toList.length = s.size := by rw [bal, Array.length_toList]; rfl
theorem search_loop (n : Nat) (hn : n ≤ 4611686018427387904) (p : Nat → Prop) [DecidablePred p] (L : Nat → Int → Option Int)
    (hs : ∀ k (i : Nat), i < n → L (k + 1) (i : Int) = if p i then some (i : Int) else L k (wrap64 ((i : Int) + 1))) (he : ∀ k (i : Nat), ¬ i < n → L (k + 1) (i : Int) = some (-1)) :
    ∃ r : Int, Ev (fun k => L k 0) r ∧ -1 ≤ r ∧ r < n ∧ (0 ≤ r → p r.toNat) ∧ (∀ j : Nat, j < n → p j → 0 ≤ r ∧ r ≤ j) := by
  have H : ∀ (d i : Nat), n - i = d → i ≤ n → ∃ r : Int, Ev (fun k => L k (i : Int)) r ∧ -1 ≤ r ∧ r < n ∧ (0 ≤ r → p r.toNat) ∧ (∀ j : Nat, i ≤ j → j < n → p j → 0 ≤ r ∧ r ≤ j) := by
    intro d
    induction d with
    | zero =>
      intro i hd hi
      exact ⟨-1, Ev.step (f := fun _ => some (-1)) (fun k => he k i (by omega)) (Ev.now _), by omega, by omega, fun h => by omega, fun j h1 h2 => by omega⟩
    | succ d ih =>
      intro i hd hi
      by_cases hp : p i
      · exact ⟨i, Ev.step (f := fun _ => some (i : Int)) (fun k => by rw [hs k i (by omega), if_pos hp]) (Ev.now _), by omega, by omega, fun _ => by simpa using hp, fun j h1 h2 _ => by omega⟩
      · obtain ⟨r, hr, r0, r1, r2, r3⟩ := ih (i + 1) (by omega) (by omega)
        refine ⟨r, Ev.step (f := fun k => L k ((i + 1 : Nat) : Int)) (fun k => ?_) hr, r0, r1, r2, fun j h1 h2 h3 => ?_⟩
        · rw [hs k i (by omega), if_neg hp, w64 (by omega) (by omega)]; rfl
        · rcases Nat.eq_or_lt_of_le h1 with e | e
          · subst e; exact absurd h3 hp
          · exact r3 j e h2 h3
  obtain ⟨r, hr, r0, r1, r2, r3⟩ := H n 0 (by omega) (by omega)
  exact ⟨r, by simpa using hr, r0, r1, r2, fun j h1 h2 => r3 j (Nat.zero_le _) h1 h2⟩
theorem rdB (l : List ByteArray) (i : Nat) (h : i < l.length) : rdOf ByteArray.empty l (i : Int) = l[i] := by simp [rdOf, List.getD_eq_getElem?_getD, h]
def amongB (l : List ByteArray) (s : ByteArray) : Bool := l.any fun x => x.toList == s.toList
theorem l9At_ok (l : List ByteArray) (hl : l.length ≤ 1048576) (s : ByteArray) : ∃ r : Int, Ev (fun k => spec_l9At.f k l s) r ∧ -1 ≤ r ∧ r < l.length ∧ (0 ≤ r → ∀ h : r.toNat < l.length, l[r.toNat].toList = s.toList) ∧ (∀ j : Nat, ∀ h : j < l.length, l[j].toList = s.toList → 0 ≤ r ∧ r ≤ j) := by
  obtain ⟨r, hr, r0, r1, r2, r3⟩ := search_loop l.length (by omega) (fun i => ∃ h : i < l.length, l[i].toList = s.toList) (fun k i => spec_l9At.l0 k l s i) (fun k i hi => by
    simp only [spec_l9At.l0]; rw [if_pos (by omega), if_pos (by omega), rdB l i hi]
    by_cases e : l[i].toList = s.toList
    · rw [if_pos e, if_pos ⟨hi, e⟩]
    · rw [if_neg e, if_neg (fun h => e h.2)]) (fun k i hi => by simp only [spec_l9At.l0]; rw [if_neg (by omega)])
  exact ⟨r, hr, r0, r1, fun h _ => (r2 h).2, fun j hj e => r3 j hj ⟨hj, e⟩⟩
theorem placeIn_ok (l : List ByteArray) (hl : l.length ≤ 1048576) (s : ByteArray) : ∃ r : Int, Ev (fun k => impl_placeIn.f k l s) r ∧ -1 ≤ r ∧ r < l.length ∧ (0 ≤ r → ∀ h : r.toNat < l.length, l[r.toNat].toList = s.toList) ∧ (∀ j : Nat, ∀ h : j < l.length, l[j].toList = s.toList → 0 ≤ r ∧ r ≤ j) := by
  obtain ⟨r, hr, r0, r1, r2, r3⟩ := search_loop l.length (by omega) (fun i => ∃ h : i < l.length, l[i].toList = s.toList) (fun k i => impl_placeIn.l0 k s l (l.length : Int) i) (fun k i hi => by
    simp only [impl_placeIn.l0]; rw [if_pos (by omega), if_pos (by omega), if_pos (by omega), rdB l i hi]
    by_cases e : l[i].toList = s.toList
    · rw [if_pos e, if_pos ⟨hi, e⟩]
    · rw [if_neg e, if_neg (fun h => e h.2)]) (fun k i hi => by simp only [impl_placeIn.l0]; rw [if_neg (by omega)])
  exact ⟨r, hr, r0, r1, fun h _ => (r2 h).2, fun j hj e => r3 j hj ⟨hj, e⟩⟩
theorem among_iff (l : List ByteArray) (s : ByteArray) (r : Int) (h0 : -1 ≤ r) (h1 : r < l.length) (h2 : 0 ≤ r → ∀ h : r.toNat < l.length, l[r.toNat].toList = s.toList) (h3 : ∀ j : Nat, ∀ h : j < l.length, l[j].toList = s.toList → 0 ≤ r ∧ r ≤ j) : 0 ≤ r ↔ amongB l s = true := by
  unfold amongB
  rw [List.any_eq_true]
  constructor
  · intro h
    have hlt : r.toNat < l.length := by omega
    exact ⟨_, List.getElem_mem hlt, by rw [h2 h hlt]; exact beq_self_eq_true _⟩
  · rintro ⟨x, hx, e⟩
    obtain ⟨j, hj, rfl⟩ := List.getElem_of_mem hx
    exact (h3 j hj (by simpa using e)).1
def opW23 : List ByteArray := (impl_opWords.f).getD []
def regW8 : List ByteArray := (impl_regWords.f).getD []
theorem opW23_ok : impl_opWords.f = some opW23 := rfl
theorem regW8_ok : impl_regWords.f = some regW8 := rfl
theorem kept31_ok : spec_l9Kept.f = some (opW23 ++ regW8) := rfl
def keptB (s : ByteArray) : Bool := amongB (opW23 ++ regW8) s
theorem keptB_or (s : ByteArray) : keptB s = (amongB opW23 s || amongB regW8 s) := by unfold keptB amongB; rw [List.any_append]
theorem specKept_ok (s : ByteArray) : ∃ r : Int, Ev (fun k => spec_l9At.f k (opW23 ++ regW8) s) r ∧ (0 ≤ r ↔ keptB s = true) := by
  obtain ⟨r, hr, r0, r1, r2, r3⟩ := l9At_ok (opW23 ++ regW8) (by decide) s
  exact ⟨r, hr, among_iff _ _ _ r0 r1 r2 r3⟩
theorem isKept_ok (s : ByteArray) : Ev (fun k => impl_isKept.f k s) (keptB s) := by
  obtain ⟨r, hr, r0, r1, r2, r3⟩ := placeIn_ok opW23 (by decide) s
  obtain ⟨q, hq, q0, q1, q2, q3⟩ := placeIn_ok regW8 (by decide) s
  have e1 := among_iff _ _ _ r0 r1 r2 r3
  have e2 := among_iff _ _ _ q0 q1 q2 q3
  simp only [impl_isKept.f, opW23_ok, regW8_ok, Option.bind_some]
  refine Ev.bind hr ?_
  rw [keptB_or]
  by_cases h : r ≥ 0
  · refine Ev.congr (f := fun _ => some (amongB opW23 s || amongB regW8 s)) (fun k => ?_) (Ev.now _)
    rw [if_pos h, e1.1 h]; rfl
  · refine Ev.congr (f := fun k => (impl_placeIn.f k regW8 s).bind fun t => some (decide (t ≥ 0))) (fun k => by rw [if_neg h]) (Ev.bind hq ?_)
    have h1 : amongB opW23 s = false := by cases h' : amongB opW23 s with | false => rfl | true => exact absurd (e1.2 h') h
    have h2 : decide (q ≥ 0) = amongB regW8 s := by rw [Bool.eq_iff_iff, decide_eq_true_eq]; exact e2
    rw [h1, h2]; exact Ev.now _
def smallP (c : Int) : Prop := 97 ≤ c ∧ c ≤ 122
def digitP (c : Int) : Prop := 48 ≤ c ∧ c ≤ 57
instance (c : Int) : Decidable (smallP c) := by unfold smallP; infer_instance
instance (c : Int) : Decidable (digitP c) := by unfold digitP; infer_instance
theorem l9Small_ok (s : ByteArray) (i : Int) : spec_l9Small.f (bt s i) = some (decide (smallP (bt s i))) := by unfold spec_l9Small.f; rw [bt_b, l1In_ok]; rfl
theorem l9Digit_ok (s : ByteArray) (i : Int) : spec_l9Digit.f (bt s i) = some (decide (digitP (bt s i))) := by unfold spec_l9Digit.f; rw [bt_b, l1In_ok]; rfl
theorem isLetter_ok (s : ByteArray) (i : Int) : impl_isLetter.f (bt s i) = some (decide (smallP (bt s i))) := by unfold impl_isLetter.f; rw [bt_b, within_ok]; rfl
theorem isPart_ok (s : ByteArray) (i : Int) : impl_isPart.f (bt s i) = some (decide (smallP (bt s i) ∨ digitP (bt s i))) := by
  unfold impl_isPart.f
  rw [isLetter_ok]; simp only [Option.bind_some]
  by_cases h : smallP (bt s i)
  · rw [if_pos (decide_eq_true h)]; simp [h]
  · rw [if_neg (by simpa using h), bt_b, within_ok]; simp [h, digitP]
def goodAt (s : ByteArray) (j : Nat) : Prop := smallP (bt s j) ∨ (j ≠ 0 ∧ digitP (bt s j))
instance (s : ByteArray) (j : Nat) : Decidable (goodAt s j) := by unfold goodAt; infer_instance
def formB (s : ByteArray) : Bool := decide ((1 ≤ s.size ∧ s.size ≤ 6) ∧ ∀ j, j < s.size → goodAt s j)
theorem l9Form_ok (s : ByteArray) (hs : s.size ≤ 1048576) : Ev (fun k => spec_l9Form.f k s) (formB s) := by
  have H : ∀ (d i : Nat), s.size - i = d → i ≤ s.size → ∃ b : Bool, Ev (fun k => spec_l9Form.l0 k s (i : Int)) b ∧ (b = true ↔ ((1 ≤ s.size ∧ s.size ≤ 6) ∧ ∀ j, i ≤ j → j < s.size → goodAt s j)) := by
    intro d
    induction d with
    | zero =>
      intro i hd hi
      refine ⟨decide (1 ≤ (s.size : Int) ∧ (s.size : Int) ≤ 6), Ev.step (f := fun _ => some (decide (1 ≤ (s.size : Int) ∧ (s.size : Int) ≤ 6))) (fun k => ?_) (Ev.now _), ?_⟩
      · simp only [spec_l9Form.l0]; rw [if_neg (by omega), l1In_ok]; rfl
      · rw [decide_eq_true_eq]; constructor
        · intro h; exact ⟨by omega, fun j h1 h2 => by omega⟩
        · intro h; have := h.1; omega
    | succ d ih =>
      intro i hd hi
      have hlt : i < s.size := by omega
      obtain ⟨b, hb, hbi⟩ := ih (i + 1) (by omega) (by omega)
      have nxt : ∀ k, spec_l9Form.l0 k s (wrap64 ((i : Int) + 1)) = spec_l9Form.l0 k s ((i + 1 : Nat) : Int) := fun k => by rw [w64 (by omega) (by omega)]; rfl
      by_cases hg : goodAt s i
      · refine ⟨b, Ev.step (f := fun k => spec_l9Form.l0 k s ((i + 1 : Nat) : Int)) (fun k => ?_) hb, ?_⟩
        · simp only [spec_l9Form.l0, l9Small_ok, l9Digit_ok, Option.bind_some, nxt]
          rw [if_pos (by omega), if_pos (by omega)]
          rcases hg with h | ⟨h1, h2⟩
          · rw [if_pos (decide_eq_true h)]
          · by_cases h : smallP (bt s i)
            · rw [if_pos (decide_eq_true h)]
            · rw [if_neg (by simpa using h), if_neg (by omega), if_pos (decide_eq_true h2)]
        · rw [hbi]; constructor
          · intro h; refine ⟨h.1, fun j h1 h2 => ?_⟩
            rcases Nat.eq_or_lt_of_le h1 with e | e
            · subst e; exact hg
            · exact h.2 j e h2
          · intro h; exact ⟨h.1, fun j h1 h2 => h.2 j (by omega) h2⟩
      · refine ⟨false, Ev.step (f := fun _ => some false) (fun k => ?_) (Ev.now _), ?_⟩
        · simp only [spec_l9Form.l0, l9Small_ok, l9Digit_ok, Option.bind_some]
          rw [if_pos (by omega), if_pos (by omega)]
          have h1 : ¬ smallP (bt s i) := fun h => hg (.inl h)
          rw [if_neg (by simpa using h1)]
          by_cases h0 : i = 0
          · rw [if_pos (by omega)]
          · have h2 : ¬ digitP (bt s i) := fun h => hg (.inr ⟨h0, h⟩)
            rw [if_neg (by omega), if_neg (by simpa using h2)]
        · simp only [Bool.false_eq_true, false_iff]; intro h; exact hg (h.2 i (Nat.le_refl _) hlt)
  obtain ⟨b, hb, hbi⟩ := H s.size 0 (by omega) (by omega)
  have e : b = formB s := by
    unfold formB
    rw [Bool.eq_iff_iff, hbi, decide_eq_true_eq]
    exact ⟨fun h => ⟨h.1, fun j hj => h.2 j (Nat.zero_le _) hj⟩, fun h => ⟨h.1, fun j _ hj => h.2 j hj⟩⟩
  rw [← e]; unfold spec_l9Form.f; exact hb
theorem runFrom_ok (s : ByteArray) (hs : s.size ≤ 1048576) (a : Nat) (ha : a ≤ s.size) : ∃ e : Nat, a ≤ e ∧ e ≤ s.size ∧ Ev (fun k => impl_runFrom.f k s (a : Int)) (s.extract a e) ∧ (∀ j, a ≤ j → j < e → smallP (bt s j) ∨ digitP (bt s j)) ∧ (e < s.size → ¬ (smallP (bt s e) ∨ digitP (bt s e))) := by
  have H : ∀ (d i : Nat), s.size - i = d → a ≤ i → i ≤ s.size → ∃ e : Nat, i ≤ e ∧ e ≤ s.size ∧ Ev (fun k => impl_runFrom.l0 k s (a : Int) (i : Int)) (s.extract a e) ∧ (∀ j, i ≤ j → j < e → smallP (bt s j) ∨ digitP (bt s j)) ∧ (e < s.size → ¬ (smallP (bt s e) ∨ digitP (bt s e))) := by
    intro d
    induction d with
    | zero =>
      intro i hd h0 hi
      refine ⟨i, Nat.le_refl _, hi, Ev.step (f := fun _ => some (s.extract a i)) (fun k => ?_) (Ev.now _), fun j h1 h2 => by omega, fun h => by omega⟩
      simp only [impl_runFrom.l0]; rw [if_neg (by omega), if_pos (by omega), if_pos (by omega), if_pos (by omega)]; rfl
    | succ d ih =>
      intro i hd h0 hi
      have hlt : i < s.size := by omega
      by_cases hp : smallP (bt s i) ∨ digitP (bt s i)
      · obtain ⟨e, e0, e1, he, e2, e3⟩ := ih (i + 1) (by omega) (by omega) (by omega)
        refine ⟨e, by omega, e1, Ev.step (f := fun k => impl_runFrom.l0 k s (a : Int) ((i + 1 : Nat) : Int)) (fun k => ?_) he, fun j h1 h2 => ?_, e3⟩
        · simp only [impl_runFrom.l0, isPart_ok, Option.bind_some]
          rw [if_pos (by omega), if_pos (by omega), if_pos (decide_eq_true hp), w64 (by omega) (by omega)]; rfl
        · rcases Nat.eq_or_lt_of_le h1 with e | e
          · subst e; exact hp
          · exact e2 j e h2
      · refine ⟨i, Nat.le_refl _, hi, Ev.step (f := fun _ => some (s.extract a i)) (fun k => ?_) (Ev.now _), fun j h1 h2 => by omega, fun _ => hp⟩
        simp only [impl_runFrom.l0, isPart_ok, Option.bind_some]
        rw [if_pos (by omega), if_pos (by omega), if_neg (by simpa using hp), if_pos (by omega), if_pos (by omega), if_pos (by omega)]; rfl
  obtain ⟨e, e0, e1, he, e2, e3⟩ := H (s.size - a) a rfl (Nat.le_refl _) ha
  exact ⟨e, e0, e1, by unfold impl_runFrom.f; exact he, e2, e3⟩
theorem extract_size (s : ByteArray) (a e : Nat) (h : e ≤ s.size) : (s.extract a e).size = e - a := by
  rw [ByteArray.size_extract]; omega
theorem extract_all (s : ByteArray) : s.extract 0 s.size = s := by
  apply ByteArray.ext; rw [ByteArray.data_extract]; show s.data.extract 0 s.data.size = s.data; exact Array.extract_size
theorem hasForm_ok (s : ByteArray) (hs : s.size ≤ 1048576) : Ev (fun k => impl_hasForm.f k s) (formB s) := by
  simp only [impl_hasForm.f, within_ok, isLetter_ok, Option.bind_some]
  by_cases h : 1 ≤ s.size ∧ s.size ≤ 6
  · obtain ⟨e, _, e1, he, e2, e3⟩ := runFrom_ok s hs 0 (Nat.zero_le _)
    by_cases h0 : smallP (bt s 0)
    · refine Ev.congr (f := fun k => (impl_runFrom.f k s 0).bind fun t => some (t.toList == s.toList)) (fun k => ?_) (Ev.bind (a := s.extract 0 e) he ?_)
      · rw [if_pos (decide_eq_true (by omega)), if_pos (by omega), if_pos (decide_eq_true h0)]
      · have : ((s.extract 0 e).toList == s.toList) = formB s := by
          unfold formB
          rw [Bool.eq_iff_iff, beq_iff_eq, decide_eq_true_eq]
          constructor
          · intro heq
            have hl := congrArg List.length heq
            rw [bal_length, bal_length, extract_size s 0 e e1] at hl
            refine ⟨h, fun j hj => ?_⟩
            by_cases hj0 : j = 0
            · subst hj0; exact .inl h0
            · rcases e2 j (Nat.zero_le _) (by omega) with q | q
              · exact .inl q
              · exact .inr ⟨hj0, q⟩
          · intro hf
            have : e = s.size := by
              rcases Nat.lt_or_ge e s.size with q | q
              · exact absurd (by rcases hf.2 e q with z | ⟨_, z⟩; exact .inl z; exact .inr z) (e3 q)
              · omega
            subst this; rw [extract_all]
        rw [this]; exact Ev.now _
    · refine Ev.congr (f := fun _ => some (formB s)) (fun k => ?_) (Ev.now _)
      have hf : formB s = false := by
        unfold formB; rw [decide_eq_false_iff_not]; intro hf
        rcases hf.2 0 (by omega) with q | ⟨q, _⟩
        · exact h0 q
        · exact q rfl
      rw [if_pos (decide_eq_true (by omega)), if_pos (by omega), if_neg (by simpa using h0), hf]
  · refine Ev.congr (f := fun _ => some (formB s)) (fun k => ?_) (Ev.now _)
    have hf : formB s = false := by unfold formB; rw [decide_eq_false_iff_not]; intro hf; exact h hf.1
    rw [if_neg (by simp; omega), hf]
def nameB (s : ByteArray) : Bool := formB s && !keptB s
theorem l9Name_ok (s : ByteArray) (hs : s.size ≤ 1048576) : Ev (fun k => spec_l9Name.f k s) (nameB s) := by
  simp only [spec_l9Name.f, kept31_ok, Option.bind_some]
  refine Ev.bind (l9Form_ok s hs) ?_
  unfold nameB
  cases formB s with
  | false => exact Ev.congr (f := fun _ => some false) (fun k => by rw [if_neg (by simp)]) (Ev.now _)
  | true =>
    obtain ⟨r, hr, hri⟩ := specKept_ok s
    refine Ev.congr (f := fun k => (spec_l9At.f k (opW23 ++ regW8) s).bind fun t => some (decide (t < 0))) (fun k => by rw [if_pos rfl]) (Ev.bind hr ?_)
    have : decide (r < 0) = (true && !keptB s) := by
      cases hk : keptB s with
      | true => have := hri.2 hk; simp; omega
      | false => have : ¬ 0 ≤ r := (fun h => by rw [hri.1 h] at hk; simp at hk); simp; omega
    rw [this]; exact Ev.now _
theorem isName_ok (s : ByteArray) (hs : s.size ≤ 1048576) : Ev (fun k => impl_isName.f k s) (nameB s) := by
  simp only [impl_isName.f]
  refine Ev.bind (hasForm_ok s hs) ?_
  unfold nameB
  cases formB s with
  | false => exact Ev.congr (f := fun _ => some false) (fun k => by rw [if_neg (by simp)]) (Ev.now _)
  | true => exact Ev.congr (f := fun k => (impl_isKept.f k s).bind fun t => some (!t)) (fun k => by rw [if_pos rfl]) (Ev.bind (isKept_ok s) (Ev.now _))
def hereB (K N : Int) (nb ne : Bool) (n : Nat) : Bool :=
  if K = 1 then decide (0 ≤ N ∧ N ≤ 65535) && !ne && decide (n = 0)
  else if K = 2 ∨ K = 12 then decide (N = 0) && nb && decide (n = 0)
  else if K = 11 then decide (0 ≤ N ∧ N ≤ 9) && !ne && decide (n = 0)
  else if K = 3 then decide (N = 0) && !ne && decide (n = 0)
  else if K = 4 then decide (N = 0) && !ne && decide (n = 1)
  else if 5 ≤ K ∧ K ≤ 10 then decide (N = 0) && !ne && decide (n = 2)
  else false
theorem kcases (K : Int) : K = 1 ∨ K = 2 ∨ K = 3 ∨ K = 4 ∨ K = 5 ∨ K = 6 ∨ K = 7 ∨ K = 8 ∨ K = 9 ∨ K = 10 ∨ K = 11 ∨ K = 12 ∨ (K ≠ 1 ∧ K ≠ 2 ∧ K ≠ 3 ∧ K ≠ 4 ∧ K ≠ 5 ∧ K ≠ 6 ∧ K ≠ 7 ∧ K ≠ 8 ∧ K ≠ 9 ∧ K ≠ 10 ∧ K ≠ 11 ∧ K ≠ 12) := by omega
theorem l10Here_ok (K N : Int) (s : ByteArray) (l : List S29) (hs : s.size ≤ 1048576) : Ev (fun k => spec_l10Here.f k K N s l) (hereB K N (nameB s) (s.toList != []) l.length) := by
  obtain ⟨K1, h1⟩ := l9Name_ok s hs
  refine ⟨K1 + 4, fun k hk => ?_⟩
  obtain ⟨m, rfl⟩ : ∃ m, k = m + 3 := ⟨k - 3, by omega⟩
  simp only [spec_l10Here.f, spec_l10Here.j0, spec_l10Here.j1, spec_l10Here.j2, h1 (m + 1) (by omega), h1 m (by omega), l1In_ok, Option.bind_some]
  generalize nameB s = nb
  generalize (s.toList != []) = ne
  generalize l.length = n
  have e : ∀ q : Nat, ((n : Int) == (q : Int)) = decide (n = q) := fun q => by rw [Bool.eq_iff_iff]; simp; omega
  have e0 := e 0; have e1 := e 1; have e2 := e 2
  simp only [Int.natCast_zero, Int.natCast_one, Int.reduceNatCast] at e0 e1 e2
  simp only [Int.cast_ofNat_Int] at e0 e1 e2
  simp only [e0, e1, e2]
  rcases kcases K with rfl | rfl | rfl | rfl | rfl | rfl | rfl | rfl | rfl | rfl | rfl | rfl | ⟨g1, g2, g3, g4, g5, g6, g7, g8, g9, g10, g11, g12⟩
  all_goals first
    | (cases nb <;> cases ne <;> by_cases hN : N = 0 <;> simp [hereB, hN] <;> done)
    | (cases nb <;> cases ne <;> by_cases hN : 0 ≤ N ∧ N ≤ 65535 <;> simp [hereB, hN] <;> done)
    | (cases nb <;> cases ne <;> by_cases hN : 0 ≤ N ∧ N ≤ 9 <;> simp [hereB, hN] <;> done)
    | (have g : ¬ (5 ≤ K ∧ K ≤ 10) := by omega
       cases nb <;> cases ne <;> by_cases hN : N = 0 <;> simp [hereB, hN, g1, g2, g3, g4, g5, g6, g7, g8, g9, g10, g11, g12, g] <;> done)
def deepPlain (K : Int) (plain : Bool) : Bool := plain && (decide (K = 11) || decide (K = 12))
theorem l10Ok_node (K N : Int) (s : ByteArray) (l : List S29) (hs : s.size ≤ 1048576) (d : Int) (plain r : Bool) (h : hereB K N (nameB s) (s.toList != []) l.length = true → deepPlain K plain = false → d ≤ 6 → Ev (fun k => spec_l10Ok.l0 k d plain 0 K N s l) r) :
    Ev (fun k => spec_l10Ok.f k K N s l d plain) (if (hereB K N (nameB s) (s.toList != []) l.length && !deepPlain K plain && decide (d ≤ 6)) = true then r else false) := by
  have no : Ev (fun k => spec_l10Ok.j0 k d plain true K N s l) false := Ev.step (f := fun _ => some false) (fun k => by simp only [spec_l10Ok.j0]; rw [if_pos trivial]) (Ev.now _)
  by_cases hd : d > 6
  · have e : decide (d ≤ 6) = false := decide_eq_false (by omega)
    rw [e, Bool.and_false, if_neg (by simp)]
    exact Ev.step (fun k => by simp only [spec_l10Ok.f]; rw [if_pos hd]) no
  have e : decide (d ≤ 6) = true := decide_eq_true (by omega)
  rw [e, Bool.and_true]
  refine Ev.step (fun k => by simp only [spec_l10Ok.f]; rw [if_neg hd]) (Ev.bind (l10Here_ok K N s l hs) ?_)
  cases hh : hereB K N (nameB s) (s.toList != []) l.length with
  | false => rw [Bool.false_and, if_neg (by simp)]; exact Ev.congr (fun k => by rw [if_neg (by simp)]) no
  | true =>
    rw [Bool.true_and]
    cases hp : deepPlain K plain with
    | true =>
      rw [if_neg (by simp)]
      have hp' := hp
      unfold deepPlain at hp'
      simp only [Bool.and_eq_true, Bool.or_eq_true, decide_eq_true_eq] at hp'
      refine Ev.congr (f := fun k => spec_l10Ok.j0 k d plain true K N s l) (fun k => ?_) no
      rw [if_pos rfl, if_pos hp'.1]
      rcases hp'.2 with h11 | h12
      · rw [if_pos h11]
      · rw [if_neg (by omega), h12]; rfl
    | false =>
      have yes : Ev (fun k => spec_l10Ok.j0 k d plain false K N s l) r := Ev.step (fun k => by simp only [spec_l10Ok.j0]; rw [if_neg (by simp)]) (h hh hp (by omega))
      rw [Bool.not_false, if_pos rfl]
      refine Ev.congr (f := fun k => spec_l10Ok.j0 k d plain false K N s l) (fun k => ?_) yes
      rw [if_pos rfl]
      unfold deepPlain at hp
      cases plain with
      | false => rw [if_neg (by simp)]
      | true =>
        simp only [Bool.true_and, Bool.or_eq_false_iff, decide_eq_false_iff_not] at hp
        rw [if_pos rfl, if_neg hp.1, beq_eq_false_iff_ne.2 hp.2]
set_option maxHeartbeats 4000000 in
theorem termOk_node (K N : Int) (s : ByteArray) (l : List S29) (hs : s.size ≤ 1048576) (d : Int) (plain r : Bool) (h : hereB K N (nameB s) (s.toList != []) l.length = true → deepPlain K plain = false → 1 ≤ d → Ev (fun k => impl_termOk.l0 k d plain l (l.length : Int) 0) r) :
    Ev (fun k => impl_termOk.f k K N s l d plain) (if (hereB K N (nameB s) (s.toList != []) l.length && !deepPlain K plain && decide (1 ≤ d)) = true then r else false) := by
  obtain ⟨K1, h1⟩ := isName_ok s hs
  obtain ⟨K2, h2⟩ : ∃ K2, ∀ k, K2 ≤ k → hereB K N (nameB s) (s.toList != []) l.length = true → deepPlain K plain = false → 1 ≤ d → impl_termOk.l0 k d plain l (l.length : Int) 0 = some r := by
    by_cases c : hereB K N (nameB s) (s.toList != []) l.length = true ∧ deepPlain K plain = false ∧ 1 ≤ d
    · obtain ⟨K2, h2⟩ := h c.1 c.2.1 c.2.2
      exact ⟨K2, fun k hk _ _ _ => h2 k hk⟩
    · exact ⟨0, fun k _ a b e => absurd ⟨a, b, e⟩ c⟩
  clear h
  have eb : (s.toList == ([] : List UInt8)) = !(s.toList != []) := by cases s.toList <;> rfl
  have J2 : ∀ k, K2 + 3 ≤ k → ∀ (p : Int) (ok : Bool), impl_termOk.j2 k d plain p ok K N s l = (if (ok && decide (1 ≤ d) && decide ((l.length : Int) = p)) = true then impl_termOk.l0 (k - 2) d plain l (l.length : Int) 0 else some false) := by
    intro k hk p ok
    obtain ⟨k, rfl⟩ : ∃ m, k = m + 2 := ⟨k - 2, by omega⟩
    simp only [impl_termOk.j2, impl_termOk.j3, Nat.add_sub_cancel]
    cases ok with
    | false => rw [if_neg (by simp), if_pos trivial, if_neg (by simp)]
    | true =>
      simp only [if_true, Bool.true_and]
      by_cases hd : d < 1
      · simp [hd, show ¬ 1 ≤ d by omega]
      · by_cases hp : (l.length : Int) = p
        · subst hp; simp [hd, show 1 ≤ d by omega]
        · simp [hd, hp]
  refine ⟨K1 + K2 + 8, fun k hk => ?_⟩
  obtain ⟨m, rfl⟩ : ∃ m, k = m + 3 := ⟨k - 3, by omega⟩
  have L0 : (hereB K N (nameB s) (s.toList != []) l.length && !deepPlain K plain && decide (1 ≤ d)) = true → impl_termOk.l0 m d plain l (l.length : Int) 0 = some r := fun h => by
    simp only [Bool.and_eq_true, Bool.not_eq_true', decide_eq_true_eq] at h
    exact h2 m (by omega) h.1.1 h.1.2 h.2
  have L1 : (hereB K N (nameB s) (s.toList != []) l.length && !deepPlain K plain && decide (1 ≤ d)) = true → impl_termOk.l0 (m - 1) d plain l (l.length : Int) 0 = some r := fun h => by
    simp only [Bool.and_eq_true, Bool.not_eq_true', decide_eq_true_eq] at h
    exact h2 (m - 1) (by omega) h.1.1 h.1.2 h.2
  have L2 : (hereB K N (nameB s) (s.toList != []) l.length && !deepPlain K plain && decide (1 ≤ d)) = true → impl_termOk.l0 (m - 2) d plain l (l.length : Int) 0 = some r := fun h => by
    simp only [Bool.and_eq_true, Bool.not_eq_true', decide_eq_true_eq] at h
    exact h2 (m - 2) (by omega) h.1.1 h.1.2 h.2
  have eL0 : m + 2 - 2 = m := by omega
  have eL1 : m + 1 - 2 = m - 1 := by omega
  simp only [impl_termOk.f, impl_termOk.j0, impl_termOk.j1, J2 m (by omega), J2 (m + 1) (by omega), J2 (m + 2) (by omega), h1 (m + 1) (by omega), impl_isWord.f, impl_isTwo.f, within_ok, Option.bind_some, eb, eL0, eL1]
  clear J2 h1 h2 eb eL0 eL1
  generalize impl_termOk.l0 m d plain l (l.length : Int) 0 = A0 at *
  generalize impl_termOk.l0 (m - 1) d plain l (l.length : Int) 0 = A1 at *
  generalize impl_termOk.l0 (m - 2) d plain l (l.length : Int) 0 = A2 at *
  generalize nameB s = nb at *
  generalize (s.toList != []) = ne at *
  generalize l.length = n at *
  clear hk hs
  have e0 : decide ((n : Int) = 0) = decide (n = 0) := by rw [Bool.eq_iff_iff]; simp
  have e1 : decide ((n : Int) = 1) = decide (n = 1) := by rw [Bool.eq_iff_iff]; simp; omega
  have e2 : decide ((n : Int) = 2) = decide (n = 2) := by rw [Bool.eq_iff_iff]; simp; omega
  simp only [e0, e1, e2]
  clear e0 e1 e2
  generalize decide (1 ≤ d) = dd at *
  simp only [hereB, deepPlain] at *
  rcases kcases K with rfl | rfl | rfl | rfl | rfl | rfl | rfl | rfl | rfl | rfl | rfl | rfl | ⟨g1, g2, g3, g4, g5, g6, g7, g8, g9, g10, g11, g12⟩
  · by_cases hN : 0 ≤ N ∧ N ≤ 65535
    · have e := decide_eq_true hN
      simp only [e] at *; clear e hN
      by_cases z0 : n = 0 <;> cases ne <;> cases dd <;> simp_all
    · have e := decide_eq_false hN
      simp only [e] at *; clear e hN
      simp
  · by_cases hN : N = 0 <;> by_cases z0 : n = 0 <;> cases nb <;> cases dd <;> simp_all
  · by_cases hN : N = 0 <;> by_cases z0 : n = 0 <;> cases ne <;> cases dd <;> simp_all
  · by_cases hN : N = 0 <;> by_cases z1 : n = 1 <;> cases ne <;> cases dd <;> simp_all
  · by_cases hN : N = 0 <;> by_cases z2 : n = 2 <;> cases ne <;> cases dd <;> simp_all
  · by_cases hN : N = 0 <;> by_cases z2 : n = 2 <;> cases ne <;> cases dd <;> simp_all
  · by_cases hN : N = 0 <;> by_cases z2 : n = 2 <;> cases ne <;> cases dd <;> simp_all
  · by_cases hN : N = 0 <;> by_cases z2 : n = 2 <;> cases ne <;> cases dd <;> simp_all
  · by_cases hN : N = 0 <;> by_cases z2 : n = 2 <;> cases ne <;> cases dd <;> simp_all
  · by_cases hN : N = 0 <;> by_cases z2 : n = 2 <;> cases ne <;> cases dd <;> simp_all
  · by_cases hN : 0 ≤ N ∧ N ≤ 9
    · have e := decide_eq_true hN
      simp only [e] at *; clear e hN
      by_cases z0 : n = 0 <;> cases ne <;> cases dd <;> cases plain <;> simp_all
    · have e := decide_eq_false hN
      simp only [e] at *; clear e hN
      cases plain <;> simp
  · by_cases hN : N = 0 <;> by_cases z0 : n = 0 <;> cases nb <;> cases dd <;> cases plain <;> simp_all
  · have g : ¬ (5 ≤ K ∧ K ≤ 10) := by omega
    simp [g1, g2, g3, g4, g5, g6, g7, g8, g9, g10, g11, g12, g]
def OkT (x : S29) : Prop := ∀ d : Int, 0 ≤ d → d ≤ 6 → ∀ plain : Bool, ∃ b, Ev (fun k => spec_l10Ok.f k x.f0 x.f1 x.f2 x.f3 (7 - d) plain) b ∧ Ev (fun k => impl_termOk.f k x.f0 x.f1 x.f2 x.f3 d plain) b
theorem okExprS (x : S29) (hx : x.f3.length ≤ 1048576) (h : ∀ z ∈ x.f3, OkT z) (d : Int) (d0 : 1 ≤ d) (d6 : d ≤ 6) (plain : Bool) : ∀ (e i : Nat), x.f3.length - i = e → i ≤ x.f3.length →
    ∃ b, Ev (fun k => spec_l10Ok.l0 k (7 - d) plain (i : Int) x.f0 x.f1 x.f2 x.f3) b ∧ Ev (fun k => impl_termOk.l0 k d plain x.f3 (x.f3.length : Int) (i : Int)) b := by
  intro e
  induction e with
  | zero =>
    intro i he hi
    refine ⟨true, Ev.step (f := fun _ => some true) (fun k => ?_) (Ev.now _), Ev.step (f := fun _ => some true) (fun k => ?_) (Ev.now _)⟩
    · simp only [spec_l10Ok.l0]; rw [if_neg (by omega)]
    · simp only [impl_termOk.l0]; rw [if_neg (by omega)]
  | succ e ih =>
    intro i he hi
    have hlt : i < x.f3.length := by omega
    have w1 : wrap64 ((i : Int) + 1) = ((i + 1 : Nat) : Int) := by rw [w64 (by omega) (by omega)]; rfl
    have w2 : wrap64 (7 - d + 1) = 7 - (d - 1) := by rw [w64 (by omega) (by omega)]; omega
    have w3 : wrap64 (d - 1) = d - 1 := w64 (by omega) (by omega)
    obtain ⟨b, hs, hi'⟩ := h _ (rdI_in x.f3 i hlt) (d - 1) (by omega) (by omega) plain
    obtain ⟨c, cs, ci⟩ := ih (i + 1) (by omega) (by omega)
    refine ⟨if b = true then c else false, ?_, ?_⟩
    · refine Ev.step (f := fun k => (spec_l10Ok.f k (rd_T29 x.f3 (i : Int)).f0 (rd_T29 x.f3 (i : Int)).f1 (rd_T29 x.f3 (i : Int)).f2 (rd_T29 x.f3 (i : Int)).f3 (7 - (d - 1)) plain).bind fun t => if t = true then spec_l10Ok.l0 k (7 - d) plain ((i + 1 : Nat) : Int) x.f0 x.f1 x.f2 x.f3 else some false) (fun k => ?_) (Ev.bind hs ?_)
      · simp only [spec_l10Ok.l0, w1, w2]; rw [if_pos (by omega), if_pos (by omega)]
      · cases b with
        | true => exact Ev.congr (fun k => by rw [if_pos rfl]) cs
        | false => exact Ev.congr (f := fun _ => some false) (fun k => by rw [if_neg (by decide)]) (Ev.now _)
    · refine Ev.step (f := fun k => (impl_termOk.f k (rd_T29 x.f3 (i : Int)).f0 (rd_T29 x.f3 (i : Int)).f1 (rd_T29 x.f3 (i : Int)).f2 (rd_T29 x.f3 (i : Int)).f3 (d - 1) plain).bind fun t => if t = true then impl_termOk.l0 k d plain x.f3 (x.f3.length : Int) ((i + 1 : Nat) : Int) else some false) (fun k => ?_) (Ev.bind hi' ?_)
      · simp only [impl_termOk.l0, w1, w3]; rw [if_pos (by omega), if_pos (by omega), if_pos (by omega)]
      · cases b with
        | true => exact Ev.congr (fun k => by rw [if_pos rfl]) ci
        | false => exact Ev.congr (f := fun _ => some false) (fun k => by rw [if_neg (by decide)]) (Ev.now _)
theorem okExpr_ok (x : S29) (g : Small x) : OkT x := by
  induction g with
  | mk x h2 h3 h ih =>
    intro d d0 d6 plain
    by_cases hd : 1 ≤ d
    · obtain ⟨b, b1, b2⟩ := okExprS x h3 ih d hd d6 plain x.f3.length 0 (by omega) (by omega)
      have e1 := l10Ok_node x.f0 x.f1 x.f2 x.f3 h2 (7 - d) plain b (fun _ _ _ => by simpa using b1)
      have e2 := termOk_node x.f0 x.f1 x.f2 x.f3 h2 d plain b (fun _ _ _ => by simpa using b2)
      rw [decide_eq_true (show 7 - d ≤ 6 by omega)] at e1
      rw [decide_eq_true hd] at e2
      exact ⟨_, e1, e2⟩
    · have e1 := l10Ok_node x.f0 x.f1 x.f2 x.f3 h2 (7 - d) plain false (fun _ _ h => by omega)
      have e2 := termOk_node x.f0 x.f1 x.f2 x.f3 h2 d plain false (fun _ _ h => absurd h hd)
      rw [decide_eq_false (show ¬ 7 - d ≤ 6 by omega)] at e1
      rw [decide_eq_false hd] at e2
      exact ⟨_, e1, e2⟩
def tup (x : S29) : Int × Int × ByteArray × List S29 := (x.f0, x.f1, x.f2, x.f3)
theorem list_choose {α β : Type} {P : α → β → Prop} : ∀ (l : List α), (∀ x ∈ l, ∃ y, P x y) → ∃ r : List β, r.length = l.length ∧ ∀ (j : Nat) (h1 : j < l.length) (h2 : j < r.length), P l[j] r[j]
  | [], _ => ⟨[], rfl, fun j h => absurd h (Nat.not_lt_zero j)⟩
  | x :: l, h => by
    obtain ⟨y, hy⟩ := h x List.mem_cons_self
    obtain ⟨r, hl, hr⟩ := list_choose l (fun z hz => h z (List.mem_cons_of_mem _ hz))
    refine ⟨y :: r, by simp [hl], fun j h1 h2 => ?_⟩
    match j with
    | 0 => exact hy
    | j + 1 => exact hr j (by simpa using h1) (by simpa using h2)
theorem take_succ_at {α : Type} (l : List α) (i : Nat) (h : i < l.length) : l.take (i + 1) = l.take i ++ [l[i]] := by rw [List.take_add_one, List.getElem?_eq_getElem h]; rfl
def FillT (h : S29) (ns : List ByteArray) (vs : List S29) (x : S29) : Prop := ∃ r : S29, Ev (fun k => spec_l11Put.f k x.f0 x.f1 x.f2 x.f3 h.f0 h.f1 h.f2 h.f3 ns vs) (tup r) ∧ Ev (fun k => impl_filled.f k x.f0 x.f1 x.f2 x.f3 h.f0 h.f1 h.f2 h.f3 ns vs) (tup r) ∧ Small r
theorem specFill_l0 (h : S29) (ns : List ByteArray) (vs l rs : List S29) (hl : l.length ≤ 1048576) (he : rs.length = l.length) (H : ∀ (j : Nat) (h1 : j < l.length) (h2 : j < rs.length), Ev (fun k => spec_l11Put.f k l[j].f0 l[j].f1 l[j].f2 l[j].f3 h.f0 h.f1 h.f2 h.f3 ns vs) (tup rs[j])) (A B : Int) (s : ByteArray) (a b : Int) (t : ByteArray) : ∀ (d i : Nat), l.length - i = d → i ≤ l.length →
    Ev (fun k => spec_l11Put.l0 k ns vs (i : Int) A B s l h.f0 h.f1 h.f2 h.f3 a b t (rs.take i)) (a, b, t, rs) := by
  intro d
  induction d with
  | zero =>
    intro i hd hi
    refine Ev.step (f := fun _ => some (a, b, t, rs)) (fun k => ?_) (Ev.now _)
    simp only [spec_l11Put.l0]; rw [if_neg (by omega), List.take_of_length_le (by omega)]
  | succ d ih =>
    intro i hd hi
    have hlt : i < l.length := by omega
    have hlt2 : i < rs.length := by omega
    have tk := take_succ_at rs i hlt2
    refine Ev.step (f := fun k => (spec_l11Put.f k (rd_T29 l (i : Int)).f0 (rd_T29 l (i : Int)).f1 (rd_T29 l (i : Int)).f2 (rd_T29 l (i : Int)).f3 h.f0 h.f1 h.f2 h.f3 ns vs).bind fun bt => if (rs.take i).length < 2513169434916 then spec_l11Put.l0 k ns vs ((i + 1 : Nat) : Int) A B s l h.f0 h.f1 h.f2 h.f3 a b t (rs.take i ++ [(⟨bt.1, bt.2.1, bt.2.2.1, bt.2.2.2⟩ : S29)]) else none) (fun k => ?_) (Ev.bind (by rw [rdI_at l i hlt]; exact H i hlt hlt2) ?_)
    · simp only [spec_l11Put.l0]; rw [if_pos (by omega), if_pos (by omega), w64 (x := (i : Int) + 1) (by omega) (by omega)]; rfl
    · refine Ev.congr (f := fun k => spec_l11Put.l0 k ns vs ((i + 1 : Nat) : Int) A B s l h.f0 h.f1 h.f2 h.f3 a b t (rs.take (i + 1))) (fun k => ?_) (ih (i + 1) (by omega) (by omega))
      rw [if_pos (by rw [List.length_take]; omega), tk]; simp only [tup, etaI]
theorem implFill_l0 (h : S29) (ns : List ByteArray) (vs l rs : List S29) (hl : l.length ≤ 1048576) (he : rs.length = l.length) (H : ∀ (j : Nat) (h1 : j < l.length) (h2 : j < rs.length), Ev (fun k => impl_filled.f k l[j].f0 l[j].f1 l[j].f2 l[j].f3 h.f0 h.f1 h.f2 h.f3 ns vs) (tup rs[j])) (a b : Int) (t : ByteArray) : ∀ (d i : Nat), l.length - i = d → i ≤ l.length →
    Ev (fun k => impl_filled.l0 k ns vs l (l.length : Int) (i : Int) h.f0 h.f1 h.f2 h.f3 a b t (rs.take i)) (a, b, t, rs) := by
  intro d
  induction d with
  | zero =>
    intro i hd hi
    refine Ev.step (f := fun _ => some (a, b, t, rs)) (fun k => ?_) (Ev.now _)
    simp only [impl_filled.l0]; rw [if_neg (by omega), List.take_of_length_le (by omega)]
  | succ d ih =>
    intro i hd hi
    have hlt : i < l.length := by omega
    have hlt2 : i < rs.length := by omega
    have tk := take_succ_at rs i hlt2
    refine Ev.step (f := fun k => (impl_filled.f k (rd_T29 l (i : Int)).f0 (rd_T29 l (i : Int)).f1 (rd_T29 l (i : Int)).f2 (rd_T29 l (i : Int)).f3 h.f0 h.f1 h.f2 h.f3 ns vs).bind fun bt => if (rs.take i).length < 2513169434916 then impl_filled.l0 k ns vs l (l.length : Int) ((i + 1 : Nat) : Int) h.f0 h.f1 h.f2 h.f3 a b t (rs.take i ++ [(⟨bt.1, bt.2.1, bt.2.2.1, bt.2.2.2⟩ : S29)]) else none) (fun k => ?_) (Ev.bind (by rw [rdI_at l i hlt]; exact H i hlt hlt2) ?_)
    · simp only [impl_filled.l0]; rw [if_pos (by omega), if_pos (by omega), if_pos (by omega), w64 (x := (i : Int) + 1) (by omega) (by omega)]; rfl
    · refine Ev.congr (f := fun k => impl_filled.l0 k ns vs l (l.length : Int) ((i + 1 : Nat) : Int) h.f0 h.f1 h.f2 h.f3 a b t (rs.take (i + 1))) (fun k => ?_) (ih (i + 1) (by omega) (by omega))
      rw [if_pos (by rw [List.length_take]; omega), tk]; simp only [tup, etaI]
theorem at_eq (l : List ByteArray) (h2 : l.length ≤ 1048576) (s : ByteArray) : ∃ q : Int, Ev (fun k => spec_l9At.f k l s) q ∧ Ev (fun k => impl_placeIn.f k l s) q ∧ -1 ≤ q ∧ q < l.length := by
  obtain ⟨r, hr, r0, r1, r2, r3⟩ := l9At_ok l h2 s
  obtain ⟨q, hq, q0, q1, q2, q3⟩ := placeIn_ok l h2 s
  have e : q = r := by
    by_cases c : 0 ≤ r
    · have a := q3 r.toNat (by omega) (r2 c (by omega))
      have b := r3 q.toNat (by omega) (q2 a.1 (by omega))
      omega
    · by_cases c2 : 0 ≤ q
      · have b := r3 q.toNat (by omega) (q2 c2 (by omega)); omega
      · omega
  subst e
  exact ⟨q, hr, hq, q0, q1⟩
theorem fill_ok (h : S29) (sh : Small h) (ns : List ByteArray) (vs : List S29) (hn : ns.length ≤ 1048576) (hv : vs.length = ns.length) (sv : ∀ v ∈ vs, Small v) (x : S29) (g : Small x) : FillT h ns vs x := by
  induction g with
  | mk x h2 h3 hs ih =>
    obtain ⟨K, N, s, l⟩ := x
    simp only at h2 h3 hs ih
    obtain ⟨rs, hl, hr⟩ := list_choose l ih
    have J1 : Ev (fun k => spec_l11Put.j0 k ns vs K N s l h.f0 h.f1 h.f2 h.f3) (tup ⟨K, N, s, rs⟩) := Ev.step (f := fun k => spec_l11Put.l0 k ns vs ((0 : Nat) : Int) K N s l h.f0 h.f1 h.f2 h.f3 K N s (rs.take 0)) (fun k => by simp only [spec_l11Put.j0]; rfl) (specFill_l0 h ns vs l rs h3 hl (fun j a b => (hr j a b).1) K N s K N s _ 0 rfl (by omega))
    have J2 : Ev (fun k => impl_filled.j0 k ns vs K N s l h.f0 h.f1 h.f2 h.f3) (tup ⟨K, N, s, rs⟩) := Ev.step (f := fun k => impl_filled.l0 k ns vs l (l.length : Int) ((0 : Nat) : Int) h.f0 h.f1 h.f2 h.f3 K N s (rs.take 0)) (fun k => by simp only [impl_filled.j0]; rfl) (implFill_l0 h ns vs l rs h3 hl (fun j a b => (hr j a b).2.1) K N s _ 0 rfl (by omega))
    have sr : Small (⟨K, N, s, rs⟩ : S29) := Small.mk _ h2 (by show rs.length ≤ 1048576; omega) (fun y hy => by
      obtain ⟨j, hj, e⟩ := List.getElem_of_mem (show y ∈ rs from hy)
      rw [← e]; exact (hr j (by omega) hj).2.2)
    unfold FillT
    simp only
    by_cases c3 : K = 3
    · refine ⟨h, Ev.step (f := fun k => (spec_l11Copy.f k h.f0 h.f1 h.f2 h.f3).bind fun bt => some (bt.1, bt.2.1, bt.2.2.1, bt.2.2.2)) (fun k => by simp only [spec_l11Put.f]; rw [if_pos c3]) (Ev.bind (specCopy_ok h sh) (Ev.now _)), Ev.step (f := fun k => (impl_copyExpr.f k h.f0 h.f1 h.f2 h.f3).bind fun bt => some (bt.1, bt.2.1, bt.2.2.1, bt.2.2.2)) (fun k => by simp only [impl_filled.f]; rw [if_pos c3]) (Ev.bind (implCopy_ok h sh) (Ev.now _)), sh⟩
    by_cases c2 : K = 2
    · obtain ⟨q, e1, e2, q0, q1⟩ := at_eq ns hn s
      by_cases c : 0 ≤ q
      · have hq : q.toNat < vs.length := by omega
        have eq : (q.toNat : Int) = q := by omega
        have rq := rdI_at vs q.toNat hq
        rw [eq] at rq
        have sq := sv _ (List.getElem_mem hq)
        refine ⟨vs[q.toNat], ?_, ?_, sq⟩
        · refine Ev.step (fun k => by simp only [spec_l11Put.f]; rw [if_neg c3, if_pos c2]) (Ev.bind e1 ?_)
          refine Ev.congr (f := fun k => (spec_l11Copy.f k vs[q.toNat].f0 vs[q.toNat].f1 vs[q.toNat].f2 vs[q.toNat].f3).bind fun bt => some (bt.1, bt.2.1, bt.2.2.1, bt.2.2.2)) (fun k => ?_) (Ev.bind (specCopy_ok _ sq) (Ev.now _))
          rw [if_pos (show q ≥ 0 from c), if_pos c, if_pos (by omega), rq]
        · refine Ev.step (fun k => by simp only [impl_filled.f]; rw [if_neg c3, if_pos c2]) (Ev.bind e2 ?_)
          refine Ev.congr (f := fun k => (impl_copyExpr.f k vs[q.toNat].f0 vs[q.toNat].f1 vs[q.toNat].f2 vs[q.toNat].f3).bind fun bt => some (bt.1, bt.2.1, bt.2.2.1, bt.2.2.2)) (fun k => ?_) (Ev.bind (implCopy_ok _ sq) (Ev.now _))
          rw [if_pos (show q ≥ 0 from c), if_pos c, if_pos (by omega), rq]
      · refine ⟨⟨K, N, s, rs⟩, ?_, ?_, sr⟩
        · refine Ev.step (fun k => by simp only [spec_l11Put.f]; rw [if_neg c3, if_pos c2]) (Ev.bind e1 (Ev.congr (fun k => ?_) J1))
          rw [if_neg (show ¬ q ≥ 0 from c)]
        · refine Ev.step (fun k => by simp only [impl_filled.f]; rw [if_neg c3, if_pos c2]) (Ev.bind e2 (Ev.congr (fun k => ?_) J2))
          rw [if_neg (show ¬ q ≥ 0 from c)]
    · exact ⟨⟨K, N, s, rs⟩, Ev.step (fun k => by simp only [spec_l11Put.f]; rw [if_neg c3, if_neg c2]) J1, Ev.step (fun k => by simp only [impl_filled.f]; rw [if_neg c3, if_neg c2]) J2, sr⟩
def zT : S29 := ⟨0, 0, ⟨#[]⟩, []⟩
theorem small_z : Small zT := Small.mk _ (by decide) (by decide) (fun y hy => by cases hy)
theorem ok_both (x : S29) (g : Small x) : ∃ b, Ev (fun k => spec_ExprOk.f k x.f0 x.f1 x.f2 x.f3) b ∧ Ev (fun k => impl_ExprOk.f k x.f0 x.f1 x.f2 x.f3) b := by
  obtain ⟨b, b1, b2⟩ := okExpr_ok x g 6 (by omega) (by omega) false
  exact ⟨b, Ev.bind b1 (Ev.now _), Ev.bind b2 (Ev.now _)⟩
theorem specPut_l0 (e h : S29) (ns : List ByteArray) (vs : List S29) (bs : List Bool) (q : Int × Int × ByteArray × List S29) (hv : vs.length ≤ 1048576) (hl : bs.length = vs.length) (hb : ∀ (j : Nat) (h1 : j < vs.length) (h2 : j < bs.length), Ev (fun k => spec_ExprOk.f k vs[j].f0 vs[j].f1 vs[j].f2 vs[j].f3) bs[j])
    (ht : Ev (fun k => (spec_l11Put.f k e.f0 e.f1 e.f2 e.f3 h.f0 h.f1 h.f2 h.f3 ns vs).bind fun bt => (spec_ExprOk.f k bt.1 bt.2.1 bt.2.2.1 bt.2.2.2).bind fun t => if t = true then some (bt.1, bt.2.1, bt.2.2.1, bt.2.2.2) else some (0, 0, (⟨#[]⟩ : ByteArray), ([] : List S29))) q) : ∀ (d i : Nat), vs.length - i = d → i ≤ vs.length →
    Ev (fun k => spec_Put.l0 k ns vs (i : Int) e.f0 e.f1 e.f2 e.f3 h.f0 h.f1 h.f2 h.f3) (if (bs.drop i).all id = true then q else tup zT) := by
  intro d
  induction d with
  | zero =>
    intro i hd hi
    rw [List.drop_of_length_le (by omega), if_pos (show ([] : List Bool).all id = true from rfl)]
    exact Ev.step (fun k => by simp only [spec_Put.l0]; rw [if_neg (by omega)]) ht
  | succ d ih =>
    intro i hd hi
    have h1 : i < vs.length := by omega
    have h2 : i < bs.length := by omega
    rw [List.drop_eq_getElem_cons h2, List.all_cons]
    refine Ev.step (f := fun k => (spec_ExprOk.f k (rd_T29 vs (i : Int)).f0 (rd_T29 vs (i : Int)).f1 (rd_T29 vs (i : Int)).f2 (rd_T29 vs (i : Int)).f3).bind fun t => if t = true then spec_Put.l0 k ns vs ((i + 1 : Nat) : Int) e.f0 e.f1 e.f2 e.f3 h.f0 h.f1 h.f2 h.f3 else some (0, 0, (⟨#[]⟩ : ByteArray), ([] : List S29))) (fun k => ?_) (Ev.bind (by rw [rdI_at vs i h1]; exact hb i h1 h2) ?_)
    · simp only [spec_Put.l0]; rw [if_pos (by omega), if_pos (by omega), w64 (x := (i : Int) + 1) (by omega) (by omega)]; rfl
    · cases bs[i] with
      | true => exact Ev.congr (fun k => by rw [if_pos rfl]) (ih (i + 1) (by omega) (by omega))
      | false => exact Ev.congr (f := fun _ => some (tup zT)) (fun k => by rw [if_neg (by decide)]; rfl) (Ev.now _)
theorem implPut_l0 (e h : S29) (ns : List ByteArray) (vs : List S29) (bs : List Bool) (q : Int × Int × ByteArray × List S29) (hv : vs.length ≤ 1048576) (hl : bs.length = vs.length) (hb : ∀ (j : Nat) (h1 : j < vs.length) (h2 : j < bs.length), Ev (fun k => impl_ExprOk.f k vs[j].f0 vs[j].f1 vs[j].f2 vs[j].f3) bs[j])
    (ht : Ev (fun k => (impl_ExprOk.f k e.f0 e.f1 e.f2 e.f3).bind fun t319 => (if t319 = true then ((impl_ExprOk.f k h.f0 h.f1 h.f2 h.f3).bind fun t320 => (if t320 = true then (impl_Put.j1 k ns vs ((vs.length : Int) != (ns.length : Int)) e.f0 e.f1 e.f2 e.f3 h.f0 h.f1 h.f2 h.f3) else (impl_Put.j1 k ns vs true e.f0 e.f1 e.f2 e.f3 h.f0 h.f1 h.f2 h.f3))) else (impl_Put.j1 k ns vs true e.f0 e.f1 e.f2 e.f3 h.f0 h.f1 h.f2 h.f3))) q) : ∀ (d i : Nat), vs.length - i = d → i ≤ vs.length →
    Ev (fun k => impl_Put.l0 k ns vs vs (vs.length : Int) (i : Int) e.f0 e.f1 e.f2 e.f3 h.f0 h.f1 h.f2 h.f3) (if (bs.drop i).all id = true then q else tup zT) := by
  intro d
  induction d with
  | zero =>
    intro i hd hi
    rw [List.drop_of_length_le (by omega), if_pos (show ([] : List Bool).all id = true from rfl)]
    exact Ev.step (fun k => by simp only [impl_Put.l0]; rw [if_neg (by omega)]) ht
  | succ d ih =>
    intro i hd hi
    have h1 : i < vs.length := by omega
    have h2 : i < bs.length := by omega
    rw [List.drop_eq_getElem_cons h2, List.all_cons]
    refine Ev.step (f := fun k => (impl_ExprOk.f k (rd_T29 vs (i : Int)).f0 (rd_T29 vs (i : Int)).f1 (rd_T29 vs (i : Int)).f2 (rd_T29 vs (i : Int)).f3).bind fun t => if t = true then impl_Put.l0 k ns vs vs (vs.length : Int) ((i + 1 : Nat) : Int) e.f0 e.f1 e.f2 e.f3 h.f0 h.f1 h.f2 h.f3 else some (0, 0, (⟨#[]⟩ : ByteArray), ([] : List S29))) (fun k => ?_) (Ev.bind (by rw [rdI_at vs i h1]; exact hb i h1 h2) ?_)
    · simp only [impl_Put.l0]; rw [if_pos (by omega), if_pos (by omega), if_pos (by omega), w64 (x := (i : Int) + 1) (by omega) (by omega)]; rfl
    · cases bs[i] with
      | true => exact Ev.congr (fun k => by rw [if_pos rfl]) (ih (i + 1) (by omega) (by omega))
      | false => exact Ev.congr (f := fun _ => some (tup zT)) (fun k => by rw [if_neg (by decide)]; rfl) (Ev.now _)
theorem put_ok (e h : S29) (se : Small e) (sh : Small h) (ns : List ByteArray) (vs : List S29) (hn : ns.length ≤ 1048576) (hv : vs.length ≤ 1048576) (sv : ∀ v ∈ vs, Small v) :
    ∃ p : S29, Ev (fun k => spec_Put.f k e.f0 e.f1 e.f2 e.f3 h.f0 h.f1 h.f2 h.f3 ns vs) (tup p) ∧ Ev (fun k => impl_Put.f k e.f0 e.f1 e.f2 e.f3 h.f0 h.f1 h.f2 h.f3 ns vs) (tup p) ∧ Small p ∧ (p.f0 = 0 ∨ Ev (fun k => impl_ExprOk.f k p.f0 p.f1 p.f2 p.f3) true) := by
  obtain ⟨a, a1, a2⟩ := ok_both e se
  obtain ⟨b, b1, b2⟩ := ok_both h sh
  obtain ⟨bs, hl, hb⟩ := list_choose vs (fun v hm => ok_both v (sv v hm))
  have sj : Ev (fun k => spec_Put.j0 k ns vs true e.f0 e.f1 e.f2 e.f3 h.f0 h.f1 h.f2 h.f3) (tup zT) := Ev.step (f := fun _ => some (tup zT)) (fun k => by simp only [spec_Put.j0]; rw [if_pos trivial]; rfl) (Ev.now _)
  have ij : Ev (fun k => impl_Put.j1 k ns vs true e.f0 e.f1 e.f2 e.f3 h.f0 h.f1 h.f2 h.f3) (tup zT) := Ev.step (f := fun _ => some (tup zT)) (fun k => by simp only [impl_Put.j1]; rw [if_pos trivial]; rfl) (Ev.now _)
  have start : ∀ q, Ev (fun k => impl_Put.l0 k ns vs vs (vs.length : Int) ((0 : Nat) : Int) e.f0 e.f1 e.f2 e.f3 h.f0 h.f1 h.f2 h.f3) q → Ev (fun k => impl_Put.f k e.f0 e.f1 e.f2 e.f3 h.f0 h.f1 h.f2 h.f3 ns vs) q := fun q hq => Ev.congr (fun k => by simp only [impl_Put.f]; rfl) hq
  have none_ : Ev (fun k => (impl_ExprOk.f k e.f0 e.f1 e.f2 e.f3).bind fun t319 => (if t319 = true then ((impl_ExprOk.f k h.f0 h.f1 h.f2 h.f3).bind fun t320 => (if t320 = true then (impl_Put.j1 k ns vs ((vs.length : Int) != (ns.length : Int)) e.f0 e.f1 e.f2 e.f3 h.f0 h.f1 h.f2 h.f3) else (impl_Put.j1 k ns vs true e.f0 e.f1 e.f2 e.f3 h.f0 h.f1 h.f2 h.f3))) else (impl_Put.j1 k ns vs true e.f0 e.f1 e.f2 e.f3 h.f0 h.f1 h.f2 h.f3))) (tup zT) → ∃ p : S29, Ev (fun k => impl_Put.f k e.f0 e.f1 e.f2 e.f3 h.f0 h.f1 h.f2 h.f3 ns vs) (tup p) ∧ p = zT := fun ht => by
    have := implPut_l0 e h ns vs bs _ hv hl (fun j x y => (hb j x y).2) ht vs.length 0 (by omega) (by omega)
    rw [ite_self] at this
    exact ⟨zT, start _ this, rfl⟩
  have zero : (∃ p : S29, Ev (fun k => impl_Put.f k e.f0 e.f1 e.f2 e.f3 h.f0 h.f1 h.f2 h.f3 ns vs) (tup p) ∧ p = zT) → Ev (fun k => spec_Put.f k e.f0 e.f1 e.f2 e.f3 h.f0 h.f1 h.f2 h.f3 ns vs) (tup zT) → ∃ p : S29, Ev (fun k => spec_Put.f k e.f0 e.f1 e.f2 e.f3 h.f0 h.f1 h.f2 h.f3 ns vs) (tup p) ∧ Ev (fun k => impl_Put.f k e.f0 e.f1 e.f2 e.f3 h.f0 h.f1 h.f2 h.f3 ns vs) (tup p) ∧ Small p ∧ (p.f0 = 0 ∨ Ev (fun k => impl_ExprOk.f k p.f0 p.f1 p.f2 p.f3) true) := by
    rintro ⟨p, h1, rfl⟩ h2
    exact ⟨zT, h2, h1, small_z, .inl rfl⟩
  cases a with
  | false =>
    exact zero (none_ (Ev.bind a2 (Ev.congr (fun k => by rw [if_neg (by decide)]) ij))) (Ev.bind a1 (Ev.congr (fun k => by rw [if_neg (by decide)]) sj))
  | true =>
    cases b with
    | false =>
      exact zero (none_ (Ev.bind a2 (Ev.congr (fun k => by rw [if_pos rfl]) (Ev.bind b2 (Ev.congr (fun k => by rw [if_neg (by decide)]) ij))))) (Ev.bind a1 (Ev.congr (fun k => by rw [if_pos rfl]) (Ev.bind b1 (Ev.congr (fun k => by rw [if_neg (by decide)]) sj))))
    | true =>
      by_cases c : vs.length = ns.length
      · have c1 : ((ns.length : Int) != (vs.length : Int)) = false := by rw [c]; exact bne_self_eq_false _
        have c2 : ((vs.length : Int) != (ns.length : Int)) = false := by rw [c]; exact bne_self_eq_false _
        obtain ⟨r, r1, r2, sr⟩ := fill_ok h sh ns vs hn c sv e se
        obtain ⟨o, o1, o2⟩ := ok_both r sr
        obtain ⟨p, ep, sp, hp⟩ : ∃ p : S29, (if o = true then tup r else tup zT) = tup p ∧ Small p ∧ (p.f0 = 0 ∨ Ev (fun k => impl_ExprOk.f k p.f0 p.f1 p.f2 p.f3) true) := by
          cases o with
          | true => exact ⟨r, by rw [if_pos rfl], sr, .inr o2⟩
          | false => exact ⟨zT, by rw [if_neg (by decide)], small_z, .inl rfl⟩
        have ts : Ev (fun k => (spec_l11Put.f k e.f0 e.f1 e.f2 e.f3 h.f0 h.f1 h.f2 h.f3 ns vs).bind fun bt => (spec_ExprOk.f k bt.1 bt.2.1 bt.2.2.1 bt.2.2.2).bind fun t => if t = true then some (bt.1, bt.2.1, bt.2.2.1, bt.2.2.2) else some (0, 0, (⟨#[]⟩ : ByteArray), ([] : List S29))) (tup p) := by
          rw [← ep]
          refine Ev.bind r1 (Ev.bind o1 ?_)
          cases o with
          | true => exact Ev.congr (f := fun _ => some (tup r)) (fun k => by rw [if_pos rfl]) (Ev.now _)
          | false => exact Ev.congr (f := fun _ => some (tup zT)) (fun k => by rw [if_neg (by decide)]; rfl) (Ev.now _)
        have ti : Ev (fun k => impl_Put.j1 k ns vs false e.f0 e.f1 e.f2 e.f3 h.f0 h.f1 h.f2 h.f3) (tup p) := by
          rw [← ep]
          refine Ev.step (fun k => by simp only [impl_Put.j1]; rw [if_neg (by decide)]) (Ev.bind r2 (Ev.bind o2 ?_))
          cases o with
          | true => exact Ev.congr (f := fun _ => some (tup r)) (fun k => by rw [if_pos rfl]) (Ev.now _)
          | false => exact Ev.congr (f := fun _ => some (tup zT)) (fun k => by rw [if_neg (by decide)]; rfl) (Ev.now _)
        have s0 := specPut_l0 e h ns vs bs _ hv hl (fun j x y => (hb j x y).1) ts vs.length 0 (by omega) (by omega)
        have i0 := start _ (implPut_l0 e h ns vs bs _ hv hl (fun j x y => (hb j x y).2) (Ev.bind a2 (Ev.congr (fun k => by rw [if_pos rfl]) (Ev.bind b2 (Ev.congr (fun k => by rw [if_pos rfl, c2]) ti)))) vs.length 0 (by omega) (by omega))
        have s1 : ∀ q, Ev (fun k => spec_Put.l0 k ns vs ((0 : Nat) : Int) e.f0 e.f1 e.f2 e.f3 h.f0 h.f1 h.f2 h.f3) q → Ev (fun k => spec_Put.f k e.f0 e.f1 e.f2 e.f3 h.f0 h.f1 h.f2 h.f3 ns vs) q := fun q hq =>
          Ev.bind a1 (Ev.congr (fun k => by rw [if_pos rfl]) (Ev.bind b1 (Ev.congr (f := fun k => spec_Put.j0 k ns vs false e.f0 e.f1 e.f2 e.f3 h.f0 h.f1 h.f2 h.f3) (fun k => by rw [if_pos rfl, c1]) (Ev.step (fun k => by simp only [spec_Put.j0]; rw [if_neg (by decide)]; rfl) hq))))
        cases hall : (bs.drop 0).all id with
        | true =>
          rw [hall, if_pos rfl] at s0 i0
          exact ⟨p, s1 _ s0, i0, sp, hp⟩
        | false =>
          rw [hall, if_neg (by decide)] at s0 i0
          exact ⟨zT, s1 _ s0, i0, small_z, .inl rfl⟩
      · have c1 : ((ns.length : Int) != (vs.length : Int)) = true := by rw [bne_iff_ne]; omega
        have c2 : ((vs.length : Int) != (ns.length : Int)) = true := by rw [bne_iff_ne]; omega
        exact zero (none_ (Ev.bind a2 (Ev.congr (fun k => by rw [if_pos rfl]) (Ev.bind b2 (Ev.congr (fun k => by rw [if_pos rfl, c2]) ij))))) (Ev.bind a1 (Ev.congr (fun k => by rw [if_pos rfl]) (Ev.bind b1 (Ev.congr (fun k => by rw [if_pos rfl, c1]) sj))))
inductive WellT : S29 → Prop
  | mk (x : S29) (h0 : hereB x.f0 x.f1 (nameB x.f2) (x.f2.toList != []) x.f3.length = true) (h : ∀ y ∈ x.f3, WellT y) : WellT x
theorem okS_parts (x : S29) (hx : x.f3.length ≤ 1048576) (h : ∀ z ∈ x.f3, OkT z) (d : Int) (d0 : 1 ≤ d) (d6 : d ≤ 6) (plain : Bool) : ∀ (e i : Nat), x.f3.length - i = e → i ≤ x.f3.length →
    Ev (fun k => spec_l10Ok.l0 k (7 - d) plain (i : Int) x.f0 x.f1 x.f2 x.f3) true → ∀ j, i ≤ j → ∀ hj : j < x.f3.length, Ev (fun k => spec_l10Ok.f k x.f3[j].f0 x.f3[j].f1 x.f3[j].f2 x.f3[j].f3 (7 - (d - 1)) plain) true := by
  intro e
  induction e with
  | zero => intro i he hi _ j h1 h2; omega
  | succ e ih =>
    intro i he hi ht j h1 h2
    have hlt : i < x.f3.length := by omega
    have w1 : wrap64 ((i : Int) + 1) = ((i + 1 : Nat) : Int) := by rw [w64 (by omega) (by omega)]; rfl
    have w2 : wrap64 (7 - d + 1) = 7 - (d - 1) := by rw [w64 (by omega) (by omega)]; omega
    obtain ⟨b, hs, _⟩ := h _ (rdI_in x.f3 i hlt) (d - 1) (by omega) (by omega) plain
    obtain ⟨c, cs, _⟩ := okExprS x hx h d d0 d6 plain e (i + 1) (by omega) (by omega)
    have hv : Ev (fun k => spec_l10Ok.l0 k (7 - d) plain (i : Int) x.f0 x.f1 x.f2 x.f3) (if b = true then c else false) := by
      refine Ev.step (f := fun k => (spec_l10Ok.f k (rd_T29 x.f3 (i : Int)).f0 (rd_T29 x.f3 (i : Int)).f1 (rd_T29 x.f3 (i : Int)).f2 (rd_T29 x.f3 (i : Int)).f3 (7 - (d - 1)) plain).bind fun t => if t = true then spec_l10Ok.l0 k (7 - d) plain ((i + 1 : Nat) : Int) x.f0 x.f1 x.f2 x.f3 else some false) (fun k => ?_) (Ev.bind hs ?_)
      · simp only [spec_l10Ok.l0, w1, w2]; rw [if_pos (by omega), if_pos (by omega)]
      · cases b with
        | true => exact Ev.congr (fun k => by rw [if_pos rfl]) cs
        | false => exact Ev.congr (f := fun _ => some false) (fun k => by rw [if_neg (by decide)]) (Ev.now _)
    have hb := Ev.one hv ht
    cases b with
    | false => simp at hb
    | true =>
      rw [if_pos rfl] at hb; subst hb
      by_cases g : i = j
      · subst g; rw [rdI_at x.f3 i hlt] at hs; exact hs
      · exact ih (i + 1) (by omega) (by omega) cs j (by omega) h2
theorem okExpr_well (x : S29) (g : Small x) : ∀ d : Int, 0 ≤ d → d ≤ 6 → ∀ plain : Bool, Ev (fun k => spec_l10Ok.f k x.f0 x.f1 x.f2 x.f3 (7 - d) plain) true → WellT x := by
  induction g with
  | mk x h2 h3 h ih =>
    intro d d0 d6 plain ht
    have hk : ∀ z ∈ x.f3, OkT z := fun z hz => okExpr_ok z (h z hz)
    by_cases hd : 1 ≤ d
    · obtain ⟨b, b1, b2⟩ := okExprS x h3 hk d hd d6 plain x.f3.length 0 (by omega) (by omega)
      have e1 := l10Ok_node x.f0 x.f1 x.f2 x.f3 h2 (7 - d) plain b (fun _ _ _ => by simpa using b1)
      have e2 := Ev.one e1 ht
      have e3 : (hereB x.f0 x.f1 (nameB x.f2) (x.f2.toList != []) x.f3.length && !deepPlain x.f0 plain && decide (7 - d ≤ 6)) = true := by
        by_cases q : (hereB x.f0 x.f1 (nameB x.f2) (x.f2.toList != []) x.f3.length && !deepPlain x.f0 plain && decide (7 - d ≤ 6)) = true
        · exact q
        · rw [if_neg q] at e2; cases e2
      rw [if_pos e3] at e2; subst e2
      refine WellT.mk x (by revert e3; cases hereB x.f0 x.f1 (nameB x.f2) (x.f2.toList != []) x.f3.length <;> simp) (fun y hy => ?_)
      obtain ⟨j, hj, rfl⟩ := List.getElem_of_mem hy
      exact ih _ hy (d - 1) (by omega) (by omega) plain (okS_parts x h3 hk d hd d6 plain x.f3.length 0 (by omega) (by omega) (by simpa using b1) j (by omega) hj)
    · have e1 := l10Ok_node x.f0 x.f1 x.f2 x.f3 h2 (7 - d) plain false (fun _ _ h => by omega)
      have e2 := Ev.one e1 ht
      simp at e2
theorem Ev.yes {α : Type} {f g : Nat → Option α} {r : α} (h : Ev f r) : Ev (fun k => if true = true then f k else g k) r := Ev.congr (fun k => if_pos rfl) h
theorem two_same (K a b : Int) : impl_compute.f K a b = spec_l11Two.f K a b := rfl
theorem word_bits (a b : Int) (ha : 0 ≤ a ∧ a ≤ 65535) (hb : 0 ≤ b ∧ b ≤ 65535) : (0 ≤ bits .and .i64 a b ∧ bits .and .i64 a b ≤ 65535) ∧ (0 ≤ bits .or .i64 a b ∧ bits .or .i64 a b ≤ 65535) := by
  obtain ⟨x, rfl⟩ := Int.eq_ofNat_of_zero_le ha.1
  obtain ⟨y, rfl⟩ := Int.eq_ofNat_of_zero_le hb.1
  have hx : x < 2 ^ 16 := by omega
  have hy : y < 2 ^ 16 := by omega
  have k1 : (BitVec.ofInt 64 (x : Int) &&& BitVec.ofInt 64 (y : Int)).toNat = x &&& y := by
    rw [BitVec.ofInt_natCast, BitVec.ofInt_natCast, BitVec.toNat_and, BitVec.toNat_ofNat, BitVec.toNat_ofNat, Nat.mod_eq_of_lt (by omega), Nat.mod_eq_of_lt (by omega)]
  have k2 : (BitVec.ofInt 64 (x : Int) ||| BitVec.ofInt 64 (y : Int)).toNat = x ||| y := by
    rw [BitVec.ofInt_natCast, BitVec.ofInt_natCast, BitVec.toNat_or, BitVec.toNat_ofNat, BitVec.toNat_ofNat, Nat.mod_eq_of_lt (by omega), Nat.mod_eq_of_lt (by omega)]
  have l1 : x &&& y < 2 ^ 16 := Nat.and_lt_two_pow _ hy
  have l2 : x ||| y < 2 ^ 16 := Nat.or_lt_two_pow hx hy
  have e1 : bits .and .i64 (x : Int) (y : Int) = ((x &&& y : Nat) : Int) := by
    show IntKind.i64.wrap ((BitVec.ofInt 64 (x : Int) &&& BitVec.ofInt 64 (y : Int)).toNat : Nat) = _
    rw [k1, IntKind.wrap_i64]
    omega
  have e2 : bits .or .i64 (x : Int) (y : Int) = ((x ||| y : Nat) : Int) := by
    show IntKind.i64.wrap ((BitVec.ofInt 64 (x : Int) ||| BitVec.ofInt 64 (y : Int)).toNat : Nat) = _
    rw [k2, IntKind.wrap_i64]
    omega
  rw [e1, e2]
  omega
theorem word_div (a b : Int) (ha : 0 ≤ a ∧ a ≤ 65535) (hb : 0 ≤ b ∧ b ≤ 65535) : 0 ≤ wrap64 (Int.tdiv a b) ∧ wrap64 (Int.tdiv a b) ≤ 65535 := by
  have h0 : 0 ≤ Int.tdiv a b := Int.tdiv_nonneg ha.1 hb.1
  have h1 : Int.tdiv a b ≤ a := Int.tdiv_le_self _ ha.1
  rw [w64 (by omega) (by omega)]
  omega
theorem two_ok (K a b : Int) : ∃ r : Int × Bool, spec_l11Two.f K a b = some r ∧ (r.2 = false → r.1 = 0) ∧ (0 ≤ a ∧ a ≤ 65535 → 0 ≤ b ∧ b ≤ 65535 → 0 ≤ r.1 ∧ r.1 ≤ 65535) := by
  unfold spec_l11Two.f
  simp only [spec_Wrap.f, Option.bind_some, and65535]
  have hd := word_div a b
  have hb := word_bits a b
  repeat' split
  all_goals refine ⟨_, rfl, by simp, fun h1 h2 => ?_⟩
  all_goals first | (exact (hb h1 h2).1) | (exact (hb h1 h2).2) | (exact hd h1 h2) | (dsimp only; omega)
def WorthT (l1 : List Int) (l2 : List ByteArray) (l3 : List Int) (x : S29) : Prop := ∃ n : Int, ∃ b : Bool, Ev (fun k => spec_l11Worth.f k x.f0 x.f1 x.f2 x.f3 l1 l2 l3) (n, b) ∧ Ev (fun k => impl_worth.f k x.f0 x.f1 x.f2 x.f3 l1 l2 l3) (if b = true then n else 0, b) ∧ (b = true → 0 ≤ n ∧ n ≤ 65535)
theorem worth_ok (l1 : List Int) (l2 : List ByteArray) (l3 : List Int) (h1 : l1.length ≤ 1048576) (h2 : l2.length ≤ 1048576) (h3 : l3.length ≤ 1048576) (x : S29) (g : WellT x) : WorthT l1 l2 l3 x := by
  induction g with
  | mk x hh hw ih =>
    obtain ⟨K, N, s, l⟩ := x
    simp only at hh hw ih
    unfold WorthT
    simp only
    have no : ∀ n : Int, Ev (fun k => spec_l11Worth.f k K N s l l1 l2 l3) (n, false) → Ev (fun k => impl_worth.f k K N s l l1 l2 l3) (0, false) → ∃ n : Int, ∃ b : Bool, Ev (fun k => spec_l11Worth.f k K N s l l1 l2 l3) (n, b) ∧ Ev (fun k => impl_worth.f k K N s l l1 l2 l3) (if b = true then n else 0, b) ∧ (b = true → 0 ≤ n ∧ n ≤ 65535) := fun n a b => ⟨n, false, a, by simpa using b, by simp⟩
    have yes : ∀ n : Int, (0 ≤ n ∧ n ≤ 65535) → Ev (fun k => spec_l11Worth.f k K N s l l1 l2 l3) (n, true) → Ev (fun k => impl_worth.f k K N s l l1 l2 l3) (n, true) → ∃ n : Int, ∃ b : Bool, Ev (fun k => spec_l11Worth.f k K N s l l1 l2 l3) (n, b) ∧ Ev (fun k => impl_worth.f k K N s l l1 l2 l3) (if b = true then n else 0, b) ∧ (b = true → 0 ≤ n ∧ n ≤ 65535) := fun n hn a b => ⟨n, true, a, by simpa using b, fun _ => hn⟩
    have wd : ∀ n : Int, 0 ≤ bits .and .i64 n 65535 ∧ bits .and .i64 n 65535 ≤ 65535 := fun n => by rw [and65535]; omega
    by_cases k1 : K = 1
    · subst k1
      have hN : 0 ≤ N ∧ N ≤ 65535 := by
        simp only [hereB] at hh
        rw [if_pos trivial] at hh
        simp only [Bool.and_eq_true, decide_eq_true_eq] at hh
        exact hh.1.1
      exact yes N hN (Ev.step (f := fun _ => some (N, true)) (fun k => by simp only [spec_l11Worth.f]; rw [if_pos trivial]) (Ev.now _)) (Ev.step (f := fun _ => some (N, true)) (fun k => by simp only [impl_worth.f]; rw [if_pos trivial]) (Ev.now _))
    by_cases k11 : K = 11
    · subst k11
      have hN : 0 ≤ N := by
        simp only [hereB] at hh
        rw [if_neg (by decide), if_neg (by decide), if_pos trivial] at hh
        simp only [Bool.and_eq_true, decide_eq_true_eq] at hh
        exact hh.1.1.1
      by_cases c : N < (l1.length : Int)
      · refine yes (bits .and .i64 (rd l1 N) 65535) (wd _) (Ev.step (f := fun _ => some (bits .and .i64 (rd l1 N) 65535, true)) (fun k => ?_) (Ev.now _)) (Ev.step (f := fun _ => some (bits .and .i64 (rd l1 N) 65535, true)) (fun k => ?_) (Ev.now _))
        · simp only [spec_l11Worth.f, spec_Wrap.f]; rw [if_neg k1, if_pos trivial, if_neg (by omega), if_pos hN, if_pos c]; rfl
        · simp only [impl_worth.f, impl_Wrap.f]; rw [if_neg k1, if_pos trivial, if_pos c, if_pos hN]; rfl
      · refine no 0 (Ev.step (f := fun _ => some (0, false)) (fun k => ?_) (Ev.now _)) (Ev.step (f := fun _ => some (0, false)) (fun k => ?_) (Ev.now _))
        · simp only [spec_l11Worth.f]; rw [if_neg k1, if_pos trivial, if_pos (by omega)]
        · simp only [impl_worth.f]; rw [if_neg k1, if_pos trivial, if_neg c]
    by_cases k12 : K = 12
    · subst k12
      obtain ⟨r, hr, r0, r1, r2, r3⟩ := l9At_ok l2 h2 s
      obtain ⟨q, hq, q0, q1, q2, q3⟩ := placeIn_ok l2 h2 s
      have e : q = r := by
        by_cases c : 0 ≤ r
        · have a := q3 r.toNat (by omega) (r2 c (by omega))
          have b := r3 q.toNat (by omega) (q2 a.1 (by omega))
          omega
        · by_cases c2 : 0 ≤ q
          · have b := r3 q.toNat (by omega) (q2 c2 (by omega)); omega
          · omega
      subst e
      have wl : wrap64 ((l3.length : Int) - 1) = l3.length - 1 := w64 (by omega) (by omega)
      by_cases c : 0 ≤ q ∧ q ≤ (l3.length : Int) - 1
      · refine yes (bits .and .i64 (rd l3 q) 65535) (wd _) (Ev.step (fun k => by simp only [spec_l11Worth.f, spec_Wrap.f]; rw [if_neg k1, if_neg k11, if_pos trivial]) (Ev.bind hr ?_)) (Ev.step (fun k => by simp only [impl_worth.f, impl_Wrap.f, within_ok, wl, Option.bind_some]; rw [if_neg k1, if_neg k11, if_pos trivial]) (Ev.bind hq ?_))
        · refine Ev.congr (f := fun _ => some (bits .and .i64 (rd l3 q) 65535, true)) (fun k => ?_) (Ev.now _)
          rw [if_neg (by omega), if_neg (by omega), if_pos c.1, if_pos (by omega)]; rfl
        · refine Ev.congr (f := fun _ => some (bits .and .i64 (rd l3 q) 65535, true)) (fun k => ?_) (Ev.now _)
          rw [if_pos (decide_eq_true c), if_pos c.1, if_pos (by omega)]
      · refine no 0 (Ev.step (fun k => by simp only [spec_l11Worth.f, spec_Wrap.f]; rw [if_neg k1, if_neg k11, if_pos trivial]) (Ev.bind hr ?_)) (Ev.step (fun k => by simp only [impl_worth.f, impl_Wrap.f, within_ok, wl, Option.bind_some]; rw [if_neg k1, if_neg k11, if_pos trivial]) (Ev.bind hq ?_))
        · refine Ev.congr (f := fun _ => some (0, false)) (fun k => ?_) (Ev.now _)
          by_cases c2 : q < 0
          · rw [if_pos c2]
          · rw [if_neg c2, if_pos (by omega)]
        · refine Ev.congr (f := fun _ => some (0, false)) (fun k => ?_) (Ev.now _)
          rw [if_neg (by rw [decide_eq_true_eq]; exact c)]
    by_cases k3 : K = 3
    · subst k3
      refine no 0 (Ev.step (f := fun _ => some (0, false)) (fun k => ?_) (Ev.now _)) (Ev.step (f := fun _ => some (0, false)) (fun k => ?_) (Ev.now _))
      · simp only [spec_l11Worth.f]; rw [if_neg k1, if_neg k11, if_neg k12, if_pos trivial]
      · simp only [impl_worth.f]; rw [if_neg k1, if_neg k11, if_neg k12, if_neg (by decide), if_pos trivial]
    by_cases k2 : K = 2
    · subst k2
      refine no 0 (Ev.step (f := fun _ => some (0, false)) (fun k => ?_) (Ev.now _)) (Ev.step (f := fun _ => some (0, false)) (fun k => ?_) (Ev.now _))
      · simp only [spec_l11Worth.f]; rw [if_neg k1, if_neg k11, if_neg k12, if_neg k3, if_pos trivial]
      · simp only [impl_worth.f]; rw [if_neg k1, if_neg k11, if_neg k12, if_pos trivial]
    have hlen : (K = 4 ∧ l.length = 1) ∨ (K ≠ 4 ∧ l.length = 2) := by
      simp only [hereB] at hh
      rw [if_neg k1, if_neg (by omega), if_neg k11, if_neg k3] at hh
      by_cases k4 : K = 4
      · rw [if_pos k4] at hh; simp only [Bool.and_eq_true, decide_eq_true_eq] at hh; exact .inl ⟨k4, hh.2⟩
      · rw [if_neg k4] at hh
        by_cases k5 : 5 ≤ K ∧ K ≤ 10
        · rw [if_pos k5] at hh; simp only [Bool.and_eq_true, decide_eq_true_eq] at hh; exact .inr ⟨k4, hh.2⟩
        · rw [if_neg k5] at hh; cases hh
    have p0 : 0 < l.length := by omega
    obtain ⟨a, ab, hs, ai, ar⟩ := ih _ (rdI_in l 0 p0)
    have ss : ∀ r, Ev (fun k => if K = 4 then ((spec_Wrap.f (wrap64 (-a))).bind fun t165 => (some (t165, ab))) else (if 1 < (l.length : Int) then ((spec_l11Worth.f k ((rd_T29 l 1).f0) ((rd_T29 l 1).f1) ((rd_T29 l 1).f2) ((rd_T29 l 1).f3) l1 l2 l3).bind fun bt167 => (if ab = true then (if bt167.2 = true then ((spec_l11Two.f K a bt167.1).bind fun bt169 => (some (bt169.1, bt169.2))) else (some (0, false))) else (some (0, false)))) else (none))) r → Ev (fun k => spec_l11Worth.f k K N s l l1 l2 l3) r := by
      intro r hr
      refine Ev.step (f := fun k => (spec_l11Worth.f k ((rd_T29 l 0).f0) ((rd_T29 l 0).f1) ((rd_T29 l 0).f2) ((rd_T29 l 0).f3) l1 l2 l3).bind fun bt163 => (if K = 4 then ((spec_Wrap.f (wrap64 (-bt163.1))).bind fun t165 => (some (t165, bt163.2))) else (if 1 < (l.length : Int) then ((spec_l11Worth.f k ((rd_T29 l 1).f0) ((rd_T29 l 1).f1) ((rd_T29 l 1).f2) ((rd_T29 l 1).f3) l1 l2 l3).bind fun bt167 => (if bt163.2 = true then (if bt167.2 = true then ((spec_l11Two.f K bt163.1 bt167.1).bind fun bt169 => (some (bt169.1, bt169.2))) else (some (0, false))) else (some (0, false)))) else (none)))) (fun k => by simp only [spec_l11Worth.f]; rw [if_neg k1, if_neg k11, if_neg k12, if_neg k3, if_neg k2, if_pos (by omega)]) (Ev.bind hs hr)
    have is : ∀ r, Ev (fun k => if ab = true then (if K = 4 then ((impl_Wrap.f (wrap64 (-(if ab = true then a else 0)))).bind fun t234 => (some (t234, true))) else (if 1 < (l.length : Int) then ((impl_worth.f k ((rd_T29 l 1).f0) ((rd_T29 l 1).f1) ((rd_T29 l 1).f2) ((rd_T29 l 1).f3) l1 l2 l3).bind fun bt236 => (if bt236.2 = true then ((impl_compute.f K (if ab = true then a else 0) bt236.1).bind fun bt238 => (some (bt238.1, bt238.2))) else (some (0, false)))) else (none))) else (some (0, false))) r → Ev (fun k => impl_worth.f k K N s l l1 l2 l3) r := by
      intro r hr
      refine Ev.step (f := fun k => (impl_worth.f k ((rd_T29 l 0).f0) ((rd_T29 l 0).f1) ((rd_T29 l 0).f2) ((rd_T29 l 0).f3) l1 l2 l3).bind fun bt232 => (if bt232.2 = true then (if K = 4 then ((impl_Wrap.f (wrap64 (-bt232.1))).bind fun t234 => (some (t234, true))) else (if 1 < (l.length : Int) then ((impl_worth.f k ((rd_T29 l 1).f0) ((rd_T29 l 1).f1) ((rd_T29 l 1).f2) ((rd_T29 l 1).f3) l1 l2 l3).bind fun bt236 => (if bt236.2 = true then ((impl_compute.f K bt232.1 bt236.1).bind fun bt238 => (some (bt238.1, bt238.2))) else (some (0, false)))) else (none))) else (some (0, false)))) (fun k => by simp only [impl_worth.f]; rw [if_neg k1, if_neg k11, if_neg k12, if_neg k2, if_neg k3, if_pos (by omega)]) (Ev.bind ai hr)
    rcases hlen with ⟨k4, _⟩ | ⟨k4, hl⟩
    · subst k4
      cases ab with
      | true => exact yes (bits .and .i64 (wrap64 (-a)) 65535) (wd _) (ss _ (Ev.now _)) (is _ (Ev.now _))
      | false => exact no (bits .and .i64 (wrap64 (-a)) 65535) (ss _ (Ev.now _)) (is _ (Ev.now _))
    · obtain ⟨b, bb, bs, bi, br⟩ := ih _ (rdI_in l 1 (by omega))
      have s2 : ∀ r, Ev (fun k => if ab = true then (if bb = true then ((spec_l11Two.f K a b).bind fun bt169 => (some (bt169.1, bt169.2))) else (some (0, false))) else (some (0, false))) r → Ev (fun k => spec_l11Worth.f k K N s l l1 l2 l3) r := by
        intro r hr
        refine ss r (Ev.congr (f := fun k => (spec_l11Worth.f k ((rd_T29 l 1).f0) ((rd_T29 l 1).f1) ((rd_T29 l 1).f2) ((rd_T29 l 1).f3) l1 l2 l3).bind fun bt167 => (if ab = true then (if bt167.2 = true then ((spec_l11Two.f K a bt167.1).bind fun bt169 => (some (bt169.1, bt169.2))) else (some (0, false))) else (some (0, false)))) (fun k => by rw [if_neg k4, if_pos (by omega)]) (Ev.bind bs hr))
      have i2 : ab = true → ∀ r, Ev (fun k => if bb = true then ((spec_l11Two.f K a (if bb = true then b else 0)).bind fun bt238 => (some (bt238.1, bt238.2))) else (some (0, false))) r → Ev (fun k => impl_worth.f k K N s l l1 l2 l3) r := by
        intro e r hr
        subst e
        refine is r (Ev.congr (f := fun k => (impl_worth.f k ((rd_T29 l 1).f0) ((rd_T29 l 1).f1) ((rd_T29 l 1).f2) ((rd_T29 l 1).f3) l1 l2 l3).bind fun bt236 => (if bt236.2 = true then ((impl_compute.f K a bt236.1).bind fun bt238 => (some (bt238.1, bt238.2))) else (some (0, false)))) (fun k => by rw [if_pos rfl, if_neg k4, if_pos (by omega), if_pos rfl]) (Ev.bind bi ?_))
        simp only [two_same]
        exact hr
      cases ab with
      | false => exact no 0 (s2 _ (Ev.now _)) (is _ (Ev.now _))
      | true =>
        cases bb with
        | false => exact no 0 (s2 _ (Ev.now _)) (i2 rfl _ (Ev.now _))
        | true =>
          obtain ⟨r, hr, hz, hq⟩ := two_ok K a b
          have e1 := s2 (r.1, r.2) (Ev.congr (f := fun _ => some (r.1, r.2)) (fun k => by rw [if_pos rfl, if_pos rfl, hr]; rfl) (Ev.now _))
          have e2 := i2 rfl (r.1, r.2) (Ev.congr (f := fun _ => some (r.1, r.2)) (fun k => by rw [if_pos rfl, if_pos rfl, hr]; rfl) (Ev.now _))
          refine ⟨r.1, r.2, e1, ?_, fun _ => hq (ar rfl) (br rfl)⟩
          cases c : r.2 with
          | true => rw [c] at e2; simpa using e2
          | false => rw [c, hz c] at e2; simpa using e2
def Evp (P : Nat → Prop) : Prop := ∃ K, ∀ k, K ≤ k → P k
theorem Evp.and {P Q : Nat → Prop} (h : Evp P) (g : Evp Q) : Evp (fun k => P k ∧ Q k) := by
  obtain ⟨K, h⟩ := h
  obtain ⟨L, g⟩ := g
  exact ⟨K + L, fun k hk => ⟨h k (by omega), g k (by omega)⟩⟩
theorem Evp.of {α : Type} {f : Nat → Option α} {r : α} (h : Ev f r) : Evp (fun k => f k = some r) := h
theorem Evp.imp {P Q : Nat → Prop} (h : Evp P) (g : ∀ k, P k → Q k) : Evp Q := by
  obtain ⟨K, h⟩ := h
  exact ⟨K, fun k hk => g k (h k hk)⟩
theorem small_tup (x : S29) (h : Small x) : Small (⟨x.f0, x.f1, x.f2, x.f3⟩ : S29) := by cases x; exact h
def Facts (lb : List Int) : Prop := laws_big.f lb = some true ∨ ∃ (k : Nat) (e0 e1 : Int) (e2 : ByteArray) (le : List S29) (z0 z1 : Int) (z2 : ByteArray) (lz : List S29) (ll : List S29) (p0 p1 : Int) (p2 : ByteArray) (lp : List S29) (u0 u1 : Int) (u2 : ByteArray) (lu : List S29) (lx ly : List Int) (n : Int) (ok : Bool), laws_big.f lb = some false ∧ DrewPut k lb e0 e1 e2 le z0 z1 z2 lz ll ∧ impl_Put.f k e0 e1 e2 le z0 z1 z2 lz [(⟨#[97]⟩ : ByteArray), (⟨#[98]⟩ : ByteArray)] ll = some (p0, p1, p2, lp) ∧ spec_Put.f k e0 e1 e2 le z0 z1 z2 lz [(⟨#[97]⟩ : ByteArray), (⟨#[98]⟩ : ByteArray)] ll = some (p0, p1, p2, lp) ∧ DrewWorth k lb u0 u1 u2 lu lx ly ∧ impl_Worth.f k u0 u1 u2 lu lx [(⟨#[103]⟩ : ByteArray), (⟨#[104]⟩ : ByteArray)] ly = some (n, ok) ∧ spec_Worth.f k u0 u1 u2 lu lx [(⟨#[103]⟩ : ByteArray), (⟨#[104]⟩ : ByteArray)] ly = some (n, ok) ∧ impl_SameExpr.f k p0 p1 p2 lp p0 p1 p2 lp = some true ∧ (0 ≤ n ∧ n ≤ 65535) ∧ ((p0 == 0) = true ∨ ((p0 == 0) = false ∧ impl_ExprOk.f k p0 p1 p2 lp = some true))
theorem putTail_ok (l : List Int) (hl : l.length ≤ 1048576) (s0 t0 : Int) (a0 : 0 ≤ s0) (a1 : s0 ≤ l.length) : ∃ e z : S29, Evp (fun k => PutTail k l s0 t0 e.f0 e.f1 e.f2 e.f3 z.f0 z.f1 z.f2 z.f3) ∧ Small e ∧ Small z := by
  obtain ⟨e, s, t, h1, se, b0, b1⟩ := any_in l hl s0 a0 a1 t0
  obtain ⟨z, s', t', h2, sz, c0, c1⟩ := draw_in l hl false 1 (by omega) s t b0 b1
  exact ⟨e, z, ((Evp.of h1).and (Evp.of h2)).imp (fun k h => ⟨s, t, s', t', h.1, h.2⟩), se, sz⟩
theorem drewPut_ok (l : List Int) (hl : l.length ≤ 1048576) : ∃ (e z : S29) (ll : List S29), Evp (fun k => DrewPut k l e.f0 e.f1 e.f2 e.f3 z.f0 z.f1 z.f2 z.f3 ll) ∧ Small e ∧ Small z ∧ (∀ v ∈ ll, Small v) ∧ ll.length ≤ 2 := by
  obtain ⟨t0, hn⟩ := l1New_ev l hl
  obtain ⟨p, s1, t1, h1, sp, b0, b1⟩ := draw_in l hl false 2 (by omega) 0 t0 (by omega) (by omega)
  obtain ⟨q, s2, t2, h2, sq, c0, c1⟩ := draw_in l hl false 1 (by omega) s1 t1 b0 b1
  obtain ⟨x, s3, t3, h3, x0, x1, _, d0, d1⟩ := l1Below_ok l hl s2 c0 c1 t2 10
  have base := ((Evp.of hn).and (Evp.of h1)).and (Evp.of h2)
  by_cases e0 : x = 0
  · obtain ⟨e, z, hT, se, sz⟩ := putTail_ok l hl s3 t3 d0 d1
    refine ⟨e, z, [⟨q.f0, q.f1, q.f2, q.f3⟩], (base.and hT).imp (fun k h => ⟨l, 0, t0, s1, t1, s2, t2, s3, t3, x, p.f0, p.f1, p.f2, p.f3, q.f0, q.f1, q.f2, q.f3, h.1.1.1, h.1.1.2, h.1.2, h3, .inl ⟨e0, rfl, h.2⟩⟩), se, sz, ?_, by simp⟩
    intro v hv
    rw [List.mem_singleton.1 hv]; exact small_tup q sq
  by_cases e1 : x = 1
  · obtain ⟨v, s4, t4, h4, sv, f0, f1⟩ := any_in l hl s3 d0 d1 t3
    obtain ⟨e, z, hT, se, sz⟩ := putTail_ok l hl s4 t4 f0 f1
    refine ⟨e, z, [⟨v.f0, v.f1, v.f2, v.f3⟩, ⟨q.f0, q.f1, q.f2, q.f3⟩], ((base.and (Evp.of h4)).and hT).imp (fun k h => ⟨l, 0, t0, s1, t1, s2, t2, s3, t3, x, p.f0, p.f1, p.f2, p.f3, q.f0, q.f1, q.f2, q.f3, h.1.1.1.1, h.1.1.1.2, h.1.1.2, h3, .inr (.inl ⟨e1, v.f0, v.f1, v.f2, v.f3, s4, t4, h.1.2, rfl, h.2⟩)⟩), se, sz, ?_, by simp⟩
    intro y hy
    rcases List.mem_cons.1 hy with e | e
    · rw [e]; exact small_tup v sv
    · rw [List.mem_singleton.1 e]; exact small_tup q sq
  · obtain ⟨e, z, hT, se, sz⟩ := putTail_ok l hl s3 t3 d0 d1
    refine ⟨e, z, [⟨p.f0, p.f1, p.f2, p.f3⟩, ⟨q.f0, q.f1, q.f2, q.f3⟩], (base.and hT).imp (fun k h => ⟨l, 0, t0, s1, t1, s2, t2, s3, t3, x, p.f0, p.f1, p.f2, p.f3, q.f0, q.f1, q.f2, q.f3, h.1.1.1, h.1.1.2, h.1.2, h3, .inr (.inr ⟨⟨e0, e1⟩, rfl, h.2⟩)⟩), se, sz, ?_, by simp⟩
    intro y hy
    rcases List.mem_cons.1 hy with e | e
    · rw [e]; exact small_tup p sp
    · rw [List.mem_singleton.1 e]; exact small_tup q sq
theorem l1Num_in (l : List Int) (hl : l.length ≤ 1048576) (i : Int) (h0 : 0 ≤ i) (h1 : i ≤ l.length) (h : Int) : ∃ x i' h', spec_l1Num.f l i h = some (x, i', h') ∧ 0 ≤ i' ∧ i' ≤ l.length := by
  unfold spec_l1Num.f
  obtain ⟨x, i', h', e, x0, x1, _, i0, i1⟩ := l1Below_ok l hl i h0 h1 h 65536
  rw [e, Option.bind_some]
  obtain ⟨y, j', g', e2, hy, j0, j1⟩ := l1Int_ok l hl i' i0 i1 h' [0, 1, 2, (-1), 7, 8, 255, 256, 32767, 32768, 65535, 65536, (-32768), (-65537), 9223372036854775807, (-9223372036854775808), x] (by simp)
  rw [e2, Option.bind_some]
  exact ⟨_, _, _, rfl, j0, j1⟩
theorem flat_ok (l : List Int) (hl : l.length ≤ 1048576) (s0 t0 : Int) (a0 : 0 ≤ s0) (a1 : s0 ≤ l.length) : DrawnE l (fun k => spec_l11Flat.f k l s0 t0 3) := by
  obtain ⟨e, s, t, h1, se, b0, b1⟩ := draw_in l hl false 3 (by omega) s0 t0 a0 a1
  obtain ⟨m, hm⟩ := l10Num_ok 7
  obtain ⟨r, r1, _, sr⟩ := fill_ok ⟨11, 1, ⟨#[]⟩, []⟩ (Small.mk _ (by decide) (by decide) (fun y hy => by cases hy)) [(⟨#[97]⟩ : ByteArray), (⟨#[98]⟩ : ByteArray), (⟨#[99]⟩ : ByteArray)] [(⟨1, m, (⟨#[]⟩ : ByteArray), ([] : List S29)⟩ : S29), (⟨11, 0, (⟨#[]⟩ : ByteArray), ([] : List S29)⟩ : S29), (⟨12, 0, (⟨#[103]⟩ : ByteArray), ([] : List S29)⟩ : S29)] (by decide) rfl (fun v hv => by
    simp only [List.mem_cons, List.not_mem_nil, or_false] at hv
    rcases hv with rfl | rfl | rfl
    · exact Small.mk _ (by show (0 : Nat) ≤ _; omega) (by show (0 : Nat) ≤ _; omega) (fun y hy => by cases hy)
    · exact Small.mk _ (by show (0 : Nat) ≤ _; omega) (by show (0 : Nat) ≤ _; omega) (fun y hy => by cases hy)
    · exact Small.mk _ (by show (1 : Nat) ≤ _; omega) (by show (0 : Nat) ≤ _; omega) (fun y hy => by cases hy)) e se
  refine ⟨r, s, t, ?_, sr, b0, b1⟩
  have h2 : Ev (fun k => spec_l10Draw.f k l s0 t0 3 false) (e.f0, e.f1, e.f2, e.f3, s, t) := h1
  simp only [spec_l11Flat.f, hm, Option.bind_some]
  exact Ev.bind h2 (Ev.bind r1 (Ev.now _))
theorem drewWorth_ok (l : List Int) (hl : l.length ≤ 1048576) : ∃ (u : S29) (lx ly : List Int), Evp (fun k => DrewWorth k l u.f0 u.f1 u.f2 u.f3 lx ly) ∧ Small u ∧ lx.length ≤ 3 ∧ ly.length ≤ 2 := by
  obtain ⟨t0, hn⟩ := l1New_ev l hl
  obtain ⟨f, s1, t1, hf, sf, a0, a1⟩ := flat_ok l hl 0 t0 (by omega) (by omega)
  obtain ⟨b, s2, t2, ho, b0, b1⟩ := l1Once_in l hl s1 a0 a1 t1 6
  obtain ⟨u, s3, t3, c0, c1, su, hu⟩ : ∃ (u : S29) (s3 t3 : Int), 0 ≤ s3 ∧ s3 ≤ l.length ∧ Small u ∧ Evp (fun k => (spec_l1Once.f l s1 t1 6 = some (false, s3, t3) ∧ u.f0 = f.f0 ∧ u.f1 = f.f1 ∧ u.f2 = f.f2 ∧ u.f3 = f.f3) ∨ (∃ s2 t2 : Int, spec_l1Once.f l s1 t1 6 = some (true, s2, t2) ∧ spec_l10Any.f k l s2 t2 = some (u.f0, u.f1, u.f2, u.f3, s3, t3))) := by
    cases b with
    | false => exact ⟨f, s2, t2, b0, b1, sf, ⟨0, fun k _ => .inl ⟨ho, rfl, rfl, rfl, rfl⟩⟩⟩
    | true =>
      obtain ⟨v, s3, t3, hv, sv, c0, c1⟩ := any_in l hl s2 b0 b1 t2
      exact ⟨v, s3, t3, c0, c1, sv, (Evp.of hv).imp (fun k h => .inr ⟨s2, t2, ho, h⟩)⟩
  obtain ⟨x1, i1, j1, e1, _, _, p1, q1⟩ := l1Word_in l hl s3 c0 c1 t3
  obtain ⟨x2, i2, j2, e2, _, _, p2, q2⟩ := l1Word_in l hl i1 p1 q1 j1
  obtain ⟨x3, i3, j3, e3, p3, q3⟩ := l1Num_in l hl i2 p2 q2 j2
  obtain ⟨n1, i4, j4, e4, m4, p4, q4⟩ := l1Int_ok l hl i3 p3 q3 j3 [3, 3, 3, 1] (by decide)
  obtain ⟨y1, i5, j5, e5, _, _, p5, q5⟩ := l1Word_in l hl i4 p4 q4 j4
  obtain ⟨y2, i6, j6, e6, p6, q6⟩ := l1Num_in l hl i5 p5 q5 j5
  obtain ⟨n2, i7, j7, e7, m7, p7, q7⟩ := l1Int_ok l hl i6 p6 q6 j6 [2, 2, 2, 1] (by decide)
  have r1 : 0 ≤ n1 ∧ n1 ≤ 3 := by simp at m4; omega
  have r2 : 0 ≤ n2 ∧ n2 ≤ 2 := by simp at m7; omega
  refine ⟨u, [x1, x2, x3].take n1.toNat, [y1, y2].take n2.toNat, ((Evp.of hn).and ((Evp.of hf).and hu)).imp (fun k h => ⟨l, 0, t0, s1, t1, fun i => [s3, i1, i2, i3, i4, i5, i6, i7].getD i 0, fun i => [t3, j1, j2, j3, j4, j5, j6, j7].getD i 0, f.f0, f.f1, f.f2, f.f3, x1, x2, x3, n1, y1, y2, n2, h.1, h.2.1, h.2.2, rfl, rfl, e1, e2, e3, e4, e5, e6, e7, r1, r2⟩), su, by simp; omega, by simp; omega⟩
theorem FnPutIn (lb : List Int) (_ : lb.length ≤ maxLen) (hl : lb.length * 1 ≤ 140737488351232) (hw : ∀ x ∈ lb, (Lit.int .u8 x).wf = true) : Facts lb := by
  unfold Facts laws_big.f
  by_cases hb : (lb.length : Int) > 1048576
  · exact .inl (by rw [show decide ((lb.length : Int) > 1048576) = true from decide_eq_true hb])
  have hl0 : lb.length ≤ 1048576 := by omega
  obtain ⟨e, z, ll, h1, se, sz, sl, ll2⟩ := drewPut_ok lb hl0
  obtain ⟨p, hs, hi, sp, hp⟩ := put_ok e z se sz [(⟨#[97]⟩ : ByteArray), (⟨#[98]⟩ : ByteArray)] ll (by decide) (by omega) sl
  obtain ⟨u, lx, ly, h2, su, lx3, ly2⟩ := drewWorth_ok lb hl0
  have q2 := same_self p sp
  obtain ⟨o, o1, o2⟩ := okExpr_ok u su 6 (by omega) (by omega) false
  obtain ⟨m, t, ws, wi, wr⟩ : ∃ m : Int, ∃ t : Bool, Ev (fun k => spec_Worth.f k u.f0 u.f1 u.f2 u.f3 lx [(⟨#[103]⟩ : ByteArray), (⟨#[104]⟩ : ByteArray)] ly) (m, t) ∧ Ev (fun k => impl_Worth.f k u.f0 u.f1 u.f2 u.f3 lx [(⟨#[103]⟩ : ByteArray), (⟨#[104]⟩ : ByteArray)] ly) (m, t) ∧ 0 ≤ m ∧ m ≤ 65535 := by
    have a1 : Ev (fun k => spec_ExprOk.f k u.f0 u.f1 u.f2 u.f3) o := Ev.bind o1 (Ev.now _)
    have a2 : Ev (fun k => impl_ExprOk.f k u.f0 u.f1 u.f2 u.f3) o := Ev.bind o2 (Ev.now _)
    simp only [spec_Worth.f, impl_Worth.f]
    cases o with
    | false => exact ⟨0, false, Ev.bind a1 (Ev.now _), Ev.bind a2 (Ev.now _), by omega⟩
    | true =>
      obtain ⟨n, c, cs, ci, cr⟩ := worth_ok lx [(⟨#[103]⟩ : ByteArray), (⟨#[104]⟩ : ByteArray)] ly (by omega) (by decide) (by omega) u (okExpr_well u su 6 (by omega) (by omega) false o1)
      cases c with
      | true => exact ⟨n, true, Ev.bind a1 (Ev.yes (Ev.bind cs (Ev.now _))), Ev.bind a2 (Ev.yes (Ev.bind ci (Ev.now _))), cr rfl⟩
      | false => exact ⟨0, false, Ev.bind a1 (Ev.yes (Ev.bind cs (Ev.now _))), Ev.bind a2 (Ev.yes (Ev.bind ci (Ev.now _))), by omega⟩
  have all := ((((h1.and (Evp.of hi)).and (Evp.of hs)).and h2).and ((Evp.of wi).and (Evp.of ws))).and (Evp.of q2)
  have fin : Evp (fun k => (p.f0 == 0) = true ∨ ((p.f0 == 0) = false ∧ impl_ExprOk.f k p.f0 p.f1 p.f2 p.f3 = some true)) := by
    by_cases c : p.f0 = 0
    · exact ⟨0, fun k _ => .inl (by rw [c]; rfl)⟩
    · exact (Evp.of (hp.resolve_left c)).imp (fun k h => .inr ⟨beq_false_of_ne c, h⟩)
  obtain ⟨k, hk⟩ := all.and fin
  have g := hk k (Nat.le_refl k)
  exact .inr ⟨k, e.f0, e.f1, e.f2, e.f3, z.f0, z.f1, z.f2, z.f3, ll, p.f0, p.f1, p.f2, p.f3, u.f0, u.f1, u.f2, u.f3, lx, ly, m, t, by rw [show decide ((lb.length : Int) > 1048576) = false from decide_eq_false hb], g.1.1.1.1.1.1, g.1.1.1.1.1.2, g.1.1.1.1.2, g.1.1.1.2, g.1.1.2.1, g.1.1.2.2, g.1.2, wr, g.2⟩

end Go.Proofs.Ytcpnhlhigpgonaa.Pure
