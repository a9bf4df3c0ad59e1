/- Proved: the law FnSameExprs, as a plain function, answers true at each code; no further conditions. -/
import Derived.Test.YtcpnhlhigpgonaaPFnSameExprsx1
import Derived.Test.YtcpnhlhigpgonaaPFnSameExprsx2
import Derived.Test.YtcpnhlhigpgonaaPFnSameExprsx3
import Derived.Test.YtcpnhlhigpgonaaPFnSameExprsx4
import Derived.Test.YtcpnhlhigpgonaaPFnSameExprsx5
import Derived.Test.YtcpnhlhigpgonaaPFnSameExprsx6
import Derived.Test.YtcpnhlhigpgonaaPFnSameExprsx7
import Derived.Test.YtcpnhlhigpgonaaPFnSameExprsx8
import Derived.Test.YtcpnhlhigpgonaaPFnSameExprsx9
import Derived.Test.YtcpnhlhigpgonaaPFnSameExprsx10
import Derived.Test.YtcpnhlhigpgonaaVCFnSameExprs
namespace Go.Proofs.Ytcpnhlhigpgonaa.Pure
open Go.RowKit Go.Proofs.Ytcpnhlhigpgonaa.PFnSameExprs Go.Proofs.YtcpnhlhigpgonaaW.PrintWords Go.Proofs.YtcpnhlhigpgonaaW.PrintLast Go.Proofs.Ytcpnhlhigpgonaa.Common
set_option linter.unusedVariables false
set_option linter.unusedSimpArgs false
/-- a tree, that is no wider than the laws look at. -/
inductive Small : S29 → Prop
  | mk (x : S29) (h2 : x.f2.size ≤ 1048576) (h3 : x.f3.length ≤ 1048576) (h : ∀ y ∈ x.f3, Small y) : Small x
theorem rdI_in (l : List S29) (i : Nat) (h : i < l.length) : rd_T29 l (i : Int) ∈ l := by
  have : rd_T29 l (i : Int) = l[i] := by simp [rd_T29, List.getD_eq_getElem?_getD, h]
  rw [this]; exact List.getElem_mem h
theorem rdI_at (l : List S29) (i : Nat) (h : i < l.length) : rd_T29 l (i : Int) = l[i] := by simp [rd_T29, List.getD_eq_getElem?_getD, h]
theorem Ev.none_step {α : Type} {g f : Nat → Option α} {r : α} (h : ∀ k, g (k + 1) = f k) (k : Ev f r) : Ev g r := Ev.step h k
/-- two results of one function are one. -/
theorem Ev.one {α : Type} {g : Nat → Option α} {r q : α} (h : Ev g r) (k : Ev g q) : r = q := by
  obtain ⟨K, h⟩ := h; obtain ⟨L, k⟩ := k
  have a := h (K + L) (by omega); have b := k (K + L) (by omega)
  rw [a] at b; exact Option.some.inj b
theorem rd_in (l : List Int) (i : Int) (h0 : 0 ≤ i) (h1 : i < l.length) : rd l i ∈ l := by
  have hlt : i.toNat < l.length := by omega
  have : rd l i = l[i.toNat] := by simp [rd, List.getD_eq_getElem?_getD, hlt]
  rw [this]; exact List.getElem_mem hlt
theorem l1New_ok (l : List Int) (hl : l.length ≤ 1048576) (k : Nat) (hk : l.length < k) : ∃ h, spec_l1New.f k l = some (l, 0, h) := by
  unfold spec_l1New.f
  generalize wrap64 (766766 + (l.length : Int)) = h
  have H : ∀ (r : Nat) k (h : Int) (i : Nat), l.length - i = r → i ≤ l.length → r < k → ∃ h', spec_l1New.l0 k l h i = some (l, 0, h') := by
    intro r
    induction r with
    | zero =>
      intro k h i hr hi hk
      obtain ⟨k, rfl⟩ : ∃ m, k = m + 1 := ⟨k - 1, by omega⟩
      exact ⟨h, by simp only [spec_l1New.l0]; rw [if_neg (by omega)]⟩
    | succ r ih =>
      intro k h i hr hi hk
      obtain ⟨k, rfl⟩ : ∃ m, k = m + 1 := ⟨k - 1, by omega⟩
      simp only [spec_l1New.l0]
      rw [if_pos (by omega)]
      by_cases h4 : (i : Int) < 4000
      · rw [if_pos h4, if_pos (by omega), w64 (x := (i : Int) + 1) (by omega) (by omega)]
        exact ih k _ (i + 1) (by omega) (by omega) (by omega)
      · rw [if_neg h4]; exact ⟨h, rfl⟩
  exact H l.length k h 0 (by omega) (by omega) hk
theorem l1Byte_ok (l : List Int) (hl : l.length ≤ 1048576) (i : Int) (h0 : 0 ≤ i) (h1 : i ≤ l.length) (h : Int) :
    ∃ x i' h', spec_l1Byte.f l i h = some (x, i', h') ∧ 0 ≤ x ∧ x ≤ 255 ∧ 0 ≤ i' ∧ i' ≤ l.length := by
  unfold spec_l1Byte.f
  simp only [and255]
  by_cases hi : i < (l.length : Int)
  · rw [if_pos hi, if_pos h0, w64 (x := i + 1) (by omega) (by omega)]
    exact ⟨_, _, _, rfl, by omega, by omega, by omega, by omega⟩
  · rw [if_neg hi]
    exact ⟨_, _, _, rfl, by omega, by omega, by omega, by omega⟩
theorem l1Below_ok (l : List Int) (hl : l.length ≤ 1048576) (i : Int) (h0 : 0 ≤ i) (h1 : i ≤ l.length) (h : Int) (n : Int) :
    ∃ x i' h', spec_l1Below.f l i h n = some (x, i', h') ∧ 0 ≤ x ∧ (0 < n → x < n) ∧ (n ≤ 0 → x = 0) ∧ 0 ≤ i' ∧ i' ≤ l.length := by
  unfold spec_l1Below.f
  by_cases hn : n ≤ 0
  · rw [if_pos hn]; exact ⟨_, _, _, rfl, by omega, by omega, by omega, by omega, by omega⟩
  rw [if_neg hn]
  by_cases hn2 : n ≤ 256
  · rw [if_pos hn2]
    obtain ⟨x, i', h', e, x0, x1, i0, i1⟩ := l1Byte_ok l hl i h0 h1 h
    rw [e]; simp only [Option.bind_some]; rw [if_neg (by omega), Int.tmod_eq_emod_of_nonneg x0]
    exact ⟨_, _, _, rfl, Int.emod_nonneg _ (by omega), fun _ => Int.emod_lt_of_pos _ (by omega), by omega, i0, i1⟩
  · rw [if_neg hn2]
    obtain ⟨x, i', h', e, x0, x1, i0, i1⟩ := l1Byte_ok l hl i h0 h1 h
    rw [e]; simp only [Option.bind_some]
    obtain ⟨y, j', g', e, y0, y1, j0, j1⟩ := l1Byte_ok l hl i' i0 i1 h'
    rw [e]; simp only [Option.bind_some]
    obtain ⟨z, k', f', e, z0, z1, k0, k1⟩ := l1Byte_ok l hl j' j0 j1 g'
    rw [e]; simp only [Option.bind_some]
    rw [if_neg (by omega), w64 (x := x * 65536) (by omega) (by omega), w64 (x := y * 256) (by omega) (by omega), w64 (x := x * 65536 + y * 256) (by omega) (by omega), w64 (x := x * 65536 + y * 256 + z) (by omega) (by omega), Int.tmod_eq_emod_of_nonneg (by omega)]
    exact ⟨_, _, _, rfl, Int.emod_nonneg _ (by omega), fun _ => Int.emod_lt_of_pos _ (by omega), by omega, k0, k1⟩
theorem l1Int_ok (l : List Int) (hl : l.length ≤ 1048576) (i : Int) (h0 : 0 ≤ i) (h1 : i ≤ l.length) (h : Int) (xs : List Int) (hx : 0 < xs.length) :
    ∃ x i' h', spec_l1Int.f l i h xs = some (x, i', h') ∧ x ∈ xs ∧ 0 ≤ i' ∧ i' ≤ l.length := by
  unfold spec_l1Int.f
  obtain ⟨x, i', h', e, x0, x1, _, i0, i1⟩ := l1Below_ok l hl i h0 h1 h (xs.length : Int)
  rw [e]; simp only [Option.bind_some]
  have := x1 (by omega)
  rw [if_pos x0, if_pos this]
  exact ⟨_, _, _, rfl, rd_in xs x x0 this, i0, i1⟩
theorem l1New_ev (l : List Int) (hl : l.length ≤ 1048576) : ∃ h, Ev (fun k => spec_l1New.f k l) (l, 0, h) := by
  obtain ⟨h, e⟩ := l1New_ok l hl (l.length + 1) (by omega)
  exact ⟨h, Ev.of (spec_l1New.mono l) e⟩
theorem rdB_in (l : List ByteArray) (i : Int) (h0 : 0 ≤ i) (h1 : i < l.length) : rdOf ByteArray.empty l i ∈ l := by
  have h : i.toNat < l.length := by omega
  have e : rdOf ByteArray.empty l i = l[i.toNat] := by simp [rdOf, List.getD_eq_getElem?_getD, h]
  rw [e]; exact List.getElem_mem h
theorem l1Word_in (l : List Int) (hl : l.length ≤ 1048576) (i : Int) (h0 : 0 ≤ i) (h1 : i ≤ l.length) (h : Int) : ∃ x i' h', spec_l1Word.f l i h = some (x, i', h') ∧ 0 ≤ i' ∧ i' ≤ l.length := by
  unfold spec_l1Word.f
  obtain ⟨x, i', h', e, _, _, _, i0, i1⟩ := l1Below_ok l hl i h0 h1 h 65536
  rw [e, Option.bind_some]
  obtain ⟨y, j', g', e2, _, j0, j1⟩ := l1Int_ok l hl i' i0 i1 h' [0, 1, 2, 3, 5, 8, 255, 32767, 32768, 65535, x] (by simp)
  rw [e2, Option.bind_some]
  exact ⟨_, _, _, rfl, j0, j1⟩
theorem l1Str_in (l : List Int) (hl : l.length ≤ 1048576) (i : Int) (h0 : 0 ≤ i) (h1 : i ≤ l.length) (h : Int) (xs : List ByteArray) (hx : 0 < xs.length) : ∃ s i' h', spec_l1Str.f l i h xs = some (s, i', h') ∧ s ∈ xs ∧ 0 ≤ i' ∧ i' ≤ l.length := by
  unfold spec_l1Str.f
  obtain ⟨x, i', h', e, x0, x1, _, i0, i1⟩ := l1Below_ok l hl i h0 h1 h (xs.length : Int)
  have x1 := x1 (by omega)
  rw [e, Option.bind_some, if_pos x0, if_pos x1]
  exact ⟨_, _, _, rfl, rdB_in xs x x0 x1, i0, i1⟩
theorem l1Once_in (l : List Int) (hl : l.length ≤ 1048576) (i : Int) (h0 : 0 ≤ i) (h1 : i ≤ l.length) (h : Int) (n : Int) : ∃ b i' h', spec_l1Once.f l i h n = some (b, i', h') ∧ 0 ≤ i' ∧ i' ≤ l.length := by
  unfold spec_l1Once.f
  obtain ⟨x, i', h', e, _, _, _, i0, i1⟩ := l1Below_ok l hl i h0 h1 h n
  rw [e, Option.bind_some]
  exact ⟨_, _, _, rfl, i0, i1⟩
def DrawnE (l : List Int) (f : Nat → Option (Int × Int × ByteArray × (List (S29)) × Int × Int)) : Prop := ∃ (e : S29) (i h : Int), Ev f (e.f0, e.f1, e.f2, e.f3, i, h) ∧ Small e ∧ 0 ≤ i ∧ i ≤ l.length
theorem small_eta {e : S29} (h : Small e) : Small (⟨e.f0, e.f1, e.f2, e.f3⟩ : S29) := by cases e; exact h
theorem DrawnE.congr {l : List Int} {f g : Nat → Option (Int × Int × ByteArray × (List (S29)) × Int × Int)} (h : DrawnE l f) (e : ∀ k, g k = f k) : DrawnE l g := by
  obtain ⟨x, i, h', a, b⟩ := h
  exact ⟨x, i, h', Ev.congr e a, b⟩
theorem DrawnE.step {l : List Int} {f g : Nat → Option (Int × Int × ByteArray × (List (S29)) × Int × Int)} (h : DrawnE l f) (e : ∀ k, g (k + 1) = f k) : DrawnE l g := by
  obtain ⟨x, i, h', a, b⟩ := h
  exact ⟨x, i, h', Ev.step e a, b⟩
theorem DrawnE.leaf {l : List Int} {f : Nat → Option (Int × Int × ByteArray × (List (S29)) × Int × Int)} (K N : Int) (s : ByteArray) (i h : Int) (e : ∀ k, f k = some (K, N, s, [], i, h)) (hs : s.size ≤ 1048576) (i0 : 0 ≤ i) (i1 : i ≤ l.length) : DrawnE l f :=
  ⟨⟨K, N, s, []⟩, i, h, Ev.congr (f := fun _ => some (K, N, s, [], i, h)) e (Ev.now _), Small.mk _ hs (Nat.zero_le _) (fun y hy => by cases hy), i0, i1⟩
theorem l10Num_ok (n : Int) : ∃ m, spec_l10Num.f n = some (1, m, (⟨#[]⟩ : ByteArray), ([] : List S29)) := by
  simp only [spec_l10Num.f, spec_Wrap.f, Option.bind_some]
  exact ⟨_, rfl⟩
theorem abc_small : ∀ s ∈ [(⟨#[97]⟩ : ByteArray), (⟨#[98]⟩ : ByteArray), (⟨#[99]⟩ : ByteArray)], s.size ≤ 1048576 := by decide +kernel
theorem gh_small : ∀ s ∈ [(⟨#[103]⟩ : ByteArray), (⟨#[104]⟩ : ByteArray)], s.size ≤ 1048576 := by decide +kernel
theorem any_small : ∀ s ∈ [(⟨#[]⟩ : ByteArray), (⟨#[97]⟩ : ByteArray), (⟨#[109, 111, 118]⟩ : ByteArray), (⟨#[65]⟩ : ByteArray)], s.size ≤ 1048576 := by decide +kernel
theorem leaf_j1 (l : List Int) (hl : l.length ≤ 1048576) (i : Int) (h0 : 0 ≤ i) (h1 : i ≤ l.length) (h : Int) (p b : Bool) (x : Int) : DrawnE l (fun k => spec_l10Leaf.j1 k p x b l i h) := by
  cases b with
  | true =>
    obtain ⟨s, i2, h2, e, hs, j0, j1⟩ := l1Str_in l hl i h0 h1 h [(⟨#[97]⟩ : ByteArray), (⟨#[98]⟩ : ByteArray), (⟨#[99]⟩ : ByteArray)] (by decide)
    refine DrawnE.step (DrawnE.leaf (f := fun _ => some (2, 0, s, [], i2, h2)) 2 0 s i2 h2 (fun k => rfl) (abc_small s hs) j0 j1) (fun k => ?_)
    rw [spec_l10Leaf.j1.eq_def]; simp only []; rw [if_pos trivial, e, Option.bind_some]
  | false =>
    by_cases c4 : x = 4
    · refine DrawnE.step (DrawnE.leaf (f := fun _ => some (3, 0, (⟨#[]⟩ : ByteArray), [], i, h)) 3 0 _ i h (fun k => rfl) (by decide) h0 h1) (fun k => ?_)
      rw [spec_l10Leaf.j1.eq_def]; simp only []; rw [if_neg (by decide), if_pos c4]
    · cases p with
      | true =>
        obtain ⟨w, i2, h2, e, j0, j1⟩ := l1Word_in l hl i h0 h1 h
        obtain ⟨m, em⟩ := l10Num_ok w
        refine DrawnE.step (DrawnE.leaf (f := fun _ => some (1, m, (⟨#[]⟩ : ByteArray), [], i2, h2)) 1 m _ i2 h2 (fun k => rfl) (by decide) j0 j1) (fun k => ?_)
        rw [spec_l10Leaf.j1.eq_def]; simp only []; rw [if_neg (by decide), if_neg c4, if_pos trivial, e, Option.bind_some, em, Option.bind_some]
      | false =>
        obtain ⟨b, i2, h2, e, j0, j1⟩ := l1Once_in l hl i h0 h1 h 2
        cases b with
        | true =>
          obtain ⟨y, i3, h3, e3, _, _, _, q0, q1⟩ := l1Below_ok l hl i2 j0 j1 h2 3
          refine DrawnE.step (DrawnE.leaf (f := fun _ => some (11, y, (⟨#[]⟩ : ByteArray), [], i3, h3)) 11 y _ i3 h3 (fun k => rfl) (by decide) q0 q1) (fun k => ?_)
          rw [spec_l10Leaf.j1.eq_def]; simp only []; rw [if_neg (by decide), if_neg c4, if_neg (by decide), e, Option.bind_some]; simp only [e3, if_true, Option.bind_some]
        | false =>
          obtain ⟨s, i3, h3, e3, hs, q0, q1⟩ := l1Str_in l hl i2 j0 j1 h2 [(⟨#[103]⟩ : ByteArray), (⟨#[104]⟩ : ByteArray)] (by decide)
          refine DrawnE.step (DrawnE.leaf (f := fun _ => some (12, 0, s, [], i3, h3)) 12 0 s i3 h3 (fun k => rfl) (gh_small s hs) q0 q1) (fun k => ?_)
          rw [spec_l10Leaf.j1.eq_def]; simp only []; rw [if_neg (by decide), if_neg c4, if_neg (by decide), e, Option.bind_some]; simp only [e3, Option.bind_some]; rw [if_neg (by decide)]
theorem leaf_j0 (l : List Int) (hl : l.length ≤ 1048576) (i : Int) (h0 : 0 ≤ i) (h1 : i ≤ l.length) (h : Int) (p b : Bool) (x : Int) : DrawnE l (fun k => spec_l10Leaf.j0 k p x b l i h) := by
  cases b with
  | true =>
    obtain ⟨w, i2, h2, e, _, j0, j1⟩ := l1Int_ok l hl i h0 h1 h [0, 1, 2, 5, 8, 100, 65535] (by decide)
    obtain ⟨m, em⟩ := l10Num_ok w
    refine DrawnE.step (DrawnE.leaf (f := fun _ => some (1, m, (⟨#[]⟩ : ByteArray), [], i2, h2)) 1 m _ i2 h2 (fun k => rfl) (by decide) j0 j1) (fun k => ?_)
    rw [spec_l10Leaf.j0.eq_def]; simp only []; rw [if_pos trivial, e, Option.bind_some, em, Option.bind_some]
  | false =>
    by_cases c2 : x = 2
    · exact DrawnE.step (leaf_j1 l hl i h0 h1 h p (x == 2) x) (fun k => by rw [spec_l10Leaf.j0.eq_def]; simp only []; rw [if_neg (by decide), if_pos c2])
    · exact DrawnE.step (leaf_j1 l hl i h0 h1 h p (x == 3) x) (fun k => by rw [spec_l10Leaf.j0.eq_def]; simp only []; rw [if_neg (by decide), if_neg c2])
theorem leaf_in (l : List Int) (hl : l.length ≤ 1048576) (i : Int) (h0 : 0 ≤ i) (h1 : i ≤ l.length) (h : Int) (p : Bool) : DrawnE l (fun k => spec_l10Leaf.f k l i h p) := by
  obtain ⟨x, i2, h2, e, _, _, _, j0, j1⟩ := l1Below_ok l hl i h0 h1 h 7
  by_cases c : x = 0
  · exact DrawnE.congr (leaf_j0 l hl i2 j0 j1 h2 p (x == 0) x) (fun k => by simp only [spec_l10Leaf.f]; rw [e, Option.bind_some, if_pos c])
  · exact DrawnE.congr (leaf_j0 l hl i2 j0 j1 h2 p (x == 1) x) (fun k => by simp only [spec_l10Leaf.f]; rw [e, Option.bind_some, if_neg c])
theorem draw_in (l : List Int) (hl : l.length ≤ 1048576) (p : Bool) : ∀ (d : Nat), d ≤ 100 → ∀ (i h : Int), 0 ≤ i → i ≤ l.length → DrawnE l (fun k => spec_l10Draw.f k l i h (d : Int) p) := by
  have yes : ∀ (d : Int) (i h : Int), 0 ≤ i → i ≤ l.length → DrawnE l (fun k => spec_l10Draw.j0 k d p true l i h) := by
    intro d i h h0 h1
    obtain ⟨e, i2, h2, a, b⟩ := leaf_in l hl i h0 h1 h p
    refine ⟨e, i2, h2, Ev.step (f := fun k => (spec_l10Leaf.f k l i h p).bind fun bt257 => (some (bt257.1, bt257.2.1, bt257.2.2.1, bt257.2.2.2.1, bt257.2.2.2.2.1, bt257.2.2.2.2.2))) (fun k => ?_) (Ev.bind a (Ev.now _)), b⟩
    rw [spec_l10Draw.j0.eq_def]; simp only []; rw [if_pos trivial]
  intro d
  induction d with
  | zero =>
    intro _ i h h0 h1
    exact DrawnE.step (yes 0 i h h0 h1) (fun k => by rw [spec_l10Draw.f.eq_def]; simp only []; rw [if_pos (by rfl)]; rfl)
  | succ d ih =>
    intro hd i h h0 h1
    obtain ⟨b, i2, h2, e, j0, j1⟩ := l1Once_in l hl i h0 h1 h 3
    have hne : ¬ ((d + 1 : Nat) : Int) = 0 := by omega
    have wd : wrap64 (((d + 1 : Nat) : Int) - 1) = (d : Int) := by rw [w64 (by omega) (by omega)]; omega
    refine DrawnE.step (f := fun k => spec_l10Draw.j0 k ((d + 1 : Nat) : Int) p b l i2 h2) ?_ (fun k => by rw [spec_l10Draw.f.eq_def]; simp only []; rw [if_neg hne, e, Option.bind_some])
    cases b with
    | true => exact yes _ i2 h2 j0 j1
    | false =>
      obtain ⟨K, i3, h3, e3, _, q0, q1⟩ := l1Int_ok l hl i2 j0 j1 h2 [5, 5, 5, 6, 6, 4, 7, 8, 9, 10] (by decide)
      obtain ⟨a, i4, h4, ea, sa, r0, r1⟩ := ih (by omega) i3 h3 q0 q1
      by_cases c4 : K = 4
      · refine ⟨⟨K, 0, (⟨#[]⟩ : ByteArray), [(⟨a.f0, a.f1, a.f2, a.f3⟩ : S29)]⟩, i4, h4, Ev.step (f := fun k => (spec_l10Draw.f k l i3 h3 (d : Int) p).bind fun bt271 => (some (K, 0, (⟨#[]⟩ : ByteArray), (([(⟨bt271.1, bt271.2.1, bt271.2.2.1, bt271.2.2.2.1⟩ : S29)] : List (S29))), bt271.2.2.2.2.1, bt271.2.2.2.2.2))) (fun k => ?_) (Ev.bind ea (Ev.now _)), Small.mk _ (by show (0 : Nat) ≤ _; omega) (by show (1 : Nat) ≤ _; omega) (fun y hy => ?_), r0, r1⟩
        · rw [spec_l10Draw.j0.eq_def]; simp only []; rw [if_neg (by decide), e3, Option.bind_some]; simp only [wd, if_pos c4]
        · rw [List.mem_singleton.1 hy]; exact small_eta sa
      · obtain ⟨b, i5, h5, eb, sb, s0, s1⟩ := ih (by omega) i4 h4 r0 r1
        refine ⟨⟨K, 0, (⟨#[]⟩ : ByteArray), [(⟨a.f0, a.f1, a.f2, a.f3⟩ : S29), (⟨b.f0, b.f1, b.f2, b.f3⟩ : S29)]⟩, i5, h5, Ev.step (f := fun k => (spec_l10Draw.f k l i3 h3 (d : Int) p).bind fun bt271 => ((spec_l10Draw.f k l bt271.2.2.2.2.1 bt271.2.2.2.2.2 (d : Int) p).bind fun bt283 => (some (K, 0, (⟨#[]⟩ : ByteArray), (([(⟨bt271.1, bt271.2.1, bt271.2.2.1, bt271.2.2.2.1⟩ : S29), (⟨bt283.1, bt283.2.1, bt283.2.2.1, bt283.2.2.2.1⟩ : S29)] : List (S29))), bt283.2.2.2.2.1, bt283.2.2.2.2.2)))) (fun k => ?_) (Ev.bind ea (Ev.bind eb (Ev.now _))), Small.mk _ (by show (0 : Nat) ≤ _; omega) (by show (2 : Nat) ≤ _; omega) (fun y hy => ?_), s0, s1⟩
        · rw [spec_l10Draw.j0.eq_def]; simp only []; rw [if_neg (by decide), e3, Option.bind_some]; simp only [wd, if_neg c4]
        · rcases List.mem_cons.1 hy with q | q
          · rw [q]; exact small_eta sa
          · rw [List.mem_singleton.1 q]; exact small_eta sb
theorem neg_in (l : List Int) : ∀ (d : Nat), d ≤ 100 → ∀ (e : S29) (i h : Int), Small e → 0 ≤ i → i ≤ l.length → DrawnE l (fun k => spec_l10Any.l0 k (d : Int) l i h e.f0 e.f1 e.f2 e.f3) := by
  intro d
  induction d with
  | zero =>
    intro _ e i h se h0 h1
    refine ⟨e, i, h, Ev.step (f := fun _ => some (e.f0, e.f1, e.f2, e.f3, i, h)) (fun k => ?_) (Ev.now _), se, h0, h1⟩
    rw [spec_l10Any.l0.eq_def]; simp only []; rw [if_neg (by omega)]
  | succ d ih =>
    intro hd e i h se h0 h1
    have wd : wrap64 (((d + 1 : Nat) : Int) - 1) = (d : Int) := by rw [w64 (by omega) (by omega)]; omega
    refine DrawnE.step (ih (by omega) ⟨4, 0, (⟨#[]⟩ : ByteArray), [(⟨e.f0, e.f1, e.f2, e.f3⟩ : S29)]⟩ i h (Small.mk _ (by show (0 : Nat) ≤ _; omega) (by show (1 : Nat) ≤ _; omega) (fun y hy => by rw [List.mem_singleton.1 hy]; exact small_eta se)) h0 h1) (fun k => ?_)
    rw [spec_l10Any.l0.eq_def]; simp only [wd]; rw [if_pos (by omega)]
theorem any_in (l : List Int) (hl : l.length ≤ 1048576) (i : Int) (h0 : 0 ≤ i) (h1 : i ≤ l.length) (h : Int) : DrawnE l (fun k => spec_l10Any.f k l i h) := by
  obtain ⟨p, i1, h1', e1, a0, a1⟩ := l1Once_in l hl i h0 h1 h 2
  obtain ⟨e, i2, h2, e2, se, b0, b1⟩ := draw_in l hl p 3 (by omega) i1 h1' a0 a1
  obtain ⟨x, i3, h3, e3, x0, x1, _, c0, c1⟩ := l1Below_ok l hl i2 b0 b1 h2 14
  have e2' : Ev (fun k => spec_l10Draw.f k l i1 h1' 3 p) (e.f0, e.f1, e.f2, e.f3, i2, h2) := e2
  have st : ∀ f : Nat → Option (Int × Int × ByteArray × (List (S29)) × Int × Int), DrawnE l f → (∀ k, (if x = 0 then ((spec_l1Below.f l i3 h3 14).bind fun bt311 => (some (bt311.1, e.f1, e.f2, e.f3, bt311.2.1, bt311.2.2))) else (if x = 1 then ((spec_l1Int.f l i3 h3 (([(-1), 1, 65536] : List Int))).bind fun bt317 => (some (e.f0, bt317.1, e.f2, e.f3, bt317.2.1, bt317.2.2))) else (if x = 2 then ((spec_l1Str.f l i3 h3 (([(⟨#[]⟩ : ByteArray), (⟨#[97]⟩ : ByteArray), (⟨#[109, 111, 118]⟩ : ByteArray), (⟨#[65]⟩ : ByteArray)] : List ByteArray))).bind fun bt323 => (some (e.f0, e.f1, bt323.1, e.f3, bt323.2.1, bt323.2.2))) else (if x = 3 then ((spec_l1Below.f l i3 h3 7).bind fun bt326 => (spec_l10Any.l0 k bt326.1 l bt326.2.1 bt326.2.2 e.f0 e.f1 e.f2 e.f3)) else (some (e.f0, e.f1, e.f2, e.f3, i3, h3)))))) = f k) → DrawnE l (fun k => spec_l10Any.f k l i h) := by
    intro f ⟨z, j, g, a, b⟩ hf
    refine ⟨z, j, g, ?_, b⟩
    refine Ev.congr (f := fun k => (spec_l10Draw.f k l i1 h1' 3 p).bind fun bt299 => ((spec_l1Below.f l bt299.2.2.2.2.1 bt299.2.2.2.2.2 14).bind fun bt308 => (if bt308.1 = 0 then ((spec_l1Below.f l bt308.2.1 bt308.2.2 14).bind fun bt311 => (some (bt311.1, bt299.2.1, bt299.2.2.1, bt299.2.2.2.1, bt311.2.1, bt311.2.2))) else (if bt308.1 = 1 then ((spec_l1Int.f l bt308.2.1 bt308.2.2 (([(-1), 1, 65536] : List Int))).bind fun bt317 => (some (bt299.1, bt317.1, bt299.2.2.1, bt299.2.2.2.1, bt317.2.1, bt317.2.2))) else (if bt308.1 = 2 then ((spec_l1Str.f l bt308.2.1 bt308.2.2 (([(⟨#[]⟩ : ByteArray), (⟨#[97]⟩ : ByteArray), (⟨#[109, 111, 118]⟩ : ByteArray), (⟨#[65]⟩ : ByteArray)] : List ByteArray))).bind fun bt323 => (some (bt299.1, bt299.2.1, bt323.1, bt299.2.2.2.1, bt323.2.1, bt323.2.2))) else (if bt308.1 = 3 then ((spec_l1Below.f l bt308.2.1 bt308.2.2 7).bind fun bt326 => (spec_l10Any.l0 k bt326.1 l bt326.2.1 bt326.2.2 bt299.1 bt299.2.1 bt299.2.2.1 bt299.2.2.2.1)) else (some (bt299.1, bt299.2.1, bt299.2.2.1, bt299.2.2.2.1, bt308.2.1, bt308.2.2)))))))) (fun k => ?_) (Ev.bind e2' ?_)
    · simp only [spec_l10Any.f]; rw [e1, Option.bind_some]
    · refine Ev.congr (fun k => ?_) a
      rw [e3, Option.bind_some]; exact hf k
  have hse := se
  cases hse with
  | mk _ s2 s3 sp =>
  by_cases k0 : x = 0
  · obtain ⟨y, i4, h4, e4, _, _, _, d0, d1⟩ := l1Below_ok l hl i3 c0 c1 h3 14
    exact st (fun _ => some (y, e.f1, e.f2, e.f3, i4, h4)) ⟨⟨y, e.f1, e.f2, e.f3⟩, i4, h4, Ev.now _, Small.mk _ s2 s3 sp, d0, d1⟩ (fun k => by rw [if_pos k0, e4, Option.bind_some])
  by_cases k1 : x = 1
  · obtain ⟨y, i4, h4, e4, _, d0, d1⟩ := l1Int_ok l hl i3 c0 c1 h3 [(-1), 1, 65536] (by decide)
    exact st (fun _ => some (e.f0, y, e.f2, e.f3, i4, h4)) ⟨⟨e.f0, y, e.f2, e.f3⟩, i4, h4, Ev.now _, Small.mk _ s2 s3 sp, d0, d1⟩ (fun k => by rw [if_neg k0, if_pos k1, e4, Option.bind_some])
  by_cases k2 : x = 2
  · obtain ⟨y, i4, h4, e4, hy, d0, d1⟩ := l1Str_in l hl i3 c0 c1 h3 [(⟨#[]⟩ : ByteArray), (⟨#[97]⟩ : ByteArray), (⟨#[109, 111, 118]⟩ : ByteArray), (⟨#[65]⟩ : ByteArray)] (by decide)
    exact st (fun _ => some (e.f0, e.f1, y, e.f3, i4, h4)) ⟨⟨e.f0, e.f1, y, e.f3⟩, i4, h4, Ev.now _, Small.mk _ (any_small y hy) s3 sp, d0, d1⟩ (fun k => by rw [if_neg k0, if_neg k1, if_pos k2, e4, Option.bind_some])
  by_cases k3 : x = 3
  · obtain ⟨y, i4, h4, e4, y0, y1, _, d0, d1⟩ := l1Below_ok l hl i3 c0 c1 h3 7
    have y1 := y1 (by omega)
    obtain ⟨n, rfl⟩ := Int.eq_ofNat_of_zero_le y0
    exact st (fun k => spec_l10Any.l0 k (n : Int) l i4 h4 e.f0 e.f1 e.f2 e.f3) (neg_in l n (by omega) e i4 h4 se d0 d1) (fun k => by rw [if_neg k0, if_neg k1, if_neg k2, if_pos k3, e4, Option.bind_some])
  · exact st (fun _ => some (e.f0, e.f1, e.f2, e.f3, i3, h3)) ⟨e, i3, h3, Ev.now _, se, c0, c1⟩ (fun k => by rw [if_neg k0, if_neg k1, if_neg k2, if_neg k3])
/-- both find the same of two small terms, whichever comes first; a term is as itself. -/
def SymT (x : S29) : Prop := ∀ y : S29, Small y → ∃ b, Ev (fun k => spec_SameExpr.f k x.f0 x.f1 x.f2 x.f3 y.f0 y.f1 y.f2 y.f3) b ∧ Ev (fun k => impl_SameExpr.f k x.f0 x.f1 x.f2 x.f3 y.f0 y.f1 y.f2 y.f3) b ∧ Ev (fun k => impl_SameExpr.f k y.f0 y.f1 y.f2 y.f3 x.f0 x.f1 x.f2 x.f3) b ∧ (x = y → b = true)
theorem spl0_step (x y : S29) (i : Nat) (h1 : i < x.f3.length) (h2 : i < y.f3.length) (hx : x.f3.length ≤ 1048576) (b c : Bool) (hs : Ev (fun k => spec_SameExpr.f k (rd_T29 x.f3 (i : Int)).f0 (rd_T29 x.f3 (i : Int)).f1 (rd_T29 x.f3 (i : Int)).f2 (rd_T29 x.f3 (i : Int)).f3 (rd_T29 y.f3 (i : Int)).f0 (rd_T29 y.f3 (i : Int)).f1 (rd_T29 y.f3 (i : Int)).f2 (rd_T29 y.f3 (i : Int)).f3) b)
    (hc : Ev (fun k => spec_SameExpr.l0 k ((i + 1 : Nat) : Int) x.f0 x.f1 x.f2 x.f3 y.f0 y.f1 y.f2 y.f3) c) : Ev (fun k => spec_SameExpr.l0 k (i : Int) x.f0 x.f1 x.f2 x.f3 y.f0 y.f1 y.f2 y.f3) (if b = true then c else false) := by
  have w1 : wrap64 ((i : Int) + 1) = ((i + 1 : Nat) : Int) := by rw [w64 (by omega) (by omega)]; rfl
  refine Ev.step (f := fun k => (spec_SameExpr.f k (rd_T29 x.f3 (i : Int)).f0 (rd_T29 x.f3 (i : Int)).f1 (rd_T29 x.f3 (i : Int)).f2 (rd_T29 x.f3 (i : Int)).f3 (rd_T29 y.f3 (i : Int)).f0 (rd_T29 y.f3 (i : Int)).f1 (rd_T29 y.f3 (i : Int)).f2 (rd_T29 y.f3 (i : Int)).f3).bind fun t => if t = true then spec_SameExpr.l0 k ((i + 1 : Nat) : Int) x.f0 x.f1 x.f2 x.f3 y.f0 y.f1 y.f2 y.f3 else some false) (fun k => ?_) (Ev.bind hs ?_)
  · simp only [spec_SameExpr.l0, w1]; rw [if_pos (by omega), if_pos (by omega), if_pos (by omega)]
  · cases b with
    | true => exact Ev.congr (fun k => by rw [if_pos rfl]) hc
    | false => exact Ev.congr (f := fun _ => some false) (fun k => by rw [if_neg (by decide)]) (Ev.now _)
theorem iml0_step (x y : S29) (i : Nat) (h1 : i < x.f3.length) (h2 : i < y.f3.length) (hx : x.f3.length ≤ 1048576) (b c : Bool) (hs : Ev (fun k => impl_SameExpr.f k (rd_T29 x.f3 (i : Int)).f0 (rd_T29 x.f3 (i : Int)).f1 (rd_T29 x.f3 (i : Int)).f2 (rd_T29 x.f3 (i : Int)).f3 (rd_T29 y.f3 (i : Int)).f0 (rd_T29 y.f3 (i : Int)).f1 (rd_T29 y.f3 (i : Int)).f2 (rd_T29 y.f3 (i : Int)).f3) b)
    (hc : Ev (fun k => impl_SameExpr.l0 k x.f3 (x.f3.length : Int) ((i + 1 : Nat) : Int) y.f0 y.f1 y.f2 y.f3) c) : Ev (fun k => impl_SameExpr.l0 k x.f3 (x.f3.length : Int) (i : Int) y.f0 y.f1 y.f2 y.f3) (if b = true then c else false) := by
  have w1 : wrap64 ((i : Int) + 1) = ((i + 1 : Nat) : Int) := by rw [w64 (by omega) (by omega)]; rfl
  refine Ev.step (f := fun k => (impl_SameExpr.f k (rd_T29 x.f3 (i : Int)).f0 (rd_T29 x.f3 (i : Int)).f1 (rd_T29 x.f3 (i : Int)).f2 (rd_T29 x.f3 (i : Int)).f3 (rd_T29 y.f3 (i : Int)).f0 (rd_T29 y.f3 (i : Int)).f1 (rd_T29 y.f3 (i : Int)).f2 (rd_T29 y.f3 (i : Int)).f3).bind fun t => if t = true then impl_SameExpr.l0 k x.f3 (x.f3.length : Int) ((i + 1 : Nat) : Int) y.f0 y.f1 y.f2 y.f3 else some false) (fun k => ?_) (Ev.bind hs ?_)
  · simp only [impl_SameExpr.l0, w1]; rw [if_pos (by omega), if_pos (by omega), if_pos (by omega), if_pos (by omega)]
  · cases b with
    | true => exact Ev.congr (fun k => by rw [if_pos rfl]) hc
    | false => exact Ev.congr (f := fun _ => some false) (fun k => by rw [if_neg (by decide)]) (Ev.now _)
theorem sym_l0 (x y : S29) (hx : x.f3.length ≤ 1048576) (hl : x.f3.length = y.f3.length) (h : ∀ z ∈ x.f3, SymT z) (hy : ∀ z ∈ y.f3, Small z) : ∀ (d i : Nat), x.f3.length - i = d → i ≤ x.f3.length →
    ∃ b, Ev (fun k => spec_SameExpr.l0 k (i : Int) x.f0 x.f1 x.f2 x.f3 y.f0 y.f1 y.f2 y.f3) b ∧ Ev (fun k => impl_SameExpr.l0 k x.f3 (x.f3.length : Int) (i : Int) y.f0 y.f1 y.f2 y.f3) b ∧ Ev (fun k => impl_SameExpr.l0 k y.f3 (y.f3.length : Int) (i : Int) x.f0 x.f1 x.f2 x.f3) b ∧ (x.f3 = y.f3 → b = true) := by
  intro d
  induction d with
  | zero =>
    intro i hd hi
    refine ⟨true, Ev.step (f := fun _ => some true) (fun k => ?_) (Ev.now _), Ev.step (f := fun _ => some true) (fun k => ?_) (Ev.now _), Ev.step (f := fun _ => some true) (fun k => ?_) (Ev.now _), fun _ => rfl⟩
    · simp only [spec_SameExpr.l0]; rw [if_neg (by omega)]
    · simp only [impl_SameExpr.l0]; rw [if_neg (by omega)]
    · simp only [impl_SameExpr.l0]; rw [if_neg (by omega)]
  | succ d ih =>
    intro i hd hi
    have hlt : i < x.f3.length := by omega
    have hlt2 : i < y.f3.length := by omega
    have hy3 : y.f3.length ≤ 1048576 := by omega
    obtain ⟨b, b1, b2, b3, b4⟩ := h _ (rdI_in x.f3 i hlt) _ (hy _ (rdI_in y.f3 i hlt2))
    obtain ⟨c, c1, c2, c3, c4⟩ := ih (i + 1) (by omega) (by omega)
    refine ⟨if b = true then c else false, spl0_step x y i hlt hlt2 hx b c b1 c1, iml0_step x y i hlt hlt2 hx b c b2 c2, iml0_step y x i hlt2 hlt hy3 b c b3 c3, fun e => ?_⟩
    rw [b4 (by rw [e]), c4 e]; rfl
theorem sym_ok (x : S29) (g : Small x) : SymT x := by
  induction g with
  | mk x h2 h3 h ih =>
    intro y gy
    have hy : ∀ z ∈ y.f3, Small z := by cases gy; assumption
    have spno : ∀ a c : S29, Ev (fun k => spec_SameExpr.j0 k true a.f0 a.f1 a.f2 a.f3 c.f0 c.f1 c.f2 c.f3) false := fun a c => Ev.step (f := fun _ => some false) (fun k => by simp only [spec_SameExpr.j0]; rw [if_pos trivial]) (Ev.now _)
    have imno : ∀ a c : S29, Ev (fun k => impl_SameExpr.j0 k true a.f0 a.f1 a.f2 a.f3 c.f0 c.f1 c.f2 c.f3) false := fun a c => Ev.step (f := fun _ => some false) (fun k => by simp only [impl_SameExpr.j0]; rw [if_pos trivial]) (Ev.now _)
    by_cases a : x.f0 = y.f0
    · by_cases b : x.f1 = y.f1
      · by_cases c : x.f2.toList = y.f2.toList
        · by_cases e : x.f3.length = y.f3.length
          · obtain ⟨q, q1, q2, q3, q4⟩ := sym_l0 x y h3 e ih hy x.f3.length 0 (by omega) (by omega)
            have hb : ((x.f3.length : Int) != (y.f3.length : Int)) = false := by rw [e]; exact bne_self_eq_false _
            have hb2 : ((y.f3.length : Int) != (x.f3.length : Int)) = false := by rw [e]; exact bne_self_eq_false _
            refine ⟨q, Ev.step (f := fun k => spec_SameExpr.j0 k false x.f0 x.f1 x.f2 x.f3 y.f0 y.f1 y.f2 y.f3) (fun k => ?_) (Ev.step (f := fun k => spec_SameExpr.l0 k ((0 : Nat) : Int) x.f0 x.f1 x.f2 x.f3 y.f0 y.f1 y.f2 y.f3) (fun k => ?_) q1), Ev.step (f := fun k => impl_SameExpr.j0 k false x.f0 x.f1 x.f2 x.f3 y.f0 y.f1 y.f2 y.f3) (fun k => ?_) (Ev.step (f := fun k => impl_SameExpr.l0 k x.f3 (x.f3.length : Int) ((0 : Nat) : Int) y.f0 y.f1 y.f2 y.f3) (fun k => ?_) q2),
              Ev.step (f := fun k => impl_SameExpr.j0 k false y.f0 y.f1 y.f2 y.f3 x.f0 x.f1 x.f2 x.f3) (fun k => ?_) (Ev.step (f := fun k => impl_SameExpr.l0 k y.f3 (y.f3.length : Int) ((0 : Nat) : Int) x.f0 x.f1 x.f2 x.f3) (fun k => ?_) q3), fun e2 => q4 (by rw [e2])⟩
            · simp only [spec_SameExpr.f]; rw [if_pos a, if_pos b, if_pos c, hb]
            · simp only [spec_SameExpr.j0]; rw [if_neg (by decide)]; rfl
            · simp only [impl_SameExpr.f]; rw [if_pos a, if_pos b, if_pos c, hb]
            · simp only [impl_SameExpr.j0]; rw [if_neg (by decide)]; rfl
            · simp only [impl_SameExpr.f]; rw [if_pos a.symm, if_pos b.symm, if_pos c.symm, hb2]
            · simp only [impl_SameExpr.j0]; rw [if_neg (by decide)]; rfl
          · have hb : ((x.f3.length : Int) != (y.f3.length : Int)) = true := by rw [bne_iff_ne]; omega
            have hb2 : ((y.f3.length : Int) != (x.f3.length : Int)) = true := by rw [bne_iff_ne]; omega
            refine ⟨false, Ev.step (fun k => ?_) (spno x y), Ev.step (fun k => ?_) (imno x y), Ev.step (fun k => ?_) (imno y x), fun e2 => absurd (by rw [e2]) e⟩
            · simp only [spec_SameExpr.f]; rw [if_pos a, if_pos b, if_pos c, hb]
            · simp only [impl_SameExpr.f]; rw [if_pos a, if_pos b, if_pos c, hb]
            · simp only [impl_SameExpr.f]; rw [if_pos a.symm, if_pos b.symm, if_pos c.symm, hb2]
        · refine ⟨false, Ev.step (fun k => ?_) (spno x y), Ev.step (fun k => ?_) (imno x y), Ev.step (fun k => ?_) (imno y x), fun e2 => absurd (by rw [e2]) c⟩
          · simp only [spec_SameExpr.f]; rw [if_pos a, if_pos b, if_neg c]
          · simp only [impl_SameExpr.f]; rw [if_pos a, if_pos b, if_neg c]
          · simp only [impl_SameExpr.f]; rw [if_pos a.symm, if_pos b.symm, if_neg (fun h => c h.symm)]
      · refine ⟨false, Ev.step (fun k => ?_) (spno x y), Ev.step (fun k => ?_) (imno x y), Ev.step (fun k => ?_) (imno y x), fun e2 => absurd (by rw [e2]) b⟩
        · simp only [spec_SameExpr.f]; rw [if_pos a, if_neg b]
        · simp only [impl_SameExpr.f]; rw [if_pos a, if_neg b]
        · simp only [impl_SameExpr.f]; rw [if_pos a.symm, if_neg (fun h => b h.symm)]
    · refine ⟨false, Ev.step (fun k => ?_) (spno x y), Ev.step (fun k => ?_) (imno x y), Ev.step (fun k => ?_) (imno y x), fun e2 => absurd (by rw [e2]) a⟩
      · simp only [spec_SameExpr.f]; rw [if_neg a]
      · simp only [impl_SameExpr.f]; rw [if_neg a]
      · simp only [impl_SameExpr.f]; rw [if_neg (fun h => a h.symm)]
theorem bal (s : ByteArray) : s.toList = s.data.toList := ByteArray.toList_eq s
theorem bt_b (s : ByteArray) (i : Int) : wrap64 (bt s i) = bt s i := by have := bt_range s i; exact w64 (by omega) (by omega)
theorem l1In_ok (a b c : Int) : spec_l1In.f a b c = some (decide (b ≤ a ∧ a ≤ c)) := by
  unfold spec_l1In.f
  by_cases h : a ≥ b
  · have h' : b ≤ a := h
    rw [if_pos h]; simp [h']
  · have h' : ¬ b ≤ a := h
    rw [if_neg h]; simp [h']
theorem within_ok (a b c : Int) : impl_within.f a b c = some (decide (b ≤ a ∧ a ≤ c)) := by
  unfold impl_within.f
  by_cases h : a ≥ b
  · have h' : b ≤ a := h
    rw [if_pos h]; simp [h']
  · have h' : ¬ b ≤ a := h
    rw [if_neg h]; simp [h']
theorem bal_length (s : ByteArray) : s.toList.length = s.size := by rw [bal, Array.length_toList]; rfl
/-- a loop that looks for the first place that is as asked. -/
theorem search_loop (n : Nat) (hn : n ≤ 4611686018427387904) (p : Nat → Prop) [DecidablePred p] (L : Nat → Int → Option Int)
    (hs : ∀ k (i : Nat), i < n → L (k + 1) (i : Int) = if p i then some (i : Int) else L k (wrap64 ((i : Int) + 1))) (he : ∀ k (i : Nat), ¬ i < n → L (k + 1) (i : Int) = some (-1)) :
    ∃ r : Int, Ev (fun k => L k 0) r ∧ -1 ≤ r ∧ r < n ∧ (0 ≤ r → p r.toNat) ∧ (∀ j : Nat, j < n → p j → 0 ≤ r ∧ r ≤ j) := by
  have H : ∀ (d i : Nat), n - i = d → i ≤ n → ∃ r : Int, Ev (fun k => L k (i : Int)) r ∧ -1 ≤ r ∧ r < n ∧ (0 ≤ r → p r.toNat) ∧ (∀ j : Nat, i ≤ j → j < n → p j → 0 ≤ r ∧ r ≤ j) := by
    intro d
    induction d with
    | zero =>
      intro i hd hi
      exact ⟨-1, Ev.step (f := fun _ => some (-1)) (fun k => he k i (by omega)) (Ev.now _), by omega, by omega, fun h => by omega, fun j h1 h2 => by omega⟩
    | succ d ih =>
      intro i hd hi
      by_cases hp : p i
      · exact ⟨i, Ev.step (f := fun _ => some (i : Int)) (fun k => by rw [hs k i (by omega), if_pos hp]) (Ev.now _), by omega, by omega, fun _ => by simpa using hp, fun j h1 h2 _ => by omega⟩
      · obtain ⟨r, hr, r0, r1, r2, r3⟩ := ih (i + 1) (by omega) (by omega)
        refine ⟨r, Ev.step (f := fun k => L k ((i + 1 : Nat) : Int)) (fun k => ?_) hr, r0, r1, r2, fun j h1 h2 h3 => ?_⟩
        · rw [hs k i (by omega), if_neg hp, w64 (by omega) (by omega)]; rfl
        · rcases Nat.eq_or_lt_of_le h1 with e | e
          · subst e; exact absurd h3 hp
          · exact r3 j e h2 h3
  obtain ⟨r, hr, r0, r1, r2, r3⟩ := H n 0 (by omega) (by omega)
  exact ⟨r, by simpa using hr, r0, r1, r2, fun j h1 h2 => r3 j (Nat.zero_le _) h1 h2⟩
theorem rdB (l : List ByteArray) (i : Nat) (h : i < l.length) : rdOf ByteArray.empty l (i : Int) = l[i] := by simp [rdOf, List.getD_eq_getElem?_getD, h]
/-- is a text among others? -/
def amongB (l : List ByteArray) (s : ByteArray) : Bool := l.any fun x => x.toList == s.toList
theorem l9At_ok (l : List ByteArray) (hl : l.length ≤ 1048576) (s : ByteArray) : ∃ r : Int, Ev (fun k => spec_l9At.f k l s) r ∧ -1 ≤ r ∧ r < l.length ∧ (0 ≤ r → ∀ h : r.toNat < l.length, l[r.toNat].toList = s.toList) ∧ (∀ j : Nat, ∀ h : j < l.length, l[j].toList = s.toList → 0 ≤ r ∧ r ≤ j) := by
  obtain ⟨r, hr, r0, r1, r2, r3⟩ := search_loop l.length (by omega) (fun i => ∃ h : i < l.length, l[i].toList = s.toList) (fun k i => spec_l9At.l0 k l s i) (fun k i hi => by
    simp only [spec_l9At.l0]; rw [if_pos (by omega), if_pos (by omega), rdB l i hi]
    by_cases e : l[i].toList = s.toList
    · rw [if_pos e, if_pos ⟨hi, e⟩]
    · rw [if_neg e, if_neg (fun h => e h.2)]) (fun k i hi => by simp only [spec_l9At.l0]; rw [if_neg (by omega)])
  exact ⟨r, hr, r0, r1, fun h _ => (r2 h).2, fun j hj e => r3 j hj ⟨hj, e⟩⟩
theorem placeIn_ok (l : List ByteArray) (hl : l.length ≤ 1048576) (s : ByteArray) : ∃ r : Int, Ev (fun k => impl_placeIn.f k l s) r ∧ -1 ≤ r ∧ r < l.length ∧ (0 ≤ r → ∀ h : r.toNat < l.length, l[r.toNat].toList = s.toList) ∧ (∀ j : Nat, ∀ h : j < l.length, l[j].toList = s.toList → 0 ≤ r ∧ r ≤ j) := by
  obtain ⟨r, hr, r0, r1, r2, r3⟩ := search_loop l.length (by omega) (fun i => ∃ h : i < l.length, l[i].toList = s.toList) (fun k i => impl_placeIn.l0 k s l (l.length : Int) i) (fun k i hi => by
    simp only [impl_placeIn.l0]; rw [if_pos (by omega), if_pos (by omega), if_pos (by omega), rdB l i hi]
    by_cases e : l[i].toList = s.toList
    · rw [if_pos e, if_pos ⟨hi, e⟩]
    · rw [if_neg e, if_neg (fun h => e h.2)]) (fun k i hi => by simp only [impl_placeIn.l0]; rw [if_neg (by omega)])
  exact ⟨r, hr, r0, r1, fun h _ => (r2 h).2, fun j hj e => r3 j hj ⟨hj, e⟩⟩
theorem among_iff (l : List ByteArray) (s : ByteArray) (r : Int) (h0 : -1 ≤ r) (h1 : r < l.length) (h2 : 0 ≤ r → ∀ h : r.toNat < l.length, l[r.toNat].toList = s.toList) (h3 : ∀ j : Nat, ∀ h : j < l.length, l[j].toList = s.toList → 0 ≤ r ∧ r ≤ j) : 0 ≤ r ↔ amongB l s = true := by
  unfold amongB
  rw [List.any_eq_true]
  constructor
  · intro h
    have hlt : r.toNat < l.length := by omega
    exact ⟨_, List.getElem_mem hlt, by rw [h2 h hlt]; exact beq_self_eq_true _⟩
  · rintro ⟨x, hx, e⟩
    obtain ⟨j, hj, rfl⟩ := List.getElem_of_mem hx
    exact (h3 j hj (by simpa using e)).1
def opW23 : List ByteArray := (impl_opWords.f).getD []
def regW8 : List ByteArray := (impl_regWords.f).getD []
theorem opW23_ok : impl_opWords.f = some opW23 := rfl
theorem regW8_ok : impl_regWords.f = some regW8 := rfl
theorem kept31_ok : spec_l9Kept.f = some (opW23 ++ regW8) := rfl
def keptB (s : ByteArray) : Bool := amongB (opW23 ++ regW8) s
theorem keptB_or (s : ByteArray) : keptB s = (amongB opW23 s || amongB regW8 s) := by unfold keptB amongB; rw [List.any_append]
theorem specKept_ok (s : ByteArray) : ∃ r : Int, Ev (fun k => spec_l9At.f k (opW23 ++ regW8) s) r ∧ (0 ≤ r ↔ keptB s = true) := by
  obtain ⟨r, hr, r0, r1, r2, r3⟩ := l9At_ok (opW23 ++ regW8) (by decide) s
  exact ⟨r, hr, among_iff _ _ _ r0 r1 r2 r3⟩
theorem isKept_ok (s : ByteArray) : Ev (fun k => impl_isKept.f k s) (keptB s) := by
  obtain ⟨r, hr, r0, r1, r2, r3⟩ := placeIn_ok opW23 (by decide) s
  obtain ⟨q, hq, q0, q1, q2, q3⟩ := placeIn_ok regW8 (by decide) s
  have e1 := among_iff _ _ _ r0 r1 r2 r3
  have e2 := among_iff _ _ _ q0 q1 q2 q3
  simp only [impl_isKept.f, opW23_ok, regW8_ok, Option.bind_some]
  refine Ev.bind hr ?_
  rw [keptB_or]
  by_cases h : r ≥ 0
  · refine Ev.congr (f := fun _ => some (amongB opW23 s || amongB regW8 s)) (fun k => ?_) (Ev.now _)
    rw [if_pos h, e1.1 h]; rfl
  · refine Ev.congr (f := fun k => (impl_placeIn.f k regW8 s).bind fun t => some (decide (t ≥ 0))) (fun k => by rw [if_neg h]) (Ev.bind hq ?_)
    have h1 : amongB opW23 s = false := by cases h' : amongB opW23 s with | false => rfl | true => exact absurd (e1.2 h') h
    have h2 : decide (q ≥ 0) = amongB regW8 s := by rw [Bool.eq_iff_iff, decide_eq_true_eq]; exact e2
    rw [h1, h2]; exact Ev.now _
/-- a letter; a digit -/
def smallP (c : Int) : Prop := 97 ≤ c ∧ c ≤ 122
def digitP (c : Int) : Prop := 48 ≤ c ∧ c ≤ 57
instance (c : Int) : Decidable (smallP c) := by unfold smallP; infer_instance
instance (c : Int) : Decidable (digitP c) := by unfold digitP; infer_instance
theorem l9Small_ok (s : ByteArray) (i : Int) : spec_l9Small.f (bt s i) = some (decide (smallP (bt s i))) := by unfold spec_l9Small.f; rw [bt_b, l1In_ok]; rfl
theorem l9Digit_ok (s : ByteArray) (i : Int) : spec_l9Digit.f (bt s i) = some (decide (digitP (bt s i))) := by unfold spec_l9Digit.f; rw [bt_b, l1In_ok]; rfl
theorem isLetter_ok (s : ByteArray) (i : Int) : impl_isLetter.f (bt s i) = some (decide (smallP (bt s i))) := by unfold impl_isLetter.f; rw [bt_b, within_ok]; rfl
theorem isPart_ok (s : ByteArray) (i : Int) : impl_isPart.f (bt s i) = some (decide (smallP (bt s i) ∨ digitP (bt s i))) := by
  unfold impl_isPart.f
  rw [isLetter_ok]; simp only [Option.bind_some]
  by_cases h : smallP (bt s i)
  · rw [if_pos (decide_eq_true h)]; simp [h]
  · rw [if_neg (by simpa using h), bt_b, within_ok]; simp [h, digitP]
/-- what is asked of the byte at j of a name -/
def goodAt (s : ByteArray) (j : Nat) : Prop := smallP (bt s j) ∨ (j ≠ 0 ∧ digitP (bt s j))
instance (s : ByteArray) (j : Nat) : Decidable (goodAt s j) := by unfold goodAt; infer_instance
def formB (s : ByteArray) : Bool := decide ((1 ≤ s.size ∧ s.size ≤ 6) ∧ ∀ j, j < s.size → goodAt s j)
theorem l9Form_ok (s : ByteArray) (hs : s.size ≤ 1048576) : Ev (fun k => spec_l9Form.f k s) (formB s) := by
  have H : ∀ (d i : Nat), s.size - i = d → i ≤ s.size → ∃ b : Bool, Ev (fun k => spec_l9Form.l0 k s (i : Int)) b ∧ (b = true ↔ ((1 ≤ s.size ∧ s.size ≤ 6) ∧ ∀ j, i ≤ j → j < s.size → goodAt s j)) := by
    intro d
    induction d with
    | zero =>
      intro i hd hi
      refine ⟨decide (1 ≤ (s.size : Int) ∧ (s.size : Int) ≤ 6), Ev.step (f := fun _ => some (decide (1 ≤ (s.size : Int) ∧ (s.size : Int) ≤ 6))) (fun k => ?_) (Ev.now _), ?_⟩
      · simp only [spec_l9Form.l0]; rw [if_neg (by omega), l1In_ok]; rfl
      · rw [decide_eq_true_eq]; constructor
        · intro h; exact ⟨by omega, fun j h1 h2 => by omega⟩
        · intro h; have := h.1; omega
    | succ d ih =>
      intro i hd hi
      have hlt : i < s.size := by omega
      obtain ⟨b, hb, hbi⟩ := ih (i + 1) (by omega) (by omega)
      have nxt : ∀ k, spec_l9Form.l0 k s (wrap64 ((i : Int) + 1)) = spec_l9Form.l0 k s ((i + 1 : Nat) : Int) := fun k => by rw [w64 (by omega) (by omega)]; rfl
      by_cases hg : goodAt s i
      · refine ⟨b, Ev.step (f := fun k => spec_l9Form.l0 k s ((i + 1 : Nat) : Int)) (fun k => ?_) hb, ?_⟩
        · simp only [spec_l9Form.l0, l9Small_ok, l9Digit_ok, Option.bind_some, nxt]
          rw [if_pos (by omega), if_pos (by omega)]
          rcases hg with h | ⟨h1, h2⟩
          · rw [if_pos (decide_eq_true h)]
          · by_cases h : smallP (bt s i)
            · rw [if_pos (decide_eq_true h)]
            · rw [if_neg (by simpa using h), if_neg (by omega), if_pos (decide_eq_true h2)]
        · rw [hbi]; constructor
          · intro h; refine ⟨h.1, fun j h1 h2 => ?_⟩
            rcases Nat.eq_or_lt_of_le h1 with e | e
            · subst e; exact hg
            · exact h.2 j e h2
          · intro h; exact ⟨h.1, fun j h1 h2 => h.2 j (by omega) h2⟩
      · refine ⟨false, Ev.step (f := fun _ => some false) (fun k => ?_) (Ev.now _), ?_⟩
        · simp only [spec_l9Form.l0, l9Small_ok, l9Digit_ok, Option.bind_some]
          rw [if_pos (by omega), if_pos (by omega)]
          have h1 : ¬ smallP (bt s i) := fun h => hg (.inl h)
          rw [if_neg (by simpa using h1)]
          by_cases h0 : i = 0
          · rw [if_pos (by omega)]
          · have h2 : ¬ digitP (bt s i) := fun h => hg (.inr ⟨h0, h⟩)
            rw [if_neg (by omega), if_neg (by simpa using h2)]
        · simp only [Bool.false_eq_true, false_iff]; intro h; exact hg (h.2 i (Nat.le_refl _) hlt)
  obtain ⟨b, hb, hbi⟩ := H s.size 0 (by omega) (by omega)
  have e : b = formB s := by
    unfold formB
    rw [Bool.eq_iff_iff, hbi, decide_eq_true_eq]
    exact ⟨fun h => ⟨h.1, fun j hj => h.2 j (Nat.zero_le _) hj⟩, fun h => ⟨h.1, fun j _ hj => h.2 j hj⟩⟩
  rw [← e]; unfold spec_l9Form.f; exact hb
/-- the letters and digits from a on end at e. -/
theorem runFrom_ok (s : ByteArray) (hs : s.size ≤ 1048576) (a : Nat) (ha : a ≤ s.size) : ∃ e : Nat, a ≤ e ∧ e ≤ s.size ∧ Ev (fun k => impl_runFrom.f k s (a : Int)) (s.extract a e) ∧ (∀ j, a ≤ j → j < e → smallP (bt s j) ∨ digitP (bt s j)) ∧ (e < s.size → ¬ (smallP (bt s e) ∨ digitP (bt s e))) := by
  have H : ∀ (d i : Nat), s.size - i = d → a ≤ i → i ≤ s.size → ∃ e : Nat, i ≤ e ∧ e ≤ s.size ∧ Ev (fun k => impl_runFrom.l0 k s (a : Int) (i : Int)) (s.extract a e) ∧ (∀ j, i ≤ j → j < e → smallP (bt s j) ∨ digitP (bt s j)) ∧ (e < s.size → ¬ (smallP (bt s e) ∨ digitP (bt s e))) := by
    intro d
    induction d with
    | zero =>
      intro i hd h0 hi
      refine ⟨i, Nat.le_refl _, hi, Ev.step (f := fun _ => some (s.extract a i)) (fun k => ?_) (Ev.now _), fun j h1 h2 => by omega, fun h => by omega⟩
      simp only [impl_runFrom.l0]; rw [if_neg (by omega), if_pos (by omega), if_pos (by omega), if_pos (by omega)]; rfl
    | succ d ih =>
      intro i hd h0 hi
      have hlt : i < s.size := by omega
      by_cases hp : smallP (bt s i) ∨ digitP (bt s i)
      · obtain ⟨e, e0, e1, he, e2, e3⟩ := ih (i + 1) (by omega) (by omega) (by omega)
        refine ⟨e, by omega, e1, Ev.step (f := fun k => impl_runFrom.l0 k s (a : Int) ((i + 1 : Nat) : Int)) (fun k => ?_) he, fun j h1 h2 => ?_, e3⟩
        · simp only [impl_runFrom.l0, isPart_ok, Option.bind_some]
          rw [if_pos (by omega), if_pos (by omega), if_pos (decide_eq_true hp), w64 (by omega) (by omega)]; rfl
        · rcases Nat.eq_or_lt_of_le h1 with e | e
          · subst e; exact hp
          · exact e2 j e h2
      · refine ⟨i, Nat.le_refl _, hi, Ev.step (f := fun _ => some (s.extract a i)) (fun k => ?_) (Ev.now _), fun j h1 h2 => by omega, fun _ => hp⟩
        simp only [impl_runFrom.l0, isPart_ok, Option.bind_some]
        rw [if_pos (by omega), if_pos (by omega), if_neg (by simpa using hp), if_pos (by omega), if_pos (by omega), if_pos (by omega)]; rfl
  obtain ⟨e, e0, e1, he, e2, e3⟩ := H (s.size - a) a rfl (Nat.le_refl _) ha
  exact ⟨e, e0, e1, by unfold impl_runFrom.f; exact he, e2, e3⟩
theorem extract_size (s : ByteArray) (a e : Nat) (h : e ≤ s.size) : (s.extract a e).size = e - a := by
  rw [ByteArray.size_extract]; omega
theorem extract_all (s : ByteArray) : s.extract 0 s.size = s := by
  apply ByteArray.ext; rw [ByteArray.data_extract]; show s.data.extract 0 s.data.size = s.data; exact Array.extract_size
theorem hasForm_ok (s : ByteArray) (hs : s.size ≤ 1048576) : Ev (fun k => impl_hasForm.f k s) (formB s) := by
  simp only [impl_hasForm.f, within_ok, isLetter_ok, Option.bind_some]
  by_cases h : 1 ≤ s.size ∧ s.size ≤ 6
  · obtain ⟨e, _, e1, he, e2, e3⟩ := runFrom_ok s hs 0 (Nat.zero_le _)
    by_cases h0 : smallP (bt s 0)
    · refine Ev.congr (f := fun k => (impl_runFrom.f k s 0).bind fun t => some (t.toList == s.toList)) (fun k => ?_) (Ev.bind (a := s.extract 0 e) he ?_)
      · rw [if_pos (decide_eq_true (by omega)), if_pos (by omega), if_pos (decide_eq_true h0)]
      · have : ((s.extract 0 e).toList == s.toList) = formB s := by
          unfold formB
          rw [Bool.eq_iff_iff, beq_iff_eq, decide_eq_true_eq]
          constructor
          · intro heq
            have hl := congrArg List.length heq
            rw [bal_length, bal_length, extract_size s 0 e e1] at hl
            refine ⟨h, fun j hj => ?_⟩
            by_cases hj0 : j = 0
            · subst hj0; exact .inl h0
            · rcases e2 j (Nat.zero_le _) (by omega) with q | q
              · exact .inl q
              · exact .inr ⟨hj0, q⟩
          · intro hf
            have : e = s.size := by
              rcases Nat.lt_or_ge e s.size with q | q
              · exact absurd (by rcases hf.2 e q with z | ⟨_, z⟩; exact .inl z; exact .inr z) (e3 q)
              · omega
            subst this; rw [extract_all]
        rw [this]; exact Ev.now _
    · refine Ev.congr (f := fun _ => some (formB s)) (fun k => ?_) (Ev.now _)
      have hf : formB s = false := by
        unfold formB; rw [decide_eq_false_iff_not]; intro hf
        rcases hf.2 0 (by omega) with q | ⟨q, _⟩
        · exact h0 q
        · exact q rfl
      rw [if_pos (decide_eq_true (by omega)), if_pos (by omega), if_neg (by simpa using h0), hf]
  · refine Ev.congr (f := fun _ => some (formB s)) (fun k => ?_) (Ev.now _)
    have hf : formB s = false := by unfold formB; rw [decide_eq_false_iff_not]; intro hf; exact h hf.1
    rw [if_neg (by simp; omega), hf]
def nameB (s : ByteArray) : Bool := formB s && !keptB s
theorem l9Name_ok (s : ByteArray) (hs : s.size ≤ 1048576) : Ev (fun k => spec_l9Name.f k s) (nameB s) := by
  simp only [spec_l9Name.f, kept31_ok, Option.bind_some]
  refine Ev.bind (l9Form_ok s hs) ?_
  unfold nameB
  cases formB s with
  | false => exact Ev.congr (f := fun _ => some false) (fun k => by rw [if_neg (by simp)]) (Ev.now _)
  | true =>
    obtain ⟨r, hr, hri⟩ := specKept_ok s
    refine Ev.congr (f := fun k => (spec_l9At.f k (opW23 ++ regW8) s).bind fun t => some (decide (t < 0))) (fun k => by rw [if_pos rfl]) (Ev.bind hr ?_)
    have : decide (r < 0) = (true && !keptB s) := by
      cases hk : keptB s with
      | true => have := hri.2 hk; simp; omega
      | false => have : ¬ 0 ≤ r := fun h => by rw [hri.1 h] at hk; simp at hk
                 simp; omega
    rw [this]; exact Ev.now _
theorem isName_ok (s : ByteArray) (hs : s.size ≤ 1048576) : Ev (fun k => impl_isName.f k s) (nameB s) := by
  simp only [impl_isName.f]
  refine Ev.bind (hasForm_ok s hs) ?_
  unfold nameB
  cases formB s with
  | false => exact Ev.congr (f := fun _ => some false) (fun k => by rw [if_neg (by simp)]) (Ev.now _)
  | true => exact Ev.congr (f := fun k => (impl_isKept.f k s).bind fun t => some (!t)) (fun k => by rw [if_pos rfl]) (Ev.bind (isKept_ok s) (Ev.now _))
/-- is a term's own part right? -/
def hereB (K N : Int) (nb ne : Bool) (n : Nat) : Bool :=
  if K = 1 then decide (0 ≤ N ∧ N ≤ 65535) && !ne && decide (n = 0)
  else if K = 2 ∨ K = 12 then decide (N = 0) && nb && decide (n = 0)
  else if K = 11 then decide (0 ≤ N ∧ N ≤ 9) && !ne && decide (n = 0)
  else if K = 3 then decide (N = 0) && !ne && decide (n = 0)
  else if K = 4 then decide (N = 0) && !ne && decide (n = 1)
  else if 5 ≤ K ∧ K ≤ 10 then decide (N = 0) && !ne && decide (n = 2)
  else false
theorem kcases (K : Int) : K = 1 ∨ K = 2 ∨ K = 3 ∨ K = 4 ∨ K = 5 ∨ K = 6 ∨ K = 7 ∨ K = 8 ∨ K = 9 ∨ K = 10 ∨ K = 11 ∨ K = 12 ∨ (K ≠ 1 ∧ K ≠ 2 ∧ K ≠ 3 ∧ K ≠ 4 ∧ K ≠ 5 ∧ K ≠ 6 ∧ K ≠ 7 ∧ K ≠ 8 ∧ K ≠ 9 ∧ K ≠ 10 ∧ K ≠ 11 ∧ K ≠ 12) := by omega
theorem l10Here_ok (K N : Int) (s : ByteArray) (l : List S29) (hs : s.size ≤ 1048576) : Ev (fun k => spec_l10Here.f k K N s l) (hereB K N (nameB s) (s.toList != []) l.length) := by
  obtain ⟨K1, h1⟩ := l9Name_ok s hs
  refine ⟨K1 + 4, fun k hk => ?_⟩
  obtain ⟨m, rfl⟩ : ∃ m, k = m + 3 := ⟨k - 3, by omega⟩
  simp only [spec_l10Here.f, spec_l10Here.j0, spec_l10Here.j1, spec_l10Here.j2, h1 (m + 1) (by omega), h1 m (by omega), l1In_ok, Option.bind_some]
  generalize nameB s = nb
  generalize (s.toList != []) = ne
  generalize l.length = n
  have e : ∀ q : Nat, ((n : Int) == (q : Int)) = decide (n = q) := fun q => by rw [Bool.eq_iff_iff]; simp; omega
  have e0 := e 0; have e1 := e 1; have e2 := e 2
  simp only [Int.natCast_zero, Int.natCast_one, Int.reduceNatCast] at e0 e1 e2
  simp only [Int.cast_ofNat_Int] at e0 e1 e2
  simp only [e0, e1, e2]
  rcases kcases K with rfl | rfl | rfl | rfl | rfl | rfl | rfl | rfl | rfl | rfl | rfl | rfl | ⟨g1, g2, g3, g4, g5, g6, g7, g8, g9, g10, g11, g12⟩
  all_goals first
    | (cases nb <;> cases ne <;> by_cases hN : N = 0 <;> simp [hereB, hN] <;> done)
    | (cases nb <;> cases ne <;> by_cases hN : 0 ≤ N ∧ N ≤ 65535 <;> simp [hereB, hN] <;> done)
    | (cases nb <;> cases ne <;> by_cases hN : 0 ≤ N ∧ N ≤ 9 <;> simp [hereB, hN] <;> done)
    | (have g : ¬ (5 ≤ K ∧ K ≤ 10) := by omega
       cases nb <;> cases ne <;> by_cases hN : N = 0 <;> simp [hereB, hN, g1, g2, g3, g4, g5, g6, g7, g8, g9, g10, g11, g12, g] <;> done)
def deepPlain (K : Int) (plain : Bool) : Bool := plain && (decide (K = 11) || decide (K = 12))
/-- spec: a node that is right asks for its parts. -/
theorem l10Ok_node (K N : Int) (s : ByteArray) (l : List S29) (hs : s.size ≤ 1048576) (d : Int) (plain r : Bool) (h : hereB K N (nameB s) (s.toList != []) l.length = true → deepPlain K plain = false → d ≤ 6 → Ev (fun k => spec_l10Ok.l0 k d plain 0 K N s l) r) :
    Ev (fun k => spec_l10Ok.f k K N s l d plain) (if (hereB K N (nameB s) (s.toList != []) l.length && !deepPlain K plain && decide (d ≤ 6)) = true then r else false) := by
  have no : Ev (fun k => spec_l10Ok.j0 k d plain true K N s l) false := Ev.step (f := fun _ => some false) (fun k => by simp only [spec_l10Ok.j0]; rw [if_pos trivial]) (Ev.now _)
  by_cases hd : d > 6
  · have e : decide (d ≤ 6) = false := decide_eq_false (by omega)
    rw [e, Bool.and_false, if_neg (by simp)]
    exact Ev.step (fun k => by simp only [spec_l10Ok.f]; rw [if_pos hd]) no
  have e : decide (d ≤ 6) = true := decide_eq_true (by omega)
  rw [e, Bool.and_true]
  refine Ev.step (fun k => by simp only [spec_l10Ok.f]; rw [if_neg hd]) (Ev.bind (l10Here_ok K N s l hs) ?_)
  cases hh : hereB K N (nameB s) (s.toList != []) l.length with
  | false => rw [Bool.false_and, if_neg (by simp)]; exact Ev.congr (fun k => by rw [if_neg (by simp)]) no
  | true =>
    rw [Bool.true_and]
    cases hp : deepPlain K plain with
    | true =>
      rw [if_neg (by simp)]
      have hp' := hp
      unfold deepPlain at hp'
      simp only [Bool.and_eq_true, Bool.or_eq_true, decide_eq_true_eq] at hp'
      refine Ev.congr (f := fun k => spec_l10Ok.j0 k d plain true K N s l) (fun k => ?_) no
      rw [if_pos rfl, if_pos hp'.1]
      rcases hp'.2 with h11 | h12
      · rw [if_pos h11]
      · rw [if_neg (by omega), h12]; rfl
    | false =>
      have yes : Ev (fun k => spec_l10Ok.j0 k d plain false K N s l) r := Ev.step (fun k => by simp only [spec_l10Ok.j0]; rw [if_neg (by simp)]) (h hh hp (by omega))
      rw [Bool.not_false, if_pos rfl]
      refine Ev.congr (f := fun k => spec_l10Ok.j0 k d plain false K N s l) (fun k => ?_) yes
      rw [if_pos rfl]
      unfold deepPlain at hp
      cases plain with
      | false => rw [if_neg (by simp)]
      | true =>
        simp only [Bool.true_and, Bool.or_eq_false_iff, decide_eq_false_iff_not] at hp
        rw [if_pos rfl, if_neg hp.1, beq_eq_false_iff_ne.2 hp.2]
set_option maxHeartbeats 4000000 in
theorem termOk_node (K N : Int) (s : ByteArray) (l : List S29) (hs : s.size ≤ 1048576) (d : Int) (plain r : Bool) (h : hereB K N (nameB s) (s.toList != []) l.length = true → deepPlain K plain = false → 1 ≤ d → Ev (fun k => impl_termOk.l0 k d plain l (l.length : Int) 0) r) :
    Ev (fun k => impl_termOk.f k K N s l d plain) (if (hereB K N (nameB s) (s.toList != []) l.length && !deepPlain K plain && decide (1 ≤ d)) = true then r else false) := by
  obtain ⟨K1, h1⟩ := isName_ok s hs
  obtain ⟨K2, h2⟩ : ∃ K2, ∀ k, K2 ≤ k → hereB K N (nameB s) (s.toList != []) l.length = true → deepPlain K plain = false → 1 ≤ d → impl_termOk.l0 k d plain l (l.length : Int) 0 = some r := by
    by_cases c : hereB K N (nameB s) (s.toList != []) l.length = true ∧ deepPlain K plain = false ∧ 1 ≤ d
    · obtain ⟨K2, h2⟩ := h c.1 c.2.1 c.2.2
      exact ⟨K2, fun k hk _ _ _ => h2 k hk⟩
    · exact ⟨0, fun k _ a b e => absurd ⟨a, b, e⟩ c⟩
  clear h
  have eb : (s.toList == ([] : List UInt8)) = !(s.toList != []) := by cases s.toList <;> rfl
  have J2 : ∀ k, K2 + 3 ≤ k → ∀ (p : Int) (ok : Bool), impl_termOk.j2 k d plain p ok K N s l = (if (ok && decide (1 ≤ d) && decide ((l.length : Int) = p)) = true then impl_termOk.l0 (k - 2) d plain l (l.length : Int) 0 else some false) := by
    intro k hk p ok
    obtain ⟨k, rfl⟩ : ∃ m, k = m + 2 := ⟨k - 2, by omega⟩
    simp only [impl_termOk.j2, impl_termOk.j3, Nat.add_sub_cancel]
    cases ok with
    | false => rw [if_neg (by simp), if_pos trivial, if_neg (by simp)]
    | true =>
      simp only [if_true, Bool.true_and]
      by_cases hd : d < 1
      · simp [hd, show ¬ 1 ≤ d by omega]
      · by_cases hp : (l.length : Int) = p
        · subst hp; simp [hd, show 1 ≤ d by omega]
        · simp [hd, hp]
  refine ⟨K1 + K2 + 8, fun k hk => ?_⟩
  obtain ⟨m, rfl⟩ : ∃ m, k = m + 3 := ⟨k - 3, by omega⟩
  have L0 : (hereB K N (nameB s) (s.toList != []) l.length && !deepPlain K plain && decide (1 ≤ d)) = true → impl_termOk.l0 m d plain l (l.length : Int) 0 = some r := fun h => by
    simp only [Bool.and_eq_true, Bool.not_eq_true', decide_eq_true_eq] at h
    exact h2 m (by omega) h.1.1 h.1.2 h.2
  have L1 : (hereB K N (nameB s) (s.toList != []) l.length && !deepPlain K plain && decide (1 ≤ d)) = true → impl_termOk.l0 (m - 1) d plain l (l.length : Int) 0 = some r := fun h => by
    simp only [Bool.and_eq_true, Bool.not_eq_true', decide_eq_true_eq] at h
    exact h2 (m - 1) (by omega) h.1.1 h.1.2 h.2
  have L2 : (hereB K N (nameB s) (s.toList != []) l.length && !deepPlain K plain && decide (1 ≤ d)) = true → impl_termOk.l0 (m - 2) d plain l (l.length : Int) 0 = some r := fun h => by
    simp only [Bool.and_eq_true, Bool.not_eq_true', decide_eq_true_eq] at h
    exact h2 (m - 2) (by omega) h.1.1 h.1.2 h.2
  have eL0 : m + 2 - 2 = m := by omega
  have eL1 : m + 1 - 2 = m - 1 := by omega
  simp only [impl_termOk.f, impl_termOk.j0, impl_termOk.j1, J2 m (by omega), J2 (m + 1) (by omega), J2 (m + 2) (by omega), h1 (m + 1) (by omega), impl_isWord.f, impl_isTwo.f, within_ok, Option.bind_some, eb, eL0, eL1]
  clear J2 h1 h2 eb eL0 eL1
  generalize impl_termOk.l0 m d plain l (l.length : Int) 0 = A0 at *
  generalize impl_termOk.l0 (m - 1) d plain l (l.length : Int) 0 = A1 at *
  generalize impl_termOk.l0 (m - 2) d plain l (l.length : Int) 0 = A2 at *
  generalize nameB s = nb at *
  generalize (s.toList != []) = ne at *
  generalize l.length = n at *
  clear hk hs
  have e0 : decide ((n : Int) = 0) = decide (n = 0) := by rw [Bool.eq_iff_iff]; simp
  have e1 : decide ((n : Int) = 1) = decide (n = 1) := by rw [Bool.eq_iff_iff]; simp; omega
  have e2 : decide ((n : Int) = 2) = decide (n = 2) := by rw [Bool.eq_iff_iff]; simp; omega
  simp only [e0, e1, e2]
  clear e0 e1 e2
  generalize decide (1 ≤ d) = dd at *
  simp only [hereB, deepPlain] at *
  rcases kcases K with rfl | rfl | rfl | rfl | rfl | rfl | rfl | rfl | rfl | rfl | rfl | rfl | ⟨g1, g2, g3, g4, g5, g6, g7, g8, g9, g10, g11, g12⟩
  · by_cases hN : 0 ≤ N ∧ N ≤ 65535
    · have e := decide_eq_true hN
      simp only [e] at *; clear e hN
      by_cases z0 : n = 0 <;> cases ne <;> cases dd <;> simp_all
    · have e := decide_eq_false hN
      simp only [e] at *; clear e hN
      simp
  · by_cases hN : N = 0 <;> by_cases z0 : n = 0 <;> cases nb <;> cases dd <;> simp_all
  · by_cases hN : N = 0 <;> by_cases z0 : n = 0 <;> cases ne <;> cases dd <;> simp_all
  · by_cases hN : N = 0 <;> by_cases z1 : n = 1 <;> cases ne <;> cases dd <;> simp_all
  · by_cases hN : N = 0 <;> by_cases z2 : n = 2 <;> cases ne <;> cases dd <;> simp_all
  · by_cases hN : N = 0 <;> by_cases z2 : n = 2 <;> cases ne <;> cases dd <;> simp_all
  · by_cases hN : N = 0 <;> by_cases z2 : n = 2 <;> cases ne <;> cases dd <;> simp_all
  · by_cases hN : N = 0 <;> by_cases z2 : n = 2 <;> cases ne <;> cases dd <;> simp_all
  · by_cases hN : N = 0 <;> by_cases z2 : n = 2 <;> cases ne <;> cases dd <;> simp_all
  · by_cases hN : N = 0 <;> by_cases z2 : n = 2 <;> cases ne <;> cases dd <;> simp_all
  · by_cases hN : 0 ≤ N ∧ N ≤ 9
    · have e := decide_eq_true hN
      simp only [e] at *; clear e hN
      by_cases z0 : n = 0 <;> cases ne <;> cases dd <;> cases plain <;> simp_all
    · have e := decide_eq_false hN
      simp only [e] at *; clear e hN
      cases plain <;> simp
  · by_cases hN : N = 0 <;> by_cases z0 : n = 0 <;> cases nb <;> cases dd <;> cases plain <;> simp_all
  · have g : ¬ (5 ≤ K ∧ K ≤ 10) := by omega
    simp [g1, g2, g3, g4, g5, g6, g7, g8, g9, g10, g11, g12, g]
/-- both find the same of a small term. -/
def OkT (x : S29) : Prop := ∀ d : Int, 0 ≤ d → d ≤ 6 → ∀ plain : Bool, ∃ b, Ev (fun k => spec_l10Ok.f k x.f0 x.f1 x.f2 x.f3 (7 - d) plain) b ∧ Ev (fun k => impl_termOk.f k x.f0 x.f1 x.f2 x.f3 d plain) b
theorem okExprS (x : S29) (hx : x.f3.length ≤ 1048576) (h : ∀ z ∈ x.f3, OkT z) (d : Int) (d0 : 1 ≤ d) (d6 : d ≤ 6) (plain : Bool) : ∀ (e i : Nat), x.f3.length - i = e → i ≤ x.f3.length →
    ∃ b, Ev (fun k => spec_l10Ok.l0 k (7 - d) plain (i : Int) x.f0 x.f1 x.f2 x.f3) b ∧ Ev (fun k => impl_termOk.l0 k d plain x.f3 (x.f3.length : Int) (i : Int)) b := by
  intro e
  induction e with
  | zero =>
    intro i he hi
    refine ⟨true, Ev.step (f := fun _ => some true) (fun k => ?_) (Ev.now _), Ev.step (f := fun _ => some true) (fun k => ?_) (Ev.now _)⟩
    · simp only [spec_l10Ok.l0]; rw [if_neg (by omega)]
    · simp only [impl_termOk.l0]; rw [if_neg (by omega)]
  | succ e ih =>
    intro i he hi
    have hlt : i < x.f3.length := by omega
    have w1 : wrap64 ((i : Int) + 1) = ((i + 1 : Nat) : Int) := by rw [w64 (by omega) (by omega)]; rfl
    have w2 : wrap64 (7 - d + 1) = 7 - (d - 1) := by rw [w64 (by omega) (by omega)]; omega
    have w3 : wrap64 (d - 1) = d - 1 := w64 (by omega) (by omega)
    obtain ⟨b, hs, hi'⟩ := h _ (rdI_in x.f3 i hlt) (d - 1) (by omega) (by omega) plain
    obtain ⟨c, cs, ci⟩ := ih (i + 1) (by omega) (by omega)
    refine ⟨if b = true then c else false, ?_, ?_⟩
    · refine Ev.step (f := fun k => (spec_l10Ok.f k (rd_T29 x.f3 (i : Int)).f0 (rd_T29 x.f3 (i : Int)).f1 (rd_T29 x.f3 (i : Int)).f2 (rd_T29 x.f3 (i : Int)).f3 (7 - (d - 1)) plain).bind fun t => if t = true then spec_l10Ok.l0 k (7 - d) plain ((i + 1 : Nat) : Int) x.f0 x.f1 x.f2 x.f3 else some false) (fun k => ?_) (Ev.bind hs ?_)
      · simp only [spec_l10Ok.l0, w1, w2]; rw [if_pos (by omega), if_pos (by omega)]
      · cases b with
        | true => exact Ev.congr (fun k => by rw [if_pos rfl]) cs
        | false => exact Ev.congr (f := fun _ => some false) (fun k => by rw [if_neg (by decide)]) (Ev.now _)
    · refine Ev.step (f := fun k => (impl_termOk.f k (rd_T29 x.f3 (i : Int)).f0 (rd_T29 x.f3 (i : Int)).f1 (rd_T29 x.f3 (i : Int)).f2 (rd_T29 x.f3 (i : Int)).f3 (d - 1) plain).bind fun t => if t = true then impl_termOk.l0 k d plain x.f3 (x.f3.length : Int) ((i + 1 : Nat) : Int) else some false) (fun k => ?_) (Ev.bind hi' ?_)
      · simp only [impl_termOk.l0, w1, w3]; rw [if_pos (by omega), if_pos (by omega), if_pos (by omega)]
      · cases b with
        | true => exact Ev.congr (fun k => by rw [if_pos rfl]) ci
        | false => exact Ev.congr (f := fun _ => some false) (fun k => by rw [if_neg (by decide)]) (Ev.now _)
theorem okExpr_ok (x : S29) (g : Small x) : OkT x := by
  induction g with
  | mk x h2 h3 h ih =>
    intro d d0 d6 plain
    by_cases hd : 1 ≤ d
    · obtain ⟨b, b1, b2⟩ := okExprS x h3 ih d hd d6 plain x.f3.length 0 (by omega) (by omega)
      have e1 := l10Ok_node x.f0 x.f1 x.f2 x.f3 h2 (7 - d) plain b (fun _ _ _ => by simpa using b1)
      have e2 := termOk_node x.f0 x.f1 x.f2 x.f3 h2 d plain b (fun _ _ _ => by simpa using b2)
      rw [decide_eq_true (show 7 - d ≤ 6 by omega)] at e1
      rw [decide_eq_true hd] at e2
      exact ⟨_, e1, e2⟩
    · have e1 := l10Ok_node x.f0 x.f1 x.f2 x.f3 h2 (7 - d) plain false (fun _ _ h => by omega)
      have e2 := termOk_node x.f0 x.f1 x.f2 x.f3 h2 d plain false (fun _ _ h => absurd h hd)
      rw [decide_eq_false (show ¬ 7 - d ≤ 6 by omega)] at e1
      rw [decide_eq_false hd] at e2
      exact ⟨_, e1, e2⟩
theorem drawSame_ok (l : List Int) (hl : l.length ≤ 1048576) : ∃ a b : S29, Ev (fun k => spec_DrawSameExpr.f k l) (a.f0, a.f1, a.f2, a.f3, b.f0, b.f1, b.f2, b.f3) ∧ Small a ∧ Small b := by
  obtain ⟨h, e⟩ := l1New_ev l hl
  obtain ⟨a, i1, h1, e1, sa, a0, a1⟩ := any_in l hl 0 (by omega) (by omega) h
  obtain ⟨c, i2, h2, e2, b0, b1⟩ := l1Once_in l hl i1 a0 a1 h1 2
  have st : ∀ r, Ev (fun k => if c = true then (some (a.f0, a.f1, a.f2, a.f3, a.f0, a.f1, a.f2, a.f3)) else ((spec_l10Any.f k l i2 h2).bind fun bt350 => (some (a.f0, a.f1, a.f2, a.f3, bt350.1, bt350.2.1, bt350.2.2.1, bt350.2.2.2.1)))) r → Ev (fun k => spec_DrawSameExpr.f k l) r := by
    intro r hr
    refine Ev.bind e (Ev.bind e1 (Ev.congr (fun k => ?_) hr))
    simp only [e2, Option.bind_some]
  cases c with
  | true => exact ⟨a, a, st _ (Ev.congr (f := fun _ => some _) (fun k => by rw [if_pos rfl]) (Ev.now _)), sa, sa⟩
  | false =>
    obtain ⟨b, i3, h3, e3, sb, _, _⟩ := any_in l hl i2 b0 b1 h2
    exact ⟨a, b, st _ (Ev.congr (fun k => by rw [if_neg (by decide)]) (Ev.bind e3 (Ev.now _))), sa, sb⟩
theorem drawExprOk_ok (l : List Int) (hl : l.length ≤ 1048576) : ∃ a : S29, Ev (fun k => spec_DrawExprOk.f k l) (a.f0, a.f1, a.f2, a.f3) ∧ Small a := by
  obtain ⟨h, e⟩ := l1New_ev l hl
  obtain ⟨a, i1, h1, e1, sa, _, _⟩ := any_in l hl 0 (by omega) (by omega) h
  exact ⟨a, Ev.bind e (Ev.bind e1 (Ev.now _)), sa⟩
theorem FnSameExprs : laws_FnSameExprs.Pure := by
  intro l _ hl _
  refine Ev.rounds (g := fun k => laws_FnSameExprs.f k l) ?_
  simp only [laws_FnSameExprs.f, laws_big.f, Option.bind_some]
  by_cases c : (l.length : Int) > 1048576
  · exact Ev.congr (f := fun _ => some true) (fun k => by rw [if_pos (decide_eq_true c)]) (Ev.now _)
  refine Ev.congr (fun k => by rw [if_neg (by rw [decide_eq_true_eq]; exact c)]) ?_
  obtain ⟨a, b, ed, sa, sb⟩ := drawSame_ok l (by omega)
  obtain ⟨x, ex, sx⟩ := drawExprOk_ok l (by omega)
  obtain ⟨q, q1, q2, q3, _⟩ := sym_ok a sa b sb
  obtain ⟨s, _, s2, _, s4⟩ := sym_ok a sa a sa
  rw [s4 rfl] at s2
  obtain ⟨o, o1, o2⟩ := okExpr_ok x sx 6 (by omega) (by omega) false
  have a1 : Ev (fun k => spec_ExprOk.f k x.f0 x.f1 x.f2 x.f3) o := Ev.bind o1 (Ev.now _)
  have a2 : Ev (fun k => impl_ExprOk.f k x.f0 x.f1 x.f2 x.f3) o := Ev.bind o2 (Ev.now _)
  refine Ev.bind ed (Ev.bind ex (Ev.bind s2 ?_))
  refine Ev.congr (fun k => by rw [if_pos rfl]) (Ev.bind q2 (Ev.bind q1 ?_))
  refine Ev.congr (fun k => by rw [if_pos (beq_self_eq_true q)]) (Ev.bind q2 (Ev.bind q3 ?_))
  refine Ev.congr (fun k => by rw [if_pos (beq_self_eq_true q)]) (Ev.bind a2 (Ev.bind a1 ?_))
  exact Ev.congr (f := fun _ => some true) (fun k => by rw [beq_self_eq_true o]) (Ev.now _)

end Go.Proofs.Ytcpnhlhigpgonaa.Pure
