/- Plain lemmas on numbers, lists and loops that the pure statements of this seat share. No program in sight. -/
import Derived.Test.YtcpnhlhigpgonaaVFnExactPut
import Derived.Laws.BytesArg
import Derived.Laws.BitsLemmas
import Derived.RowKit
namespace Go.Proofs.Ytcpnhlhigpgonaa.Common
open Go.RowKit Go.Proofs.YtcpnhlhigpgonaaW.PrintWords Go.Proofs.YtcpnhlhigpgonaaW.PrintLast

theorem w64 {x : Int} (h0 : -9223372036854775808 ≤ x) (h1 : x ≤ 9223372036854775807) : wrap64 x = x := by
  unfold wrap64; omega
theorem wsucc {i : Int} {n : Nat} (h0 : 0 ≤ i) (h : i < (n : Int)) (hn : n ≤ 4611686018427387904) : wrap64 (i + 1) = i + 1 := by
  unfold wrap64; omega
section
variable {α : Type}
theorem getD_set_self (l : List α) (i : Nat) (v d : α) (h : i < l.length) : (l.set i v).getD i d = v := by
  simp [List.getD_eq_getElem?_getD, h]
theorem getD_set_ne (l : List α) (i j : Nat) (v d : α) (h : i ≠ j) : (l.set i v).getD j d = l.getD j d := by
  simp [List.getD_eq_getElem?_getD, List.getElem?_set_ne h]
theorem ext_getD {a b : List α} (d : α) (hl : a.length = b.length) (h : ∀ j, j < b.length → a.getD j d = b.getD j d) : a = b := by
  apply List.ext_getElem hl
  intro j h1 h2
  have := h j h2
  simpa [List.getD_eq_getElem?_getD, h1, h2] using this

/-- a loop that copies element by element. -/
theorem copy_loop (d : α) (x0 : List α) (hn : x0.length ≤ 4611686018427387904) (L : Nat → List α → Int → Option (List α))
    (hs : ∀ k x3 x4, L (k + 1) x3 x4 = if x4 < (x0.length : Int) then (if 0 ≤ x4 then (if x4 < (x3.length : Int) then (L k (x3.set (x4 : Int).toNat (x0.getD x4.toNat d)) (wrap64 (x4 + 1))) else (none)) else (none)) else (some x3)) :
    ∀ k z, z.length = x0.length → x0.length < k → L k z 0 = some x0 := by
  have H : ∀ (m : Nat) k z (i : Nat), x0.length - i = m → i ≤ x0.length → z.length = x0.length → (∀ j, j < i → z.getD j d = x0.getD j d) → m < k → L k z (i : Int) = some x0 := by
    intro m
    induction m with
    | zero =>
      intro k z i hm hi hz hj hk
      obtain ⟨k, rfl⟩ : ∃ m, k = m + 1 := ⟨k - 1, by omega⟩
      rw [hs, if_neg (by omega)]
      rw [ext_getD d hz (fun j hj' => hj j (by omega))]
    | succ m ih =>
      intro k z i hm hi hz hj hk
      obtain ⟨k, rfl⟩ : ∃ m, k = m + 1 := ⟨k - 1, by omega⟩
      rw [hs, if_pos (by omega), if_pos (by omega), if_pos (by omega), wsucc (n := x0.length) (by omega) (by omega) hn]
      have := ih k (z.set i (x0.getD i d)) (i + 1) (by omega) (by omega) (by simpa using hz) (fun j hj' => by
        by_cases e : i = j
        · subst e; rw [getD_set_self _ _ _ _ (by omega)]
        · rw [getD_set_ne _ _ _ _ _ e]; exact hj j (by omega)) (by omega)
      simpa using this
  intro k z hz hk
  exact H x0.length k z 0 (by omega) (by omega) hz (fun j hj => by omega) hk

/-- a loop that compares element by element; `p`: what is asked of two elements. -/
theorem all_loop (p : α → α → Prop) [DecidableRel p] (d : α) (x0 x1 : List α) (hl : x0.length = x1.length) (hn : x0.length ≤ 4611686018427387904) (L : Nat → Int → Option Bool)
    (hs : ∀ k x5, L (k + 1) x5 = if x5 < (x0.length : Int) then (if 0 ≤ x5 then (if x5 < (x1.length : Int) then (if p (x0.getD x5.toNat d) (x1.getD x5.toNat d) then (L k (wrap64 (x5 + 1))) else (some false)) else (none)) else (none)) else (some true)) :
    ∀ k, x0.length < k → ∃ b : Bool, L k 0 = some b ∧ (b = true ↔ ∀ j, j < x0.length → p (x0.getD j d) (x1.getD j d)) := by
  have H : ∀ (m : Nat) k (i : Nat), x0.length - i = m → i ≤ x0.length → m < k → ∃ b : Bool, L k (i : Int) = some b ∧ (b = true ↔ ∀ j, i ≤ j → j < x0.length → p (x0.getD j d) (x1.getD j d)) := by
    intro m
    induction m with
    | zero =>
      intro k i hm hi hk
      obtain ⟨k, rfl⟩ : ∃ m, k = m + 1 := ⟨k - 1, by omega⟩
      refine ⟨true, by rw [hs, if_neg (by omega)], ?_⟩
      simp only [true_iff]; intro j h1 h2; omega
    | succ m ih =>
      intro k i hm hi hk
      obtain ⟨k, rfl⟩ : ∃ m, k = m + 1 := ⟨k - 1, by omega⟩
      obtain ⟨b, hb, hbi⟩ := ih k (i + 1) (by omega) (by omega) (by omega)
      rw [hs, if_pos (by omega), if_pos (by omega), if_pos (by omega), wsucc (n := x0.length) (by omega) (by omega) hn, Int.toNat_natCast]
      by_cases e : p (x0.getD i d) (x1.getD i d)
      · rw [if_pos e]
        have h2 : ((i : Int) + 1) = ((i + 1 : Nat) : Int) := by omega
        refine ⟨b, by rw [h2, hb], ?_⟩
        rw [hbi]
        constructor
        · intro h j h1 h3
          rcases Nat.eq_or_lt_of_le h1 with h4 | h4
          · subst h4; exact e
          · exact h j h4 h3
        · intro h j h1 h3; exact h j (by omega) h3
      · rw [if_neg e]
        refine ⟨false, rfl, ?_⟩
        simp only [Bool.false_eq_true, false_iff]
        intro h; exact e (h i (Nat.le_refl _) (by omega))
  intro k hk
  obtain ⟨b, hb, hbi⟩ := H x0.length k 0 (by omega) (by omega) hk
  exact ⟨b, by simpa using hb, by rw [hbi]; simp⟩
end

end Go.Proofs.Ytcpnhlhigpgonaa.Common
