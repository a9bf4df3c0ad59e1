/- How a term (a struct that holds terms) that comes in by value is laid open. -/
import Derived.Test.YtcpnhlhigpgonaaPureFnExactFold
import Derived.Test.YtcpnhlhigpgonaaOpens
namespace Go.Proofs.Ytcpnhlhigpgonaa.OXFnExactFold
open Go.ChangeShapes Go.WideShapes Go.ChangeAt Go.RowKit Go.Proofs.Ytcpnhlhigpgonaa.Opens Go.Proofs.YtcpnhlhigpgonaaW.PrintWords Go.Proofs.Ytcpnhlhigpgonaa.PFnExactFold Go.Proofs.Ytcpnhlhigpgonaa.Pure
section
variable {H : Type} {enc : TypeId × Value → H} {P : Program} {w : World} {base : Nat} {spare : Nat → Bool} {held : Bool} {t : TypeId} {fuel : Nat} {cs : List Value} {x : DataW H × List MemPlace}
theorem choose_list {α : Type} (Q : Nat → α → Prop) : ∀ n : Nat, (∀ i, i < n → ∃ x, Q i x) → ∃ xs : List α, xs.length = n ∧ ∀ i x, xs[i]? = some x → Q i x := by
  intro n
  induction n with
  | zero => intro _; exact ⟨[], rfl, fun i x h => by simp at h⟩
  | succ n ih =>
    intro h
    obtain ⟨xs, hl, hx⟩ := ih (fun i hi => h i (by omega))
    obtain ⟨y, hy⟩ := h n (by omega)
    refine ⟨xs ++ [y], by simp [hl], fun i x hi => ?_⟩
    by_cases e : i < n
    · exact hx i x (by rwa [List.getElem?_append_left (by omega)] at hi)
    · have hn : i = n := by
        have := (List.getElem?_eq_some_iff.1 hi).1
        simp [hl] at this; omega
      subst hn
      rw [← hl] at hi; simp at hi; subst hi; exact hy
/-- a slice of elements, each of which is laid open by ih. -/
theorem slice_of {α : Type} (d : Kd α) (Inv : α → Prop) {e : TypeId} (ht : P.underlying t = some (.slice e)) (hc : P.cellsOf e = d.sz)
    (ih : ∀ m cs y, m < fuel → DataW.trod enc P w base spare held m e cs = some y → ∃ x, d.K w x cs ∧ Inv x) (h : DataW.trod enc P w base spare held fuel t cs = some x) :
    ∃ A c xs, cs = [.slice A xs.length c] ∧ xs.length ≤ c ∧ xs.length ≤ maxLen ∧ d.C w A xs.length xs ∧ ∀ x ∈ xs, Inv x := by
  rcases DataW.trod_slice ht h with ⟨rfl, _⟩ | ⟨a, len, cap, elems, rest, n, hf, rfl, _, hb, hl, hm, hel, he, _⟩
  · exact ⟨none, 0, [], rfl, Nat.le_refl _, Nat.zero_le _, ⟨rfl, by simp, fun h => absurd h (Nat.lt_irrefl 0)⟩, fun x hx => absurd hx List.not_mem_nil⟩
  obtain ⟨xs, hxl, hx⟩ := choose_list (fun i (x : α) => Inv x ∧ ∃ c, c.length = d.sz ∧ d.K w x c ∧ ∀ j u, c[j]? = some u → w.cell? (a.add (i * d.sz + j)) = some u) len (fun i hi => by
    have h1 := he i hi
    rw [List.getElem?_eq_getElem (by omega)] at h1
    obtain ⟨c, h2, h3⟩ := Option.bind_eq_some_iff.1 h1
    obtain ⟨_, h4, h5⟩ := World.cells?_some h2
    obtain ⟨x, hk, hi'⟩ := ih n c _ (by omega) h3
    refine ⟨x, hi', c, by rw [h4, hc], hk, fun j u hu => ?_⟩
    have hj : j < P.cellsOf e := by rw [← h4]; exact (List.getElem?_eq_some_iff.1 hu).1
    rw [← hc, ← add_add, h5 j hj, hu])
  refine ⟨some a, cap, xs, by rw [hxl], by omega, by omega, ⟨rfl, by rw [hxl]; exact Nat.le_trans hl hm, fun _ => ⟨a, rfl, fun j p hj => (hx j p hj).2⟩⟩, fun y hy => ?_⟩
  obtain ⟨j, hj, e⟩ := List.getElem_of_mem hy
  exact (hx j y (by rw [List.getElem?_eq_getElem hj, e])).1
end
section
variable {H : Type} {enc : TypeId × Value → H} {w : World} {base : Nat} {spare : Nat → Bool} {held : Bool}
set_option maxRecDepth 100000 in
theorem expr_of (fuel : Nat) : ∀ (cs : List Value) (y : DataW H × List MemPlace), DataW.trod enc Try.prog w base spare held fuel 24 cs = some y → ∃ x : S24, k24.K w x cs ∧ GoodT x := by
  induction fuel using Nat.strongRecOn with
  | _ fuel ih =>
    intro cs y h
    obtain ⟨xs, n, rfl, _, hl, hlen, hfs⟩ := DataW.trod_struct Try.underlying24 h
    obtain ⟨e0, e1, e2, e3, rfl⟩ : ∃ a b c d, cs = [a, b, c, d] := by
      have : cs.length = 4 := hl.trans (by kernel_rfl)
      match cs, this with
      | [a, b, c, d], _ => exact ⟨a, b, c, d, rfl⟩
    obtain ⟨n0, rfl, w0⟩ := int_field Try.underlying24 h 0 rfl Try.underlying3 (by kernel_rfl) rfl
    obtain ⟨n1, rfl, w1⟩ := int_field Try.underlying24 h 1 rfl Try.underlying3 (by kernel_rfl) rfl
    obtain ⟨s, rfl, w2⟩ := string_field Try.underlying24 h 2 rfl Try.underlying9 (by kernel_rfl) rfl
    have h3 : DataW.trod enc Try.prog w base spare held n 22 (([.int .i64 n0, .int .i64 n1, .string s, e3].drop 3).take (Try.prog.cellsOf 22)) = xs[3]? := hfs 3 _ rfl
    rw [show Try.prog.cellsOf 22 = 1 by kernel_rfl, List.getElem?_eq_getElem (by rw [hlen]; decide)] at h3
    obtain ⟨A, c, l, hcs, hle, hm, hC, hinv⟩ := slice_of k24 GoodT Try.underlying22 (show Try.prog.cellsOf 24 = 4 by kernel_rfl) (fun m cs y hm h => ih m (by omega) cs y h) h3
    have e : e3 = .slice A l.length c := by simpa using hcs
    subst e
    exact ⟨⟨n0, n1, s, l⟩, k24_mk w ⟨n0, n1, s, l⟩ hle hC, GoodT.mk _ w0 w1 w2 hm hinv⟩
end
section
variable {H : Type} {enc : TypeId × Value → H} {P : Program} {w : World} {base : Nat} {spare : Nat → Bool} {held : Bool} {t e : TypeId} {fuel : Nat} {cs : List Value} {x : DataW H × List MemPlace}
theorem ints_of {k : IntKind} (ht : P.underlying t = some (.slice e)) (hu : P.underlying e = some (.int k)) (hc : P.cellsOf e = 1) (h : DataW.trod enc P w base spare held fuel t cs = some x) :
    ∃ A c xs, cs = [.slice A xs.length c] ∧ xs.length ≤ c ∧ xs.length ≤ maxLen ∧ (Kd.int k).C w A xs.length xs ∧ ∀ x ∈ xs, (Lit.int k x).wf = true :=
  slice_of (Kd.int k) (fun x => (Lit.int k x).wf = true) ht hc (fun m cs y _ h => by obtain ⟨n, hn, _, hw⟩ := DataW.trod_int hu h; exact ⟨n, hn, hw⟩) h
theorem strings_of (ht : P.underlying t = some (.slice e)) (hu : P.underlying e = some .string) (hc : P.cellsOf e = 1) (h : DataW.trod enc P w base spare held fuel t cs = some x) :
    ∃ A c xs, cs = [.slice A xs.length c] ∧ xs.length ≤ c ∧ xs.length ≤ maxLen ∧ Kd.string.C w A xs.length xs ∧ ∀ x ∈ xs, x.size ≤ maxLen :=
  slice_of Kd.string (fun x => x.size ≤ maxLen) ht hc (fun m cs y _ h => by obtain ⟨n, hn, _, hw⟩ := DataW.trod_string hu h; exact ⟨n, hn, hw⟩) h
set_option maxRecDepth 100000 in
theorem exprs_of {w : World} (ht : Try.prog.underlying t = some (.slice 24)) (h : DataW.trod enc Try.prog w base spare held fuel t cs = some x) :
    ∃ A c xs, cs = [.slice A xs.length c] ∧ xs.length ≤ c ∧ xs.length ≤ maxLen ∧ k24.C w A xs.length xs ∧ ∀ x ∈ xs, GoodT x :=
  slice_of k24 GoodT ht (show Try.prog.cellsOf 24 = 4 by kernel_rfl) (fun m cs y _ h => expr_of m cs y h) h
end
end Go.Proofs.Ytcpnhlhigpgonaa.OXFnExactFold
