/- How a struct that comes in by value is laid open, field by field; for the rows of laws over structs. -/
import Derived.WalkKit
import Derived.ProofKit
import Derived.OpenShut
import Derived.ChangeOld
import Derived.Below
import Derived.ChangeSlices
import Derived.ChangeArms
namespace Go.Proofs.Ytcpnhlhigpgonaa.Opens
open Go.ChangeShapes Go.WideShapes Go.ChangeAt Go.RowKit
section
variable {H : Type} {enc : TypeId × Value → H} {P : Program} {w : World} {base : Nat} {spare : Nat → Bool} {held : Bool} {t : TypeId} {fuel : Nat} {cs : List Value} {x : DataW H × List MemPlace} {fs : Array Field}
theorem field (ht : P.underlying t = some (.struct fs)) (h : DataW.trod enc P w base spare held fuel t cs = some x) (i : Nat) (f : Field) (hf : fs[i]? = some f) :
    ∃ m y, DataW.trod enc P w base spare held m f.type ((cs.drop f.offset).take (P.cellsOf f.type)) = some y := by
  obtain ⟨xs, n, _, _, _, hlen, hfs⟩ := DataW.trod_struct ht h
  have hi : i < xs.length := by rw [hlen]; exact (Array.getElem?_eq_some_iff.1 hf).1
  exact ⟨n, xs[i], (hfs i f hf).trans (List.getElem?_eq_getElem hi)⟩
theorem one {cs : List Value} {o : Nat} {v u : Value} (hv : cs[o]? = some v) (h : (cs.drop o).take 1 = [u]) : v = u := by
  have : ((cs.drop o).take 1)[0]? = some u := by rw [h]; rfl
  rw [List.getElem?_take, if_pos (by decide), List.getElem?_drop, Nat.add_zero, hv] at this
  exact Option.some.inj this
theorem int_field (ht : P.underlying t = some (.struct fs)) (h : DataW.trod enc P w base spare held fuel t cs = some x) (i : Nat) {f : Field} (hf : fs[i]? = some f) {k : IntKind} (hu : P.underlying f.type = some (.int k)) (hc : P.cellsOf f.type = 1)
    {v : Value} (hv : cs[f.offset]? = some v) : ∃ n, v = .int k n ∧ (Lit.int k n).wf = true := by
  obtain ⟨m, y, hy⟩ := field ht h i f hf
  rw [hc] at hy
  obtain ⟨n, hn, _, hw⟩ := DataW.trod_int hu hy
  exact ⟨n, one hv hn, hw⟩
theorem bool_field (ht : P.underlying t = some (.struct fs)) (h : DataW.trod enc P w base spare held fuel t cs = some x) (i : Nat) {f : Field} (hf : fs[i]? = some f) (hu : P.underlying f.type = some .bool) (hc : P.cellsOf f.type = 1)
    {v : Value} (hv : cs[f.offset]? = some v) : ∃ b, v = .bool b := by
  obtain ⟨m, y, hy⟩ := field ht h i f hf
  rw [hc] at hy
  obtain ⟨n, hn, _⟩ := DataW.trod_bool hu hy
  exact ⟨n, one hv hn⟩
theorem string_field (ht : P.underlying t = some (.struct fs)) (h : DataW.trod enc P w base spare held fuel t cs = some x) (i : Nat) {f : Field} (hf : fs[i]? = some f) (hu : P.underlying f.type = some .string) (hc : P.cellsOf f.type = 1)
    {v : Value} (hv : cs[f.offset]? = some v) : ∃ s : ByteArray, v = .string s ∧ s.size ≤ maxLen := by
  obtain ⟨m, y, hy⟩ := field ht h i f hf
  rw [hc] at hy
  obtain ⟨n, hn, _, hw⟩ := DataW.trod_string hu hy
  exact ⟨n, one hv hn, hw⟩
theorem struct_field (ht : P.underlying t = some (.struct fs)) (h : DataW.trod enc P w base spare held fuel t cs = some x) (i : Nat) {f : Field} (hf : fs[i]? = some f) {c : Nat} (hc : P.cellsOf f.type = c) :
    ∃ m y, DataW.trod enc P w base spare held m f.type ((cs.drop f.offset).take c) = some y := by
  obtain ⟨m, y, hy⟩ := field ht h i f hf
  rw [hc] at hy
  exact ⟨m, y, hy⟩
def IsRow (k : IntKind) (w : World) (a : Option Addr) (len cap : Nat) (zs : List Int) : Prop :=
  (a = none ∧ len = 0 ∧ cap = 0 ∧ zs = []) ∨
  ∃ x, a = some x ∧ len ≤ cap ∧ cap ≤ maxLen ∧ zs.length = cap ∧ (∀ i, i < zs.length → w.cell? (x.add i) = some (.int k (zs.getD i 0))) ∧ ∀ n ∈ zs, (Lit.int k n).wf = true
theorem ints_field (hs : spare = fun _ => true) (ht : P.underlying t = some (.struct fs)) (h : DataW.trod enc P w base spare held fuel t cs = some x) (i : Nat) {f : Field} (hf : fs[i]? = some f) {e : TypeId} {k : IntKind} (hu : P.underlying f.type = some (.slice e)) (he : P.underlying e = some (.int k)) (hce : P.cellsOf e = 1) (hc : P.cellsOf f.type = 1)
    {v : Value} (hv : cs[f.offset]? = some v) : ∃ a len cap zs, v = .slice a len cap ∧ IsRow k w a len cap zs := by
  obtain ⟨m, y, hy⟩ := field ht h i f hf
  rw [hc] at hy
  rcases open_ints hu he hce hy with ⟨hcs, _⟩ | ⟨x, l, c, zs, hcs, _, hl, hm, hz, _, hcell, hwz⟩
  · exact ⟨none, 0, 0, [], one hv hcs, .inl ⟨rfl, rfl, rfl, rfl⟩⟩
  · subst hs
    exact ⟨some x, l, c, zs, one hv hcs, .inr ⟨_, rfl, hl, hm, by simpa using hz, hcell, hwz⟩⟩
end
theorem size2 {cs : Array Value} (h : cs.size = 2) : ∃ a b, cs = #[a, b] := by
  obtain ⟨l⟩ := cs; match l, h with | [a, b], _ => exact ⟨a, b, rfl⟩
theorem size3 {cs : Array Value} (h : cs.size = 3) : ∃ a b c, cs = #[a, b, c] := by
  obtain ⟨l⟩ := cs; match l, h with | [a, b, c], _ => exact ⟨a, b, c, rfl⟩
theorem size8 {cs : Array Value} (h : cs.size = 8) : ∃ a b c d e f g i, cs = #[a, b, c, d, e, f, g, i] := by
  obtain ⟨l⟩ := cs; match l, h with | [a, b, c, d, e, f, g, i], _ => exact ⟨a, b, c, d, e, f, g, i, rfl⟩
theorem size9 {cs : Array Value} (h : cs.size = 9) : ∃ a b c d e f g i j, cs = #[a, b, c, d, e, f, g, i, j] := by
  obtain ⟨l⟩ := cs; match l, h with | [a, b, c, d, e, f, g, i, j], _ => exact ⟨a, b, c, d, e, f, g, i, j, rfl⟩
end Go.Proofs.Ytcpnhlhigpgonaa.Opens
