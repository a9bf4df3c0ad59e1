/- How a struct that comes in by value is laid open, field by field; for the rows of laws over structs. -/
import Derived.WalkKit
import Derived.ProofKit
import Derived.OpenShut
import Derived.ChangeOld
import Derived.Below
import Derived.ChangeSlices
import Derived.ChangeArms
namespace Go.Proofs.Ytcpnhlhigpgonaa.Opens
open Go.ChangeShapes Go.WideShapes Go.ChangeAt Go.RowKit
section
variable {H : Type} {enc : TypeId × Value → H} {P : Program} {w : World} {base : Nat} {spare : Nat → Bool} {held : Bool} {t : TypeId} {fuel : Nat} {cs : List Value} {x : DataW H × List MemPlace} {fs : Array Field}
theorem field (ht : P.underlying t = some (.struct fs)) (h : DataW.trod enc P w base spare held fuel t cs = some x) (i : Nat) (f : Field) (hf : fs[i]? = some f) :
    ∃ m y, DataW.trod enc P w base spare held m f.type ((cs.drop f.offset).take (P.cellsOf f.type)) = some y := by
  obtain ⟨xs, n, _, _, _, hlen, hfs⟩ := DataW.trod_struct ht h
  have hi : i < xs.length := by rw [hlen]; exact (Array.getElem?_eq_some_iff.1 hf).1
  exact ⟨n, xs[i], (hfs i f hf).trans (List.getElem?_eq_getElem hi)⟩
theorem one {cs : List Value} {o : Nat} {v u : Value} (hv : cs[o]? = some v) (h : (cs.drop o).take 1 = [u]) : v = u := by
  have : ((cs.drop o).take 1)[0]? = some u := by rw [h]; rfl
  rw [List.getElem?_take, if_pos (by decide), List.getElem?_drop, Nat.add_zero, hv] at this
  exact Option.some.inj this
theorem int_field (ht : P.underlying t = some (.struct fs)) (h : DataW.trod enc P w base spare held fuel t cs = some x) (i : Nat) {f : Field} (hf : fs[i]? = some f) {k : IntKind} (hu : P.underlying f.type = some (.int k)) (hc : P.cellsOf f.type = 1)
    {v : Value} (hv : cs[f.offset]? = some v) : ∃ n, v = .int k n ∧ (Lit.int k n).wf = true := by
  obtain ⟨m, y, hy⟩ := field ht h i f hf
  rw [hc] at hy
  obtain ⟨n, hn, _, hw⟩ := DataW.trod_int hu hy
  exact ⟨n, one hv hn, hw⟩
theorem string_field (ht : P.underlying t = some (.struct fs)) (h : DataW.trod enc P w base spare held fuel t cs = some x) (i : Nat) {f : Field} (hf : fs[i]? = some f) (hu : P.underlying f.type = some .string) (hc : P.cellsOf f.type = 1)
    {v : Value} (hv : cs[f.offset]? = some v) : ∃ s : ByteArray, v = .string s ∧ s.size ≤ maxLen := by
  obtain ⟨m, y, hy⟩ := field ht h i f hf
  rw [hc] at hy
  obtain ⟨n, hn, _, hw⟩ := DataW.trod_string hu hy
  exact ⟨n, one hv hn, hw⟩
end
end Go.Proofs.Ytcpnhlhigpgonaa.Opens
