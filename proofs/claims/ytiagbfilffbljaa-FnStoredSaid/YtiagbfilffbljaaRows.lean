/-
  No cell of these rows narrows 'for every input' (looked for: loops, veiled, ifaces, maps, wideKeys, modest, calm, conditions, laid).
  DERIVED. THE GIVEN ROWS OF THIS SEAT. 12 by the template 'for every input the law returns true; each argument reads behind the call as it read before'; 0 by the template 'total and deterministic' (their statements: YtiagbfilffbljaaTotals.lean).
  GIVEN WITH THE SEED: the statements are not yours to turn. If you find one false, say at which input.
  Laid BY PROGRAM, IN A SANDBOX (cutbox-rows.mjs): the forced cells as the released guide's own fill.sh prints them over the translation 4bc97dc754048f47… (all of the seat's roots in one cut). By AI agents, Wed Nov 11 2026. No macro, syntax, notation, axiom, sorry.
-/
import Derived.Test.YtiagbfilffbljaaChecked
import GoSem.Claim
import GoSem.ClaimJoined
import GoSem.ClaimMapViews
import Derived.JoinedTies
import Derived.KernelRfl
namespace Go.Proofs.Ytiagbfilffbljaa
/- THE CELL 'sum', in the pinned program and in every row, IS THE sha256 OF THE DUMP (.gsa) THAT YtiagbfilffbljaaProg.lean LOADS. Nothing in Lean hashes anything: it is a label: what it is worth is what the hold of that sum in a sandbox is worth. -/
noncomputable def Try.pinned : Pinned := { name := "ytiagbfilffbljaa", sum := "4bc97dc754048f47898afb0d9df4e399985d70aeed6874ae3016973dacfdd315", checked := Try.checked }
namespace Rows
def none {H : Type} : Left H := { results := [], args := [] }

/-- 'laws.FnExactReadW': WHATEVER THE INPUT: true; the input reads as it did. -/
def fnExactReadWSpec : ChangeSpec := { name := "fnExactReadW", fn := fun _ => fun
  | [d1, d2] => { results := [.lit (.bool true)], args := [d1, d2] }
  | _ => none }
def fnExactReadWRow : OpenClaim := { program := "ytiagbfilffbljaa", sum := "4bc97dc754048f47898afb0d9df4e399985d70aeed6874ae3016973dacfdd315", func := "loop.example/g00329/laws.FnExactReadW", spec := "fnExactReadW", apart := false }
def FnExactReadWSaid : Prop := fnExactReadWRow.holds Try.pinned (OpenSpec.ofChange fnExactReadWSpec)

/-- ITS FALSE NEIGHBOUR: 'it returns false'. Refute it at one input. -/
def fnExactReadWWrong : ChangeSpec := { name := "fnExactReadW", fn := fun _ => fun
  | [d1, d2] => { results := [.lit (.bool false)], args := [d1, d2] }
  | _ => none }
def FnExactReadWWrongFalsely : Prop := fnExactReadWRow.holds Try.pinned (OpenSpec.ofChange fnExactReadWWrong)

/-- 'laws.FnExactFlags': WHATEVER THE INPUT: true; the input reads as it did. -/
def fnExactFlagsSpec : ChangeSpec := { name := "fnExactFlags", fn := fun _ => fun
  | [d] => { results := [.lit (.bool true)], args := [d] }
  | _ => none }
def fnExactFlagsRow : OpenClaim := { program := "ytiagbfilffbljaa", sum := "4bc97dc754048f47898afb0d9df4e399985d70aeed6874ae3016973dacfdd315", func := "loop.example/g00329/laws.FnExactFlags", spec := "fnExactFlags", apart := false }
def FnExactFlagsSaid : Prop := fnExactFlagsRow.holds Try.pinned (OpenSpec.ofChange fnExactFlagsSpec)

/-- ITS FALSE NEIGHBOUR: 'it returns false'. Refute it at one input. -/
def fnExactFlagsWrong : ChangeSpec := { name := "fnExactFlags", fn := fun _ => fun
  | [d] => { results := [.lit (.bool false)], args := [d] }
  | _ => none }
def FnExactFlagsWrongFalsely : Prop := fnExactFlagsRow.holds Try.pinned (OpenSpec.ofChange fnExactFlagsWrong)

/-- 'laws.FnExactMachOk': WHATEVER THE INPUT: true; the input reads as it did. -/
def fnExactMachOkSpec : ChangeSpec := { name := "fnExactMachOk", fn := fun _ => fun
  | [d] => { results := [.lit (.bool true)], args := [d] }
  | _ => none }
def fnExactMachOkRow : OpenClaim := { program := "ytiagbfilffbljaa", sum := "4bc97dc754048f47898afb0d9df4e399985d70aeed6874ae3016973dacfdd315", func := "loop.example/g00329/laws.FnExactMachOk", spec := "fnExactMachOk", apart := false }
def FnExactMachOkSaid : Prop := fnExactMachOkRow.holds Try.pinned (OpenSpec.ofChange fnExactMachOkSpec)

/-- ITS FALSE NEIGHBOUR: 'it returns false'. Refute it at one input. -/
def fnExactMachOkWrong : ChangeSpec := { name := "fnExactMachOk", fn := fun _ => fun
  | [d] => { results := [.lit (.bool false)], args := [d] }
  | _ => none }
def FnExactMachOkWrongFalsely : Prop := fnExactMachOkRow.holds Try.pinned (OpenSpec.ofChange fnExactMachOkWrong)

/-- 'laws.FnExactLoad': WHATEVER THE INPUT: true; the input reads as it did. -/
def fnExactLoadSpec : ChangeSpec := { name := "fnExactLoad", fn := fun _ => fun
  | [d1, d2] => { results := [.lit (.bool true)], args := [d1, d2] }
  | _ => none }
def fnExactLoadRow : OpenClaim := { program := "ytiagbfilffbljaa", sum := "4bc97dc754048f47898afb0d9df4e399985d70aeed6874ae3016973dacfdd315", func := "loop.example/g00329/laws.FnExactLoad", spec := "fnExactLoad", apart := false }
def FnExactLoadSaid : Prop := fnExactLoadRow.holds Try.pinned (OpenSpec.ofChange fnExactLoadSpec)

/-- ITS FALSE NEIGHBOUR: 'it returns false'. Refute it at one input. -/
def fnExactLoadWrong : ChangeSpec := { name := "fnExactLoad", fn := fun _ => fun
  | [d1, d2] => { results := [.lit (.bool false)], args := [d1, d2] }
  | _ => none }
def FnExactLoadWrongFalsely : Prop := fnExactLoadRow.holds Try.pinned (OpenSpec.ofChange fnExactLoadWrong)

/-- 'laws.FnExactMachNew': WHATEVER THE INPUT: true; the input reads as it did. -/
def fnExactMachNewSpec : ChangeSpec := { name := "fnExactMachNew", fn := fun _ => fun
  | [d1, d2, d3, d4] => { results := [.lit (.bool true)], args := [d1, d2, d3, d4] }
  | _ => none }
def fnExactMachNewRow : OpenClaim := { program := "ytiagbfilffbljaa", sum := "4bc97dc754048f47898afb0d9df4e399985d70aeed6874ae3016973dacfdd315", func := "loop.example/g00329/laws.FnExactMachNew", spec := "fnExactMachNew", apart := false }
def FnExactMachNewSaid : Prop := fnExactMachNewRow.holds Try.pinned (OpenSpec.ofChange fnExactMachNewSpec)

/-- ITS FALSE NEIGHBOUR: 'it returns false'. Refute it at one input. -/
def fnExactMachNewWrong : ChangeSpec := { name := "fnExactMachNew", fn := fun _ => fun
  | [d1, d2, d3, d4] => { results := [.lit (.bool false)], args := [d1, d2, d3, d4] }
  | _ => none }
def FnExactMachNewWrongFalsely : Prop := fnExactMachNewRow.holds Try.pinned (OpenSpec.ofChange fnExactMachNewWrong)

/-- 'laws.FnExactWriteW': WHATEVER THE INPUT: true; the input reads as it did. -/
def fnExactWriteWSpec : ChangeSpec := { name := "fnExactWriteW", fn := fun _ => fun
  | [d1, d2, d3] => { results := [.lit (.bool true)], args := [d1, d2, d3] }
  | _ => none }
def fnExactWriteWRow : OpenClaim := { program := "ytiagbfilffbljaa", sum := "4bc97dc754048f47898afb0d9df4e399985d70aeed6874ae3016973dacfdd315", func := "loop.example/g00329/laws.FnExactWriteW", spec := "fnExactWriteW", apart := false }
def FnExactWriteWSaid : Prop := fnExactWriteWRow.holds Try.pinned (OpenSpec.ofChange fnExactWriteWSpec)

/-- ITS FALSE NEIGHBOUR: 'it returns false'. Refute it at one input. -/
def fnExactWriteWWrong : ChangeSpec := { name := "fnExactWriteW", fn := fun _ => fun
  | [d1, d2, d3] => { results := [.lit (.bool false)], args := [d1, d2, d3] }
  | _ => none }
def FnExactWriteWWrongFalsely : Prop := fnExactWriteWRow.holds Try.pinned (OpenSpec.ofChange fnExactWriteWWrong)

/-- 'laws.FnExactStore': WHATEVER THE INPUT: true; the input reads as it did. -/
def fnExactStoreSpec : ChangeSpec := { name := "fnExactStore", fn := fun _ => fun
  | [d1, d2, d3] => { results := [.lit (.bool true)], args := [d1, d2, d3] }
  | _ => none }
def fnExactStoreRow : OpenClaim := { program := "ytiagbfilffbljaa", sum := "4bc97dc754048f47898afb0d9df4e399985d70aeed6874ae3016973dacfdd315", func := "loop.example/g00329/laws.FnExactStore", spec := "fnExactStore", apart := false }
def FnExactStoreSaid : Prop := fnExactStoreRow.holds Try.pinned (OpenSpec.ofChange fnExactStoreSpec)

/-- ITS FALSE NEIGHBOUR: 'it returns false'. Refute it at one input. -/
def fnExactStoreWrong : ChangeSpec := { name := "fnExactStore", fn := fun _ => fun
  | [d1, d2, d3] => { results := [.lit (.bool false)], args := [d1, d2, d3] }
  | _ => none }
def FnExactStoreWrongFalsely : Prop := fnExactStoreRow.holds Try.pinned (OpenSpec.ofChange fnExactStoreWrong)

/-- 'laws.FnMachs': WHATEVER THE INPUT: true; the input reads as it did. -/
def fnMachsSpec : ChangeSpec := { name := "fnMachs", fn := fun _ => fun
  | [d] => { results := [.lit (.bool true)], args := [d] }
  | _ => none }
def fnMachsRow : OpenClaim := { program := "ytiagbfilffbljaa", sum := "4bc97dc754048f47898afb0d9df4e399985d70aeed6874ae3016973dacfdd315", func := "loop.example/g00329/laws.FnMachs", spec := "fnMachs", apart := false }
def FnMachsSaid : Prop := fnMachsRow.holds Try.pinned (OpenSpec.ofChange fnMachsSpec)

/-- ITS FALSE NEIGHBOUR: 'it returns false'. Refute it at one input. -/
def fnMachsWrong : ChangeSpec := { name := "fnMachs", fn := fun _ => fun
  | [d] => { results := [.lit (.bool false)], args := [d] }
  | _ => none }
def FnMachsWrongFalsely : Prop := fnMachsRow.holds Try.pinned (OpenSpec.ofChange fnMachsWrong)

/-- 'laws.FnExactPlaceOf': WHATEVER THE INPUT: true; the input reads as it did. -/
def fnExactPlaceOfSpec : ChangeSpec := { name := "fnExactPlaceOf", fn := fun _ => fun
  | [d1, d2] => { results := [.lit (.bool true)], args := [d1, d2] }
  | _ => none }
def fnExactPlaceOfRow : OpenClaim := { program := "ytiagbfilffbljaa", sum := "4bc97dc754048f47898afb0d9df4e399985d70aeed6874ae3016973dacfdd315", func := "loop.example/g00329/laws.FnExactPlaceOf", spec := "fnExactPlaceOf", apart := false }
def FnExactPlaceOfSaid : Prop := fnExactPlaceOfRow.holds Try.pinned (OpenSpec.ofChange fnExactPlaceOfSpec)

/-- ITS FALSE NEIGHBOUR: 'it returns false'. Refute it at one input. -/
def fnExactPlaceOfWrong : ChangeSpec := { name := "fnExactPlaceOf", fn := fun _ => fun
  | [d1, d2] => { results := [.lit (.bool false)], args := [d1, d2] }
  | _ => none }
def FnExactPlaceOfWrongFalsely : Prop := fnExactPlaceOfRow.holds Try.pinned (OpenSpec.ofChange fnExactPlaceOfWrong)

/-- 'laws.FnMachsBent': WHATEVER THE INPUT: true; the input reads as it did. -/
def fnMachsBentSpec : ChangeSpec := { name := "fnMachsBent", fn := fun _ => fun
  | [d] => { results := [.lit (.bool true)], args := [d] }
  | _ => none }
def fnMachsBentRow : OpenClaim := { program := "ytiagbfilffbljaa", sum := "4bc97dc754048f47898afb0d9df4e399985d70aeed6874ae3016973dacfdd315", func := "loop.example/g00329/laws.FnMachsBent", spec := "fnMachsBent", apart := false }
def FnMachsBentSaid : Prop := fnMachsBentRow.holds Try.pinned (OpenSpec.ofChange fnMachsBentSpec)

/-- ITS FALSE NEIGHBOUR: 'it returns false'. Refute it at one input. -/
def fnMachsBentWrong : ChangeSpec := { name := "fnMachsBent", fn := fun _ => fun
  | [d] => { results := [.lit (.bool false)], args := [d] }
  | _ => none }
def FnMachsBentWrongFalsely : Prop := fnMachsBentRow.holds Try.pinned (OpenSpec.ofChange fnMachsBentWrong)

/-- 'laws.FnStored': WHATEVER THE INPUT: true; the input reads as it did. -/
def fnStoredSpec : ChangeSpec := { name := "fnStored", fn := fun _ => fun
  | [d] => { results := [.lit (.bool true)], args := [d] }
  | _ => none }
def fnStoredRow : OpenClaim := { program := "ytiagbfilffbljaa", sum := "4bc97dc754048f47898afb0d9df4e399985d70aeed6874ae3016973dacfdd315", func := "loop.example/g00329/laws.FnStored", spec := "fnStored", apart := false }
def FnStoredSaid : Prop := fnStoredRow.holds Try.pinned (OpenSpec.ofChange fnStoredSpec)

/-- ITS FALSE NEIGHBOUR: 'it returns false'. Refute it at one input. -/
def fnStoredWrong : ChangeSpec := { name := "fnStored", fn := fun _ => fun
  | [d] => { results := [.lit (.bool false)], args := [d] }
  | _ => none }
def FnStoredWrongFalsely : Prop := fnStoredRow.holds Try.pinned (OpenSpec.ofChange fnStoredWrong)

/-- 'laws.FnPlaces': WHATEVER THE INPUT: true; the input reads as it did. -/
def fnPlacesSpec : ChangeSpec := { name := "fnPlaces", fn := fun _ => fun
  | [d] => { results := [.lit (.bool true)], args := [d] }
  | _ => none }
def fnPlacesRow : OpenClaim := { program := "ytiagbfilffbljaa", sum := "4bc97dc754048f47898afb0d9df4e399985d70aeed6874ae3016973dacfdd315", func := "loop.example/g00329/laws.FnPlaces", spec := "fnPlaces", apart := false }
def FnPlacesSaid : Prop := fnPlacesRow.holds Try.pinned (OpenSpec.ofChange fnPlacesSpec)

/-- ITS FALSE NEIGHBOUR: 'it returns false'. Refute it at one input. -/
def fnPlacesWrong : ChangeSpec := { name := "fnPlaces", fn := fun _ => fun
  | [d] => { results := [.lit (.bool false)], args := [d] }
  | _ => none }
def FnPlacesWrongFalsely : Prop := fnPlacesRow.holds Try.pinned (OpenSpec.ofChange fnPlacesWrong)

/- THE SECOND FORM. 'bulk': how many values and letters a reading holds, each counted each time it is reached (what is shared counts as often as it is met; a slice's spare places count too). A statement '..UptoSaid' is the law's where the arguments, and the package variables that the reading takes, are together of bulk at most 1048576: NARROWER than '..Said'. Prove '..Said' where nothing that the law and all that it calls make is longer than what came in: it says more and counts as full. Else prove '..UptoSaid'. A law counts once. -/
mutual
def uptoBulk {H : Type} : DataW H → Nat
  | .lit (.string bytes) => bytes.length + 1
  | .lit _ => 1
  | .nil => 1
  | .ptr d => uptoBulk d + 1
  | .slice elems spare => uptoBulkAll elems + uptoBulkAll spare + 1
  | .agg parts => uptoBulkAll parts + 1
  | .iface _ d => uptoBulk d + 1
  | .map entries => uptoBulkEntries entries + 1
  | .held _ => 1
def uptoBulkAll {H : Type} : List (DataW H) → Nat
  | [] => 0
  | d :: r => uptoBulk d + uptoBulkAll r
def uptoBulkEntries {H : Type} : List (Lit × DataW H) → Nat
  | [] => 0
  | x :: r => uptoBulkEntry x + uptoBulkEntries r
def uptoBulkEntry {H : Type} : Lit × DataW H → Nat
  | (.string bytes, d) => bytes.length + uptoBulk d + 1
  | (_, d) => uptoBulk d + 1
 end
def uptoSmall : (H : Type) → List (DataW H) → Bool := fun _ ds => decide (uptoBulkAll ds ≤ 1048576)
def OpenSpec.upto (s : _root_.Go.ChangeSpec) : _root_.Go.OpenSpec := { _root_.Go.OpenSpec.ofChange s with cond := some uptoSmall }

/-- 'laws.FnExactReadW', WHERE WHAT IT READS IS OF BULK AT MOST 1048576: true; the input reads as it did. -/
def fnExactReadWUptoRow : OpenClaim := { program := "ytiagbfilffbljaa", sum := "4bc97dc754048f47898afb0d9df4e399985d70aeed6874ae3016973dacfdd315", func := "loop.example/g00329/laws.FnExactReadW", spec := "fnExactReadW", apart := false, narrowed := true }
def FnExactReadWUptoSaid : Prop := fnExactReadWUptoRow.holds Try.pinned (OpenSpec.upto fnExactReadWSpec)

/-- 'laws.FnExactFlags', WHERE WHAT IT READS IS OF BULK AT MOST 1048576: true; the input reads as it did. -/
def fnExactFlagsUptoRow : OpenClaim := { program := "ytiagbfilffbljaa", sum := "4bc97dc754048f47898afb0d9df4e399985d70aeed6874ae3016973dacfdd315", func := "loop.example/g00329/laws.FnExactFlags", spec := "fnExactFlags", apart := false, narrowed := true }
def FnExactFlagsUptoSaid : Prop := fnExactFlagsUptoRow.holds Try.pinned (OpenSpec.upto fnExactFlagsSpec)

/-- 'laws.FnExactMachOk', WHERE WHAT IT READS IS OF BULK AT MOST 1048576: true; the input reads as it did. -/
def fnExactMachOkUptoRow : OpenClaim := { program := "ytiagbfilffbljaa", sum := "4bc97dc754048f47898afb0d9df4e399985d70aeed6874ae3016973dacfdd315", func := "loop.example/g00329/laws.FnExactMachOk", spec := "fnExactMachOk", apart := false, narrowed := true }
def FnExactMachOkUptoSaid : Prop := fnExactMachOkUptoRow.holds Try.pinned (OpenSpec.upto fnExactMachOkSpec)

/-- 'laws.FnExactLoad', WHERE WHAT IT READS IS OF BULK AT MOST 1048576: true; the input reads as it did. -/
def fnExactLoadUptoRow : OpenClaim := { program := "ytiagbfilffbljaa", sum := "4bc97dc754048f47898afb0d9df4e399985d70aeed6874ae3016973dacfdd315", func := "loop.example/g00329/laws.FnExactLoad", spec := "fnExactLoad", apart := false, narrowed := true }
def FnExactLoadUptoSaid : Prop := fnExactLoadUptoRow.holds Try.pinned (OpenSpec.upto fnExactLoadSpec)

/-- 'laws.FnExactMachNew', WHERE WHAT IT READS IS OF BULK AT MOST 1048576: true; the input reads as it did. -/
def fnExactMachNewUptoRow : OpenClaim := { program := "ytiagbfilffbljaa", sum := "4bc97dc754048f47898afb0d9df4e399985d70aeed6874ae3016973dacfdd315", func := "loop.example/g00329/laws.FnExactMachNew", spec := "fnExactMachNew", apart := false, narrowed := true }
def FnExactMachNewUptoSaid : Prop := fnExactMachNewUptoRow.holds Try.pinned (OpenSpec.upto fnExactMachNewSpec)

/-- 'laws.FnExactWriteW', WHERE WHAT IT READS IS OF BULK AT MOST 1048576: true; the input reads as it did. -/
def fnExactWriteWUptoRow : OpenClaim := { program := "ytiagbfilffbljaa", sum := "4bc97dc754048f47898afb0d9df4e399985d70aeed6874ae3016973dacfdd315", func := "loop.example/g00329/laws.FnExactWriteW", spec := "fnExactWriteW", apart := false, narrowed := true }
def FnExactWriteWUptoSaid : Prop := fnExactWriteWUptoRow.holds Try.pinned (OpenSpec.upto fnExactWriteWSpec)

/-- 'laws.FnExactStore', WHERE WHAT IT READS IS OF BULK AT MOST 1048576: true; the input reads as it did. -/
def fnExactStoreUptoRow : OpenClaim := { program := "ytiagbfilffbljaa", sum := "4bc97dc754048f47898afb0d9df4e399985d70aeed6874ae3016973dacfdd315", func := "loop.example/g00329/laws.FnExactStore", spec := "fnExactStore", apart := false, narrowed := true }
def FnExactStoreUptoSaid : Prop := fnExactStoreUptoRow.holds Try.pinned (OpenSpec.upto fnExactStoreSpec)

/-- 'laws.FnMachs', WHERE WHAT IT READS IS OF BULK AT MOST 1048576: true; the input reads as it did. -/
def fnMachsUptoRow : OpenClaim := { program := "ytiagbfilffbljaa", sum := "4bc97dc754048f47898afb0d9df4e399985d70aeed6874ae3016973dacfdd315", func := "loop.example/g00329/laws.FnMachs", spec := "fnMachs", apart := false, narrowed := true }
def FnMachsUptoSaid : Prop := fnMachsUptoRow.holds Try.pinned (OpenSpec.upto fnMachsSpec)

/-- 'laws.FnExactPlaceOf', WHERE WHAT IT READS IS OF BULK AT MOST 1048576: true; the input reads as it did. -/
def fnExactPlaceOfUptoRow : OpenClaim := { program := "ytiagbfilffbljaa", sum := "4bc97dc754048f47898afb0d9df4e399985d70aeed6874ae3016973dacfdd315", func := "loop.example/g00329/laws.FnExactPlaceOf", spec := "fnExactPlaceOf", apart := false, narrowed := true }
def FnExactPlaceOfUptoSaid : Prop := fnExactPlaceOfUptoRow.holds Try.pinned (OpenSpec.upto fnExactPlaceOfSpec)

/-- 'laws.FnMachsBent', WHERE WHAT IT READS IS OF BULK AT MOST 1048576: true; the input reads as it did. -/
def fnMachsBentUptoRow : OpenClaim := { program := "ytiagbfilffbljaa", sum := "4bc97dc754048f47898afb0d9df4e399985d70aeed6874ae3016973dacfdd315", func := "loop.example/g00329/laws.FnMachsBent", spec := "fnMachsBent", apart := false, narrowed := true }
def FnMachsBentUptoSaid : Prop := fnMachsBentUptoRow.holds Try.pinned (OpenSpec.upto fnMachsBentSpec)

/-- 'laws.FnStored', WHERE WHAT IT READS IS OF BULK AT MOST 1048576: true; the input reads as it did. -/
def fnStoredUptoRow : OpenClaim := { program := "ytiagbfilffbljaa", sum := "4bc97dc754048f47898afb0d9df4e399985d70aeed6874ae3016973dacfdd315", func := "loop.example/g00329/laws.FnStored", spec := "fnStored", apart := false, narrowed := true }
def FnStoredUptoSaid : Prop := fnStoredUptoRow.holds Try.pinned (OpenSpec.upto fnStoredSpec)

/-- 'laws.FnPlaces', WHERE WHAT IT READS IS OF BULK AT MOST 1048576: true; the input reads as it did. -/
def fnPlacesUptoRow : OpenClaim := { program := "ytiagbfilffbljaa", sum := "4bc97dc754048f47898afb0d9df4e399985d70aeed6874ae3016973dacfdd315", func := "loop.example/g00329/laws.FnPlaces", spec := "fnPlaces", apart := false, narrowed := true }
def FnPlacesUptoSaid : Prop := fnPlacesUptoRow.holds Try.pinned (OpenSpec.upto fnPlacesSpec)

end Rows
end Go.Proofs.Ytiagbfilffbljaa
