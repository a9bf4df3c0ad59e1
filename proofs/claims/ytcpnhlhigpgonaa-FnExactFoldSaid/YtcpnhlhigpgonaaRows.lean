/-
  NARROWER THAN 'FOR EVERY INPUT', by the rows' own cells (each row's printed sentence says how): FnExactSameExpr: loops · FnExactExprOk: loops · FnExactPlainOk: loops · FnExactWorth: loops · FnExactPut: loops · FnExactKnown: loops · FnExactFold: loops.
  DERIVED. THE GIVEN ROWS OF THIS SEAT. 9 by the template 'for every input the law returns true; each argument reads behind the call as it read before'; 0 by the template 'total and deterministic' (their statements: YtcpnhlhigpgonaaTotals.lean).
  GIVEN WITH THE SEED: the statements are not yours to turn. If you find one false, say at which input.
  Laid BY PROGRAM, IN A SANDBOX (cutbox-rows.mjs): the forced cells as the released guide's own fill.sh prints them over the translation 8dd41a0f4c766b4d… (all of the seat's roots in one cut). By AI agents, Wed Nov 11 2026. No macro, syntax, notation, axiom, sorry.
-/
import Derived.Test.YtcpnhlhigpgonaaChecked
import GoSem.Claim
import GoSem.ClaimJoined
import GoSem.ClaimMapViews
import Derived.JoinedTies
import Derived.KernelRfl
namespace Go.Proofs.Ytcpnhlhigpgonaa
/- THE CELL 'sum', in the pinned program and in every row, IS THE sha256 OF THE DUMP (.gsa) THAT YtcpnhlhigpgonaaProg.lean LOADS. Nothing in Lean hashes anything: it is a label: what it is worth is what the hold of that sum in a sandbox is worth. -/
noncomputable def Try.pinned : Pinned := { name := "ytcpnhlhigpgonaa", sum := "8dd41a0f4c766b4d8beea1c2ca34ce3c0146aade2591b65a1272271898e7ec71", checked := Try.checked }
namespace Rows
def none {H : Type} : Left H := { results := [], args := [] }

/-- 'laws.FnExactSameExpr': WHATEVER THE INPUT: true; the input reads as it did. -/
def fnExactSameExprSpec : ChangeSpec := { name := "fnExactSameExpr", fn := fun _ => fun
  | [d1, d2] => { results := [.lit (.bool true)], args := [d1, d2] }
  | _ => none }
def fnExactSameExprRow : OpenClaim := { program := "ytcpnhlhigpgonaa", sum := "8dd41a0f4c766b4d8beea1c2ca34ce3c0146aade2591b65a1272271898e7ec71", func := "loop.example/g00329/laws.FnExactSameExpr", spec := "fnExactSameExpr", recurses := true, loops := true, apart := false }
def FnExactSameExprSaid : Prop := fnExactSameExprRow.holds Try.pinned (OpenSpec.ofChange fnExactSameExprSpec)

/-- ITS FALSE NEIGHBOUR: 'it returns false'. Refute it at one input. -/
def fnExactSameExprWrong : ChangeSpec := { name := "fnExactSameExpr", fn := fun _ => fun
  | [d1, d2] => { results := [.lit (.bool false)], args := [d1, d2] }
  | _ => none }
def FnExactSameExprWrongFalsely : Prop := fnExactSameExprRow.holds Try.pinned (OpenSpec.ofChange fnExactSameExprWrong)

/-- 'laws.FnExactExprOk': WHATEVER THE INPUT: true; the input reads as it did. -/
def fnExactExprOkSpec : ChangeSpec := { name := "fnExactExprOk", fn := fun _ => fun
  | [d] => { results := [.lit (.bool true)], args := [d] }
  | _ => none }
def fnExactExprOkRow : OpenClaim := { program := "ytcpnhlhigpgonaa", sum := "8dd41a0f4c766b4d8beea1c2ca34ce3c0146aade2591b65a1272271898e7ec71", func := "loop.example/g00329/laws.FnExactExprOk", spec := "fnExactExprOk", recurses := true, loops := true, apart := false }
def FnExactExprOkSaid : Prop := fnExactExprOkRow.holds Try.pinned (OpenSpec.ofChange fnExactExprOkSpec)

/-- ITS FALSE NEIGHBOUR: 'it returns false'. Refute it at one input. -/
def fnExactExprOkWrong : ChangeSpec := { name := "fnExactExprOk", fn := fun _ => fun
  | [d] => { results := [.lit (.bool false)], args := [d] }
  | _ => none }
def FnExactExprOkWrongFalsely : Prop := fnExactExprOkRow.holds Try.pinned (OpenSpec.ofChange fnExactExprOkWrong)

/-- 'laws.FnExactPlainOk': WHATEVER THE INPUT: true; the input reads as it did. -/
def fnExactPlainOkSpec : ChangeSpec := { name := "fnExactPlainOk", fn := fun _ => fun
  | [d] => { results := [.lit (.bool true)], args := [d] }
  | _ => none }
def fnExactPlainOkRow : OpenClaim := { program := "ytcpnhlhigpgonaa", sum := "8dd41a0f4c766b4d8beea1c2ca34ce3c0146aade2591b65a1272271898e7ec71", func := "loop.example/g00329/laws.FnExactPlainOk", spec := "fnExactPlainOk", recurses := true, loops := true, apart := false }
def FnExactPlainOkSaid : Prop := fnExactPlainOkRow.holds Try.pinned (OpenSpec.ofChange fnExactPlainOkSpec)

/-- ITS FALSE NEIGHBOUR: 'it returns false'. Refute it at one input. -/
def fnExactPlainOkWrong : ChangeSpec := { name := "fnExactPlainOk", fn := fun _ => fun
  | [d] => { results := [.lit (.bool false)], args := [d] }
  | _ => none }
def FnExactPlainOkWrongFalsely : Prop := fnExactPlainOkRow.holds Try.pinned (OpenSpec.ofChange fnExactPlainOkWrong)

/-- 'laws.FnSameExprs': WHATEVER THE INPUT: true; the input reads as it did. -/
def fnSameExprsSpec : ChangeSpec := { name := "fnSameExprs", fn := fun _ => fun
  | [d] => { results := [.lit (.bool true)], args := [d] }
  | _ => none }
def fnSameExprsRow : OpenClaim := { program := "ytcpnhlhigpgonaa", sum := "8dd41a0f4c766b4d8beea1c2ca34ce3c0146aade2591b65a1272271898e7ec71", func := "loop.example/g00329/laws.FnSameExprs", spec := "fnSameExprs", recurses := true, apart := false }
def FnSameExprsSaid : Prop := fnSameExprsRow.holds Try.pinned (OpenSpec.ofChange fnSameExprsSpec)

/-- ITS FALSE NEIGHBOUR: 'it returns false'. Refute it at one input. -/
def fnSameExprsWrong : ChangeSpec := { name := "fnSameExprs", fn := fun _ => fun
  | [d] => { results := [.lit (.bool false)], args := [d] }
  | _ => none }
def FnSameExprsWrongFalsely : Prop := fnSameExprsRow.holds Try.pinned (OpenSpec.ofChange fnSameExprsWrong)

/-- 'laws.FnExactWorth': WHATEVER THE INPUT: true; the input reads as it did. -/
def fnExactWorthSpec : ChangeSpec := { name := "fnExactWorth", fn := fun _ => fun
  | [d1, d2, d3, d4] => { results := [.lit (.bool true)], args := [d1, d2, d3, d4] }
  | _ => none }
def fnExactWorthRow : OpenClaim := { program := "ytcpnhlhigpgonaa", sum := "8dd41a0f4c766b4d8beea1c2ca34ce3c0146aade2591b65a1272271898e7ec71", func := "loop.example/g00329/laws.FnExactWorth", spec := "fnExactWorth", recurses := true, loops := true, apart := false }
def FnExactWorthSaid : Prop := fnExactWorthRow.holds Try.pinned (OpenSpec.ofChange fnExactWorthSpec)

/-- ITS FALSE NEIGHBOUR: 'it returns false'. Refute it at one input. -/
def fnExactWorthWrong : ChangeSpec := { name := "fnExactWorth", fn := fun _ => fun
  | [d1, d2, d3, d4] => { results := [.lit (.bool false)], args := [d1, d2, d3, d4] }
  | _ => none }
def FnExactWorthWrongFalsely : Prop := fnExactWorthRow.holds Try.pinned (OpenSpec.ofChange fnExactWorthWrong)

/-- 'laws.FnExactPut': WHATEVER THE INPUT: true; the input reads as it did. -/
def fnExactPutSpec : ChangeSpec := { name := "fnExactPut", fn := fun _ => fun
  | [d1, d2, d3, d4] => { results := [.lit (.bool true)], args := [d1, d2, d3, d4] }
  | _ => none }
def fnExactPutRow : OpenClaim := { program := "ytcpnhlhigpgonaa", sum := "8dd41a0f4c766b4d8beea1c2ca34ce3c0146aade2591b65a1272271898e7ec71", func := "loop.example/g00329/laws.FnExactPut", spec := "fnExactPut", recurses := true, loops := true, apart := false }
def FnExactPutSaid : Prop := fnExactPutRow.holds Try.pinned (OpenSpec.ofChange fnExactPutSpec)

/-- ITS FALSE NEIGHBOUR: 'it returns false'. Refute it at one input. -/
def fnExactPutWrong : ChangeSpec := { name := "fnExactPut", fn := fun _ => fun
  | [d1, d2, d3, d4] => { results := [.lit (.bool false)], args := [d1, d2, d3, d4] }
  | _ => none }
def FnExactPutWrongFalsely : Prop := fnExactPutRow.holds Try.pinned (OpenSpec.ofChange fnExactPutWrong)

/-- 'laws.FnExactKnown': WHATEVER THE INPUT: true; the input reads as it did. -/
def fnExactKnownSpec : ChangeSpec := { name := "fnExactKnown", fn := fun _ => fun
  | [d] => { results := [.lit (.bool true)], args := [d] }
  | _ => none }
def fnExactKnownRow : OpenClaim := { program := "ytcpnhlhigpgonaa", sum := "8dd41a0f4c766b4d8beea1c2ca34ce3c0146aade2591b65a1272271898e7ec71", func := "loop.example/g00329/laws.FnExactKnown", spec := "fnExactKnown", recurses := true, loops := true, apart := false }
def FnExactKnownSaid : Prop := fnExactKnownRow.holds Try.pinned (OpenSpec.ofChange fnExactKnownSpec)

/-- ITS FALSE NEIGHBOUR: 'it returns false'. Refute it at one input. -/
def fnExactKnownWrong : ChangeSpec := { name := "fnExactKnown", fn := fun _ => fun
  | [d] => { results := [.lit (.bool false)], args := [d] }
  | _ => none }
def FnExactKnownWrongFalsely : Prop := fnExactKnownRow.holds Try.pinned (OpenSpec.ofChange fnExactKnownWrong)

/-- 'laws.FnExactFold': WHATEVER THE INPUT: true; the input reads as it did. -/
def fnExactFoldSpec : ChangeSpec := { name := "fnExactFold", fn := fun _ => fun
  | [d] => { results := [.lit (.bool true)], args := [d] }
  | _ => none }
def fnExactFoldRow : OpenClaim := { program := "ytcpnhlhigpgonaa", sum := "8dd41a0f4c766b4d8beea1c2ca34ce3c0146aade2591b65a1272271898e7ec71", func := "loop.example/g00329/laws.FnExactFold", spec := "fnExactFold", recurses := true, loops := true, apart := false }
def FnExactFoldSaid : Prop := fnExactFoldRow.holds Try.pinned (OpenSpec.ofChange fnExactFoldSpec)

/-- ITS FALSE NEIGHBOUR: 'it returns false'. Refute it at one input. -/
def fnExactFoldWrong : ChangeSpec := { name := "fnExactFold", fn := fun _ => fun
  | [d] => { results := [.lit (.bool false)], args := [d] }
  | _ => none }
def FnExactFoldWrongFalsely : Prop := fnExactFoldRow.holds Try.pinned (OpenSpec.ofChange fnExactFoldWrong)

/-- 'laws.FnPutIn': WHATEVER THE INPUT: true; the input reads as it did. -/
def fnPutInSpec : ChangeSpec := { name := "fnPutIn", fn := fun _ => fun
  | [d] => { results := [.lit (.bool true)], args := [d] }
  | _ => none }
def fnPutInRow : OpenClaim := { program := "ytcpnhlhigpgonaa", sum := "8dd41a0f4c766b4d8beea1c2ca34ce3c0146aade2591b65a1272271898e7ec71", func := "loop.example/g00329/laws.FnPutIn", spec := "fnPutIn", recurses := true, apart := false }
def FnPutInSaid : Prop := fnPutInRow.holds Try.pinned (OpenSpec.ofChange fnPutInSpec)

/-- ITS FALSE NEIGHBOUR: 'it returns false'. Refute it at one input. -/
def fnPutInWrong : ChangeSpec := { name := "fnPutIn", fn := fun _ => fun
  | [d] => { results := [.lit (.bool false)], args := [d] }
  | _ => none }
def FnPutInWrongFalsely : Prop := fnPutInRow.holds Try.pinned (OpenSpec.ofChange fnPutInWrong)

/- THE SECOND FORM. 'bulk': how many values and letters a reading holds, each counted each time it is reached (what is shared counts as often as it is met; a slice's spare places count too). A statement '..UptoSaid' is the law's where the arguments, and the package variables that the reading takes, are together of bulk at most 1048576: NARROWER than '..Said'. Prove '..Said' where nothing that the law and all that it calls make is longer than what came in: it says more and counts as full. Else prove '..UptoSaid'. A law counts once. -/
mutual
def uptoBulk {H : Type} : DataW H → Nat
  | .lit (.string bytes) => bytes.length + 1
  | .lit _ => 1
  | .nil => 1
  | .ptr d => uptoBulk d + 1
  | .slice elems spare => uptoBulkAll elems + uptoBulkAll spare + 1
  | .agg parts => uptoBulkAll parts + 1
  | .iface _ d => uptoBulk d + 1
  | .map entries => uptoBulkEntries entries + 1
  | .held _ => 1
def uptoBulkAll {H : Type} : List (DataW H) → Nat
  | [] => 0
  | d :: r => uptoBulk d + uptoBulkAll r
def uptoBulkEntries {H : Type} : List (Lit × DataW H) → Nat
  | [] => 0
  | x :: r => uptoBulkEntry x + uptoBulkEntries r
def uptoBulkEntry {H : Type} : Lit × DataW H → Nat
  | (.string bytes, d) => bytes.length + uptoBulk d + 1
  | (_, d) => uptoBulk d + 1
 end
def uptoSmall : (H : Type) → List (DataW H) → Bool := fun _ ds => decide (uptoBulkAll ds ≤ 1048576)
def OpenSpec.upto (s : _root_.Go.ChangeSpec) : _root_.Go.OpenSpec := { _root_.Go.OpenSpec.ofChange s with cond := some uptoSmall }

/-- 'laws.FnExactSameExpr', WHERE WHAT IT READS IS OF BULK AT MOST 1048576: true; the input reads as it did. -/
def fnExactSameExprUptoRow : OpenClaim := { program := "ytcpnhlhigpgonaa", sum := "8dd41a0f4c766b4d8beea1c2ca34ce3c0146aade2591b65a1272271898e7ec71", func := "loop.example/g00329/laws.FnExactSameExpr", spec := "fnExactSameExpr", recurses := true, loops := true, apart := false, narrowed := true }
def FnExactSameExprUptoSaid : Prop := fnExactSameExprUptoRow.holds Try.pinned (OpenSpec.upto fnExactSameExprSpec)

/-- 'laws.FnExactExprOk', WHERE WHAT IT READS IS OF BULK AT MOST 1048576: true; the input reads as it did. -/
def fnExactExprOkUptoRow : OpenClaim := { program := "ytcpnhlhigpgonaa", sum := "8dd41a0f4c766b4d8beea1c2ca34ce3c0146aade2591b65a1272271898e7ec71", func := "loop.example/g00329/laws.FnExactExprOk", spec := "fnExactExprOk", recurses := true, loops := true, apart := false, narrowed := true }
def FnExactExprOkUptoSaid : Prop := fnExactExprOkUptoRow.holds Try.pinned (OpenSpec.upto fnExactExprOkSpec)

/-- 'laws.FnExactPlainOk', WHERE WHAT IT READS IS OF BULK AT MOST 1048576: true; the input reads as it did. -/
def fnExactPlainOkUptoRow : OpenClaim := { program := "ytcpnhlhigpgonaa", sum := "8dd41a0f4c766b4d8beea1c2ca34ce3c0146aade2591b65a1272271898e7ec71", func := "loop.example/g00329/laws.FnExactPlainOk", spec := "fnExactPlainOk", recurses := true, loops := true, apart := false, narrowed := true }
def FnExactPlainOkUptoSaid : Prop := fnExactPlainOkUptoRow.holds Try.pinned (OpenSpec.upto fnExactPlainOkSpec)

/-- 'laws.FnSameExprs', WHERE WHAT IT READS IS OF BULK AT MOST 1048576: true; the input reads as it did. -/
def fnSameExprsUptoRow : OpenClaim := { program := "ytcpnhlhigpgonaa", sum := "8dd41a0f4c766b4d8beea1c2ca34ce3c0146aade2591b65a1272271898e7ec71", func := "loop.example/g00329/laws.FnSameExprs", spec := "fnSameExprs", recurses := true, apart := false, narrowed := true }
def FnSameExprsUptoSaid : Prop := fnSameExprsUptoRow.holds Try.pinned (OpenSpec.upto fnSameExprsSpec)

/-- 'laws.FnExactWorth', WHERE WHAT IT READS IS OF BULK AT MOST 1048576: true; the input reads as it did. -/
def fnExactWorthUptoRow : OpenClaim := { program := "ytcpnhlhigpgonaa", sum := "8dd41a0f4c766b4d8beea1c2ca34ce3c0146aade2591b65a1272271898e7ec71", func := "loop.example/g00329/laws.FnExactWorth", spec := "fnExactWorth", recurses := true, loops := true, apart := false, narrowed := true }
def FnExactWorthUptoSaid : Prop := fnExactWorthUptoRow.holds Try.pinned (OpenSpec.upto fnExactWorthSpec)

/-- 'laws.FnExactPut', WHERE WHAT IT READS IS OF BULK AT MOST 1048576: true; the input reads as it did. -/
def fnExactPutUptoRow : OpenClaim := { program := "ytcpnhlhigpgonaa", sum := "8dd41a0f4c766b4d8beea1c2ca34ce3c0146aade2591b65a1272271898e7ec71", func := "loop.example/g00329/laws.FnExactPut", spec := "fnExactPut", recurses := true, loops := true, apart := false, narrowed := true }
def FnExactPutUptoSaid : Prop := fnExactPutUptoRow.holds Try.pinned (OpenSpec.upto fnExactPutSpec)

/-- 'laws.FnExactKnown', WHERE WHAT IT READS IS OF BULK AT MOST 1048576: true; the input reads as it did. -/
def fnExactKnownUptoRow : OpenClaim := { program := "ytcpnhlhigpgonaa", sum := "8dd41a0f4c766b4d8beea1c2ca34ce3c0146aade2591b65a1272271898e7ec71", func := "loop.example/g00329/laws.FnExactKnown", spec := "fnExactKnown", recurses := true, loops := true, apart := false, narrowed := true }
def FnExactKnownUptoSaid : Prop := fnExactKnownUptoRow.holds Try.pinned (OpenSpec.upto fnExactKnownSpec)

/-- 'laws.FnExactFold', WHERE WHAT IT READS IS OF BULK AT MOST 1048576: true; the input reads as it did. -/
def fnExactFoldUptoRow : OpenClaim := { program := "ytcpnhlhigpgonaa", sum := "8dd41a0f4c766b4d8beea1c2ca34ce3c0146aade2591b65a1272271898e7ec71", func := "loop.example/g00329/laws.FnExactFold", spec := "fnExactFold", recurses := true, loops := true, apart := false, narrowed := true }
def FnExactFoldUptoSaid : Prop := fnExactFoldUptoRow.holds Try.pinned (OpenSpec.upto fnExactFoldSpec)

/-- 'laws.FnPutIn', WHERE WHAT IT READS IS OF BULK AT MOST 1048576: true; the input reads as it did. -/
def fnPutInUptoRow : OpenClaim := { program := "ytcpnhlhigpgonaa", sum := "8dd41a0f4c766b4d8beea1c2ca34ce3c0146aade2591b65a1272271898e7ec71", func := "loop.example/g00329/laws.FnPutIn", spec := "fnPutIn", recurses := true, apart := false, narrowed := true }
def FnPutInUptoSaid : Prop := fnPutInUptoRow.holds Try.pinned (OpenSpec.upto fnPutInSpec)

end Rows
end Go.Proofs.Ytcpnhlhigpgonaa
