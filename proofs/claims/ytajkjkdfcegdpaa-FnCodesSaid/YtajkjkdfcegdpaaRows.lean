/-
  No cell of these rows narrows 'for every input' (looked for: loops, veiled, ifaces, maps, wideKeys, modest, calm, conditions, laid).
  DERIVED. THE GIVEN ROWS OF THIS SEAT. 8 by the template 'for every input the law returns true; each argument reads behind the call as it read before'; 0 by the template 'total and deterministic' (their statements: YtajkjkdfcegdpaaTotals.lean).
  GIVEN WITH THE SEED: the statements are not yours to turn. If you find one false, say at which input.
  Laid BY PROGRAM, IN A SANDBOX (cutbox-rows.mjs): the forced cells as the released guide's own fill.sh prints them over the translation b8fce5479429e004… (all of the seat's roots in one cut). By AI agents, Wed Nov 11 2026. No macro, syntax, notation, axiom, sorry.
-/
import Derived.Test.YtajkjkdfcegdpaaChecked
import GoSem.Claim
import GoSem.ClaimJoined
import GoSem.ClaimMapViews
import Derived.JoinedTies
import Derived.KernelRfl
namespace Go.Proofs.Ytajkjkdfcegdpaa
/- THE CELL 'sum', in the pinned program and in every row, IS THE sha256 OF THE DUMP (.gsa) THAT YtajkjkdfcegdpaaProg.lean LOADS. Nothing in Lean hashes anything: it is a label: what it is worth is what the hold of that sum in a sandbox is worth. -/
noncomputable def Try.pinned : Pinned := { name := "ytajkjkdfcegdpaa", sum := "b8fce5479429e004d69420ddabf6004c93dd695f8e7730f34b0cca62e048c57a", checked := Try.checked }
namespace Rows
def none {H : Type} : Left H := { results := [], args := [] }

/-- 'laws.FnExactHasX': WHATEVER THE INPUT: true; the input reads as it did. -/
def fnExactHasXSpec : ChangeSpec := { name := "fnExactHasX", fn := fun _ => fun
  | [d] => { results := [.lit (.bool true)], args := [d] }
  | _ => none }
def fnExactHasXRow : OpenClaim := { program := "ytajkjkdfcegdpaa", sum := "b8fce5479429e004d69420ddabf6004c93dd695f8e7730f34b0cca62e048c57a", func := "loop.example/g00329/laws.FnExactHasX", spec := "fnExactHasX", apart := false }
def FnExactHasXSaid : Prop := fnExactHasXRow.holds Try.pinned (OpenSpec.ofChange fnExactHasXSpec)

/-- ITS FALSE NEIGHBOUR: 'it returns false'. Refute it at one input. -/
def fnExactHasXWrong : ChangeSpec := { name := "fnExactHasX", fn := fun _ => fun
  | [d] => { results := [.lit (.bool false)], args := [d] }
  | _ => none }
def FnExactHasXWrongFalsely : Prop := fnExactHasXRow.holds Try.pinned (OpenSpec.ofChange fnExactHasXWrong)

/-- 'laws.FnExactOpdOk': WHATEVER THE INPUT: true; the input reads as it did. -/
def fnExactOpdOkSpec : ChangeSpec := { name := "fnExactOpdOk", fn := fun _ => fun
  | [d] => { results := [.lit (.bool true)], args := [d] }
  | _ => none }
def fnExactOpdOkRow : OpenClaim := { program := "ytajkjkdfcegdpaa", sum := "b8fce5479429e004d69420ddabf6004c93dd695f8e7730f34b0cca62e048c57a", func := "loop.example/g00329/laws.FnExactOpdOk", spec := "fnExactOpdOk", apart := false }
def FnExactOpdOkSaid : Prop := fnExactOpdOkRow.holds Try.pinned (OpenSpec.ofChange fnExactOpdOkSpec)

/-- ITS FALSE NEIGHBOUR: 'it returns false'. Refute it at one input. -/
def fnExactOpdOkWrong : ChangeSpec := { name := "fnExactOpdOk", fn := fun _ => fun
  | [d] => { results := [.lit (.bool false)], args := [d] }
  | _ => none }
def FnExactOpdOkWrongFalsely : Prop := fnExactOpdOkRow.holds Try.pinned (OpenSpec.ofChange fnExactOpdOkWrong)

/-- 'laws.FnExactWords': WHATEVER THE INPUT: true; the input reads as it did. -/
def fnExactWordsSpec : ChangeSpec := { name := "fnExactWords", fn := fun _ => fun
  | [d] => { results := [.lit (.bool true)], args := [d] }
  | _ => none }
def fnExactWordsRow : OpenClaim := { program := "ytajkjkdfcegdpaa", sum := "b8fce5479429e004d69420ddabf6004c93dd695f8e7730f34b0cca62e048c57a", func := "loop.example/g00329/laws.FnExactWords", spec := "fnExactWords", apart := false }
def FnExactWordsSaid : Prop := fnExactWordsRow.holds Try.pinned (OpenSpec.ofChange fnExactWordsSpec)

/-- ITS FALSE NEIGHBOUR: 'it returns false'. Refute it at one input. -/
def fnExactWordsWrong : ChangeSpec := { name := "fnExactWords", fn := fun _ => fun
  | [d] => { results := [.lit (.bool false)], args := [d] }
  | _ => none }
def FnExactWordsWrongFalsely : Prop := fnExactWordsRow.holds Try.pinned (OpenSpec.ofChange fnExactWordsWrong)

/-- 'laws.FnExactInsOk': WHATEVER THE INPUT: true; the input reads as it did. -/
def fnExactInsOkSpec : ChangeSpec := { name := "fnExactInsOk", fn := fun _ => fun
  | [d] => { results := [.lit (.bool true)], args := [d] }
  | _ => none }
def fnExactInsOkRow : OpenClaim := { program := "ytajkjkdfcegdpaa", sum := "b8fce5479429e004d69420ddabf6004c93dd695f8e7730f34b0cca62e048c57a", func := "loop.example/g00329/laws.FnExactInsOk", spec := "fnExactInsOk", apart := false }
def FnExactInsOkSaid : Prop := fnExactInsOkRow.holds Try.pinned (OpenSpec.ofChange fnExactInsOkSpec)

/-- ITS FALSE NEIGHBOUR: 'it returns false'. Refute it at one input. -/
def fnExactInsOkWrong : ChangeSpec := { name := "fnExactInsOk", fn := fun _ => fun
  | [d] => { results := [.lit (.bool false)], args := [d] }
  | _ => none }
def FnExactInsOkWrongFalsely : Prop := fnExactInsOkRow.holds Try.pinned (OpenSpec.ofChange fnExactInsOkWrong)

/-- 'laws.FnExactEncode': WHATEVER THE INPUT: true; the input reads as it did. -/
def fnExactEncodeSpec : ChangeSpec := { name := "fnExactEncode", fn := fun _ => fun
  | [d] => { results := [.lit (.bool true)], args := [d] }
  | _ => none }
def fnExactEncodeRow : OpenClaim := { program := "ytajkjkdfcegdpaa", sum := "b8fce5479429e004d69420ddabf6004c93dd695f8e7730f34b0cca62e048c57a", func := "loop.example/g00329/laws.FnExactEncode", spec := "fnExactEncode", apart := false }
def FnExactEncodeSaid : Prop := fnExactEncodeRow.holds Try.pinned (OpenSpec.ofChange fnExactEncodeSpec)

/-- ITS FALSE NEIGHBOUR: 'it returns false'. Refute it at one input. -/
def fnExactEncodeWrong : ChangeSpec := { name := "fnExactEncode", fn := fun _ => fun
  | [d] => { results := [.lit (.bool false)], args := [d] }
  | _ => none }
def FnExactEncodeWrongFalsely : Prop := fnExactEncodeRow.holds Try.pinned (OpenSpec.ofChange fnExactEncodeWrong)

/-- 'laws.FnExactDecode': WHATEVER THE INPUT: true; the input reads as it did. -/
def fnExactDecodeSpec : ChangeSpec := { name := "fnExactDecode", fn := fun _ => fun
  | [d1, d2] => { results := [.lit (.bool true)], args := [d1, d2] }
  | _ => none }
def fnExactDecodeRow : OpenClaim := { program := "ytajkjkdfcegdpaa", sum := "b8fce5479429e004d69420ddabf6004c93dd695f8e7730f34b0cca62e048c57a", func := "loop.example/g00329/laws.FnExactDecode", spec := "fnExactDecode", apart := false }
def FnExactDecodeSaid : Prop := fnExactDecodeRow.holds Try.pinned (OpenSpec.ofChange fnExactDecodeSpec)

/-- ITS FALSE NEIGHBOUR: 'it returns false'. Refute it at one input. -/
def fnExactDecodeWrong : ChangeSpec := { name := "fnExactDecode", fn := fun _ => fun
  | [d1, d2] => { results := [.lit (.bool false)], args := [d1, d2] }
  | _ => none }
def FnExactDecodeWrongFalsely : Prop := fnExactDecodeRow.holds Try.pinned (OpenSpec.ofChange fnExactDecodeWrong)

/-- 'laws.FnNoTwo': WHATEVER THE INPUT: true; the input reads as it did. -/
def fnNoTwoSpec : ChangeSpec := { name := "fnNoTwo", fn := fun _ => fun
  | [d] => { results := [.lit (.bool true)], args := [d] }
  | _ => none }
def fnNoTwoRow : OpenClaim := { program := "ytajkjkdfcegdpaa", sum := "b8fce5479429e004d69420ddabf6004c93dd695f8e7730f34b0cca62e048c57a", func := "loop.example/g00329/laws.FnNoTwo", spec := "fnNoTwo", apart := false }
def FnNoTwoSaid : Prop := fnNoTwoRow.holds Try.pinned (OpenSpec.ofChange fnNoTwoSpec)

/-- ITS FALSE NEIGHBOUR: 'it returns false'. Refute it at one input. -/
def fnNoTwoWrong : ChangeSpec := { name := "fnNoTwo", fn := fun _ => fun
  | [d] => { results := [.lit (.bool false)], args := [d] }
  | _ => none }
def FnNoTwoWrongFalsely : Prop := fnNoTwoRow.holds Try.pinned (OpenSpec.ofChange fnNoTwoWrong)

/-- 'laws.FnCodes': WHATEVER THE INPUT: true; the input reads as it did. -/
def fnCodesSpec : ChangeSpec := { name := "fnCodes", fn := fun _ => fun
  | [d] => { results := [.lit (.bool true)], args := [d] }
  | _ => none }
def fnCodesRow : OpenClaim := { program := "ytajkjkdfcegdpaa", sum := "b8fce5479429e004d69420ddabf6004c93dd695f8e7730f34b0cca62e048c57a", func := "loop.example/g00329/laws.FnCodes", spec := "fnCodes", apart := false }
def FnCodesSaid : Prop := fnCodesRow.holds Try.pinned (OpenSpec.ofChange fnCodesSpec)

/-- ITS FALSE NEIGHBOUR: 'it returns false'. Refute it at one input. -/
def fnCodesWrong : ChangeSpec := { name := "fnCodes", fn := fun _ => fun
  | [d] => { results := [.lit (.bool false)], args := [d] }
  | _ => none }
def FnCodesWrongFalsely : Prop := fnCodesRow.holds Try.pinned (OpenSpec.ofChange fnCodesWrong)

/- THE SECOND FORM. 'bulk': how many values and letters a reading holds, each counted each time it is reached (what is shared counts as often as it is met; a slice's spare places count too). A statement '..UptoSaid' is the law's where the arguments, and the package variables that the reading takes, are together of bulk at most 1048576: NARROWER than '..Said'. Prove '..Said' where nothing that the law and all that it calls make is longer than what came in: it says more and counts as full. Else prove '..UptoSaid'. A law counts once. -/
mutual
def uptoBulk {H : Type} : DataW H → Nat
  | .lit (.string bytes) => bytes.length + 1
  | .lit _ => 1
  | .nil => 1
  | .ptr d => uptoBulk d + 1
  | .slice elems spare => uptoBulkAll elems + uptoBulkAll spare + 1
  | .agg parts => uptoBulkAll parts + 1
  | .iface _ d => uptoBulk d + 1
  | .map entries => uptoBulkEntries entries + 1
  | .held _ => 1
def uptoBulkAll {H : Type} : List (DataW H) → Nat
  | [] => 0
  | d :: r => uptoBulk d + uptoBulkAll r
def uptoBulkEntries {H : Type} : List (Lit × DataW H) → Nat
  | [] => 0
  | x :: r => uptoBulkEntry x + uptoBulkEntries r
def uptoBulkEntry {H : Type} : Lit × DataW H → Nat
  | (.string bytes, d) => bytes.length + uptoBulk d + 1
  | (_, d) => uptoBulk d + 1
 end
def uptoSmall : (H : Type) → List (DataW H) → Bool := fun _ ds => decide (uptoBulkAll ds ≤ 1048576)
def OpenSpec.upto (s : _root_.Go.ChangeSpec) : _root_.Go.OpenSpec := { _root_.Go.OpenSpec.ofChange s with cond := some uptoSmall }

/-- 'laws.FnExactHasX', WHERE WHAT IT READS IS OF BULK AT MOST 1048576: true; the input reads as it did. -/
def fnExactHasXUptoRow : OpenClaim := { program := "ytajkjkdfcegdpaa", sum := "b8fce5479429e004d69420ddabf6004c93dd695f8e7730f34b0cca62e048c57a", func := "loop.example/g00329/laws.FnExactHasX", spec := "fnExactHasX", apart := false, narrowed := true }
def FnExactHasXUptoSaid : Prop := fnExactHasXUptoRow.holds Try.pinned (OpenSpec.upto fnExactHasXSpec)

/-- 'laws.FnExactOpdOk', WHERE WHAT IT READS IS OF BULK AT MOST 1048576: true; the input reads as it did. -/
def fnExactOpdOkUptoRow : OpenClaim := { program := "ytajkjkdfcegdpaa", sum := "b8fce5479429e004d69420ddabf6004c93dd695f8e7730f34b0cca62e048c57a", func := "loop.example/g00329/laws.FnExactOpdOk", spec := "fnExactOpdOk", apart := false, narrowed := true }
def FnExactOpdOkUptoSaid : Prop := fnExactOpdOkUptoRow.holds Try.pinned (OpenSpec.upto fnExactOpdOkSpec)

/-- 'laws.FnExactWords', WHERE WHAT IT READS IS OF BULK AT MOST 1048576: true; the input reads as it did. -/
def fnExactWordsUptoRow : OpenClaim := { program := "ytajkjkdfcegdpaa", sum := "b8fce5479429e004d69420ddabf6004c93dd695f8e7730f34b0cca62e048c57a", func := "loop.example/g00329/laws.FnExactWords", spec := "fnExactWords", apart := false, narrowed := true }
def FnExactWordsUptoSaid : Prop := fnExactWordsUptoRow.holds Try.pinned (OpenSpec.upto fnExactWordsSpec)

/-- 'laws.FnExactInsOk', WHERE WHAT IT READS IS OF BULK AT MOST 1048576: true; the input reads as it did. -/
def fnExactInsOkUptoRow : OpenClaim := { program := "ytajkjkdfcegdpaa", sum := "b8fce5479429e004d69420ddabf6004c93dd695f8e7730f34b0cca62e048c57a", func := "loop.example/g00329/laws.FnExactInsOk", spec := "fnExactInsOk", apart := false, narrowed := true }
def FnExactInsOkUptoSaid : Prop := fnExactInsOkUptoRow.holds Try.pinned (OpenSpec.upto fnExactInsOkSpec)

/-- 'laws.FnExactEncode', WHERE WHAT IT READS IS OF BULK AT MOST 1048576: true; the input reads as it did. -/
def fnExactEncodeUptoRow : OpenClaim := { program := "ytajkjkdfcegdpaa", sum := "b8fce5479429e004d69420ddabf6004c93dd695f8e7730f34b0cca62e048c57a", func := "loop.example/g00329/laws.FnExactEncode", spec := "fnExactEncode", apart := false, narrowed := true }
def FnExactEncodeUptoSaid : Prop := fnExactEncodeUptoRow.holds Try.pinned (OpenSpec.upto fnExactEncodeSpec)

/-- 'laws.FnExactDecode', WHERE WHAT IT READS IS OF BULK AT MOST 1048576: true; the input reads as it did. -/
def fnExactDecodeUptoRow : OpenClaim := { program := "ytajkjkdfcegdpaa", sum := "b8fce5479429e004d69420ddabf6004c93dd695f8e7730f34b0cca62e048c57a", func := "loop.example/g00329/laws.FnExactDecode", spec := "fnExactDecode", apart := false, narrowed := true }
def FnExactDecodeUptoSaid : Prop := fnExactDecodeUptoRow.holds Try.pinned (OpenSpec.upto fnExactDecodeSpec)

/-- 'laws.FnNoTwo', WHERE WHAT IT READS IS OF BULK AT MOST 1048576: true; the input reads as it did. -/
def fnNoTwoUptoRow : OpenClaim := { program := "ytajkjkdfcegdpaa", sum := "b8fce5479429e004d69420ddabf6004c93dd695f8e7730f34b0cca62e048c57a", func := "loop.example/g00329/laws.FnNoTwo", spec := "fnNoTwo", apart := false, narrowed := true }
def FnNoTwoUptoSaid : Prop := fnNoTwoUptoRow.holds Try.pinned (OpenSpec.upto fnNoTwoSpec)

/-- 'laws.FnCodes', WHERE WHAT IT READS IS OF BULK AT MOST 1048576: true; the input reads as it did. -/
def fnCodesUptoRow : OpenClaim := { program := "ytajkjkdfcegdpaa", sum := "b8fce5479429e004d69420ddabf6004c93dd695f8e7730f34b0cca62e048c57a", func := "loop.example/g00329/laws.FnCodes", spec := "fnCodes", apart := false, narrowed := true }
def FnCodesUptoSaid : Prop := fnCodesUptoRow.holds Try.pinned (OpenSpec.upto fnCodesSpec)

end Rows
end Go.Proofs.Ytajkjkdfcegdpaa
