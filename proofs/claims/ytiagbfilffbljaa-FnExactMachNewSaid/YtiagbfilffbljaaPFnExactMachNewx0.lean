-- Laid by a program of this session (a changed copy of the kit's printer); Lean checks every line.
import Derived.Test.YtiagbfilffbljaaProg
import Derived.Below
import Derived.Deep.Draws
import Derived.Deep.AppendLies
import Derived.Maps.AppendAt
import Derived.OwnWalk
import Derived.Laws.BytesArg
import Derived.Laws.MakeOwn
import Derived.Laws.OwnMore
import Derived.Deep.OwnRows
import Derived.Tactics
import Derived.Lib.ConvBytes
import Derived.Laws.Slices
import Derived.WalkKit
import Derived.KernelRfl
import Derived.RowKit3
import Derived.Deep.LoopGhost
import Derived.Deep.QuietTactic
import Derived.BigQuiet
import Derived.WideLaws
import Derived.Deep.DeepCutAuto
import Derived.Deep.CutBlock
import Derived.Deep.RegionHeld3
import Derived.Laws.Rows
import Derived.Lib.AppendStr
import Derived.ArgAppend
import Derived.Laws.IdiomCopy
import Derived.OrdersHeld
import Derived.Laws.BitsLemmas
import Derived.RowKit
import Derived.Test.YtiagbfilffbljaaVFnExactMachNew
namespace Go.Proofs.Ytiagbfilffbljaa.PFnExactMachNew
open Go.RowKit Go.Proofs.YtiagbfilffbljaaW.PrintWords Go.Proofs.YtiagbfilffbljaaW.PrintLast Go.Proofs.YtiagbfilffbljaaW.PrintMore
attribute [local go_sem] max2_int min2_int max_two min_two max_three min_three max_four min_four   -- for this text's walks alone
set_option linter.unusedVariables false
set_option linter.unusedSimpArgs false



/-- what a new world keeps of an elder one: its blocks. -/
class WExt (w : outParam World) (w' : World) : Prop where
 out : ∀ {g : Nat} {o : Obj}, w.heap[g]? = some o → w'.heap[g]? = some o
instance (priority := 1) (w : World) : WExt w w := ⟨fun h => h⟩
instance (w w' : World) (n : Nat) [h : WExt w w'] : WExt w (w'.drewN n) := ⟨fun k => blk_drewN (h.out k) n⟩
instance (w w' : World) [h : WExt w w'] : WExt w w'.drew := ⟨fun k => blk_drew (h.out k)⟩
instance (w w' : World) (o : Obj) [h : WExt w w'] : WExt w (w'.alloc o) := ⟨fun k => blk_alloc (h.out k) o⟩
/-- what holds below a world's size still holds in a later one. -/
class GeI (n g : Nat) : Prop where
 out : n ≤ g
class BlwI (w0 : World) (w : outParam World) (w' : World) : Prop where
 out : Below w0.heap.size w0 w → Below w0.heap.size w0 w'
instance (priority := 1) (w0 w : World) : BlwI w0 w w := ⟨fun h => h⟩
instance (w0 w w' : World) (n : Nat) [h : BlwI w0 w w'] : BlwI w0 w (w'.drewN n) := ⟨fun k => pw_below_drewN (h.out k) n⟩
instance (w0 w w' : World) [h : BlwI w0 w w'] : BlwI w0 w w'.drew := ⟨fun k => (h.out k).drew⟩
instance (w0 w w' : World) (o : Obj) [h : BlwI w0 w w'] : BlwI w0 w (w'.alloc o) := ⟨fun k => below_alloc (h.out k) o⟩
instance (w0 w w' : World) (g j : Nat) (v : Value) [h : BlwI w0 w w'] [e : GeI w0.heap.size g] : BlwI w0 w (w'.setCell ⟨g, j, none⟩ v) := ⟨fun k => (h.out k).setCell e.out _⟩
theorem bw_ {w0 w w' : World} [h : BlwI w0 w w'] (k : Below w0.heap.size w0 w) : Below w0.heap.size w0 w' := h.out k
theorem bk_ {w w' : World} {g : Nat} {o : Obj} [h : WExt w w'] (k : w.heap[g]? = some o) : w'.heap[g]? = some o := h.out k
/-- a block's eight cells, and that none is frozen. -/
theorem cz8_ {w : World} {g : Nat} {t : TypeId} {v0 v1 v2 v3 v4 v5 v6 v7 : Value} (h : w.heap[g]? = some (.cells #[v0, v1, v2, v3, v4, v5, v6, v7] t (0, 0))) :
  w.cell? ⟨g, 0, none⟩ = some v0 ∧ w.cell? ⟨g, 1, none⟩ = some v1 ∧ w.cell? ⟨g, 2, none⟩ = some v2 ∧ w.cell? ⟨g, 3, none⟩ = some v3 ∧ w.cell? ⟨g, 4, none⟩ = some v4 ∧ w.cell? ⟨g, 5, none⟩ = some v5 ∧ w.cell? ⟨g, 6, none⟩ = some v6 ∧ w.cell? ⟨g, 7, none⟩ = some v7 ∧
  w.frozen? ⟨g, 0, none⟩ = false ∧ w.frozen? ⟨g, 1, none⟩ = false ∧ w.frozen? ⟨g, 2, none⟩ = false ∧ w.frozen? ⟨g, 3, none⟩ = false ∧ w.frozen? ⟨g, 4, none⟩ = false ∧ w.frozen? ⟨g, 5, none⟩ = false ∧ w.frozen? ⟨g, 6, none⟩ = false ∧ w.frozen? ⟨g, 7, none⟩ = false :=
 ⟨(blk_cell h 0).trans rfl, (blk_cell h 1).trans rfl, (blk_cell h 2).trans rfl, (blk_cell h 3).trans rfl, (blk_cell h 4).trans rfl, (blk_cell h 5).trans rfl, (blk_cell h 6).trans rfl, (blk_cell h 7).trans rfl, blk_frozen h 0, blk_frozen h 1, blk_frozen h 2, blk_frozen h 3, blk_frozen h 4, blk_frozen h 5, blk_frozen h 6, blk_frozen h 7⟩
/-- a block's four cells, and that none is frozen. -/
theorem cz4_ {w : World} {g : Nat} {t : TypeId} {v0 v1 v2 v3 : Value} (h : w.heap[g]? = some (.cells #[v0, v1, v2, v3] t (0, 0))) :
  w.cell? ⟨g, 0, none⟩ = some v0 ∧ w.cell? ⟨g, 1, none⟩ = some v1 ∧ w.cell? ⟨g, 2, none⟩ = some v2 ∧ w.cell? ⟨g, 3, none⟩ = some v3 ∧
  w.frozen? ⟨g, 0, none⟩ = false ∧ w.frozen? ⟨g, 1, none⟩ = false ∧ w.frozen? ⟨g, 2, none⟩ = false ∧ w.frozen? ⟨g, 3, none⟩ = false :=
 ⟨(blk_cell h 0).trans rfl, (blk_cell h 1).trans rfl, (blk_cell h 2).trans rfl, (blk_cell h 3).trans rfl, blk_frozen h 0, blk_frozen h 1, blk_frozen h 2, blk_frozen h 3⟩
/-- a call of a listed function, its plain facts told by themselves. -/
theorem gL_ {P : Program} {ops : Array Oper} {Q : Exit → Act → World → Prop} {rest : List Oper} {oi : Oper} {a : Act} {w : World} (N : Option Tmp) {f : FuncId} {fn : Func} {as_ : Array Operand} {ts : Array TypeId} (hf : P.funcs[f]? = some fn) (args : Array Value)
  (h : Calls P f args w fun e w' => ∃ v, e = .returned v ∧ wpList P ops Q rest (a.put N v) w')
  (hd : oi.dst = N := by exact rfl) (hg : oi.guard = none := by exact rfl) (hname : (fn.name == "runtime.NumGoroutine") = false := by kernel_rfl) (hb : fn.body.isSome = true := by exact rfl)
  (hop : oi.op = .call { callee := .value (.func f), args := as_, argTypes := ts } := by exact rfl)
  (hargs : as_.map a.eval = args := by ((try simp only [List.map_toArray, List.map_cons, List.map_nil]); first | done | rfl | (simp only [List.length_drop, List.length_take]; rfl))) : wpList P ops Q (oi :: rest) a w :=
 goesL_ N hd hg hf hname hb args hop hargs h
theorem A_ {p : Prop} (h : p) : Aside0 p := Aside0.mk h
/-- a leaf's answer told by itself, ahead of what is said of its world. -/
theorem rt_ {p q : Prop} (h : q) (k : p := by first | rfl | (simp [errW_none, errW_some] <;> rfl) | (simp [*, errW_none, errW_some] <;> rfl)) : p ∧ q := ⟨k, h⟩
def errW : Option Int → Value
 | none => .nilIface
 | some c => .iface 0 (.int .i64 c)
theorem errW_none : errW none = .nilIface := rfl
theorem errW_some (c : Int) : errW (some c) = .iface 0 (.int .i64 c) := rfl

theorem info3 : (Try.prog.info? 3).map (fun i => (i.zero, i.size, i.bytes)) = some (some (.int .i64 0), 1, 8) := by kernel_rfl
-- the values' own types

end Go.Proofs.Ytiagbfilffbljaa.PFnExactMachNew
