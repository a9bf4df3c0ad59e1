-- Laid by a program of this session (a changed copy of the kit's printer); Lean checks every line.
import Derived.Test.YtiagbfilffbljaaProg
import Derived.Below
import Derived.Deep.Draws
import Derived.Deep.AppendLies
import Derived.Maps.AppendAt
import Derived.OwnWalk
import Derived.Laws.BytesArg
import Derived.Laws.MakeOwn
import Derived.Laws.OwnMore
import Derived.Deep.OwnRows
import Derived.Tactics
import Derived.Lib.ConvBytes
import Derived.Laws.Slices
import Derived.WalkKit
import Derived.KernelRfl
import Derived.RowKit3
import Derived.Deep.LoopGhost
import Derived.Deep.QuietTactic
import Derived.BigQuiet
import Derived.WideLaws
import Derived.Deep.DeepCutAuto
import Derived.Deep.CutBlock
import Derived.Deep.RegionHeld3
import Derived.Laws.Rows
import Derived.Lib.AppendStr
import Derived.ArgAppend
import Derived.Laws.IdiomCopy
import Derived.OrdersHeld
import Derived.Laws.BitsLemmas
import Derived.RowKit
import Derived.Test.YtiagbfilffbljaaVFnExactPlaceOf
namespace Go.Proofs.Ytiagbfilffbljaa.PFnExactPlaceOf
open Go.RowKit Go.Proofs.YtiagbfilffbljaaW.PrintWords Go.Proofs.YtiagbfilffbljaaW.PrintLast Go.Proofs.YtiagbfilffbljaaW.PrintMore
attribute [local go_sem] max2_int min2_int max_two min_two max_three min_three max_four min_four   -- for this text's walks alone
set_option linter.unusedVariables false
set_option linter.unusedSimpArgs false



/-- what a new world keeps of an elder one: its blocks. -/
class WExt (w : outParam World) (w' : World) : Prop where
 out : ∀ {g : Nat} {o : Obj}, w.heap[g]? = some o → w'.heap[g]? = some o
instance (priority := 1) (w : World) : WExt w w := ⟨fun h => h⟩
instance (w w' : World) (n : Nat) [h : WExt w w'] : WExt w (w'.drewN n) := ⟨fun k => blk_drewN (h.out k) n⟩
instance (w w' : World) [h : WExt w w'] : WExt w w'.drew := ⟨fun k => blk_drew (h.out k)⟩
instance (w w' : World) (o : Obj) [h : WExt w w'] : WExt w (w'.alloc o) := ⟨fun k => blk_alloc (h.out k) o⟩
/-- what holds below a world's size still holds in a later one. -/
class GeI (n g : Nat) : Prop where
 out : n ≤ g
class BlwI (w0 : World) (w : outParam World) (w' : World) : Prop where
 out : Below w0.heap.size w0 w → Below w0.heap.size w0 w'
instance (priority := 1) (w0 w : World) : BlwI w0 w w := ⟨fun h => h⟩
instance (w0 w w' : World) (n : Nat) [h : BlwI w0 w w'] : BlwI w0 w (w'.drewN n) := ⟨fun k => pw_below_drewN (h.out k) n⟩
instance (w0 w w' : World) [h : BlwI w0 w w'] : BlwI w0 w w'.drew := ⟨fun k => (h.out k).drew⟩
instance (w0 w w' : World) (o : Obj) [h : BlwI w0 w w'] : BlwI w0 w (w'.alloc o) := ⟨fun k => below_alloc (h.out k) o⟩
instance (w0 w w' : World) (g j : Nat) (v : Value) [h : BlwI w0 w w'] [e : GeI w0.heap.size g] : BlwI w0 w (w'.setCell ⟨g, j, none⟩ v) := ⟨fun k => (h.out k).setCell e.out _⟩
theorem bw_ {w0 w w' : World} [h : BlwI w0 w w'] (k : Below w0.heap.size w0 w) : Below w0.heap.size w0 w' := h.out k
theorem bk_ {w w' : World} {g : Nat} {o : Obj} [h : WExt w w'] (k : w.heap[g]? = some o) : w'.heap[g]? = some o := h.out k
/-- a block's eight cells, and that none is frozen. -/
theorem cz8_ {w : World} {g : Nat} {t : TypeId} {v0 v1 v2 v3 v4 v5 v6 v7 : Value} (h : w.heap[g]? = some (.cells #[v0, v1, v2, v3, v4, v5, v6, v7] t (0, 0))) :
  w.cell? ⟨g, 0, none⟩ = some v0 ∧ w.cell? ⟨g, 1, none⟩ = some v1 ∧ w.cell? ⟨g, 2, none⟩ = some v2 ∧ w.cell? ⟨g, 3, none⟩ = some v3 ∧ w.cell? ⟨g, 4, none⟩ = some v4 ∧ w.cell? ⟨g, 5, none⟩ = some v5 ∧ w.cell? ⟨g, 6, none⟩ = some v6 ∧ w.cell? ⟨g, 7, none⟩ = some v7 ∧
  w.frozen? ⟨g, 0, none⟩ = false ∧ w.frozen? ⟨g, 1, none⟩ = false ∧ w.frozen? ⟨g, 2, none⟩ = false ∧ w.frozen? ⟨g, 3, none⟩ = false ∧ w.frozen? ⟨g, 4, none⟩ = false ∧ w.frozen? ⟨g, 5, none⟩ = false ∧ w.frozen? ⟨g, 6, none⟩ = false ∧ w.frozen? ⟨g, 7, none⟩ = false :=
 ⟨(blk_cell h 0).trans rfl, (blk_cell h 1).trans rfl, (blk_cell h 2).trans rfl, (blk_cell h 3).trans rfl, (blk_cell h 4).trans rfl, (blk_cell h 5).trans rfl, (blk_cell h 6).trans rfl, (blk_cell h 7).trans rfl, blk_frozen h 0, blk_frozen h 1, blk_frozen h 2, blk_frozen h 3, blk_frozen h 4, blk_frozen h 5, blk_frozen h 6, blk_frozen h 7⟩
/-- a block's four cells, and that none is frozen. -/
theorem cz4_ {w : World} {g : Nat} {t : TypeId} {v0 v1 v2 v3 : Value} (h : w.heap[g]? = some (.cells #[v0, v1, v2, v3] t (0, 0))) :
  w.cell? ⟨g, 0, none⟩ = some v0 ∧ w.cell? ⟨g, 1, none⟩ = some v1 ∧ w.cell? ⟨g, 2, none⟩ = some v2 ∧ w.cell? ⟨g, 3, none⟩ = some v3 ∧
  w.frozen? ⟨g, 0, none⟩ = false ∧ w.frozen? ⟨g, 1, none⟩ = false ∧ w.frozen? ⟨g, 2, none⟩ = false ∧ w.frozen? ⟨g, 3, none⟩ = false :=
 ⟨(blk_cell h 0).trans rfl, (blk_cell h 1).trans rfl, (blk_cell h 2).trans rfl, (blk_cell h 3).trans rfl, blk_frozen h 0, blk_frozen h 1, blk_frozen h 2, blk_frozen h 3⟩
/-- a call of a listed function, its plain facts told by themselves. -/
theorem gL_ {P : Program} {ops : Array Oper} {Q : Exit → Act → World → Prop} {rest : List Oper} {oi : Oper} {a : Act} {w : World} (N : Option Tmp) {f : FuncId} {fn : Func} {as_ : Array Operand} {ts : Array TypeId} (hf : P.funcs[f]? = some fn) (args : Array Value)
  (h : Calls P f args w fun e w' => ∃ v, e = .returned v ∧ wpList P ops Q rest (a.put N v) w')
  (hd : oi.dst = N := by exact rfl) (hg : oi.guard = none := by exact rfl) (hname : (fn.name == "runtime.NumGoroutine") = false := by kernel_rfl) (hb : fn.body.isSome = true := by exact rfl)
  (hop : oi.op = .call { callee := .value (.func f), args := as_, argTypes := ts } := by exact rfl)
  (hargs : as_.map a.eval = args := by ((try simp only [List.map_toArray, List.map_cons, List.map_nil]); first | done | rfl | (simp only [List.length_drop, List.length_take]; rfl))) : wpList P ops Q (oi :: rest) a w :=
 goesL_ N hd hg hf hname hb args hop hargs h
theorem A_ {p : Prop} (h : p) : Aside0 p := Aside0.mk h
/-- Bools by their bits. -/
def bl_ : Nat → Nat → List Bool
 | 0, _ => []
 | n + 1, v => (v % 2 == 1) :: bl_ n (v / 2)
def bm_ (n v : Nat) : Array Bool := ⟨bl_ n v⟩
/-- a block's nine cells, and that none is frozen. -/
theorem cz9_ {w : World} {g : Nat} {t : TypeId} {v0 v1 v2 v3 v4 v5 v6 v7 v8 : Value} (h : w.heap[g]? = some (.cells #[v0, v1, v2, v3, v4, v5, v6, v7, v8] t (0, 0))) :
 w.cell? ⟨g, 0, none⟩ = some v0 ∧ w.cell? ⟨g, 1, none⟩ = some v1 ∧ w.cell? ⟨g, 2, none⟩ = some v2 ∧ w.cell? ⟨g, 3, none⟩ = some v3 ∧ w.cell? ⟨g, 4, none⟩ = some v4 ∧ w.cell? ⟨g, 5, none⟩ = some v5 ∧ w.cell? ⟨g, 6, none⟩ = some v6 ∧ w.cell? ⟨g, 7, none⟩ = some v7 ∧ w.cell? ⟨g, 8, none⟩ = some v8 ∧
 w.frozen? ⟨g, 0, none⟩ = false ∧ w.frozen? ⟨g, 1, none⟩ = false ∧ w.frozen? ⟨g, 2, none⟩ = false ∧ w.frozen? ⟨g, 3, none⟩ = false ∧ w.frozen? ⟨g, 4, none⟩ = false ∧ w.frozen? ⟨g, 5, none⟩ = false ∧ w.frozen? ⟨g, 6, none⟩ = false ∧ w.frozen? ⟨g, 7, none⟩ = false ∧ w.frozen? ⟨g, 8, none⟩ = false :=
 ⟨(blk_cell h 0).trans rfl, (blk_cell h 1).trans rfl, (blk_cell h 2).trans rfl, (blk_cell h 3).trans rfl, (blk_cell h 4).trans rfl, (blk_cell h 5).trans rfl, (blk_cell h 6).trans rfl, (blk_cell h 7).trans rfl, (blk_cell h 8).trans rfl, blk_frozen h 0, blk_frozen h 1, blk_frozen h 2, blk_frozen h 3, blk_frozen h 4, blk_frozen h 5, blk_frozen h 6, blk_frozen h 7, blk_frozen h 8⟩
/-- a row of one's own in a later world. -/
class KrI (w : outParam World) (w' : World) : Prop where
 out : ∀ {α : Type} {d : Kd α} {e base : Nat} {ok : Nat → Prop} {v : Value} {xs : List α}, Kd.R d e w base ok v xs → Kd.R d e w' base ok v xs
instance (priority := 1) (w : World) : KrI w w := ⟨fun h => h⟩
instance (w w' : World) (n : Nat) [h : KrI w w'] : KrI w (w'.drewN n) := ⟨fun k => Kd.R_drewN (h.out k) n⟩
instance (w w' : World) [h : KrI w w'] : KrI w w'.drew := ⟨fun k => Kd.R_drew (h.out k)⟩
instance (w w' : World) (o : Obj) [h : KrI w w'] : KrI w (w'.alloc o) := ⟨fun k => Kd.R_alloc (h.out k) o⟩
theorem kr_ {w w' : World} [h : KrI w w'] {α : Type} {d : Kd α} {e base : Nat} {ok : Nat → Prop} {v : Value} {xs : List α} (k : Kd.R d e w base ok v xs) : Kd.R d e w' base ok v xs := h.out k
/-- an operation that yields in every world, its plain facts told by themselves. -/
theorem pu_ {P : Program} {ops : Array Oper} {Q : Exit → Act → World → Prop} {md : Region.Mode} {S : World → Prop} {ds : List Nat} (i : Nat) (N : Option Tmp) {oi : Oper} {v : Value} {fuel : Nat} {l : Array Bool} {a : Act} {w : World} (l' : Array Bool) {a' : Act} (hc : anyB md ops l l' i = true)
 (h : wpAnyLast P md ops Q S ds fuel l' a' w) (hi : ops[i]? = some oi := by exact rfl) (hN : oi.dst = N := by exact rfl)
 (hy : Yields P ops oi v a := by (refine Or.inl ⟨by rfl, ?_⟩; intro w'; go_simp; with_reducible rfl)) (ha : a.put N v = a' := by (simp only [Act.put, List.setIfInBounds_toArray, List.set_cons_zero, List.set_cons_succ, i64_w, i32_w]; rfl)) (hQ : ∀ c a w, Q (.panic c) (a.put oi.dst v) w → Q (.panic c) a w := by exact fun _ _ _ h => h) :
 wpAnyLast P md ops Q S ds (fuel + 1) l a w := pure_ l' hi hN hc hQ hy ha h
/-- a world named anew. -/
theorem bq_ {w w1 : World} {n g : Nat} {o : Obj} (q : World.drewN w n = w1) (h : w.heap[g]? = some o) : w1.heap[g]? = some o := q ▸ blk_drewN h n
theorem wq_ {w0 w w1 : World} {n : Nat} (q : World.drewN w n = w1) (h : Below w0.heap.size w0 w) : Below w0.heap.size w0 w1 := q ▸ pw_below_drewN h n
theorem rq_ {w w1 : World} {n : Nat} (q : World.drewN w n = w1) {α : Type} {d : Kd α} {e base : Nat} {ok : Nat → Prop} {v : Value} {xs : List α} (h : Kd.R d e w base ok v xs) : Kd.R d e w1 base ok v xs := q ▸ Kd.R_drewN h n
/-- a variable in memory, its plain facts told by themselves. -/
theorem bx_ {P : Program} {ops : Array Oper} {Q : Exit → Act → World → Prop} {rest : List Oper} {o : Oper} {a : Act} {W : World} (N : Tmp) (cs : Array Value) (t : TypeId)
 (h : ∀ g, g = W.heap.size → ∀ w1, w1.heap[g]? = some (.cells cs t (0, 0)) → Below W.heap.size W w1 → wpList P ops Q rest (a.put o.dst (.pointer (some ⟨g, 0, none⟩))) w1) (hgd : o.guard = none := by exact rfl) (hd : o.dst = some N := by exact rfl)
 (hrun : (execOp a.eval o).run P W = .ok (.value (.pointer (some ⟨W.heap.size, 0, none⟩))) (W.alloc (.cells cs t (0, 0))) := by first | (go_simp; done) | (go_simp; rfl)) : wpList P ops Q (o :: rest) a W := box_event hgd hd hrun h
theorem bp9_ {w : World} {g : Nat} {t : TypeId} {u0 u1 u2 u3 u4 u5 u6 u7 u8 v0 v1 v2 v3 v4 v5 v6 v7 v8 : Value} (h : w.heap[g]? = some (.cells #[u0, u1, u2, u3, u4, u5, u6, u7, u8] t (0, 0))) : ((((((((((w.setCell ⟨g, 0, none⟩ v0).setCell ⟨g, 1, none⟩ v1).setCell ⟨g, 2, none⟩ v2).setCell ⟨g, 3, none⟩ v3).setCell ⟨g, 4, none⟩ v4).setCell ⟨g, 5, none⟩ v5).setCell ⟨g, 6, none⟩ v6).setCell ⟨g, 7, none⟩ v7).setCell ⟨g, 8, none⟩ v8)).heap[g]? = some (.cells #[v0, v1, v2, v3, v4, v5, v6, v7, v8] t (0, 0)) := by
 have h := blk_put (cs' := #[v0, u1, u2, u3, u4, u5, u6, u7, u8]) h 0 v0 rfl
 have h := blk_put (cs' := #[v0, v1, u2, u3, u4, u5, u6, u7, u8]) h 1 v1 rfl
 have h := blk_put (cs' := #[v0, v1, v2, u3, u4, u5, u6, u7, u8]) h 2 v2 rfl
 have h := blk_put (cs' := #[v0, v1, v2, v3, u4, u5, u6, u7, u8]) h 3 v3 rfl
 have h := blk_put (cs' := #[v0, v1, v2, v3, v4, u5, u6, u7, u8]) h 4 v4 rfl
 have h := blk_put (cs' := #[v0, v1, v2, v3, v4, v5, u6, u7, u8]) h 5 v5 rfl
 have h := blk_put (cs' := #[v0, v1, v2, v3, v4, v5, v6, u7, u8]) h 6 v6 rfl
 have h := blk_put (cs' := #[v0, v1, v2, v3, v4, v5, v6, v7, u8]) h 7 v7 rfl
 have h := blk_put (cs' := #[v0, v1, v2, v3, v4, v5, v6, v7, v8]) h 8 v8 rfl
 exact h
theorem rf9_ {w : World} {g : Nat} {u0 u1 u2 u3 u4 u5 u6 u7 u8 : Value} {α : Type} {d : Kd α} {e base : Nat} {ok : Nat → Prop} {v : Value} {xs : List α} (h : Kd.R d e w base ok v xs) (hok : ∀ k, ok k → k ≠ g) : Kd.R d e (((((((((w.setCell ⟨g, 0, none⟩ u0).setCell ⟨g, 1, none⟩ u1).setCell ⟨g, 2, none⟩ u2).setCell ⟨g, 3, none⟩ u3).setCell ⟨g, 4, none⟩ u4).setCell ⟨g, 5, none⟩ u5).setCell ⟨g, 6, none⟩ u6).setCell ⟨g, 7, none⟩ u7).setCell ⟨g, 8, none⟩ u8) base ok v xs := (Kd.R_far (p := ⟨g, 8, none⟩) (Kd.R_far (p := ⟨g, 7, none⟩) (Kd.R_far (p := ⟨g, 6, none⟩) (Kd.R_far (p := ⟨g, 5, none⟩) (Kd.R_far (p := ⟨g, 4, none⟩) (Kd.R_far (p := ⟨g, 3, none⟩) (Kd.R_far (p := ⟨g, 2, none⟩) (Kd.R_far (p := ⟨g, 1, none⟩) (Kd.R_far (p := ⟨g, 0, none⟩) h hok u0) hok u1) hok u2) hok u3) hok u4) hok u5) hok u6) hok u7) hok u8)
theorem d6_ {p : Prop} (h : p := by refine bk_ ?_; refine blk_far ?_ NB158_160.out _; refine bk_ ?_; exact BK158.out) : p := h
theorem d5_ {p : Prop} (h : p := by refine bk_ ?_; refine blk_far ?_ NB159_160.out _; refine bk_ ?_; exact BK159.out) : p := h
theorem d4_ {p : Prop} (h : p := by (try simp only [List.map_toArray, List.map_cons, List.map_nil]); first | done | rfl | (simp only [List.length_drop, List.length_take]; rfl)) : p := h
theorem d3_ {p : Prop} (h : p := by repeat (first | (with_reducible first | exact HK.out | apply Kept.alloc | apply Kept.drewN | apply Kept.drew | refine Kept.setCell ?_ (.inr GW135.out) _) | exact HK.out)) : p := h
theorem d2_ {p : Prop} (h : p := by first | rfl | (simp; done) | (simp [*]; done) | (simp [wrap64]; done)) : p := h
theorem d1_ {p : Prop} (h : p := by first | (with_reducible assumption) | assumption) : p := h
theorem d0_ {p : Prop} (h : p := by rw [hg]; exact (below_size (bw_ HB.out))) : p := h
/-- a leaf's answer told by itself, ahead of what is said of its world. -/
theorem rt_ {p q : Prop} (h : q) (k : p := by first | rfl | (simp [errW_none, errW_some] <;> rfl) | (simp [*, errW_none, errW_some] <;> rfl)) : p ∧ q := ⟨k, h⟩
def errW : Option Int → Value
 | none => .nilIface
 | some c => .iface 0 (.int .i64 c)
theorem errW_none : errW none = .nilIface := rfl
theorem errW_some (c : Int) : errW (some c) = .iface 0 (.int .i64 c) := rfl

theorem info3 : (Try.prog.info? 3).map (fun i => (i.zero, i.size, i.bytes)) = some (some (.int .i64 0), 1, 8) := by kernel_rfl
-- the values' own types

end Go.Proofs.Ytiagbfilffbljaa.PFnExactPlaceOf
