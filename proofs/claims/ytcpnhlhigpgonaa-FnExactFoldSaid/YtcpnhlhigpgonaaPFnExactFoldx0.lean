-- Laid by a program of this session (a changed copy of the kit's printer); Lean checks every line.
import Derived.Test.YtcpnhlhigpgonaaProg
import Derived.Below
import Derived.Deep.Draws
import Derived.Deep.AppendLies
import Derived.Maps.AppendAt
import Derived.OwnWalk
import Derived.Laws.BytesArg
import Derived.Laws.MakeOwn
import Derived.Laws.OwnMore
import Derived.Deep.OwnRows
import Derived.Tactics
import Derived.Lib.ConvBytes
import Derived.Laws.Slices
import Derived.WalkKit
import Derived.KernelRfl
import Derived.RowKit3
import Derived.Deep.LoopGhost
import Derived.Deep.QuietTactic
import Derived.BigQuiet
import Derived.WideLaws
import Derived.Deep.DeepCutAuto
import Derived.Deep.CutBlock
import Derived.Deep.RegionHeld3
import Derived.Laws.Rows
import Derived.Lib.AppendStr
import Derived.ArgAppend
import Derived.Laws.IdiomCopy
import Derived.OrdersHeld
import Derived.Laws.BitsLemmas
import Derived.RowKit
import Derived.Test.YtcpnhlhigpgonaaVFnExactFold
namespace Go.Proofs.Ytcpnhlhigpgonaa.PFnExactFold
open Go.RowKit Go.Proofs.YtcpnhlhigpgonaaW.PrintWords Go.Proofs.YtcpnhlhigpgonaaW.PrintLast Go.Proofs.YtcpnhlhigpgonaaW.PrintMore
attribute [local go_sem] max2_int min2_int max_two min_two max_three min_three max_four min_four   -- for this text's walks alone
set_option linter.unusedVariables false
set_option linter.unusedSimpArgs false



/-- what a new world keeps of an elder one: its blocks. -/
class WExt (w : outParam World) (w' : World) : Prop where
 out : ∀ {g : Nat} {o : Obj}, w.heap[g]? = some o → w'.heap[g]? = some o
instance (priority := 1) (w : World) : WExt w w := ⟨fun h => h⟩
instance (w w' : World) (n : Nat) [h : WExt w w'] : WExt w (w'.drewN n) := ⟨fun k => blk_drewN (h.out k) n⟩
instance (w w' : World) [h : WExt w w'] : WExt w w'.drew := ⟨fun k => blk_drew (h.out k)⟩
instance (w w' : World) (o : Obj) [h : WExt w w'] : WExt w (w'.alloc o) := ⟨fun k => blk_alloc (h.out k) o⟩
/-- what holds below a world's size still holds in a later one. -/
class GeI (n g : Nat) : Prop where
 out : n ≤ g
class BlwI (w0 : World) (w : outParam World) (w' : World) : Prop where
 out : Below w0.heap.size w0 w → Below w0.heap.size w0 w'
instance (priority := 1) (w0 w : World) : BlwI w0 w w := ⟨fun h => h⟩
instance (w0 w w' : World) (n : Nat) [h : BlwI w0 w w'] : BlwI w0 w (w'.drewN n) := ⟨fun k => pw_below_drewN (h.out k) n⟩
instance (w0 w w' : World) [h : BlwI w0 w w'] : BlwI w0 w w'.drew := ⟨fun k => (h.out k).drew⟩
instance (w0 w w' : World) (o : Obj) [h : BlwI w0 w w'] : BlwI w0 w (w'.alloc o) := ⟨fun k => below_alloc (h.out k) o⟩
instance (w0 w w' : World) (g j : Nat) (v : Value) [h : BlwI w0 w w'] [e : GeI w0.heap.size g] : BlwI w0 w (w'.setCell ⟨g, j, none⟩ v) := ⟨fun k => (h.out k).setCell e.out _⟩
theorem bw_ {w0 w w' : World} [h : BlwI w0 w w'] (k : Below w0.heap.size w0 w) : Below w0.heap.size w0 w' := h.out k
theorem bk_ {w w' : World} {g : Nat} {o : Obj} [h : WExt w w'] (k : w.heap[g]? = some o) : w'.heap[g]? = some o := h.out k
/-- a block's eight cells, and that none is frozen. -/
theorem cz8_ {w : World} {g : Nat} {t : TypeId} {v0 v1 v2 v3 v4 v5 v6 v7 : Value} (h : w.heap[g]? = some (.cells #[v0, v1, v2, v3, v4, v5, v6, v7] t (0, 0))) :
  w.cell? ⟨g, 0, none⟩ = some v0 ∧ w.cell? ⟨g, 1, none⟩ = some v1 ∧ w.cell? ⟨g, 2, none⟩ = some v2 ∧ w.cell? ⟨g, 3, none⟩ = some v3 ∧ w.cell? ⟨g, 4, none⟩ = some v4 ∧ w.cell? ⟨g, 5, none⟩ = some v5 ∧ w.cell? ⟨g, 6, none⟩ = some v6 ∧ w.cell? ⟨g, 7, none⟩ = some v7 ∧
  w.frozen? ⟨g, 0, none⟩ = false ∧ w.frozen? ⟨g, 1, none⟩ = false ∧ w.frozen? ⟨g, 2, none⟩ = false ∧ w.frozen? ⟨g, 3, none⟩ = false ∧ w.frozen? ⟨g, 4, none⟩ = false ∧ w.frozen? ⟨g, 5, none⟩ = false ∧ w.frozen? ⟨g, 6, none⟩ = false ∧ w.frozen? ⟨g, 7, none⟩ = false :=
 ⟨(blk_cell h 0).trans rfl, (blk_cell h 1).trans rfl, (blk_cell h 2).trans rfl, (blk_cell h 3).trans rfl, (blk_cell h 4).trans rfl, (blk_cell h 5).trans rfl, (blk_cell h 6).trans rfl, (blk_cell h 7).trans rfl, blk_frozen h 0, blk_frozen h 1, blk_frozen h 2, blk_frozen h 3, blk_frozen h 4, blk_frozen h 5, blk_frozen h 6, blk_frozen h 7⟩
/-- a block's four cells, and that none is frozen. -/
theorem cz4_ {w : World} {g : Nat} {t : TypeId} {v0 v1 v2 v3 : Value} (h : w.heap[g]? = some (.cells #[v0, v1, v2, v3] t (0, 0))) :
  w.cell? ⟨g, 0, none⟩ = some v0 ∧ w.cell? ⟨g, 1, none⟩ = some v1 ∧ w.cell? ⟨g, 2, none⟩ = some v2 ∧ w.cell? ⟨g, 3, none⟩ = some v3 ∧
  w.frozen? ⟨g, 0, none⟩ = false ∧ w.frozen? ⟨g, 1, none⟩ = false ∧ w.frozen? ⟨g, 2, none⟩ = false ∧ w.frozen? ⟨g, 3, none⟩ = false :=
 ⟨(blk_cell h 0).trans rfl, (blk_cell h 1).trans rfl, (blk_cell h 2).trans rfl, (blk_cell h 3).trans rfl, blk_frozen h 0, blk_frozen h 1, blk_frozen h 2, blk_frozen h 3⟩
/-- a call of a listed function, its plain facts told by themselves. -/
theorem gL_ {P : Program} {ops : Array Oper} {Q : Exit → Act → World → Prop} {rest : List Oper} {oi : Oper} {a : Act} {w : World} (N : Option Tmp) {f : FuncId} {fn : Func} {as_ : Array Operand} {ts : Array TypeId} (hf : P.funcs[f]? = some fn) (args : Array Value)
  (h : Calls P f args w fun e w' => ∃ v, e = .returned v ∧ wpList P ops Q rest (a.put N v) w')
  (hd : oi.dst = N := by exact rfl) (hg : oi.guard = none := by exact rfl) (hname : (fn.name == "runtime.NumGoroutine") = false := by kernel_rfl) (hb : fn.body.isSome = true := by exact rfl)
  (hop : oi.op = .call { callee := .value (.func f), args := as_, argTypes := ts } := by exact rfl)
  (hargs : as_.map a.eval = args := by ((try simp only [List.map_toArray, List.map_cons, List.map_nil]); first | done | rfl | (simp only [List.length_drop, List.length_take]; rfl))) : wpList P ops Q (oi :: rest) a w :=
 goesL_ N hd hg hf hname hb args hop hargs h
theorem A_ {p : Prop} (h : p) : Aside0 p := Aside0.mk h
/-- a block's nine (eight) cells, for what a region holds. -/
theorem c9_ {w : World} {g : Nat} {t : TypeId} {v0 v1 v2 v3 v4 v5 v6 v7 v8 : Value} (h : Aside0 (w.heap[g]? = some (.cells #[v0, v1, v2, v3, v4, v5, v6, v7, v8] t (0, 0)))) :
 w.cell? ⟨g, 0, none⟩ = some v0 ∧ w.cell? ⟨g, 1, none⟩ = some v1 ∧ w.cell? ⟨g, 2, none⟩ = some v2 ∧ w.cell? ⟨g, 3, none⟩ = some v3 ∧ w.cell? ⟨g, 4, none⟩ = some v4 ∧ w.cell? ⟨g, 5, none⟩ = some v5 ∧ w.cell? ⟨g, 6, none⟩ = some v6 ∧ w.cell? ⟨g, 7, none⟩ = some v7 ∧ w.cell? ⟨g, 8, none⟩ = some v8 :=
 ⟨(blk_cell h.out 0).trans rfl, (blk_cell h.out 1).trans rfl, (blk_cell h.out 2).trans rfl, (blk_cell h.out 3).trans rfl, (blk_cell h.out 4).trans rfl, (blk_cell h.out 5).trans rfl, (blk_cell h.out 6).trans rfl, (blk_cell h.out 7).trans rfl, (blk_cell h.out 8).trans rfl⟩
theorem c8_ {w : World} {g : Nat} {t : TypeId} {v0 v1 v2 v3 v4 v5 v6 v7 : Value} (h : Aside0 (w.heap[g]? = some (.cells #[v0, v1, v2, v3, v4, v5, v6, v7] t (0, 0)))) :
 w.cell? ⟨g, 0, none⟩ = some v0 ∧ w.cell? ⟨g, 1, none⟩ = some v1 ∧ w.cell? ⟨g, 2, none⟩ = some v2 ∧ w.cell? ⟨g, 3, none⟩ = some v3 ∧ w.cell? ⟨g, 4, none⟩ = some v4 ∧ w.cell? ⟨g, 5, none⟩ = some v5 ∧ w.cell? ⟨g, 6, none⟩ = some v6 ∧ w.cell? ⟨g, 7, none⟩ = some v7 :=
 ⟨(blk_cell h.out 0).trans rfl, (blk_cell h.out 1).trans rfl, (blk_cell h.out 2).trans rfl, (blk_cell h.out 3).trans rfl, (blk_cell h.out 4).trans rfl, (blk_cell h.out 5).trans rfl, (blk_cell h.out 6).trans rfl, (blk_cell h.out 7).trans rfl⟩
theorem cf_ {w : World} {a b : Nat} {i j : Nat} {u v : Value} (h : Aside0 (a ≠ b)) (hc : w.cell? ⟨a, i, none⟩ = some v) : (w.setCell ⟨b, j, none⟩ u).cell? ⟨a, i, none⟩ = some v := (cell_far (p := ⟨b, j, none⟩) h.out u).trans hc
/-- Bools by their bits. -/
def bl_ : Nat → Nat → List Bool
 | 0, _ => []
 | n + 1, v => (v % 2 == 1) :: bl_ n (v / 2)
def bm_ (n v : Nat) : Array Bool := ⟨bl_ n v⟩
/-- a block's nine cells, and that none is frozen. -/
theorem cz9_ {w : World} {g : Nat} {t : TypeId} {v0 v1 v2 v3 v4 v5 v6 v7 v8 : Value} (h : w.heap[g]? = some (.cells #[v0, v1, v2, v3, v4, v5, v6, v7, v8] t (0, 0))) :
 w.cell? ⟨g, 0, none⟩ = some v0 ∧ w.cell? ⟨g, 1, none⟩ = some v1 ∧ w.cell? ⟨g, 2, none⟩ = some v2 ∧ w.cell? ⟨g, 3, none⟩ = some v3 ∧ w.cell? ⟨g, 4, none⟩ = some v4 ∧ w.cell? ⟨g, 5, none⟩ = some v5 ∧ w.cell? ⟨g, 6, none⟩ = some v6 ∧ w.cell? ⟨g, 7, none⟩ = some v7 ∧ w.cell? ⟨g, 8, none⟩ = some v8 ∧
 w.frozen? ⟨g, 0, none⟩ = false ∧ w.frozen? ⟨g, 1, none⟩ = false ∧ w.frozen? ⟨g, 2, none⟩ = false ∧ w.frozen? ⟨g, 3, none⟩ = false ∧ w.frozen? ⟨g, 4, none⟩ = false ∧ w.frozen? ⟨g, 5, none⟩ = false ∧ w.frozen? ⟨g, 6, none⟩ = false ∧ w.frozen? ⟨g, 7, none⟩ = false ∧ w.frozen? ⟨g, 8, none⟩ = false :=
 ⟨(blk_cell h 0).trans rfl, (blk_cell h 1).trans rfl, (blk_cell h 2).trans rfl, (blk_cell h 3).trans rfl, (blk_cell h 4).trans rfl, (blk_cell h 5).trans rfl, (blk_cell h 6).trans rfl, (blk_cell h 7).trans rfl, (blk_cell h 8).trans rfl, blk_frozen h 0, blk_frozen h 1, blk_frozen h 2, blk_frozen h 3, blk_frozen h 4, blk_frozen h 5, blk_frozen h 6, blk_frozen h 7, blk_frozen h 8⟩
/-- a row of one's own in a later world. -/
class KrI (w : outParam World) (w' : World) : Prop where
 out : ∀ {α : Type} {d : Kd α} {e base : Nat} {ok : Nat → Prop} {v : Value} {xs : List α}, Kd.R d e w base ok v xs → Kd.R d e w' base ok v xs
instance (priority := 1) (w : World) : KrI w w := ⟨fun h => h⟩
instance (w w' : World) (n : Nat) [h : KrI w w'] : KrI w (w'.drewN n) := ⟨fun k => Kd.R_drewN (h.out k) n⟩
instance (w w' : World) [h : KrI w w'] : KrI w w'.drew := ⟨fun k => Kd.R_drew (h.out k)⟩
instance (w w' : World) (o : Obj) [h : KrI w w'] : KrI w (w'.alloc o) := ⟨fun k => Kd.R_alloc (h.out k) o⟩
theorem kr_ {w w' : World} [h : KrI w w'] {α : Type} {d : Kd α} {e base : Nat} {ok : Nat → Prop} {v : Value} {xs : List α} (k : Kd.R d e w base ok v xs) : Kd.R d e w' base ok v xs := h.out k
/-- an operation that yields in every world, its plain facts told by themselves. -/
theorem pu_ {P : Program} {ops : Array Oper} {Q : Exit → Act → World → Prop} {md : Region.Mode} {S : World → Prop} {ds : List Nat} (i : Nat) (N : Option Tmp) {oi : Oper} {v : Value} {fuel : Nat} {l : Array Bool} {a : Act} {w : World} (l' : Array Bool) {a' : Act} (hc : anyB md ops l l' i = true)
 (h : wpAnyLast P md ops Q S ds fuel l' a' w) (hi : ops[i]? = some oi := by exact rfl) (hN : oi.dst = N := by exact rfl)
 (hy : Yields P ops oi v a := by (refine Or.inl ⟨by rfl, ?_⟩; intro w'; go_simp; with_reducible rfl)) (ha : a.put N v = a' := by (simp only [Act.put, List.setIfInBounds_toArray, List.set_cons_zero, List.set_cons_succ, i64_w, i32_w]; rfl)) (hQ : ∀ c a w, Q (.panic c) (a.put oi.dst v) w → Q (.panic c) a w := by exact fun _ _ _ h => h) :
 wpAnyLast P md ops Q S ds (fuel + 1) l a w := pure_ l' hi hN hc hQ hy ha h
/-- a world named anew. -/
theorem bq_ {w w1 : World} {n g : Nat} {o : Obj} (q : World.drewN w n = w1) (h : w.heap[g]? = some o) : w1.heap[g]? = some o := q ▸ blk_drewN h n
theorem wq_ {w0 w w1 : World} {n : Nat} (q : World.drewN w n = w1) (h : Below w0.heap.size w0 w) : Below w0.heap.size w0 w1 := q ▸ pw_below_drewN h n
theorem rq_ {w w1 : World} {n : Nat} (q : World.drewN w n = w1) {α : Type} {d : Kd α} {e base : Nat} {ok : Nat → Prop} {v : Value} {xs : List α} (h : Kd.R d e w base ok v xs) : Kd.R d e w1 base ok v xs := q ▸ Kd.R_drewN h n
/-- a variable in memory, its plain facts told by themselves. -/
theorem bx_ {P : Program} {ops : Array Oper} {Q : Exit → Act → World → Prop} {rest : List Oper} {o : Oper} {a : Act} {W : World} (N : Tmp) (cs : Array Value) (t : TypeId)
 (h : ∀ g, g = W.heap.size → ∀ w1, w1.heap[g]? = some (.cells cs t (0, 0)) → Below W.heap.size W w1 → wpList P ops Q rest (a.put o.dst (.pointer (some ⟨g, 0, none⟩))) w1) (hgd : o.guard = none := by exact rfl) (hd : o.dst = some N := by exact rfl)
 (hrun : (execOp a.eval o).run P W = .ok (.value (.pointer (some ⟨W.heap.size, 0, none⟩))) (W.alloc (.cells cs t (0, 0))) := by first | (go_simp; done) | (go_simp; rfl)) : wpList P ops Q (o :: rest) a W := box_event hgd hd hrun h
theorem bp4_ {w : World} {g : Nat} {t : TypeId} {u0 u1 u2 u3 v0 v1 v2 v3 : Value} (h : w.heap[g]? = some (.cells #[u0, u1, u2, u3] t (0, 0))) : (((((w.setCell ⟨g, 0, none⟩ v0).setCell ⟨g, 1, none⟩ v1).setCell ⟨g, 2, none⟩ v2).setCell ⟨g, 3, none⟩ v3)).heap[g]? = some (.cells #[v0, v1, v2, v3] t (0, 0)) := by
 have h := blk_put (cs' := #[v0, u1, u2, u3]) h 0 v0 rfl
 have h := blk_put (cs' := #[v0, v1, u2, u3]) h 1 v1 rfl
 have h := blk_put (cs' := #[v0, v1, v2, u3]) h 2 v2 rfl
 have h := blk_put (cs' := #[v0, v1, v2, v3]) h 3 v3 rfl
 exact h
theorem nf4_ {w : World} {g : Nat} {u0 u1 u2 u3 : Value} {α : Type} {d : Kd α} {e base : Nat} {ok : Nat → Prop} {v : Value} {xs : List α} (h : Kd.N d e w base ok v xs) (hok : ∀ k, ok k → k ≠ g) : Kd.N d e ((((w.setCell ⟨g, 0, none⟩ u0).setCell ⟨g, 1, none⟩ u1).setCell ⟨g, 2, none⟩ u2).setCell ⟨g, 3, none⟩ u3) base ok v xs := (Kd.N_far (p := ⟨g, 3, none⟩) (Kd.N_far (p := ⟨g, 2, none⟩) (Kd.N_far (p := ⟨g, 1, none⟩) (Kd.N_far (p := ⟨g, 0, none⟩) h hok u0) hok u1) hok u2) hok u3)
theorem rf4_ {w : World} {g : Nat} {u0 u1 u2 u3 : Value} {α : Type} {d : Kd α} {e base : Nat} {ok : Nat → Prop} {v : Value} {xs : List α} (h : Kd.R d e w base ok v xs) (hok : ∀ k, ok k → k ≠ g) : Kd.R d e ((((w.setCell ⟨g, 0, none⟩ u0).setCell ⟨g, 1, none⟩ u1).setCell ⟨g, 2, none⟩ u2).setCell ⟨g, 3, none⟩ u3) base ok v xs := (Kd.R_far (p := ⟨g, 3, none⟩) (Kd.R_far (p := ⟨g, 2, none⟩) (Kd.R_far (p := ⟨g, 1, none⟩) (Kd.R_far (p := ⟨g, 0, none⟩) h hok u0) hok u1) hok u2) hok u3)
theorem vf4_ {w : World} {g : Nat} {u0 u1 u2 u3 : Value} {α : Type} {d : Kd α} {e base : Nat} {ok : Nat → Prop} {v : Value} {xs : List α} (h : Kd.V d e w base ok v xs) (hok : ∀ k, ok k → k ≠ g) : Kd.V d e ((((w.setCell ⟨g, 0, none⟩ u0).setCell ⟨g, 1, none⟩ u1).setCell ⟨g, 2, none⟩ u2).setCell ⟨g, 3, none⟩ u3) base ok v xs := (Kd.V_far (p := ⟨g, 3, none⟩) (Kd.V_far (p := ⟨g, 2, none⟩) (Kd.V_far (p := ⟨g, 1, none⟩) (Kd.V_far (p := ⟨g, 0, none⟩) h hok u0) hok u1) hok u2) hok u3)
theorem d47_ {p : Prop} (h : p := by exact bk_ (bp4_ (bk_ BK240.out))) : p := h
theorem d46_ {p : Prop} (h : p := by exact bk_ (bp4_ (bk_ BK271.out))) : p := h
theorem d45_ {p : Prop} (h : p := by rw [hg]; exact Nat.ne_of_lt (blk_lt (bk_ BK232.out))) : p := h
theorem d44_ {p : Prop} (h : p := by rw [hg]; exact Nat.ne_of_lt (blk_lt (bk_ BK257.out))) : p := h
theorem d43_ {p : Prop} (h : p := by rw [hw]; exact (by exact bk_ (bp4_ (bk_ BK232.out)))) : p := h
theorem d42_ {p : Prop} (h : p := by exact bk_ (bp4_ (bk_ BK368.out))) : p := h
theorem d41_ {p : Prop} (h : p := by (with_reducible repeat (first | apply Kd.S_alloc | apply Kd.S_drewN | apply Kd.S_drew)); exact HO_375003.out) : p := h
theorem d40_ {p : Prop} (h : p := by rw [hg]; exact Nat.ne_of_lt (blk_lt (bk_ BK362.out))) : p := h
theorem d39_ {p : Prop} (h : p := by rw [hg]; exact Nat.ne_of_lt (blk_lt (bk_ BK486.out))) : p := h
theorem d38_ {p : Prop} (h : p := by have := World.block_lt_of_cell? _ _ hx281_0; first | rwa [add_block] at this | exact this) : p := h
theorem d37_ {p : Prop} (h : p := by rw [hw]; exact (bw_ HB.out)) : p := h
theorem d36_ {p : Prop} (h : p := by have := HJ3.out; have := HJ46.out; have := HK3.out; omega) : p := h
theorem d35_ {p : Prop} (h : p := by rw [hg]; exact Nat.ne_of_lt (blk_lt (bk_ BK218.out))) : p := h
theorem d34_ {p : Prop} (h : p := by rw [hg]; exact Nat.ne_of_lt (blk_lt (bk_ BK256.out))) : p := h
theorem d33_ {p : Prop} (h : p := by first | (rw [add_block]; exact hn281_0) | (show (Addr.add _ _).block ≠ _; rw [add_block]; exact hn281_0) | exact hn281_0) : p := h
theorem d32_ {p : Prop} (h : p := by first | (rw [add_block]; exact hn281_1) | (show (Addr.add _ _).block ≠ _; rw [add_block]; exact hn281_1) | exact hn281_1) : p := h
theorem d31_ {p : Prop} (h : p := by first | (rw [add_block]; exact hn281_2) | (show (Addr.add _ _).block ≠ _; rw [add_block]; exact hn281_2) | exact hn281_2) : p := h
theorem d30_ {p : Prop} (h : p := by first | (rw [add_block]; exact hn281_3) | (show (Addr.add _ _).block ≠ _; rw [add_block]; exact hn281_3) | exact hn281_3) : p := h
theorem d29_ {p : Prop} (h : p := by refine bk_ ?_; refine blk_far ?_ NB486_495.out _; refine bk_ ?_; refine blk_far ?_ NB486_495.out _; refine bk_ ?_; refine blk_far ?_ NB486_495.out _; refine bk_ ?_; refine blk_far ?_ NB486_495.out _; refine bk_ ?_; exact BK486.out) : p := h
theorem d28_ {p : Prop} (h : p := by refine bk_ ?_; refine blk_far ?_ NB487_495.out _; refine bk_ ?_; refine blk_far ?_ NB487_495.out _; refine bk_ ?_; refine blk_far ?_ NB487_495.out _; refine bk_ ?_; refine blk_far ?_ NB487_495.out _; refine bk_ ?_; exact BK487.out) : p := h
theorem d23_ {p : Prop} (h : p := by rw [hg]; exact Nat.ne_of_lt (blk_lt (bk_ BK217.out))) : p := h
theorem d19_ {p : Prop} (h : p := by rw [hw]; exact (by refine bk_ ?_; refine blk_far ?_ NB216_232.out _; refine bk_ ?_; refine blk_far ?_ NB216_232.out _; refine bk_ ?_; refine blk_far ?_ NB216_232.out _; refine bk_ ?_; refine blk_far ?_ NB216_232.out _; refine bk_ ?_; exact BK216.out)) : p := h
theorem d18_ {p : Prop} (h : p := by rw [hw]; exact (by refine bk_ ?_; refine blk_far ?_ NB217_232.out _; refine bk_ ?_; refine blk_far ?_ NB217_232.out _; refine bk_ ?_; refine blk_far ?_ NB217_232.out _; refine bk_ ?_; refine blk_far ?_ NB217_232.out _; refine bk_ ?_; exact BK217.out)) : p := h
theorem d17_ {p : Prop} (h : p := by rw [hw]; exact (by refine bk_ ?_; refine blk_far ?_ NB218_232.out _; refine bk_ ?_; refine blk_far ?_ NB218_232.out _; refine bk_ ?_; refine blk_far ?_ NB218_232.out _; refine bk_ ?_; refine blk_far ?_ NB218_232.out _; refine bk_ ?_; exact BK218.out)) : p := h
theorem d16_ {p : Prop} (h : p := by first | omega | (have := HK1.out; omega) | (have := HK2.out; omega) | (have := HK3.out; omega)) : p := h
theorem d15_ {p : Prop} (h : p := by rw [hg]; exact Nat.ne_of_lt (blk_lt (bk_ BK216.out))) : p := h
theorem d14_ {p : Prop} (h : p := by refine bk_ ?_; refine blk_far ?_ NB216_240.out _; refine bk_ ?_; refine blk_far ?_ NB216_240.out _; refine bk_ ?_; refine blk_far ?_ NB216_240.out _; refine bk_ ?_; refine blk_far ?_ NB216_240.out _; refine bk_ ?_; exact BK216.out) : p := h
theorem d13_ {p : Prop} (h : p := by refine bk_ ?_; refine blk_far ?_ NB217_240.out _; refine bk_ ?_; refine blk_far ?_ NB217_240.out _; refine bk_ ?_; refine blk_far ?_ NB217_240.out _; refine bk_ ?_; refine blk_far ?_ NB217_240.out _; refine bk_ ?_; exact BK217.out) : p := h
theorem d12_ {p : Prop} (h : p := by refine bk_ ?_; refine blk_far ?_ NB218_240.out _; refine bk_ ?_; refine blk_far ?_ NB218_240.out _; refine bk_ ?_; refine blk_far ?_ NB218_240.out _; refine bk_ ?_; refine blk_far ?_ NB218_240.out _; refine bk_ ?_; exact BK218.out) : p := h
theorem d11_ {p : Prop} (h : p := by refine bk_ ?_; refine blk_far ?_ NB232_240.out _; refine bk_ ?_; refine blk_far ?_ NB232_240.out _; refine bk_ ?_; refine blk_far ?_ NB232_240.out _; refine bk_ ?_; refine blk_far ?_ NB232_240.out _; refine bk_ ?_; exact BK232.out) : p := h
theorem d10_ {p : Prop} (h : p := by refine bk_ ?_; refine blk_far ?_ NB256_271.out _; refine bk_ ?_; refine blk_far ?_ NB256_271.out _; refine bk_ ?_; refine blk_far ?_ NB256_271.out _; refine bk_ ?_; refine blk_far ?_ NB256_271.out _; refine bk_ ?_; exact BK256.out) : p := h
theorem d9_ {p : Prop} (h : p := by refine bk_ ?_; refine blk_far ?_ NB257_271.out _; refine bk_ ?_; refine blk_far ?_ NB257_271.out _; refine bk_ ?_; refine blk_far ?_ NB257_271.out _; refine bk_ ?_; refine blk_far ?_ NB257_271.out _; refine bk_ ?_; exact BK257.out) : p := h
theorem d8_ {p : Prop} (h : p := by first | exact Kd.N_base ho0 | exact Kd.R_base ho0 | exact Kd.S_base ho0) : p := h
theorem d7_ {p : Prop} (h : p := by refine bk_ ?_; refine blk_far ?_ NB362_368.out _; refine bk_ ?_; refine blk_far ?_ NB362_368.out _; refine bk_ ?_; refine blk_far ?_ NB362_368.out _; refine bk_ ?_; refine blk_far ?_ NB362_368.out _; refine bk_ ?_; exact BK362.out) : p := h
theorem d6_ {p : Prop} (h : p := by (try simp only [List.map_toArray, List.map_cons, List.map_nil]); first | done | rfl | (simp only [List.length_drop, List.length_take]; rfl)) : p := h
theorem d4_ {p : Prop} (h : p := by first | rfl | (simp; done) | (simp [*]; done) | (simp [wrap64]; done)) : p := h
theorem d3_ {p : Prop} (h : p := by rw [hg]; exact (below_size (bw_ HB.out))) : p := h
theorem d1_ {p : Prop} (h : p := by first | (with_reducible assumption) | assumption) : p := h
theorem d0_ {p : Prop} (h : p := by first | rfl | (simp; done) | (simp [*]; done) | (simp [wrap64]; done) | (simp [show ∀ l : List UInt8, (l != []) = !l.isEmpty from fun l => by cases l <;> rfl, show ∀ l : List UInt8, (l == []) = l.isEmpty from fun l => by cases l <;> rfl]; done)) : p := h
/-- a leaf's answer told by itself, ahead of what is said of its world. -/
theorem rt_ {p q : Prop} (h : q) (k : p := by first | rfl | (simp [errW_none, errW_some] <;> rfl) | (simp [*, errW_none, errW_some] <;> rfl)) : p ∧ q := ⟨k, h⟩
/-- a coming row in a new world. -/
class KvI (w : outParam World) (w' : World) : Prop where
 out : ∀ {α : Type} {d : Kd α} {e base : Nat} {ok : Nat → Prop} {v : Value} {xs : List α}, Kd.V d e w base ok v xs → Kd.V d e w' base ok v xs
instance (priority := 1) (w : World) : KvI w w := ⟨fun h => h⟩
instance (w w' : World) (n : Nat) [h : KvI w w'] : KvI w (w'.drewN n) := ⟨fun k => Kd.V_drewN (h.out k) n⟩
instance (w w' : World) [h : KvI w w'] : KvI w w'.drew := ⟨fun k => Kd.V_drew (h.out k)⟩
instance (w w' : World) (o : Obj) [h : KvI w w'] : KvI w (w'.alloc o) := ⟨fun k => Kd.V_alloc (h.out k) o⟩
theorem kv_ {α : Type} {d : Kd α} {e base : Nat} {ok : Nat → Prop} {v : Value} {xs : List α} {w w' : World} [h : KvI w w'] (k : Kd.V d e w base ok v xs) : Kd.V d e w' base ok v xs := h.out k
/-- a row that comes in and is not empty lies in no block that its marks leave out. -/
theorem awy_ {α : Type} {d : Kd α} {e base n c : Nat} {ok : Nat → Prop} {W : World} {ad : Addr} {xs : List α} {g : Nat} (h : Kd.V d e W base ok (.slice (some ad) n c) xs) (hok : ∀ k, ok k → k ≠ g)
  (hn : 0 < n := by first | exact of_decide_eq_true (by assumption) | exact Nat.lt_of_succ_lt (of_decide_eq_true (by assumption))) (hs : 0 < d.sz := by decide) : ad.block ≠ g ∧ ∀ j, (ad.add j).block ≠ g := by
 obtain ⟨hn', _, hf⟩ := Kd.V_at h
 have key : ad.block ≠ g := by
  rintro rfl
  have hc := hf { W with heap := W.heap.setIfInBounds ad.block (.cells #[] 0 (0, 0)) } (fun k hk _ => Array.getElem?_setIfInBounds_ne (hok k hk).symm)
  obtain ⟨a', ea, hr⟩ := hc.2.2 (by omega)
  injection ea with ea
  subst ea
  obtain ⟨cs, hl, _, hcell⟩ := hr 0 _ (List.getElem?_eq_getElem (by omega))
  have := hcell 0 _ (List.getElem?_eq_getElem (by omega))
  rw [show ad.add (0 * d.sz + 0) = ad by simp [Addr.add]] at this
  unfold World.cell? at this
  dsimp only at this
  by_cases hb : ad.block < W.heap.size
  ·rw [Array.getElem?_setIfInBounds_self_of_lt hb] at this
   by_cases hp : ad.spot.isSome = true <;> simp [hp] at this
  ·rw [Array.setIfInBounds_eq_of_size_le (by omega), Array.getElem?_eq_none (by omega)] at this
   simp at this
 exact ⟨key, fun j => by rw [add_block]; exact key⟩
def errW : Option Int → Value
 | none => .nilIface
 | some c => .iface 0 (.int .i64 c)
theorem errW_none : errW none = .nilIface := rfl
theorem errW_some (c : Int) : errW (some c) = .iface 0 (.int .i64 c) := rfl

theorem info5 : (Try.prog.info? 5).map (fun i => (i.zero, i.size, i.bytes)) = some (some (.int .u8 0), 1, 1) := by kernel_rfl
theorem info9 : (Try.prog.info? 9).map (fun i => (i.zero, i.size, i.bytes)) = some (some (.string ⟨#[]⟩), 1, 16) := by kernel_rfl
theorem info29 : (Try.prog.info? 29).map (fun i => (i.zero, i.size, i.bytes)) = some (some (.agg #[(.int .i64 0), (.int .i64 0), (.string ⟨#[]⟩), (.slice none 0 0)]), 4, 56) := by kernel_rfl
-- the values' own types
/-! #### struct type 24, nested in itself -/
structure S24 where
 f0 : Int
 f1 : Int
 f2 : ByteArray
 f3 : (List S24)
def z24 : S24 := ⟨(0 : Int), (0 : Int), (⟨#[]⟩ : ByteArray), ([] : List S24)⟩
def F24 (d : Kd S24) : Kd S24 := Kd.iso (Kd.pair (Kd.int .i64) (Kd.pair (Kd.int .i64) (Kd.pair Kd.string (Kd.slice 24 d)))) (fun x : S24 => (x.f0, x.f1, x.f2, x.f3))
theorem mono24 : Kd.Mono F24 := Kd.mono_iso _ (Kd.mono_pair (Kd.mono_const _) (Kd.mono_pair (Kd.mono_const _) (Kd.mono_pair (Kd.mono_const _) (Kd.mono_slice 24 Kd.mono_id))))
theorem sub24 : Kd.Sub F24 [24] := Kd.sub_iso _ (Kd.sub_pair (Kd.sub_const _ (by decide)) (Kd.sub_pair (Kd.sub_const _ (by decide)) (Kd.sub_pair (Kd.sub_const _ (by decide)) (Kd.sub_slice 24 (by decide) Kd.sub_id))))
theorem sz24 : ∀ n, (Kd.upto F24 4 [24] n).sz = 4 := Kd.upto_sz (fun _ => rfl)
def k24 : Kd S24 := Kd.fix F24 4 [24] sz24 (Kd.upto_E sub24)
theorem k24_heap : Kd.Heap k24 := Kd.heap_fix (fun _ h_ => Kd.heap_iso _ (Kd.heap_pair (Kd.heap_int .i64) (Kd.heap_pair (Kd.heap_int .i64) (Kd.heap_pair Kd.heap_string (Kd.heap_slice 24 h_)))))
theorem k24_open {w : World} {x : S24} {cs : List Value} (h : k24.K w x cs) : ∃ A3 c3, cs = [.int .i64 x.f0, .int .i64 x.f1, .string x.f2, .slice A3 x.f3.length c3] ∧ x.f3.length ≤ c3 ∧ k24.C w A3 x.f3.length x.f3 := by
 obtain ⟨n, h⟩ := h
 cases n with
 | zero => exact h.elim
 | succ n =>
  obtain ⟨_, _, rfl, rfl, ⟨_, _, rfl, rfl, ⟨_, _, rfl, rfl, ⟨A3, c3, rfl, l3, g3⟩⟩⟩⟩ := h
  exact ⟨A3, c3, rfl, l3, Kd.fix_C g3⟩
theorem k24_openM {w : World} {base : Nat} {ok : Nat → Prop} {x : S24} {cs : List Value} (h : k24.M w base ok x cs) : ∃ v3, cs = [.int .i64 x.f0, .int .i64 x.f1, .string x.f2, v3] ∧ k24.R 24 w base ok v3 x.f3 := by
 obtain ⟨n, h⟩ := h
 cases n with
 | zero => exact h.elim
 | succ n =>
  obtain ⟨_, _, rfl, rfl, ⟨_, _, rfl, rfl, ⟨_, _, rfl, rfl, ⟨v3, rfl, g3⟩⟩⟩⟩ := h
  exact ⟨v3, rfl, Kd.fix_R g3⟩
theorem k24_mk (w : World) (x : S24) {A3 : Option Addr} {c3 : Nat} (l3 : x.f3.length ≤ c3) (g3 : k24.C w A3 x.f3.length x.f3) : k24.K w x [.int .i64 x.f0, .int .i64 x.f1, .string x.f2, .slice A3 x.f3.length c3] := by
 obtain ⟨n3, q3⟩ := Kd.fix_C_back mono24 g3
 have r3 := Kd.upto_C_le mono24 sz24 (show n3 ≤ n3 by omega) q3
 exact ⟨n3 + 1, ⟨[.int .i64 x.f0], [.int .i64 x.f1, .string x.f2, .slice A3 x.f3.length c3], rfl, rfl, ⟨[.int .i64 x.f1], [.string x.f2, .slice A3 x.f3.length c3], rfl, rfl, ⟨[.string x.f2], [.slice A3 x.f3.length c3], rfl, rfl, ⟨A3, c3, rfl, l3, r3⟩⟩⟩⟩⟩
theorem k24_mkM (w : World) (base : Nat) (ok : Nat → Prop) (x : S24) {v3 : Value} (g3 : k24.R 24 w base ok v3 x.f3) : k24.M w base ok x [.int .i64 x.f0, .int .i64 x.f1, .string x.f2, v3] := by
 obtain ⟨n3, q3⟩ := Kd.fix_R_back mono24 g3
 have r3 := Kd.upto_R_le mono24 sz24 (show n3 ≤ n3 by omega) q3
 exact ⟨n3 + 1, ⟨[.int .i64 x.f0], [.int .i64 x.f1, .string x.f2, v3], rfl, rfl, ⟨[.int .i64 x.f1], [.string x.f2, v3], rfl, rfl, ⟨[.string x.f2], [v3], rfl, rfl, ⟨v3, rfl, r3⟩⟩⟩⟩⟩
theorem k24_openF {W : World} {ok : Nat → Prop} {x : S24} {cs : List Value} (h : Kd.FK k24 W ok x cs) : ∃ A3 c3, cs = [.int .i64 x.f0, .int .i64 x.f1, .string x.f2, .slice A3 x.f3.length c3] ∧ x.f3.length ≤ c3 ∧ Kd.F k24 W ok A3 x.f3.length x.f3 := by
 obtain ⟨A3, c3, rfl, l3, _⟩ := k24_open (Kd.FK_now h)
 exact ⟨A3, c3, rfl, l3, (fun W' hW => by obtain ⟨A3_, c3_, he, l3_, g3_⟩ := k24_open (h W' hW); injection (Option.some.inj (show some (Value.slice A3 x.f3.length c3) = some (Value.slice A3_ x.f3.length c3_) from congrArg (fun l => l[3]?) he)) with ha_ _ _; rw [ha_]; exact g3_)⟩
theorem k24_mkF (W : World) (ok : Nat → Prop) (x : S24) {A3 : Option Addr} {c3 : Nat} (l3 : x.f3.length ≤ c3) (g3 : Kd.F k24 W ok A3 x.f3.length x.f3) : Kd.FK k24 W ok x [.int .i64 x.f0, .int .i64 x.f1, .string x.f2, .slice A3 x.f3.length c3] := fun W2 hW => k24_mk W2 x l3 (g3 W2 hW)
def rd_T24 (xs : List S24) (i : Int) : S24 := xs.getD i.toNat z24
theorem at_T24 {w : World} {A : Option Addr} {n : Nat} {xs : List S24} (h : Kd.C k24 w A n xs) (i : Int) (h0 : 0 ≤ i) (h1 : i < n) : ∃ ad A3 c3, A = some ad ∧ w.cell? (ad.add (i.toNat * 4)) = some (.int .i64 (rd_T24 xs i).f0) ∧ w.cell? ⟨(ad.add (i.toNat * 4)).block, (ad.add (i.toNat * 4)).off + 1, none⟩ = some (.int .i64 (rd_T24 xs i).f1) ∧ w.cell? ⟨(ad.add (i.toNat * 4)).block, (ad.add (i.toNat * 4)).off + 2, none⟩ = some (.string (rd_T24 xs i).f2) ∧ w.cell? ⟨(ad.add (i.toNat * 4)).block, (ad.add (i.toNat * 4)).off + 3, none⟩ = some (.slice A3 (rd_T24 xs i).f3.length c3) ∧ (rd_T24 xs i).f3.length ≤ c3 ∧ k24.C w A3 (rd_T24 xs i).f3.length (rd_T24 xs i).f3 := by
 obtain ⟨ad, c, e, _, hK, hc0⟩ := Kd.C_get h z24 i h0 h1
 have hc : ∀ j u, c[j]? = some u → w.cell? (ad.add (i.toNat * 4 + j)) = some u := hc0
 obtain ⟨A3, c3, rfl, l3, g3⟩ := k24_open hK
 exact ⟨ad, A3, c3, e, hc 0 _ rfl, by rw [← add_field _ _ 1 (by omega)]; exact hc 1 _ rfl, by rw [← add_field _ _ 2 (by omega)]; exact hc 2 _ rfl, by rw [← add_field _ _ 3 (by omega)]; exact hc 3 _ rfl, l3, g3⟩

/-! #### struct type 29, nested in itself -/
structure S29 where
 f0 : Int
 f1 : Int
 f2 : ByteArray
 f3 : (List S29)
def z29 : S29 := ⟨(0 : Int), (0 : Int), (⟨#[]⟩ : ByteArray), ([] : List S29)⟩
def F29 (d : Kd S29) : Kd S29 := Kd.iso (Kd.pair (Kd.int .i64) (Kd.pair (Kd.int .i64) (Kd.pair Kd.string (Kd.slice 29 d)))) (fun x : S29 => (x.f0, x.f1, x.f2, x.f3))
theorem mono29 : Kd.Mono F29 := Kd.mono_iso _ (Kd.mono_pair (Kd.mono_const _) (Kd.mono_pair (Kd.mono_const _) (Kd.mono_pair (Kd.mono_const _) (Kd.mono_slice 29 Kd.mono_id))))
theorem sub29 : Kd.Sub F29 [29] := Kd.sub_iso _ (Kd.sub_pair (Kd.sub_const _ (by decide)) (Kd.sub_pair (Kd.sub_const _ (by decide)) (Kd.sub_pair (Kd.sub_const _ (by decide)) (Kd.sub_slice 29 (by decide) Kd.sub_id))))
theorem sz29 : ∀ n, (Kd.upto F29 4 [29] n).sz = 4 := Kd.upto_sz (fun _ => rfl)
def k29 : Kd S29 := Kd.fix F29 4 [29] sz29 (Kd.upto_E sub29)
theorem k29_heap : Kd.Heap k29 := Kd.heap_fix (fun _ h_ => Kd.heap_iso _ (Kd.heap_pair (Kd.heap_int .i64) (Kd.heap_pair (Kd.heap_int .i64) (Kd.heap_pair Kd.heap_string (Kd.heap_slice 29 h_)))))
theorem k29_open {w : World} {x : S29} {cs : List Value} (h : k29.K w x cs) : ∃ A3 c3, cs = [.int .i64 x.f0, .int .i64 x.f1, .string x.f2, .slice A3 x.f3.length c3] ∧ x.f3.length ≤ c3 ∧ k29.C w A3 x.f3.length x.f3 := by
 obtain ⟨n, h⟩ := h
 cases n with
 | zero => exact h.elim
 | succ n =>
  obtain ⟨_, _, rfl, rfl, ⟨_, _, rfl, rfl, ⟨_, _, rfl, rfl, ⟨A3, c3, rfl, l3, g3⟩⟩⟩⟩ := h
  exact ⟨A3, c3, rfl, l3, Kd.fix_C g3⟩
theorem k29_openM {w : World} {base : Nat} {ok : Nat → Prop} {x : S29} {cs : List Value} (h : k29.M w base ok x cs) : ∃ v3, cs = [.int .i64 x.f0, .int .i64 x.f1, .string x.f2, v3] ∧ k29.R 29 w base ok v3 x.f3 := by
 obtain ⟨n, h⟩ := h
 cases n with
 | zero => exact h.elim
 | succ n =>
  obtain ⟨_, _, rfl, rfl, ⟨_, _, rfl, rfl, ⟨_, _, rfl, rfl, ⟨v3, rfl, g3⟩⟩⟩⟩ := h
  exact ⟨v3, rfl, Kd.fix_R g3⟩
theorem k29_mk (w : World) (x : S29) {A3 : Option Addr} {c3 : Nat} (l3 : x.f3.length ≤ c3) (g3 : k29.C w A3 x.f3.length x.f3) : k29.K w x [.int .i64 x.f0, .int .i64 x.f1, .string x.f2, .slice A3 x.f3.length c3] := by
 obtain ⟨n3, q3⟩ := Kd.fix_C_back mono29 g3
 have r3 := Kd.upto_C_le mono29 sz29 (show n3 ≤ n3 by omega) q3
 exact ⟨n3 + 1, ⟨[.int .i64 x.f0], [.int .i64 x.f1, .string x.f2, .slice A3 x.f3.length c3], rfl, rfl, ⟨[.int .i64 x.f1], [.string x.f2, .slice A3 x.f3.length c3], rfl, rfl, ⟨[.string x.f2], [.slice A3 x.f3.length c3], rfl, rfl, ⟨A3, c3, rfl, l3, r3⟩⟩⟩⟩⟩
theorem k29_mkM (w : World) (base : Nat) (ok : Nat → Prop) (x : S29) {v3 : Value} (g3 : k29.R 29 w base ok v3 x.f3) : k29.M w base ok x [.int .i64 x.f0, .int .i64 x.f1, .string x.f2, v3] := by
 obtain ⟨n3, q3⟩ := Kd.fix_R_back mono29 g3
 have r3 := Kd.upto_R_le mono29 sz29 (show n3 ≤ n3 by omega) q3
 exact ⟨n3 + 1, ⟨[.int .i64 x.f0], [.int .i64 x.f1, .string x.f2, v3], rfl, rfl, ⟨[.int .i64 x.f1], [.string x.f2, v3], rfl, rfl, ⟨[.string x.f2], [v3], rfl, rfl, ⟨v3, rfl, r3⟩⟩⟩⟩⟩
theorem k29_openF {W : World} {ok : Nat → Prop} {x : S29} {cs : List Value} (h : Kd.FK k29 W ok x cs) : ∃ A3 c3, cs = [.int .i64 x.f0, .int .i64 x.f1, .string x.f2, .slice A3 x.f3.length c3] ∧ x.f3.length ≤ c3 ∧ Kd.F k29 W ok A3 x.f3.length x.f3 := by
 obtain ⟨A3, c3, rfl, l3, _⟩ := k29_open (Kd.FK_now h)
 exact ⟨A3, c3, rfl, l3, (fun W' hW => by obtain ⟨A3_, c3_, he, l3_, g3_⟩ := k29_open (h W' hW); injection (Option.some.inj (show some (Value.slice A3 x.f3.length c3) = some (Value.slice A3_ x.f3.length c3_) from congrArg (fun l => l[3]?) he)) with ha_ _ _; rw [ha_]; exact g3_)⟩
theorem k29_mkF (W : World) (ok : Nat → Prop) (x : S29) {A3 : Option Addr} {c3 : Nat} (l3 : x.f3.length ≤ c3) (g3 : Kd.F k29 W ok A3 x.f3.length x.f3) : Kd.FK k29 W ok x [.int .i64 x.f0, .int .i64 x.f1, .string x.f2, .slice A3 x.f3.length c3] := fun W2 hW => k29_mk W2 x l3 (g3 W2 hW)
def rd_T29 (xs : List S29) (i : Int) : S29 := xs.getD i.toNat z29
theorem at_T29 {w : World} {A : Option Addr} {n : Nat} {xs : List S29} (h : Kd.C k29 w A n xs) (i : Int) (h0 : 0 ≤ i) (h1 : i < n) : ∃ ad A3 c3, A = some ad ∧ w.cell? (ad.add (i.toNat * 4)) = some (.int .i64 (rd_T29 xs i).f0) ∧ w.cell? ⟨(ad.add (i.toNat * 4)).block, (ad.add (i.toNat * 4)).off + 1, none⟩ = some (.int .i64 (rd_T29 xs i).f1) ∧ w.cell? ⟨(ad.add (i.toNat * 4)).block, (ad.add (i.toNat * 4)).off + 2, none⟩ = some (.string (rd_T29 xs i).f2) ∧ w.cell? ⟨(ad.add (i.toNat * 4)).block, (ad.add (i.toNat * 4)).off + 3, none⟩ = some (.slice A3 (rd_T29 xs i).f3.length c3) ∧ (rd_T29 xs i).f3.length ≤ c3 ∧ k29.C w A3 (rd_T29 xs i).f3.length (rd_T29 xs i).f3 := by
 obtain ⟨ad, c, e, _, hK, hc0⟩ := Kd.C_get h z29 i h0 h1
 have hc : ∀ j u, c[j]? = some u → w.cell? (ad.add (i.toNat * 4 + j)) = some u := hc0
 obtain ⟨A3, c3, rfl, l3, g3⟩ := k29_open hK
 exact ⟨ad, A3, c3, e, hc 0 _ rfl, by rw [← add_field _ _ 1 (by omega)]; exact hc 1 _ rfl, by rw [← add_field _ _ 2 (by omega)]; exact hc 2 _ rfl, by rw [← add_field _ _ 3 (by omega)]; exact hc 3 _ rfl, l3, g3⟩
/-! #### a tree's row: its elements lie apart, and so do theirs -/
namespace Kd
/-- A slice whose elements' inner rows lie apart. -/
def sl {α : Type} (e : Nat) (d : Kd α) : Kd (List α) where
 sz := 1
 E := e :: d.E
 K := fun w xs cs => ∃ A c, cs = [.slice A xs.length c] ∧ xs.length ≤ c ∧ Kd.C d w A xs.length xs
 M := fun w base ok xs cs => ∃ v, cs = [v] ∧ Kd.S d e w base ok v xs
 K_len := by
  rintro w x cs ⟨A, c, rfl, _⟩
  rfl
 K_one := by
  rintro w x cs ⟨A, c, rfl, _⟩ u hu
  rw [List.mem_singleton.1 hu]
  rfl
 K_below := by
  rintro w w1 x cs hb ⟨A, c, rfl, hl, hr⟩
  exact ⟨A, c, rfl, hl, Kd.C_below hr hb⟩
 K_of_M := by
  rintro w base ok x cs ⟨v, rfl, h⟩
  obtain ⟨A, c, rfl, hl, hr⟩ := Kd.S_reads h
  exact ⟨A, c, rfl, hl, hr⟩
 M_mono := by
  rintro w base ok ok' x cs hok ⟨v, rfl, h⟩
  exact ⟨v, rfl, Kd.S_mono h hok⟩
 M_bound := by
  rintro w base ok x cs ⟨v, rfl, h⟩
  exact ⟨v, rfl, Kd.S_bound h⟩
 M_move := by
  rintro w w1 base ok x cs hm ⟨v, rfl, h⟩
  exact ⟨v, rfl, Kd.S_move h hm⟩
 M_lower := by
  rintro w base base' ok x cs hb ⟨v, rfl, h⟩
  exact ⟨v, rfl, Kd.S_lower h hb⟩
theorem S_imp {α : Type} {d d' : Kd α} (hs : d.sz = d'.sz) (h : ∀ w base ok x cs, d.M w base ok x cs → d'.M w base ok x cs) {e : Nat} {w : World} {base : Nat} {ok : Nat → Prop} {v : Value} {xs : List α} (hr : Kd.S d e w base ok v xs) : Kd.S d' e w base ok v xs := by
 obtain ⟨f, hr⟩ := hr
 exact ⟨f, Kd.R_imp (d := Kd.tag f d) (d' := Kd.tag f d') hs (fun w base ok x cs hp => h _ _ _ _ _ hp) hr⟩
theorem mono_sl {α β : Type} (e : Nat) {G : Kd α → Kd β} (hG : Kd.Mono G) : Kd.Mono (fun d => sl e (G d)) := by
 refine ⟨fun _ _ _ => rfl, ?_, ?_⟩
 ·rintro d d' hs h w x cs ⟨A, c, rfl, hl, hr⟩
  exact ⟨A, c, rfl, hl, Kd.C_imp (hG.sz d d' hs) (hG.K d d' hs h) hr⟩
 ·rintro d d' hs h w base ok x cs ⟨v, rfl, hr⟩
  exact ⟨v, rfl, S_imp (hG.sz d d' hs) (hG.M d d' hs h) hr⟩
theorem sub_sl {α β : Type} {E : List Nat} (e : Nat) {G : Kd α → Kd β} (he : e ∈ E) (hG : Kd.Sub G E) : Kd.Sub (fun d => sl e (G d)) E := fun d h q hq => by
 rcases List.mem_cons.1 hq with rfl | hq
 ·exact he
 ·exact hG d h q hq
theorem heap_sl {α : Type} {d : Kd α} (e : Nat) (hd : Kd.Heap d) : Kd.Heap (sl e d) := ⟨by
 rintro w w1 x cs hb ⟨A, c, rfl, hl, hr⟩
 exact ⟨A, c, rfl, hl, hd.C hb hr⟩⟩
section
variable {α : Type} {F : Kd α → Kd α} {sz : Nat} {E : List Nat} {hs : ∀ n, (Kd.upto F sz E n).sz = sz} {hE : ∀ n q, q ∈ (Kd.upto F sz E n).E → q ∈ E}
theorem fix_S {n : Nat} {e : Nat} {w : World} {base : Nat} {ok : Nat → Prop} {v : Value} {xs : List α} (h : Kd.S (Kd.upto F sz E n) e w base ok v xs) : Kd.S (Kd.fix F sz E hs hE) e w base ok v xs := S_imp (d' := Kd.fix F sz E hs hE) (hs n) (fun w base ok x cs hp => (⟨n, hp⟩ : ∃ n, (Kd.upto F sz E n).M w base ok x cs)) h
theorem fix_S_back (hm : Kd.Mono F) {e : Nat} {w : World} {base : Nat} {ok : Nat → Prop} {v : Value} {xs : List α} (h : Kd.S (Kd.fix F sz E hs hE) e w base ok v xs) : ∃ n, Kd.S (Kd.upto F sz E n) e w base ok v xs := by
 obtain ⟨f, h0, inner, ho, hr⟩ := h
 obtain ⟨N, hN⟩ := Kd.reps_bounded (R := fun n p c => (Kd.tag f (Kd.upto F sz E n)).M w base (fun k => ok k ∧ some k ≠ v.ownBlock) p c) (fun n m p c hnm hp => Kd.upto_M_le hm hs hnm hp) hr
 refine ⟨N, f, h0, inner, ?_, ?_⟩
 ·show w.ownsRow base e (Kd.upto F sz E N).sz v _ inner
  rw [hs N]; exact ho
 ·show Reps _ (Kd.upto F sz E N).sz _ inner
  rw [hs N]; exact hN
theorem upto_S_le (hm : Kd.Mono F) (hs : ∀ n, (Kd.upto F sz E n).sz = sz) {n m : Nat} (hnm : n ≤ m) {e : Nat} {w : World} {base : Nat} {ok : Nat → Prop} {v : Value} {xs : List α} (h : Kd.S (Kd.upto F sz E n) e w base ok v xs) : Kd.S (Kd.upto F sz E m) e w base ok v xs := S_imp (by rw [hs n, hs m]) (fun _ _ _ _ _ hp => Kd.upto_M_le hm hs hnm hp) h
end
section
variable {α : Type} {d : Kd α} {e base N : Nat} {ok : Nat → Prop} {W w1 : World} {v : Value} {xs : List α}
/-- what a call made is younger than what was there ahead of it. -/
theorem age_ (h : Kd.S d e w1 W.heap.size ok v xs) : ∃ N, N = W.heap.size ∧ Kd.S d e w1 W.heap.size (fun k => ok k ∧ N ≤ k) v xs := ⟨_, rfl, Kd.S_mono (Kd.S_bound h) (fun _ hk => ⟨hk.1, hk.2.1⟩)⟩
theorem old_ (hN : N = W.heap.size) (h : Kd.S d e W base ok v xs) (hb : Below W.heap.size W w1) : Kd.S d e w1 base (fun k => ok k ∧ k < N) v xs := by
 subst hN
 exact Kd.S_old h hb
end
end Kd
/-! #### the tree's kind: what it reads is k29's; its rows lie apart -/
def G29 (d : Kd S29) : Kd S29 := Kd.iso (Kd.pair (Kd.int .i64) (Kd.pair (Kd.int .i64) (Kd.pair Kd.string (Kd.sl 29 d)))) (fun x : S29 => (x.f0, x.f1, x.f2, x.f3))
theorem monoG : Kd.Mono G29 := Kd.mono_iso _ (Kd.mono_pair (Kd.mono_const _) (Kd.mono_pair (Kd.mono_const _) (Kd.mono_pair (Kd.mono_const _) (Kd.mono_sl 29 Kd.mono_id))))
theorem subG : Kd.Sub G29 [29] := Kd.sub_iso _ (Kd.sub_pair (Kd.sub_const _ (by decide)) (Kd.sub_pair (Kd.sub_const _ (by decide)) (Kd.sub_pair (Kd.sub_const _ (by decide)) (Kd.sub_sl 29 (by decide) Kd.sub_id))))
theorem szG : ∀ n, (Kd.upto G29 4 [29] n).sz = 4 := Kd.upto_sz (fun _ => rfl)
def t29 : Kd S29 := Kd.fix G29 4 [29] szG (Kd.upto_E subG)
theorem upG : ∀ (n : Nat) (w : World) (x : S29) (cs : List Value), (Kd.upto G29 4 [29] n).K w x cs → (Kd.upto F29 4 [29] n).K w x cs
 | 0, _, _, _, h => h.elim
 | n + 1, w, x, cs, h => by
  obtain ⟨_, _, rfl, rfl, ⟨_, _, rfl, rfl, ⟨_, _, rfl, rfl, ⟨A3, c3, rfl, l3, g3⟩⟩⟩⟩ := h
  exact ⟨_, _, rfl, rfl, ⟨_, _, rfl, rfl, ⟨_, _, rfl, rfl, ⟨A3, c3, rfl, l3, Kd.C_imp (by rw [szG n, sz29 n]) (fun w x cs hp => upG n w x cs hp) g3⟩⟩⟩⟩
theorem t29_K {w : World} {x : S29} {cs : List Value} (h : t29.K w x cs) : k29.K w x cs := by
 obtain ⟨n, h⟩ := h
 exact ⟨n, upG n w x cs h⟩
def q29 : Kd S29 where
 sz := 4
 E := [29]
 K := k29.K
 M := t29.M
 K_len := k29.K_len
 K_one := k29.K_one
 K_below := k29.K_below
 K_of_M := fun h => t29_K (t29.K_of_M h)
 M_mono := t29.M_mono
 M_bound := t29.M_bound
 M_move := t29.M_move
 M_lower := t29.M_lower
theorem S_tq {e : Nat} {w : World} {base : Nat} {ok : Nat → Prop} {v : Value} {xs : List S29} (h : Kd.S t29 e w base ok v xs) : Kd.S q29 e w base ok v xs := by
 obtain ⟨f, h0, inner, ho, hr⟩ := h
 exact ⟨f, h0, inner, ho, hr⟩
theorem S_qt {e : Nat} {w : World} {base : Nat} {ok : Nat → Prop} {v : Value} {xs : List S29} (h : Kd.S q29 e w base ok v xs) : Kd.S t29 e w base ok v xs := by
 obtain ⟨f, h0, inner, ho, hr⟩ := h
 exact ⟨f, h0, inner, ho, hr⟩
theorem q29_C {w : World} {A : Option Addr} {n : Nat} {xs : List S29} (h : Kd.C q29 w A n xs) : Kd.C k29 w A n xs := ⟨h.1, h.2.1, h.2.2⟩
theorem q29_openM {w : World} {base : Nat} {ok : Nat → Prop} {x : S29} {cs : List Value} (h : q29.M w base ok x cs) : ∃ v3, cs = [.int .i64 x.f0, .int .i64 x.f1, .string x.f2, v3] ∧ Kd.S q29 29 w base ok v3 x.f3 := by
 have h : t29.M w base ok x cs := h
 obtain ⟨n, h⟩ := h
 cases n with
 | zero => exact h.elim
 | succ n =>
  obtain ⟨_, _, rfl, rfl, ⟨_, _, rfl, rfl, ⟨_, _, rfl, rfl, ⟨v3, rfl, g3⟩⟩⟩⟩ := h
  exact ⟨v3, rfl, S_tq (Kd.fix_S g3)⟩
theorem q29_mkM (w : World) (base : Nat) (ok : Nat → Prop) (x : S29) {v3 : Value} (g3 : Kd.S q29 29 w base ok v3 x.f3) : q29.M w base ok x [.int .i64 x.f0, .int .i64 x.f1, .string x.f2, v3] := by
 obtain ⟨n3, q3⟩ := Kd.fix_S_back (hs := szG) (hE := Kd.upto_E subG) monoG (S_qt g3)
 have r3 := Kd.upto_S_le monoG szG (show n3 ≤ n3 by omega) q3
 exact (⟨n3 + 1, ⟨[.int .i64 x.f0], [.int .i64 x.f1, .string x.f2, v3], rfl, rfl, ⟨[.int .i64 x.f1], [.string x.f2, v3], rfl, rfl, ⟨[.string x.f2], [v3], rfl, rfl, ⟨v3, rfl, r3⟩⟩⟩⟩⟩ : t29.M w base ok x _)
/-! #### trees that go on into a result: their blocks told by sets, no two of which meet -/
namespace Kd
section
variable {α : Type} {d : Kd α} {e b : Nat} {w w1 : World} {ok : Nat → Prop} {v : Value} {xs : List α}
theorem Z_lower {p : Prop} (h : Kd.S d e w b ok v xs) (_ : p) : Kd.S d e w b ok v xs := h
theorem Z_V (h : Kd.S d e w b ok v xs) : Kd.S d e w b ok v xs := h
/-- an empty row leads to nothing but itself. -/
theorem Z_emp (h : Kd.S d e w b ok v ([] : List α)) : Kd.S d e w b (fun k => ok k ∧ some k = v.ownBlock) v [] := by
 obtain ⟨f, h0, inner, ho, hr⟩ := h
 exact ⟨f, fun k hk => ⟨h0 k hk, hk.symm⟩, inner, ho, hr.1, fun j p hj => by simp at hj⟩
theorem T_get {f : Nat → Nat} {ad : Addr} {n cap : Nat} (h : (Kd.tag f d).R e w b ok (.slice (some ad) n cap) xs.zipIdx) (z : α) (i : Int) (h0 : 0 ≤ i) (h1 : i < n) :
  ∃ c, c.length = d.sz ∧ d.M w b (fun k => ok k ∧ f k = i.toNat) (xs.getD i.toNat z) c ∧ ∀ j u, c[j]? = some u → w.cell? (ad.add (i.toNat * d.sz + j)) = some u := by
 have hn := (Kd.R_reads' h).1
 obtain ⟨c, hc, hM, hcc⟩ := Kd.R_getA h (z, i.toNat) i h0 h1
 rw [List.length_zipIdx] at hn
 have hlt : i.toNat < xs.length := by omega
 have e1 : xs.zipIdx.getD i.toNat (z, i.toNat) = (xs.getD i.toNat z, i.toNat) := by simp [List.getD_eq_getElem?_getD, hlt]
 rw [e1] at hM
 exact ⟨c, hc, d.M_mono (fun k hk => ⟨hk.1.1, hk.2⟩) hM, hcc⟩
end
theorem Z_lits {P : Program} {ops : Array Oper} {Q : Exit → Act → World → Prop} {rest : List Oper} {o : Oper} {a : Act} {α : Type} (d : Kd α) {W : World} (base e : Nat) (hgd : o.guard = none) {N : Tmp} (_hd : o.dst = some N) {xs : List α} {inner : List Value} {ok : Nat → Prop} (okj : Nat → Nat → Prop)
  (hrun : (execOp a.eval o).run P W = .ok (.value (.slice (some ⟨W.heap.size, 0, none⟩) xs.length xs.length)) (W.alloc (.cells inner.toArray e)))
  (hl : inner.length = xs.length * d.sz) (hrep : ∀ j x, xs[j]? = some x → d.M W base (okj j) x ((inner.drop (j * d.sz)).take d.sz)) (hap : ∀ i j k, okj i k → okj j k → i = j) (hok : ∀ j k, okj j k → ok k) (hfresh : ok W.heap.size) (hbase : base ≤ W.heap.size) (hm : xs.length ≤ 9223372036854775807)
  (h : ∀ v1 w1, Kd.S d e w1 base ok v1 xs → Below W.heap.size W w1 → wpList P ops Q rest (a.put o.dst v1) w1) : wpList P ops Q (o :: rest) a W :=
 Kd.S_lits d (w0 := W) base e hgd _hd okj hrun hl hrep hap hok hfresh (Below.refl _ _) hbase hm (fun v1 w1 hs _ hg _ => h v1 w1 hs ⟨hg.os, hg.tape, hg.output, hg.size, fun k hk => hg.block k hk (by simp)⟩)
end Kd
theorem nm_ {W w1 : World} (_ : Below W.heap.size W w1) : ∃ N, N = W.heap.size := ⟨_, rfl⟩
class KzI (w : outParam World) (w' : World) : Prop where
 out : ∀ {α : Type} {d : Kd α} {e base : Nat} {ok : Nat → Prop} {v : Value} {xs : List α}, Kd.S d e w base ok v xs → Kd.S d e w' base ok v xs
instance (priority := 1) (w : World) : KzI w w := ⟨fun h => h⟩
instance (w w' : World) (n : Nat) [h : KzI w w'] : KzI w (w'.drewN n) := ⟨fun k => Kd.S_drewN (h.out k) n⟩
instance (w w' : World) [h : KzI w w'] : KzI w w'.drew := ⟨fun k => Kd.S_drew (h.out k)⟩
instance (w w' : World) (o : Obj) [h : KzI w w'] : KzI w (w'.alloc o) := ⟨fun k => Kd.S_alloc (h.out k) o⟩
theorem kz_ {w w' : World} [h : KzI w w'] {α : Type} {d : Kd α} {e base : Nat} {ok : Nat → Prop} {v : Value} {xs : List α} (k : Kd.S d e w base ok v xs) : Kd.S d e w' base ok v xs := h.out k
theorem zf4_ {w : World} {g : Nat} {u0 u1 u2 u3 : Value} {α : Type} {d : Kd α} {e base : Nat} {ok : Nat → Prop} {v : Value} {xs : List α} (h : Kd.S d e w base ok v xs) (hok : ∀ k, ok k → k ≠ g) : Kd.S d e ((((w.setCell ⟨g, 0, none⟩ u0).setCell ⟨g, 1, none⟩ u1).setCell ⟨g, 2, none⟩ u2).setCell ⟨g, 3, none⟩ u3) base ok v xs := (Kd.S_far (p := ⟨g, 3, none⟩) (Kd.S_far (p := ⟨g, 2, none⟩) (Kd.S_far (p := ⟨g, 1, none⟩) (Kd.S_far (p := ⟨g, 0, none⟩) h hok u0) hok u1) hok u2) hok u3)
theorem zwy_ {α : Type} {d : Kd α} {e base n c : Nat} {ok : Nat → Prop} {W : World} {ad : Addr} {xs : List α} {g : Nat} (h : Kd.S d e W base ok (.slice (some ad) n c) xs) (hok : ∀ k, ok k → k ≠ g) : ad.block ≠ g ∧ ∀ j, (ad.add j).block ≠ g := by
 obtain ⟨g', rfl⟩ := Kd.R_head (Kd.S_R h)
 have key : g' ≠ g := by
  intro e1
  exact Kd.S_away h hok (by simp [Value.ownBlock, e1])
 exact ⟨key, fun j => by rw [add_block]; exact key⟩
section
variable {w : World} {b : Nat} {ok0 ok1 : Nat → Prop} {a0 a1 b0 b1 : Int} {a2 b2 : ByteArray} {A B : Option Addr} {c d : Nat} {l m : List S29}
theorem one_M (s0 : Kd.S q29 29 w b ok0 (.slice A l.length c) l) : ∀ (j : Nat) (x : S29), ([(⟨a0, a1, a2, l⟩ : S29)] : List S29)[j]? = some x → q29.M w b (fun k => j = 0 ∧ ok0 k) x ((([.int .i64 a0, .int .i64 a1, .string a2, .slice A l.length c] : List Value).drop (j * q29.sz)).take q29.sz)
 | 0, _, rfl => q29.M_mono (fun k hk => ⟨rfl, hk⟩) (q29_mkM w b ok0 (⟨a0, a1, a2, l⟩ : S29) s0)
 | j + 1, x, h => by simp at h
theorem two_M (s0 : Kd.S q29 29 w b ok0 (.slice A l.length c) l) (s1 : Kd.S q29 29 w b ok1 (.slice B m.length d) m) : ∀ (j : Nat) (x : S29), ([(⟨a0, a1, a2, l⟩ : S29), (⟨b0, b1, b2, m⟩ : S29)] : List S29)[j]? = some x → q29.M w b (fun k => (j = 0 ∧ ok0 k) ∨ (j = 1 ∧ ok1 k)) x ((([.int .i64 a0, .int .i64 a1, .string a2, .slice A l.length c, .int .i64 b0, .int .i64 b1, .string b2, .slice B m.length d] : List Value).drop (j * q29.sz)).take q29.sz)
 | 0, _, rfl => q29.M_mono (fun k hk => .inl ⟨rfl, hk⟩) (q29_mkM w b ok0 (⟨a0, a1, a2, l⟩ : S29) s0)
 | 1, _, rfl => q29.M_mono (fun k hk => .inr ⟨rfl, hk⟩) (q29_mkM w b ok1 (⟨b0, b1, b2, m⟩ : S29) s1)
 | j + 2, x, h => by simp at h
theorem two_ap (hd : ∀ k, ok0 k → ok1 k → False) (i j k : Nat) (h : (i = 0 ∧ ok0 k) ∨ (i = 1 ∧ ok1 k)) (g : (j = 0 ∧ ok0 k) ∨ (j = 1 ∧ ok1 k)) : i = j := by
 rcases h with ⟨rfl, h⟩ | ⟨rfl, h⟩ <;> rcases g with ⟨rfl, g⟩ | ⟨rfl, g⟩
 ·rfl
 ·exact (hd k h g).elim
 ·exact (hd k g h).elim
 ·rfl
end

theorem d27_ {p : Prop} (h : p := by rw [hw]; exact (kv_ (Kd.V_mono (vf4_ (Kd.V_mono HO0_3.out (fun k_ hk => (⟨hk, hk.2⟩ : _ ∧ k_ ≠ gb240))) (fun _ hk => hk.2)) (fun _ hk => ⟨hk.1.1.1, ⟨hk.1.1.2.1, ⟨hk.1.1.2.2.1, ⟨hk.1.1.2.2.2.1, ⟨hk.1.1.2.2.2.2, hk.1.2⟩⟩⟩⟩⟩)))) : p := h
theorem d26_ {p : Prop} (h : p := by rw [hw]; exact (kv_ (Kd.V_mono (vf4_ (Kd.V_mono HO1_3.out (fun k_ hk => (⟨hk, hk.2⟩ : _ ∧ k_ ≠ gb240))) (fun _ hk => hk.2)) (fun _ hk => ⟨hk.1.1.1, ⟨hk.1.1.2.1, ⟨hk.1.1.2.2.1, ⟨hk.1.1.2.2.2.1, ⟨hk.1.1.2.2.2.2, hk.1.2⟩⟩⟩⟩⟩)))) : p := h
theorem d25_ {p : Prop} (h : p := by rw [hw]; exact (kv_ (Kd.V_mono (vf4_ (Kd.V_mono HO230.out (fun k_ hk => (⟨hk, hk.2⟩ : _ ∧ k_ ≠ gb240))) (fun _ hk => hk.2)) (fun _ hk => ⟨hk.1.1.1, ⟨hk.1.1.2.1, ⟨hk.1.1.2.2.1, ⟨hk.1.1.2.2.2.1, ⟨hk.1.1.2.2.2.2, hk.1.2⟩⟩⟩⟩⟩)))) : p := h
theorem d24_ {p : Prop} (h : p := by rw [hw]; exact (kv_ (Kd.V_mono (vf4_ (Kd.V_mono HO238.out (fun k_ hk => (⟨hk, hk.2⟩ : _ ∧ k_ ≠ gb240))) (fun _ hk => hk.2)) (fun _ hk => ⟨hk.1.1.1, ⟨hk.1.1.2.1, ⟨hk.1.1.2.2.1, ⟨hk.1.1.2.2.2.1, ⟨hk.1.1.2.2.2.2, hk.1.2⟩⟩⟩⟩⟩)))) : p := h
theorem d22_ {p : Prop} (h : p := by rw [hw]; exact (kv_ (Kd.V_mono (vf4_ (Kd.V_mono HO0_3.out (fun k_ hk => (⟨hk, hk.2⟩ : _ ∧ k_ ≠ gb232))) (fun _ hk => hk.2)) (fun _ hk => ⟨hk.1.1.1.1.1, ⟨hk.1.1.1.1.2, ⟨hk.1.1.1.2, ⟨hk.1.1.2, hk.1.2⟩⟩⟩⟩)))) : p := h
theorem d21_ {p : Prop} (h : p := by rw [hw]; exact (kv_ (Kd.V_mono (vf4_ (Kd.V_mono HO1_3.out (fun k_ hk => (⟨hk, hk.2⟩ : _ ∧ k_ ≠ gb232))) (fun _ hk => hk.2)) (fun _ hk => ⟨hk.1.1.1.1.1, ⟨hk.1.1.1.1.2, ⟨hk.1.1.1.2, ⟨hk.1.1.2, hk.1.2⟩⟩⟩⟩)))) : p := h
theorem d20_ {p : Prop} (h : p := by rw [hw]; exact (kv_ (Kd.V_mono (vf4_ (Kd.V_mono HO230.out (fun k_ hk => (⟨hk, hk.2⟩ : _ ∧ k_ ≠ gb232))) (fun _ hk => hk.2)) (fun _ hk => ⟨hk.1.1.1, ⟨hk.1.1.2.1, ⟨hk.1.1.2.2.1, ⟨hk.1.1.2.2.2, hk.1.2⟩⟩⟩⟩)))) : p := h
theorem d5_ {p : Prop} (h : p := by first | (have h_ := zwy_ HO_398003.out (fun _ hk => hk.2.2); first | exact h_.1 | exact h_.2 _) | (have h_ := awy_ HO_398003.out (fun _ hk => hk.2.2); first | exact h_.1 | exact h_.2 _)) : p := h
theorem d2_ {p : Prop} (h : p := by first | (have h_ := zwy_ HO0_3.out (fun _ hk => hk.2); first | exact h_.1 | exact h_.2 _) | (have h_ := awy_ HO0_3.out (fun _ hk => hk.2); first | exact h_.1 | exact h_.2 _)) : p := h

end Go.Proofs.Ytcpnhlhigpgonaa.PFnExactFold
