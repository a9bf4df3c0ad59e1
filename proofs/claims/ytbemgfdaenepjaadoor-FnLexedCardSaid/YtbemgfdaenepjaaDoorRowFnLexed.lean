/- Proved: the given statement of the law FnLexed: at every input the law returns true, and what came in reads as before. No further conditions. (Lines of the kit's printed row, with one name written out.) -/
import Derived.Test.YtbemgfdaenepjaaDoorRows
import Derived.Test.YtbemgfdaenepjaaDoorPFnLexedx11
import Derived.Test.YtbemgfdaenepjaaDoorPureFnLexed
import Derived.WalkKit
import Derived.ProofKit
import Derived.OpenShut
import Derived.ShutString
import Derived.ChangeOld
import Derived.Below
import Derived.SizedLaws
import Derived.Test.YtbemgfdaenepjaaDoorVFnLexed
import Derived.Lib.LaidIn
import Derived.Test.YtbemgfdaenepjaaDoorTie
import Derived.Test.YtbemgfdaenepjaaDoorCards
import Derived.SevenTiedAt
import Derived.Lib.LaidU8
import Derived.MakeChecks
import Derived.OpenShut
import Derived.LaidLaws
import Derived.Deep.DeepHandedRow
import Derived.Deep.DeepWitnessRowRef
import Derived.JoinedCond
import Derived.Stop.Joined
namespace Go.Proofs.YtbemgfdaenepjaaDoor.fnLexed
open Go.ChangeShapes Go.WideShapes Go.ChangeAt Go.RowKit
open Go.ChangeMaps (open_string shut_string)
set_option linter.unusedVariables false
theorem own : ownKnob Tryd.prog.godebug = none := by kernel_rfl
theorem laidOut : laidOutB Tryd.prog = true := by kernel_rfl
def IsRow (k : IntKind) (w : World) (a : Option Addr) (len cap : Nat) (zs : List Int) : Prop :=
  (a = none ∧ len = 0 ∧ cap = 0 ∧ zs = []) ∨
  ∃ x, a = some x ∧ len ≤ cap ∧ cap ≤ maxLen ∧ zs.length = cap ∧ (∀ i, i < zs.length → w.cell? (x.add i) = some (.int k (zs.getD i 0))) ∧ ∀ n ∈ zs, (Lit.int k n).wf = true
/-- the witness: the settled world, the listed variables holding what the row says. -/
noncomputable def laidWorld (os : Os) : World :=
  let w0 := World.holding Tryd.prog os ⟨#[], #[], []⟩
  let put (h : Array Obj) (g : Nat) (cs : Array Value) : Array Obj := h.modify g fun
    | .cells _ t frozen => .cells cs t frozen
    | o => o
  let h0 := w0.heap
  let h1 := put h0 4 (#[.int .u8 0, .int .u8 1, .int .u8 28, .int .u8 2, .int .u8 29, .int .u8 14, .int .u8 24, .int .u8 3, .int .u8 30, .int .u8 22, .int .u8 20, .int .u8 15, .int .u8 25, .int .u8 17, .int .u8 4, .int .u8 8, .int .u8 31, .int .u8 27, .int .u8 13, .int .u8 23, .int .u8 21, .int .u8 19, .int .u8 16, .int .u8 7, .int .u8 26, .int .u8 12, .int .u8 18, .int .u8 6, .int .u8 11, .int .u8 5, .int .u8 10, .int .u8 9])
  let h2 := put h1 5 (#[.int .u8 0, .int .u8 1, .int .u8 56, .int .u8 2, .int .u8 57, .int .u8 49, .int .u8 28, .int .u8 3, .int .u8 61, .int .u8 58, .int .u8 42, .int .u8 50, .int .u8 38, .int .u8 29, .int .u8 17, .int .u8 4, .int .u8 62, .int .u8 47, .int .u8 59, .int .u8 36, .int .u8 45, .int .u8 43, .int .u8 51, .int .u8 22, .int .u8 53, .int .u8 39, .int .u8 33, .int .u8 30, .int .u8 24, .int .u8 18, .int .u8 12, .int .u8 5, .int .u8 63, .int .u8 55, .int .u8 48, .int .u8 27, .int .u8 60, .int .u8 41, .int .u8 37, .int .u8 16, .int .u8 46, .int .u8 35, .int .u8 44, .int .u8 21, .int .u8 52, .int .u8 32, .int .u8 23, .int .u8 11, .int .u8 54, .int .u8 26, .int .u8 40, .int .u8 15, .int .u8 34, .int .u8 20, .int .u8 31, .int .u8 10, .int .u8 25, .int .u8 14, .int .u8 19, .int .u8 9, .int .u8 13, .int .u8 8, .int .u8 7, .int .u8 6])
  let h3 := put h2 1 (#[.int .u64 1, .int .u64 10, .int .u64 100, .int .u64 1000, .int .u64 10000, .int .u64 100000, .int .u64 1000000, .int .u64 10000000, .int .u64 100000000, .int .u64 1000000000, .int .u64 10000000000, .int .u64 100000000000, .int .u64 1000000000000, .int .u64 10000000000000, .int .u64 100000000000000, .int .u64 1000000000000000, .int .u64 10000000000000000, .int .u64 100000000000000000, .int .u64 1000000000000000000, .int .u64 10000000000000000000])
  let h4 := put h3 3 (#[.iface 138 (.pointer (some ⟨w0.heap.size + 0, 0, none⟩))])
  let h5 := put h4 2 (#[.iface 138 (.pointer (some ⟨w0.heap.size + 1, 0, none⟩))])
  { w0 with heap := h5 ++ #[.cells #[.string ⟨#[118, 97, 108, 117, 101, 32, 111, 117, 116, 32, 111, 102, 32, 114, 97, 110, 103, 101]⟩] 140 (0, 0), .cells #[.string ⟨#[105, 110, 118, 97, 108, 105, 100, 32, 115, 121, 110, 116, 97, 120]⟩] 140 (0, 0)] }
set_option maxRecDepth 100000 in
theorem laid_met (os : Os) (args : Array Value) : laidMet Tryd.prog Rows.fnLexedRow.laid (((laidWorld os).forCall (fun _ _ => 0) ⟨#[], args, []⟩).memory) :=
  (LaidIn.of_run (l := [("math/bits.deBruijn32tab", Rows.laid_math_bits_deBruijn32tab), ("math/bits.deBruijn64tab", Rows.laid_math_bits_deBruijn64tab), ("internal/strconv.uint64pow10", Rows.laid_internal_strconv_uint64pow10), ("strconv.ErrRange", Rows.laid_strconv_ErrRange), ("strconv.ErrSyntax", Rows.laid_strconv_ErrSyntax)]) [4, 5, 1, 3, 2, (World.holding Tryd.prog os ⟨#[], #[], []⟩).heap.size + 0, (World.holding Tryd.prog os ⟨#[], #[], []⟩).heap.size + 1] 8 (by kernel_rfl) (by kernel_rfl) (by kernel_rfl) (by kernel_rfl)).met
set_option maxRecDepth 100000 in
theorem witness_row (os : Os) {H : Type} (enc : TypeId × Value → H) :
    (OpenSpec.ofChange Rows.fnLexedSpec).preRow enc Tryd.prog Tryd.f5 Rows.fnLexedRow.domain false Rows.fnLexedRow.laid (((laidWorld os).forCall (fun _ _ => 0) ⟨#[], #[.slice none 0 0], []⟩).memory) #[.slice none 0 0] := by
  have hw : (DataW.whole enc Tryd.prog (((laidWorld os).forCall (fun _ _ => 0) ⟨#[], #[.slice none 0 0], []⟩).memory) Tryd.f5.params.toList (OpenSpec.ofChange Rows.fnLexedSpec).vars false (#[.slice none 0 0] : Array Value).toList 8).isSome = true := by kernel_rfl
  obtain ⟨x, hx⟩ := Option.isSome_iff_exists.1 hw
  exact OpenSpec.preRow_of_cond 8 hx rfl (fun k hk => by cases hk) (by kernel_rfl) (laid_met os _)
set_option maxRecDepth 100000 in
theorem at7 {w : World} (h : Go.Lib.VarReads Tryd.prog w "math/bits.deBruijn64tab" Rows.laid_math_bits_deBruijn64tab) : w.cell? ⟨5, 7, none⟩ = some (.int .u8 3) := by
  obtain ⟨g, t, cs, fuel, p, hg, ht, hv, hd⟩ := h
  have gN : Tryd.prog.globalNamed "math/bits.deBruijn64tab" = some 5 := by kernel_rfl
  have tN : (Tryd.prog.globals[5]?).map (·.type) = some 137 := by kernel_rfl
  obtain rfl := Option.some.inj (gN.symm.trans hg)
  obtain rfl := Option.some.inj (tN.symm.trans ht)
  obtain ⟨xs, m, rfl, hx, hlen, hn, hel⟩ := DataW.trod_array Tryd.underlying137 hd
  have c5 : Tryd.prog.cellsOf 5 = 1 := by kernel_rfl
  have h7 := hel 7 (by decide)
  rw [c5] at h7
  simp only [Prod.mk.injEq] at hx
  have hx7 : (xs.map (·.1))[7]? = some (.lit (.int .u8 3)) := by
    have e : DataW.agg (xs.map (·.1)) = (Rows.laid_math_bits_deBruijn64tab : DataW Unit) := hx.1.symm
    unfold Rows.laid_math_bits_deBruijn64tab at e
    rw [DataW.agg.inj e]; rfl
  rw [List.getElem?_map] at hx7
  obtain ⟨x, hx1, hx2⟩ := Option.map_eq_some_iff.1 hx7
  rw [hx1] at h7
  obtain ⟨k, e1, e2, _⟩ := DataW.trod_int Tryd.underlying5 h7
  have hk : k = 3 := by rw [e2] at hx2; simpa using hx2
  subst hk
  rw [World.var?_cell gN hv 7]
  have e3 : ((cs.toList.drop 7).take 1)[0]? = some (.int .u8 3) := by rw [e1]; rfl
  rw [List.getElem?_take, if_pos (by decide), List.getElem?_drop] at e3
  rw [← Array.getElem?_toList]; exact e3
theorem inHeap {w : World} {g j : Nat} {v : Value} (h : w.cell? ⟨g, j, none⟩ = some v) : g < w.heap.size := by
  rcases Nat.lt_or_ge g w.heap.size with c | c
  · exact c
  · exfalso
    simp [World.cell?, c] at h
theorem err_ErrSyntax {w : World} (h : Go.Lib.VarReads Tryd.prog w "strconv.ErrSyntax" Rows.laid_strconv_ErrSyntax) : PFnLexed.ErrAt 2 w := by
  obtain ⟨g, t, cs, fuel, p, hg, ht, hv, hd⟩ := h
  have gN : Tryd.prog.globalNamed "strconv.ErrSyntax" = some 2 := by kernel_rfl
  have tN : (Tryd.prog.globals[2]?).map (·.type) = some 97 := by kernel_rfl
  obtain rfl := Option.some.inj (gN.symm.trans hg)
  obtain rfl := Option.some.inj (tN.symm.trans ht)
  obtain ⟨fuel', u, v, hcs, _, _⟩ := iface_of_trod Tryd.underlying97 hd
  have h0 := World.var?_cell gN hv 0
  rw [← Array.getElem?_toList, hcs] at h0
  exact ⟨u, v, by simpa using h0⟩
theorem err_ErrRange {w : World} (h : Go.Lib.VarReads Tryd.prog w "strconv.ErrRange" Rows.laid_strconv_ErrRange) : PFnLexed.ErrAt 3 w := by
  obtain ⟨g, t, cs, fuel, p, hg, ht, hv, hd⟩ := h
  have gN : Tryd.prog.globalNamed "strconv.ErrRange" = some 3 := by kernel_rfl
  have tN : (Tryd.prog.globals[3]?).map (·.type) = some 97 := by kernel_rfl
  obtain rfl := Option.some.inj (gN.symm.trans hg)
  obtain rfl := Option.some.inj (tN.symm.trans ht)
  obtain ⟨fuel', u, v, hcs, _, _⟩ := iface_of_trod Tryd.underlying97 hd
  have h0 := World.var?_cell gN hv 0
  rw [← Array.getElem?_toList, hcs] at h0
  exact ⟨u, v, by simpa using h0⟩
theorem tab_ok {W : World} (hL : laidMetH Tryd.prog Rows.fnLexedRow.laid W) : PFnLexed.TabOk W := by
  have h : laidMet Tryd.prog Rows.fnLexedRow.laid W := by rw [← MakeChecks.laidMetH_plain _ _ _ (by kernel_rfl)]; exact hL
  have c := at7 (Go.Lib.laidMet.reads h (.tail _ (.head _)))
  exact ⟨⟨c, inHeap c⟩, err_ErrSyntax (Go.Lib.laidMet.reads h (.tail _ (.tail _ (.tail _ (.tail _ (.head _)))))), err_ErrRange (Go.Lib.laidMet.reads h (.tail _ (.tail _ (.tail _ (.head _)))))⟩
set_option maxRecDepth 100000 in
theorem lifted (os : Os) (started : os.Started) (H : Type) (enc : TypeId × Value → H) (F : Stop.Interp) :
    ReturnsInHanded {} Tryd.checked os 5 .any ((OpenSpec.ofChange Rows.fnLexedSpec).preRow enc Tryd.prog Tryd.f5 Rows.fnLexedRow.domain false Rows.fnLexedRow.laid) (((OpenSpec.ofChange Rows.fnLexedSpec).at F).post enc Tryd.prog Tryd.f5 false true false false) := by
  refine returnsInHanded_of_row (C := Tryd.checked) (s := (OpenSpec.ofChange Rows.fnLexedSpec)) own started (by kernel_rfl) Tryd.func5
    (witness_row_atRef (enc := enc) (C := Tryd.checked) false (laidWorld os) #[.slice none 0 0] rfl (by kernel_rfl) (by kernel_rfl) (by kernel_rfl) (witness_row os enc)) ?_
  intro W base args ds gs before hval0 hW hcnd _ hsz0 hL _ _
  have hsz : (DataW.weightsEach Tryd.prog (Tryd.f5.params.toList ++ Rows.fnLexedSpec.plain.varTypes Tryd.prog) (ds ++ gs)).all (· ≤ reachBytes) = true := hsz0
  have hval : ∀ (j : Nat) t v, Tryd.f5.params[j]? = some t → args[j]? = some v → Value.okWide Tryd.prog W .any base t v := hval0
  have hW' := hW
  obtain ⟨p, q, hA0, hV, rfl, hfz, hnd⟩ := hW
  have hA : DataW.TrodAll enc Tryd.prog W 0 (fun _ => true) true Tryd.f5.params.toList args.toList ds p := hA0
  rw [Tryd.params5] at hA hval hsz
  obtain ⟨v0, vs0, d0, ds0, p0, q0, hargs, rfl, rfl, h0, r0⟩ := trodAll_cons hA
  obtain ⟨rfl, rfl, rfl⟩ := trodAll_nil r0
  obtain rfl : args = #[v0] := by cases args; simp_all
  obtain ⟨rfl, rfl⟩ := trodVars_none hV
  obtain ⟨a0, len0, cap0, rfl⟩ := okWide_slice Tryd.underlying39 (hval 0 39 v0 rfl rfl)
  have k0 := h0
  have lt0 : ∀ x ∈ p0, x.block < W.heap.size := by obtain ⟨m, hm⟩ := k0; exact DataW.trod_lt m _ _ _ hm
  obtain ⟨z0, w0⟩ : ∃ zs, IsRow .u8 W a0 len0 cap0 zs := by
    obtain ⟨fuel, hf⟩ := h0
    rcases open_ints Tryd.underlying39 Tryd.underlying5 (by kernel_rfl) hf with ⟨hcs, _⟩ | ⟨x, l, c, zs, hcs, _, hl, hm, hz, _, hcell, hwz⟩
    · simp [Value.cells] at hcs
      obtain ⟨rfl, rfl, rfl⟩ := hcs
      exact ⟨[], .inl ⟨rfl, rfl, rfl, rfl⟩⟩
    · simp [Value.cells] at hcs
      obtain ⟨rfl, rfl, rfl⟩ := hcs
      exact ⟨zs, .inr ⟨_, rfl, hl, hm, by simpa using hz, hcell, hwz⟩⟩
  have y0 : len0 * 1 ≤ 140737488351232 := Go.Proofs.YtbemgfdaenepjaaDoorW.PrintWords.sized_ints hsz (j := 0) (t := 39) rfl rfl Tryd.underlying39 Tryd.underlying5 (by kernel_rfl) (by kernel_rfl) h0
  clear hA0 hval0 hsz0 hsz
  refine (PFnLexed.laws_FnLexed.walk Pure.FnLexed a0 len0 cap0 z0 W w0 y0 (tab_ok hL)).mono fun e W' ⟨he, bel⟩ => ?_
  subst he
  exact ⟨_, rfl, _, _, _, [], _, [], hW', trodAll_mk1 (shut_bool Tryd.underlying4 _), (trodAll_cons_mk (Below.trod laidOut (by kernel_rfl) (of_decide_eq_true (by kernel_rfl)) k0 bel lt0) trodAll_mk0), rfl, bel.frame _, fun h => by cases h⟩
theorem over : Rows.fnLexedRow.holds Tryd.pinned (OpenSpec.ofChange Rows.fnLexedSpec) :=
  OpenClaim.holds_of_cond 5 Tryd.f5 rfl rfl rfl rfl rfl rfl rfl ⟨rfl, rfl, rfl, rfl, rfl⟩ rfl rfl rfl rfl rfl (by kernel_rfl) Tryd.func5 (by kernel_rfl)
    (of_decide_eq_true (by kernel_rfl)) (by unfold Func.isWrapper; first | (rw [if_pos (by decide +kernel)]; kernel_rfl) | (rw [if_neg (by decide +kernel)]; exact ⟨rfl, rfl⟩))
    (fun os started H enc _ F0 => by rw [OpenClaim.pre_eq_preRow]; exact lifted os started H enc F0)
theorem proved : Rows.FnLexedSaid := over
#print axioms proved
/-- the tied card. -/
theorem card_holds : Rows.FnLexedCardSaid :=
  Claim7.holds_tied_plain_at .later [] [.data, .data, .data, .sentinel, .sentinel] true (true, "5da77384102d75dc010c0db963aedb25cec819d8b08e5c7d30cb490a6b689235") true
    proved (fun _ h => by cases h) (by kernel_rfl) (fun _ h => by cases h) fnLexed_row_tie rfl ⟨rfl, rfl⟩ (by kernel_rfl) rfl
    (fun f fn hf hfn => by
      obtain rfl : f = 5 := Option.some.inj ((show Tryd.prog.funcNamed "loop.example/g00329/laws.FnLexed" = some 5 by kernel_rfl).symm.trans hf) |>.symm
      obtain rfl : fn = Tryd.f5 := (Option.some.inj (Tryd.func5.symm.trans hfn)).symm
      exact ⟨by kernel_rfl, fun j t ht => by
        rw [Tryd.params5] at ht
        have hm : t ∈ [39] := by simpa using Array.mem_of_getElem? ht
        have hall : ([39].all fun u => !Tryd.prog.wantsStandIn u) = true := by kernel_rfl
        exact (show Tryd.prog.wantsStandIn t = false by simpa using List.all_eq_true.1 hall t hm)⟩)
    (by kernel_rfl)
#print axioms card_holds
end Go.Proofs.YtbemgfdaenepjaaDoor.fnLexed
namespace Go.Proofs.YtbemgfdaenepjaaDoor
/-- The row, under a short name, for the claim. -/
theorem fnLexed_holds : Rows.FnLexedSaid := fnLexed.proved
/-- The tied card, under a short name, for the claim. -/
theorem fnLexedCard_holds : Rows.FnLexedCardSaid := fnLexed.card_holds
end Go.Proofs.YtbemgfdaenepjaaDoor
