-- Laid by a program of this session (a changed copy of the kit's printer); Lean checks every line.
import Derived.Test.YtbemgfdaenepjaaDoorPFnLexedx0
import Derived.Test.YtbemgfdaenepjaaDoorPFnLexedx4
namespace Go.Proofs.YtbemgfdaenepjaaDoor.PFnLexed
open Go.RowKit Go.Proofs.YtbemgfdaenepjaaDoorW.PrintWords Go.Proofs.YtbemgfdaenepjaaDoorW.PrintLast Go.Proofs.YtbemgfdaenepjaaDoorW.PrintMore
attribute [local go_sem] max2_int min2_int max_two min_two max_three min_three max_four min_four   -- for this text's walks alone
set_option linter.unusedVariables false
set_option linter.unusedSimpArgs false

/-! ### impl_isKept: function 52 -/
def impl_isKept.f (k : Nat) (a0 : ByteArray) : Option (Bool) := (impl_opWords.f).bind fun t184 => ((impl_placeIn.f k t184 a0).bind fun t187 => (if t187 ≥ 0 then (some true) else ((impl_regWords.f).bind fun t188 => ((impl_placeIn.f k t188 a0).bind fun t191 => (some (decide (t191 ≥ 0)))))))
theorem impl_isKept.mono : ∀ a0 k, LeO (impl_isKept.f k a0) (impl_isKept.f (k + 1) a0) := by
  intro a0 k
  unfold impl_isKept.f
  repeat' first
      | (with_reducible exact impl_placeIn.mono _ _ _)
      | (with_reducible exact LeO.refl _)
      | (with_reducible exact LeO.none _)
      | (with_reducible refine LeO.ite ?_ ?_)
      | (with_reducible refine LeO.bind ?_ (fun _ => ?_))
      | exact impl_placeIn.mono _ _ _
      | exact LeO.none _
      | refine LeO.ite ?_ ?_
      | refine LeO.bind ?_ (fun _ => ?_)
set_option maxHeartbeats 8000000 in
set_option maxRecDepth 100000 in
theorem impl_isKept.calls (k : Nat) (a0 : ByteArray) (r : Bool) (w : World) (h : impl_isKept.f k a0 = some r) :
    Calls Tryd.prog 52 #[.string a0] w fun e w' => e = .returned (.bool r) ∧ Below w.heap.size w w' := by
  have HB := Aside0.mk (Below.refl w.heap.size w)
  have H : ((impl_opWords.f).bind fun t184 => ((impl_placeIn.f k t184 a0).bind fun t187 => (if t187 ≥ 0 then (some true) else ((impl_regWords.f).bind fun t188 => ((impl_placeIn.f k t188 a0).bind fun t191 => (some (decide (t191 ≥ 0)))))))) = some r := h
  clear h
  replace H := Option.bind_eq_some_iff.mp H
  obtain ⟨t184, A20, H⟩ := H
  try dsimp only at H
  have A2 := Aside0.mk A20
  clear A20
  replace H := Option.bind_eq_some_iff.mp H
  obtain ⟨t187, A30, H⟩ := H
  try dsimp only at H
  have A3 := Aside0.mk A30
  clear A30
  by_cases c4 : t187 ≥ 0
  · rw [if_pos c4] at H
    have c4b0 : decide (0 ≤ t187) = true := decide_eq_true c4
    clear c4
    obtain rfl := Option.some.inj H
    go_enter Tryd.func52, Tryd.ntmps52
    go_wp2_with (first | ((with_reducible refine gate_callee (f := 86) rfl ?_); refine goesL_ (some 3) rfl rfl Tryd.func86 (by kernel_rfl) rfl #[] rfl (by (try simp only [List.map_toArray, List.map_cons, List.map_nil]); first | done | rfl | (simp only [List.length_drop, List.length_take]; rfl)) ?_; (with_reducible refine (impl_opWords.calls  t184 _ A2.out).mono ?_); rintro e w5 ⟨v185, rfl, ho0, hb⟩; refine ⟨_, rfl, ?_⟩; have n0_ := Aside0.mk (Kd.R_lower ho0 (below_size (by repeat (first | (with_reducible first | exact HB.out | apply below_alloc | apply pw_below_drewN | apply below_drew1) | exact HB.out)))); have n1_ := Aside0.mk (below_step (by repeat (first | (with_reducible first | exact HB.out | apply below_alloc | apply pw_below_drewN | apply below_drew1) | exact HB.out)) hb); clear HB; have HO186 := n0_; have HB := n1_; clear n0_ n1_; (try clear hb); (try clear hb2); (try clear hk); (try clear hi); (try clear ho0); obtain ⟨Ao6, co6, eo6⟩ := Kd.R_slice HO186.out; subst eo6) | ((with_reducible refine gate_callee (f := 85) rfl ?_); refine goesL_ (some 5) rfl rfl Tryd.func85 (by kernel_rfl) rfl #[.slice Ao6 t184.length co6, .string a0] rfl (by (try simp only [List.map_toArray, List.map_cons, List.map_nil]); first | done | rfl | (simp only [List.length_drop, List.length_take]; rfl)) ?_; (with_reducible refine (impl_placeIn.calls k _ _ t184 a0 t187 _ ?side1 ?side2 A3.out).mono ?_); (case side1 => repeat (first | exact (Kd.R_reads' HO186.out).2.2 | (with_reducible refine Kd.C_alloc ?_ _) | (with_reducible refine Kd.C_drewN ?_ _) | (with_reducible refine Kd.C_drew ?_))); (case side2 => exact (Kd.R_reads' HO186.out).2.1); rintro e w' ⟨rfl, ⟨nd, rfl⟩⟩; refine ⟨_, rfl, ?_⟩))
    go_ret
    exact ⟨by first | rfl | (simp [errW_none, errW_some] <;> rfl) | (simp [*, errW_none, errW_some] <;> rfl), by repeat (first | (with_reducible first | exact HB.out | apply below_alloc | apply pw_below_drewN | apply below_drew1) | exact HB.out)⟩
  · rw [if_neg c4] at H
    have c4b0 : decide (0 ≤ t187) = false := decide_eq_false c4
    clear c4
    replace H := Option.bind_eq_some_iff.mp H
    obtain ⟨t188, A70, H⟩ := H
    try dsimp only at H
    have A7 := Aside0.mk A70
    clear A70
    replace H := Option.bind_eq_some_iff.mp H
    obtain ⟨t191, A80, H⟩ := H
    try dsimp only at H
    have A8 := Aside0.mk A80
    clear A80
    obtain rfl := Option.some.inj H
    go_enter Tryd.func52, Tryd.ntmps52
    go_wp2_with (first | ((with_reducible refine gate_callee (f := 86) rfl ?_); refine goesL_ (some 3) rfl rfl Tryd.func86 (by kernel_rfl) rfl #[] rfl (by (try simp only [List.map_toArray, List.map_cons, List.map_nil]); first | done | rfl | (simp only [List.length_drop, List.length_take]; rfl)) ?_; (with_reducible refine (impl_opWords.calls  t184 _ A2.out).mono ?_); rintro e w9 ⟨v185, rfl, ho0, hb⟩; refine ⟨_, rfl, ?_⟩; have n0_ := Aside0.mk (Kd.R_lower ho0 (below_size (by repeat (first | (with_reducible first | exact HB.out | apply below_alloc | apply pw_below_drewN | apply below_drew1) | exact HB.out)))); have n1_ := Aside0.mk (below_step (by repeat (first | (with_reducible first | exact HB.out | apply below_alloc | apply pw_below_drewN | apply below_drew1) | exact HB.out)) hb); clear HB; have HO186 := n0_; have HB := n1_; clear n0_ n1_; (try clear hb); (try clear hb2); (try clear hk); (try clear hi); (try clear ho0); obtain ⟨Ao10, co10, eo10⟩ := Kd.R_slice HO186.out; subst eo10) | ((with_reducible refine gate_callee (f := 85) rfl ?_); refine goesL_ (some 5) rfl rfl Tryd.func85 (by kernel_rfl) rfl #[.slice Ao10 t184.length co10, .string a0] rfl (by (try simp only [List.map_toArray, List.map_cons, List.map_nil]); first | done | rfl | (simp only [List.length_drop, List.length_take]; rfl)) ?_; (with_reducible refine (impl_placeIn.calls k _ _ t184 a0 t187 _ ?side1 ?side2 A3.out).mono ?_); (case side1 => repeat (first | exact (Kd.R_reads' HO186.out).2.2 | (with_reducible refine Kd.C_alloc ?_ _) | (with_reducible refine Kd.C_drewN ?_ _) | (with_reducible refine Kd.C_drew ?_))); (case side2 => exact (Kd.R_reads' HO186.out).2.1); rintro e w' ⟨rfl, ⟨nd, rfl⟩⟩; refine ⟨_, rfl, ?_⟩) | (go_at_call 87; (with_reducible refine (impl_regWords.calls  t188 _ A7.out).mono ?_); rintro e w11 ⟨v189, rfl, ho0, hb⟩; have n0_ := Aside0.mk (Kd.R_elder' (by (with_reducible repeat (first | apply Kd.R_alloc | apply Kd.R_drewN | apply Kd.R_drew)); exact HO186.out) (Kd.R_base ho0) hb); have n1_ := Aside0.mk (Kd.R_lower (Kd.R_new' ho0 (Kd.R_lt (by (with_reducible repeat (first | apply Kd.R_alloc | apply Kd.R_drewN | apply Kd.R_drew)); exact HO186.out))) (below_size (by repeat (first | (with_reducible first | exact HB.out | apply below_alloc | apply pw_below_drewN | apply below_drew1) | exact HB.out)))); have n2_ := Aside0.mk (below_step (by repeat (first | (with_reducible first | exact HB.out | apply below_alloc | apply pw_below_drewN | apply below_drew1) | exact HB.out)) hb); clear HO186; clear HB; have HO186 := n0_; have HO190 := n1_; have HB := n2_; clear n0_ n1_ n2_; (try clear hb); (try clear hb2); (try clear hk); (try clear hi); (try clear ho0); obtain ⟨Ao12, co12, eo12⟩ := Kd.R_slice HO190.out; subst eo12) | (go_at_call 85; (with_reducible refine (impl_placeIn.calls k _ _ t188 a0 t191 _ ?side1 ?side2 A8.out).mono ?_); (case side1 => repeat (first | exact (Kd.R_reads' HO190.out).2.2 | (with_reducible refine Kd.C_alloc ?_ _) | (with_reducible refine Kd.C_drewN ?_ _) | (with_reducible refine Kd.C_drew ?_))); (case side2 => exact (Kd.R_reads' HO190.out).2.1); rintro e w' ⟨rfl, ⟨nd, rfl⟩⟩))
    go_ret
    exact ⟨by first | rfl | (simp [errW_none, errW_some] <;> rfl) | (simp [*, errW_none, errW_some] <;> rfl), by repeat (first | (with_reducible first | exact HB.out | apply below_alloc | apply pw_below_drewN | apply below_drew1) | exact HB.out)⟩

-- NOT PRINTED: function 98 (bytealg_IndexByteString)

-- NOT PRINTED: function 92 (stringslite_IndexByte)


/-! ### strings_IndexByte: function 74 -/
def strings_IndexByte.f (a0 : ByteArray) (a1 : Int) : Option (Int) := some (Lib.indexByte a0.data.toList a1.toNat.toUInt8)
set_option maxHeartbeats 1000000 in
set_option maxRecDepth 100000 in
theorem strings_IndexByte.inner (s : ByteArray) (c : Int) (w : World) :
    Calls Tryd.prog 92 #[.string s, .int .u8 c] w fun e w' => e = .returned (.int .i64 (Lib.indexByte s.data.toList c.toNat.toUInt8)) ∧ w' = w := by
  go_enter Tryd.func92, Tryd.ntmps92
  go_wp2
  rw [run_callFunc_extern Tryd.func98 (by kernel_rfl) (by kernel_rfl) (by kernel_rfl) (e := Extern.BytealgIndexByte.indexByte) (by kernel_rfl), Lib.run_indexByteString]
  simp only [Result.andThen]
  rw [Oper.upon_value]
  go_wp2
  go_ret
  exact ⟨rfl, rfl⟩
set_option maxHeartbeats 1000000 in
theorem strings_IndexByte.calls (a0 : ByteArray) (a1 : Int) (r : Int) (w : World) (h : strings_IndexByte.f a0 a1 = some r) :
    Calls Tryd.prog 74 #[.string a0, .int .u8 a1] w fun e w' => e = .returned (.int .i64 r) ∧ Drawn0 w w' := by
  obtain rfl := Option.some.inj h
  go_enter Tryd.func74, Tryd.ntmps74
  go_wp2_with (go_at_call 92; refine (strings_IndexByte.inner _ _ _).mono ?_; rintro e w' ⟨rfl, rfl⟩)
  go_ret
  exact ⟨rfl, Drawn0.refl _⟩

-- NOT PRINTED: function 100 (strconv_small)

-- NOT PRINTED: function 111 (strconv_log10Pow2)

-- NOT PRINTED: function 112 (bits_Len64)

-- NOT PRINTED: function 113 (strconv_bool2_int)

-- NOT PRINTED: function 101 (strconv_numDigits)

-- NOT PRINTED: function 102 (strconv_formatBase10)

-- NOT PRINTED: function 114 (strconv_isPowerOfTwo)

-- NOT PRINTED: function 122 (bits_TrailingZeros32)

-- NOT PRINTED: function 123 (bits_TrailingZeros64)

-- NOT PRINTED: function 115 (bits_TrailingZeros)

-- NOT PRINTED: function 103 (strconv_formatBits)

-- NOT PRINTED: function 94 (strconv_FormatInt_94)


/-! ### strconv_FormatInt at base 8: function 76 -/
section
open Go.Sort Go.Lib
/-- the eight's trailing noughts: one cell of the library's table. -/
def Tab8 (w : World) : Prop := w.cell? ⟨5, 7, none⟩ = some (.int .u8 3)
theorem tab_below {B : Nat} {w w' : World} (h : Tab8 w) (hb : Below B w w') (h5 : 5 < B) : Tab8 w' := by
  have e := hb.block 5 h5
  unfold Tab8 at h ⊢
  rw [← h]
  simp only [World.cell?, e]
set_option maxHeartbeats 1000000 in
set_option maxRecDepth 100000 in
theorem tz64 (w : World) (hT : Tab8 w) : Calls Tryd.prog 123 #[.int .u64 8] w fun e w' => e = .returned (.int .i64 3) ∧ w' = w := by
  have key : IntKind.u64.wrap (bits BinOp.and IntKind.u64 (8 : Int) (IntKind.u64.wrap (-(8 : Int))) * 285870213051353865) / 288230376151711744 = 7 := by decide +kernel
  have hcell : w.cell? ⟨5, 7, none⟩ = some (.int .u8 3) := hT
  go_enter Tryd.func123, Tryd.ntmps123
  go_wp2_with (simp only [key])
  go_ret
  exact ⟨rfl, rfl⟩
set_option maxHeartbeats 1000000 in
set_option maxRecDepth 100000 in
theorem tz (w : World) (hT : Tab8 w) : Calls Tryd.prog 115 #[.int .u64 8] w fun e w' => e = .returned (.int .i64 3) ∧ w' = w := by
  go_enter Tryd.func115, Tryd.ntmps115
  go_wp2_with (go_at_call 123; refine (tz64 _ hT).mono ?_; rintro e w' ⟨rfl, rfl⟩)
  go_ret
  exact ⟨rfl, rfl⟩
set_option maxHeartbeats 1000000 in
set_option maxRecDepth 100000 in
theorem pow2 (w : World) : Calls Tryd.prog 114 #[.int .i64 8] w fun e w' => e = .returned (.bool true) ∧ w' = w := by
  have key : bits BinOp.and IntKind.i64 (8 : Int) 7 = 0 := by decide +kernel
  go_enter Tryd.func114, Tryd.ntmps114
  go_wp2_with (simp only [key])
  go_ret
  exact ⟨by simp [key], rfl⟩
def dg8 (v : Nat) : UInt8 := UInt8.ofNat (48 + v % 8)
def octF : Nat → Nat → List UInt8
  | 0, _ => []
  | k + 1, v => if v < 8 then [dg8 v] else octF k (v / 8) ++ [dg8 (v % 8)]
def enc8 : UInt8 → Value := fun b => Value.int .u8 (b.toNat : Int)
def digits36 : ByteArray := ⟨#[48, 49, 50, 51, 52, 53, 54, 55, 56, 57, 97, 98, 99, 100, 101, 102, 103, 104, 105, 106, 107, 108, 109, 110, 111, 112, 113, 114, 115, 116, 117, 118, 119, 120, 121, 122]⟩
theorem digit_all : ∀ v : Fin 8, ∃ h : v.1 < digits36.size, digits36[v.1]'h = dg8 v.1 := by decide +kernel
theorem idx_digits (k : IntKind) (z : Int) (v : Nat) (hz : z = (v : Int)) (hv : v < 8) (_ : 0 ≤ v) (w : World) : (Instr.index 9 (.string digits36) (.int k z)).run Tryd.prog w = .ok (.int .u8 ((dg8 v).toNat : Int)) w := by
  subst hz
  obtain ⟨h, e⟩ := digit_all ⟨v, hv⟩
  rw [run_index_string w 9 digits36 k _ Tryd.underlying9, dif_pos ⟨by omega, by simpa using h⟩]
  have e2 : ((v : Int)).toNat = v := by omega
  simp only [e2]
  simp only at e
  rw [e]
theorem zero_all (j : Nat) (hj : j < 65) : Tryd.zeroCells120[j]? = some (.int .u8 0) := by
  have e : Tryd.zeroCells120 = Array.replicate 65 (Value.int .u8 0) := by kernel_rfl
  rw [e]; simp [hj]
theorem zero65 (w : World) : Holds (fun (b : UInt8) => Value.int .u8 (b.toNat : Int)) (w.alloc (.cells Tryd.zeroCells120 120)) w.heap.size 0 (Array.replicate 65 (0 : UInt8)) := fun j hj => by
  have hj' : j < 65 := by simpa using hj
  refine ⟨?_, World.frozen?_alloc_new _ _ _ _⟩
  rw [World.cell?_alloc_new, Nat.zero_add, zero_all j hj']
  have : (Array.replicate 65 (0 : UInt8))[j]! = 0 := by simp [hj']
  rw [this]; rfl
theorem slice_tail (b : Nat) (j n : Nat) (hj : j ≤ 5) (hn : n = 6 - j) (W : World) : (Instr.sliceAt 120 (.pointer (some ⟨b, 0, none⟩)) (some (.int .i64 (60 + (j : Int) - 1))) none none).run Tryd.prog W = .ok (.slice (some ⟨b, 59 + j, none⟩) n n) W := by
  have hal : Tryd.prog.arrayLen 120 = 65 := by simp [Program.arrayLen, Tryd.underlying120]
  rw [run_sliceAt_array_l W 120 ⟨b, 0, none⟩ (by simp [Program.arrayLen, Program.elem, Tryd.underlying120]) .i64 (60 + (j : Int) - 1) (by omega) (by rw [hal]; omega)]
  go_simp
  refine ⟨?_, by omega⟩
  rw [if_neg (by omega), show (60 + (j : Int)).toNat - 1 = 59 + j by omega]
theorem conv_tail (b j : Nat) (l : List UInt8) (n : Nat) (hn : l.length = n) (W : World) (h : ∀ i (hi : i < l.length), W.cell? ⟨b, 59 + j + i, none⟩ = some (.int .u8 (l[i].toNat : Int))) : (convert 39 9 (.slice (some ⟨b, 59 + j, none⟩) n n)).run Tryd.prog W = .ok (.string ⟨l.toArray⟩) W := by
  subst hn
  refine run_convert_bytes_back W 39 9 5 ⟨b, 59 + j, none⟩ l.length l Tryd.underlying39 Tryd.underlying5 Tryd.underlying9 (fun i hi => ?_)
  have e : (⟨b, 59 + j, none⟩ : Addr).add i = ⟨b, 59 + j + i, none⟩ := by
    unfold Addr.add
    by_cases h1 : i = 0 <;> simp [h1]
  rw [e]; exact h i hi
/-- the loop's state: j more digits may come; v is left; d holds those that are written. -/
structure OInv (u j v : Nat) (d : Array UInt8) : Prop where
  size : d.size = 65
  le : j ≤ 5
  small : v < 65536
  room : v * 8 ^ (5 - j) ≤ 65535
  text : octF 6 u = octF (j + 1) v ++ d.toList.drop (60 + j)
theorem holds_set (W : World) (b j : Nat) (d : Array UInt8) (x : UInt8) (h : Holds (fun (b : UInt8) => Value.int .u8 (b.toNat : Int)) W b 0 d) (hj : j < d.size) : Holds (fun (b : UInt8) => Value.int .u8 (b.toNat : Int)) (W.setCell ⟨b, j, none⟩ (.int .u8 (x.toNat : Int))) b 0 (d.setIfInBounds j x) := fun t ht => by
  have ht' : t < d.size := by simpa using ht
  have hc := h t ht'
  refine ⟨?_, by rw [World.frozen?_setCell]; exact hc.2⟩
  rw [Nat.zero_add] at hc ⊢
  by_cases e : t = j
  · subst e
    rw [World.cell?_setCell_same _ _ _ hc.1, getElem!_set_same d t x ht']
  · rw [World.cell?_setCell_other _ _ _ _ (by simp; try omega), hc.1]
    rw [getElem!_pos d t ht', getElem!_pos _ t ht, Array.getElem_setIfInBounds]
    rw [if_neg (fun h => e h.symm)]
theorem OInv.next {u j v : Nat} {d : Array UInt8} (h : OInv u (j + 1) v d) (h8 : 8 ≤ v) : OInv u j (v / 8) (d.setIfInBounds (60 + j) (dg8 (v % 8))) := by
  obtain ⟨h1, h2, h3, h4, h5⟩ := h
  refine ⟨by simpa using h1, by omega, by omega, ?_, ?_⟩
  · have e : 5 - j = (5 - (j + 1)) + 1 := by omega
    rw [e, Nat.pow_succ, Nat.mul_comm (8 ^ (5 - (j + 1))) 8, ← Nat.mul_assoc]
    exact Nat.le_trans (Nat.mul_le_mul_right _ (by omega)) h4
  · rw [h5, octF, if_neg (by omega), List.append_assoc]
    congr 1
    have hlt : 60 + j < (d.setIfInBounds (60 + j) (dg8 (v % 8))).toList.length := by simp; omega
    rw [List.drop_eq_getElem_cons hlt]
    simp only [List.singleton_append, List.cons.injEq]
    constructor
    · simp
    · simp only [Array.toList_setIfInBounds]
      rw [List.drop_set_of_lt (by omega)]
      rfl
theorem OInv.pos {u j v : Nat} {d : Array UInt8} (h : OInv u j v d) (h8 : 8 ≤ v) : 1 ≤ j := by
  rcases Nat.eq_zero_or_pos j with e | e
  · subst e
    have := h.room
    simp at this
    omega
  · exact e
theorem and7u (v : Nat) (h : v < 65536) : bits BinOp.and IntKind.u64 (v : Int) 7 = ((v % 8 : Nat) : Int) := by
  have e := bits_and_u64_nat v 7 (by omega) (by omega)
  rw [show ((7 : Nat) : Int) = 7 from rfl] at e
  rw [e, show (7 : Nat) = 2 ^ 3 - 1 from rfl, Nat.and_two_pow_sub_one_eq_mod]
set_option maxHeartbeats 4000000 in
set_option maxRecDepth 100000 in
theorem fmt (u : Nat) (hu : u ≤ 65535) (w : World) (hT : Tab8 w) (h5 : 5 < w.heap.size) :
    Calls Tryd.prog 103 #[.slice none 0 0, .int .u64 u, .int .i64 8, .bool false, .bool false] w fun e w' => e = .returned (.tuple #[.slice none 0 0, .string ⟨(octF 6 u).toArray⟩]) ∧ Below w.heap.size w w' := by
  go_enter Tryd.func103, Tryd.ntmps103
  go_name_bytes PM hPM
  clear hPM
  go_name_bytes SM hSM
  have eSM : SM = digits36 := by rw [← hSM]; rfl
  subst eSM
  clear hSM
  go_wp2_with (first
    | (go_at_call 114; refine (pow2 _).mono ?_; rintro e w' ⟨rfl, rfl⟩)
    | (go_at_call 115; refine (tz _ (tab_below hT (below_alloc (Below.refl w.heap.size w) _) h5)).mono ?_; rintro e w' ⟨rfl, rfl⟩))
  have hH := hid zero65
  go_loopw [1, 13] (fun vu vi wr => ∃ (v j : Nat) (d : Array UInt8), vu = .int .u64 v ∧ vi = .int .i64 ((60 + j : Nat) : Int) ∧ Hid (Holds (fun (b : UInt8) => Value.int .u8 (b.toNat : Int)) wr w.heap.size 0 d) ∧ Hid (Below w.heap.size w wr) ∧ Hid (OInv u j v d)) (fun vu _ _ => (RowKit.intOf vu).toNat)
  case atStart => exact ⟨u, 5, Array.replicate 65 0, rfl, rfl, hid (hH.out w), hid (below_alloc (Below.refl w.heap.size w) _), hid ⟨by simp, by omega, by omega, by simpa using hu, by simp⟩⟩
  case round =>
    obtain ⟨v, j, d, rfl, rfl, HW, HB, HI⟩ := hrel
    rename World => W0
    have hs0 := HI.out.size
    have hv6 := HI.out.small
    obtain ⟨G0, hGd⟩ : ∃ G : Nat → Int, ∀ t, G t = (d[t]!.toNat : Int) := ⟨_, fun _ => rfl⟩
    have hc0 : ∀ t, t < 65 → W0.cell? ⟨w.heap.size, t, none⟩ = some (.int .u8 (G0 t)) := fun t ht => by rw [hGd]; have := (HW.out t (by omega)).1; rwa [Nat.zero_add] at this
    have hf0 : ∀ t, t < 65 → W0.frozen? ⟨w.heap.size, t, none⟩ = false := fun t ht => by have := (HW.out t (by omega)).2; rwa [Nat.zero_add] at this
    have hj5 := HI.out.le
    by_cases h8 : v < 8
    · have hc1 := hc0 (59 + j) (by omega)
      have hf1 := hf0 (59 + j) (by omega)
      have hX : ∀ w, (Instr.index 9 (.string digits36) (.int .u64 (v : Int))).run Tryd.prog w = .ok (.int .u8 ((dg8 v).toNat : Int)) w := idx_digits .u64 _ v rfl (by omega) (by omega)
      have hj6 : (dg8 v :: d.toList.drop (60 + j)).length = 6 - j := by simp [hs0]; omega
      obtain ⟨N, hN⟩ : ∃ N, N = 6 - j := ⟨_, rfl⟩
      have hsl := slice_tail w.heap.size j N (by omega) hN
      have hcv : (convert 39 9 (.slice (some ⟨w.heap.size, 59 + j, none⟩) N N)).run Tryd.prog (W0.setCell ⟨w.heap.size, 59 + j, none⟩ (.int .u8 ((dg8 v).toNat : Int))) = .ok (.string ⟨(dg8 v :: d.toList.drop (60 + j)).toArray⟩) (W0.setCell ⟨w.heap.size, 59 + j, none⟩ (.int .u8 ((dg8 v).toNat : Int))) := by
        refine conv_tail w.heap.size j (dg8 v :: d.toList.drop (60 + j)) N (by omega) _ (fun i hi => ?_)
        cases i with
        | zero => rw [Nat.add_zero, World.cell?_setCell_same _ _ _ hc1]; rfl
        | succ i =>
          have hi2 : i < (d.toList.drop (60 + j)).length := by simpa using hi
          have hi3 : 60 + j + i < d.size := by simp at hi2; omega
          rw [World.cell?_setCell_other _ _ _ _ (by simp), List.getElem_cons_succ, show 59 + j + (i + 1) = 60 + j + i by omega, hc0 _ (by omega), hGd]
          rw [getElem!_pos d (60 + j + i) hi3]
          simp
      clear hN hj6 hc0 hf0
      go_wp2
      go_ret2
      refine ⟨?_, below_set HB.out (Nat.le_refl _)⟩
      have ht := HI.out.text
      have ho : octF (j + 1) v = [dg8 v] := by rw [octF, if_pos h8]
      rw [ho] at ht
      rw [ht]; rfl
    · obtain ⟨j, rfl⟩ : ∃ i, j = i + 1 := ⟨j - 1, by have := HI.out.pos (by omega); omega⟩
      have hc1 := hc0 (60 + j) (by omega)
      have hf1 := hf0 (60 + j) (by omega)
      have key := and7u v hv6
      have hX : ∀ w, (Instr.index 9 (.string digits36) (.int .u64 ((v % 8 : Nat) : Int))).run Tryd.prog w = .ok (.int .u8 ((dg8 (v % 8)).toNat : Int)) w := idx_digits .u64 _ (v % 8) rfl (by omega) (by omega)
      obtain ⟨m, hm⟩ : ∃ m : Int, m = ((v % 8 : Nat) : Int) := ⟨_, rfl⟩
      rw [← hm] at key hX
      clear hc0 hf0 hm
      go_wp2_with (simp only [key])
      go_roundw
      case rel => exact ⟨v / 8, j, d.setIfInBounds (60 + j) (dg8 (v % 8)), by first | go_num | (congr 1; omega), by first | go_num | (congr 1; omega), hid (holds_set _ _ _ _ _ HW.out (by omega)), hid (below_set HB.out (Nat.le_refl _)), hid (HI.out.next (by omega))⟩
      case measure => simp [RowKit.intOf]; omega
set_option maxHeartbeats 2000000 in
set_option maxRecDepth 100000 in
theorem fmtInt (u : Nat) (hu : u ≤ 65535) (w : World) (hT : Tab8 w) (h5 : 5 < w.heap.size) :
    Calls Tryd.prog 94 #[.int .i64 u, .int .i64 8] w fun e w' => e = .returned (.string ⟨(octF 6 u).toArray⟩) ∧ Below w.heap.size w w' := by
  have hw : IntKind.u64.wrap (u : Int) = (u : Int) := by rw [IntKind.wrap_u64]; omega
  go_enter Tryd.func94, Tryd.ntmps94
  go_wp2_with (first
    | simp only [hw]
    | (go_at_call 103; refine (fmt u hu _ hT h5).mono ?_; rintro e w' ⟨rfl, hb⟩))
  go_ret
  exact ⟨rfl, hb⟩
/-- what a caller must know of the world: the table lies there. -/
def ErrAt (g : Nat) (w : World) : Prop := ∃ te pe, w.cell? ⟨g, 0, none⟩ = some (.iface te pe)
theorem ErrAt.below {g : Nat} {w w' : World} (h : ErrAt g w) (hb : Below w.heap.size w w') : ErrAt g w' := by
  obtain ⟨te, pe, e⟩ := h
  exact ⟨te, pe, (hb.cell (World.block_lt_of_cell? w _ e)).trans e⟩
def TabOk (w : World) : Prop := (Tab8 w ∧ 5 < w.heap.size) ∧ ErrAt 2 w ∧ ErrAt 3 w
theorem TabOk.below {w w' : World} (h : TabOk w) (hb : Below w.heap.size w w') : TabOk w' := ⟨⟨tab_below h.1.1 hb h.1.2, Nat.lt_of_lt_of_le h.1.2 hb.size⟩, h.2.1.below hb, h.2.2.below hb⟩
theorem TabOk.drewN {w : World} (h : TabOk w) (n : Nat) : TabOk (w.drewN n) := h.below (pw_below_drewN (Below.refl _ _) n)
theorem TabOk.alloc {w : World} (h : TabOk w) (o : Obj) : TabOk (w.alloc o) := h.below (below_alloc (Below.refl _ _) o)
def strconv_FormatInt_76.f (a0 : Int) (a1 : Int) : Option ByteArray := if a1 = 8 ∧ 0 ≤ a0 ∧ a0 ≤ 65535 then some ⟨(octF 6 a0.toNat).toArray⟩ else none
set_option maxHeartbeats 2000000 in
set_option maxRecDepth 100000 in
theorem strconv_FormatInt_76.calls (a0 : Int) (a1 : Int) (r : ByteArray) (w : World) (h : strconv_FormatInt_76.f a0 a1 = some r) (hT : TabOk w) :
    Calls Tryd.prog 76 #[.int .i64 a0, .int .i64 a1] w fun e w' => e = .returned (.string r) ∧ Below w.heap.size w w' := by
  unfold strconv_FormatInt_76.f at h
  by_cases c : a1 = 8 ∧ 0 ≤ a0 ∧ a0 ≤ 65535
  · rw [if_pos c] at h
    obtain ⟨rfl, c0, c1⟩ := c
    obtain ⟨u, rfl⟩ := Int.eq_ofNat_of_zero_le c0
    rw [Int.toNat_natCast] at h
    obtain rfl := Option.some.inj h
    go_enter Tryd.func76, Tryd.ntmps76
    go_wp2_with (go_at_call 94; refine (fmtInt u (by omega) _ hT.1.1 hT.1.2).mono ?_; rintro e w' ⟨rfl, hb⟩)
    go_ret
    exact ⟨rfl, hb⟩
  · rw [if_neg c] at h; exact absurd h (by simp)
end

/-! ### impl_Wrap: function 77 -/
def impl_Wrap.f (a0 : Int) : Option (Int) := some (Go.bits .and .i64 a0 65535)
set_option maxHeartbeats 8000000 in
set_option maxRecDepth 100000 in
theorem impl_Wrap.calls (a0 : Int) (r : Int) (w : World) (h : impl_Wrap.f a0 = some r) :
    Calls Tryd.prog 77 #[.int .i64 a0] w fun e w' => e = .returned (.int .i64 r) ∧ Drawn0 w w' := by
  have H : (some (Go.bits .and .i64 a0 65535)) = some r := h
  clear h
  obtain rfl := Option.some.inj H
  go_enter Tryd.func77, Tryd.ntmps77
  go_wp2
  go_ret
  exact ⟨by first | rfl | (simp; done) | (simp [*]; done), by repeat (first | exact Drawn0.refl _ | apply Drawn0.step)⟩

/-! ### impl_Oct: function 41 -/
def impl_Oct.f (a0 : Int) : Option (ByteArray) := (impl_Wrap.f a0).bind fun t192 => ((strconv_FormatInt_76.f t192 8).bind fun t193 => (some t193))
set_option maxHeartbeats 8000000 in
set_option maxRecDepth 100000 in
theorem impl_Oct.calls (a0 : Int) (r : ByteArray) (w : World) (h : impl_Oct.f a0 = some r) (hT_ : TabOk w) :
    Calls Tryd.prog 41 #[.int .i64 a0] w fun e w' => e = .returned (.string r) ∧ Below w.heap.size w w' := by
  have HB := Aside0.mk (Below.refl w.heap.size w)
  have H : ((impl_Wrap.f a0).bind fun t192 => ((strconv_FormatInt_76.f t192 8).bind fun t193 => (some t193))) = some r := h
  clear h
  replace H := Option.bind_eq_some_iff.mp H
  obtain ⟨t192, A20, H⟩ := H
  try dsimp only at H
  have A2 := Aside0.mk A20
  clear A20
  replace H := Option.bind_eq_some_iff.mp H
  obtain ⟨t193, A30, H⟩ := H
  try dsimp only at H
  have A3 := Aside0.mk A30
  clear A30
  obtain rfl := Option.some.inj H
  go_enter Tryd.func41, Tryd.ntmps41
  go_wp2_with (first | ((with_reducible refine gate_callee (f := 77) rfl ?_); refine goesL_ (some 4) rfl rfl Tryd.func77 (by kernel_rfl) rfl #[.int .i64 a0] rfl (by (try simp only [List.map_toArray, List.map_cons, List.map_nil]); first | done | rfl | (simp only [List.length_drop, List.length_take]; rfl)) ?_; (with_reducible refine (impl_Wrap.calls a0 t192 _ A2.out).mono ?_); rintro e w' ⟨rfl, ⟨nd, rfl⟩⟩; refine ⟨_, rfl, ?_⟩) | ((with_reducible refine gate_callee (f := 76) rfl ?_); refine goesL_ (some 5) rfl rfl Tryd.func76 (by kernel_rfl) rfl #[.int .i64 t192, .int .i64 8] rfl (by (try simp only [List.map_toArray, List.map_cons, List.map_nil]); first | done | rfl | (simp only [List.length_drop, List.length_take]; rfl)) ?_; (with_reducible refine (strconv_FormatInt_76.calls t192 8 t193 _ A3.out (by first | exact hT_ | exact TabOk.below hT_ (by repeat (first | (with_reducible first | exact HB.out | apply below_alloc | apply pw_below_drewN | apply below_drew1) | exact HB.out)) | (with_reducible repeat (first | exact hT_ | apply TabOk.drewN | apply TabOk.alloc)))).mono ?_); rintro e w4 ⟨rfl, hb⟩; refine ⟨_, rfl, ?_⟩; have n0_ := Aside0.mk (below_step (by repeat (first | (with_reducible first | exact HB.out | apply below_alloc | apply pw_below_drewN | apply below_drew1) | exact HB.out)) hb); clear HB; have HB := n0_; clear n0_; (try clear hb); (try clear hb2); (try clear hk); (try clear hi)))
  go_ret
  exact ⟨by first | rfl | (simp [errW_none, errW_some] <;> rfl) | (simp [*, errW_none, errW_some] <;> rfl), by repeat (first | (with_reducible first | exact HB.out | apply below_alloc | apply pw_below_drewN | apply below_drew1) | exact HB.out)⟩

/-! ### impl_isWord: function 48 -/
def impl_isWord.f (a0 : Int) : Option (Bool) := (impl_within.f a0 0 65535).bind fun t194 => (some t194)
set_option maxHeartbeats 8000000 in
set_option maxRecDepth 100000 in
theorem impl_isWord.calls (a0 : Int) (r : Bool) (w : World) (h : impl_isWord.f a0 = some r) :
    Calls Tryd.prog 48 #[.int .i64 a0] w fun e w' => e = .returned (.bool r) ∧ Drawn0 w w' := by
  have H : ((impl_within.f a0 0 65535).bind fun t194 => (some t194)) = some r := h
  clear h
  replace H := Option.bind_eq_some_iff.mp H
  obtain ⟨t194, A20, H⟩ := H
  try dsimp only at H
  have A2 := Aside0.mk A20
  clear A20
  obtain rfl := Option.some.inj H
  go_enter Tryd.func48, Tryd.ntmps48
  go_wp2_with (first | ((with_reducible refine gate_callee (f := 83) rfl ?_); refine goesL_ (some 4) rfl rfl Tryd.func83 (by kernel_rfl) rfl #[.int .i64 a0, .int .i64 0, .int .i64 65535] rfl (by (try simp only [List.map_toArray, List.map_cons, List.map_nil]); first | done | rfl | (simp only [List.length_drop, List.length_take]; rfl)) ?_; (with_reducible refine (impl_within.calls a0 0 65535 t194 _ A2.out).mono ?_); rintro e w' ⟨rfl, ⟨nd, rfl⟩⟩; refine ⟨_, rfl, ?_⟩))
  go_ret
  exact ⟨by first | rfl | (simp; done) | (simp [*]; done), by repeat (first | exact Drawn0.refl _ | apply Drawn0.step)⟩

-- NOT PRINTED: function 124 (strconv_lower)

-- NOT PRINTED: function 125 (strconv_underscoreOK)

-- NOT PRINTED: function 117 (strconv_ParseUint)

-- NOT PRINTED: function 109 (strconv_ParseInt_109)

-- NOT PRINTED: function 126 (stringslite_Clone)

-- NOT PRINTED: function 118 (strconv_syntaxError)

-- NOT PRINTED: function 119 (strconv_rangeError)

-- NOT PRINTED: function 127 (errors_New)

-- NOT PRINTED: function 129 (strconv_Itoa_129)

-- NOT PRINTED: function 128 (strconv_Itoa_128)

-- NOT PRINTED: function 120 (strconv_baseError)

-- NOT PRINTED: function 121 (strconv_bitSizeError)

-- NOT PRINTED: function 110 (strconv_toError)

-- NOT PRINTED: function 99 (strconv_ParseInt_99)

end Go.Proofs.YtbemgfdaenepjaaDoor.PFnLexed
