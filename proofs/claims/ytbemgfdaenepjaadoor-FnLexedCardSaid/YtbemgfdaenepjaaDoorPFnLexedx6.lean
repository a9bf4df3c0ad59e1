-- Laid by a program of this session (a changed copy of the kit's printer); Lean checks every line.
import Derived.Test.YtbemgfdaenepjaaDoorPFnLexedx0
import Derived.Test.YtbemgfdaenepjaaDoorPFnLexedx5
namespace Go.Proofs.YtbemgfdaenepjaaDoor.PFnLexed
open Go.RowKit Go.Proofs.YtbemgfdaenepjaaDoorW.PrintWords Go.Proofs.YtbemgfdaenepjaaDoorW.PrintLast Go.Proofs.YtbemgfdaenepjaaDoorW.PrintMore
attribute [local go_sem] max2_int min2_int max_two min_two max_three min_three max_four min_four   -- for this text's walks alone
set_option linter.unusedVariables false
set_option linter.unusedSimpArgs false


/-! ### impl_ParseOct: function 93 -/
section
open Go.Shelf Go.RowKit
variable {P : Program} {ρ : Ren}
/-- the value of octal digits, as the library's ParseUint finds it at base 8. -/
def parse8 (acc : Nat) : List UInt8 → Lib.NumEnd Nat
  | [] => .ok acc
  | c :: r =>
    if 48 ≤ c.toNat ∧ c.toNat ≤ 55 then
      if 2305843009213693952 ≤ acc then .range
      else parse8 (acc * 8 + (c.toNat - 48)) r
    else .syntax
set_option maxHeartbeats 32000000 in
set_option maxRecDepth 100000 in
/-- internal/strconv.ParseUint(s, 8, 64), s NOT EMPTY: 'parse8 0' OF ITS BYTES: the number; or (0, ErrSyntax); or (the greatest uint64, ErrRange). The world behind the call: the one new row that '[]byte(s)' lays. -/
theorem parseUint8 (L : Lays.n287 P ρ) (t : ByteArray) (hne : t.size ≠ 0) (hmax : t.size ≤ 9223372036854775806) (w : World) :
    Calls P (ρ.f 287) #[.string t, .int .i64 8, .int .i64 64] w fun e w' => e = .returned (Lib.uintTuple (ρ.t 167) (parse8 0 t.data.toList)) ∧ w' = Lib.bytesWorld w (ρ.t 5) t := by
  have mixed := L.mixed
  have t9 := L.t9; have a9 := L.a9; have z9 := L.z9; have v9 := L.v9
  have t3 := L.t3; have a3 := L.a3; have z3 := L.z3; have v3 := L.v3
  have t53 := L.t53; have a53 := L.a53; have z53 := L.z53; have v53 := L.v53
  have t75 := L.t75; have a75 := L.a75; have z75 := L.z75; have v75 := L.v75
  have t4 := L.t4; have a4 := L.a4; have z4 := L.z4; have v4 := L.v4
  have t167 := L.t167; have a167 := L.a167; have z167 := L.z167; have v167 := L.v167
  have t5 := L.t5; have a5 := L.a5; have z5 := L.z5; have v5 := L.v5
  have t46 := L.t46; have a46 := L.a46; have z46 := L.z46; have v46 := L.v46
  have t37 := L.t37; have a37 := L.a37; have z37 := L.z37; have v37 := L.v37
  have t0 := L.t0; have a0 := L.a0; have z0 := L.z0; have v0 := L.v0
  have e321 : ∀ args w, (callFunc (ρ.f 321) args).run P w = .ok (.enter (ρ.f 321) args) w := enters_of L.f321 (by kernel_rfl) rfl
  have hemp : t.toList.isEmpty = false := by
    rw [← decide_eq_emptyBytes]
    exact decide_eq_false (fun h => hne (by rw [h]; rfl))
  have hcv := Lib.run_convert_string_bytes (P := P) w (ρ.t 9) (ρ.t 37) (ρ.t 5) t (u := .string) L.t9 L.t37 L.t5
  have hB : ∀ j, j < t.size → (Lib.bytesWorld w (ρ.t 5) t).cell? ⟨w.heap.size, j, none⟩ = some (.int .u8 (t.data.toList.getD j 0).toNat) := fun j hj => Lib.bytesWorld_cell w (ρ.t 5) t j hj
  obtain ⟨W1, hW1⟩ : ∃ W1, W1 = Lib.bytesWorld w (ρ.t 5) t := ⟨_, rfl⟩
  rw [← hW1] at hcv hB ⊢
  clear hW1
  obtain ⟨bs, hL⟩ : ∃ bs, bs = t.data.toList := ⟨_, rfl⟩
  have hLn : bs.length = t.size := by rw [hL, Lib.size_eq]
  rw [← hL] at hB ⊢
  clear hL
  -- 'maxVal := uint64(1)<<uint(bitSize) - 1' AT 64 BITS: its value, for the walk to take: so the slot holds the written number that the road of the range hands back (whether the walk comes through without this fact I have not tried)
  have hmv : IntKind.u64.wrap (IntKind.u64.wrap 18446744073709551616 - 1) = 18446744073709551615 := by
    rw [IntKind.wrap_u64, IntKind.wrap_u64]
    decide
  go_enter L.f287, Body.n287_ntmps ρ
  go_wp2
  -- ✋ THE NUMBER GATHERED IS AN 'Int' OF ITS OWN IN THE FRAME ('a'), ITS TIE TO THE SPECIFICATION's 'acc : Nat' HIDDEN: WITH '↑acc' IN THE FRAME THE WALK RUNS OUT OF DEPTH AT 'if n >= cutoff': to bring a cast and a numeral of 19 digits to one form is what 'simp' cannot do
  go_loop [12, 13, 101] (fun vu vn vi => ∃ (k acc : Nat) (a : Int), vu = .bool false ∧ vn = .int .u64 a ∧ vi = .int .i64 k ∧ k ≤ t.size ∧ Hid (a = (acc : Int) ∧ acc < 18446744073709551616 ∧ parse8 0 bs = parse8 acc (bs.drop k)))
    (fun _ _ vi => t.size - (intOf vi).toNat)
  case atStart => exact ⟨0, 0, 0, rfl, rfl, rfl, by omega, rfl, by omega, rfl⟩
  case round =>
    obtain ⟨k, acc, a, rfl, rfl, rfl, hk, hh⟩ := hrel
    obtain ⟨ha, hacc, hdec⟩ := hh.out
    clear hh
    have a0 : 0 ≤ a := by omega
    have a1 : a < 18446744073709551616 := by omega
    by_cases hkn : k < t.size
    · have hc := hB k hkn
      have hdrop : bs.drop k = bs[k]'(by omega) :: bs.drop (k + 1) := List.drop_eq_getElem_cons (by omega)
      have hget : bs.getD k 0 = bs[k]'(by omega) := by simp [List.getD, List.getElem?_eq_getElem (show k < bs.length by omega)]
      rw [hdrop] at hdec
      rw [hget] at hc
      generalize bs[k]'(by omega) = c at hc hdec
      have hc256 : c.toNat < 256 := c.toNat_lt
      clear hB hdrop hget
      by_cases hdig : 48 ≤ c.toNat ∧ c.toNat ≤ 55
      · obtain ⟨hd0, hd1⟩ := hdig
        by_cases hcut : 2305843009213693952 ≤ acc
        · -- acc * 8 OVERFLOWS
          have hF : parse8 acc (c :: bs.drop (k + 1)) = .range := by simp [parse8, hd0, hd1, hcut]
          rw [hF] at hdec
          have icut : 2305843009213693952 ≤ a := by omega
          clear hcut hacc hF ha
          go_wp2
          go_ret2
          exact ⟨rfl, rfl⟩
        · have hF : parse8 acc (c :: bs.drop (k + 1)) = parse8 (acc * 8 + (c.toNat - 48)) (bs.drop (k + 1)) := by simp [parse8, hd0, hd1, hcut]
          have HN : Hid (a * 8 + ((c.toNat : Int) - 48) = ((acc * 8 + (c.toNat - 48) : Nat) : Int) ∧ acc * 8 + (c.toNat - 48) < 18446744073709551616 ∧ parse8 0 bs = parse8 (acc * 8 + (c.toNat - 48)) (bs.drop (k + 1))) := Lib.hid ⟨by omega, by omega, hdec.trans hF⟩
          have icut : a < 2305843009213693952 := by omega
          have iov : a * 8 + ((c.toNat : Int) - 48) < 18446744073709551616 := by omega
          clear hcut hacc hF hdec ha
          go_wp2
          refine ⟨⟨k + 1, acc * 8 + (c.toNat - 48), a * 8 + ((c.toNat : Int) - 48), rfl, (by first | rfl | (congr 1; omega)), (by first | rfl | (congr 1; omega)), by omega, HN⟩, by simp [intOf]; omega⟩
      · -- NO DIGIT: whatever way the text goes: (0, ErrSyntax)
        have hF : parse8 acc (c :: bs.drop (k + 1)) = .syntax := by simp [parse8, hdig]
        rw [hF] at hdec
        clear hacc hF ha
        have hv0 := bits_lo_u8 .or (c.toNat : Int) 32
        have hv1 := bits_hi_u8 .or (c.toNat : Int) 32
        have hu0 := bits_lo_u8 .or 95 32       -- at '_' the walk writes the byte out
        have hu1 := bits_hi_u8 .or 95 32
        by_cases h89 : 56 ≤ c.toNat ∧ c.toNat ≤ 57
        · obtain ⟨h8a, h8b⟩ := h89
          go_wp2
          all_goals go_ret2
          all_goals first | exact ⟨rfl, rfl⟩ | exact ⟨by rw [hdec]; rfl, rfl⟩
        have hnd : ¬ (48 ≤ c.toNat ∧ c.toNat ≤ 57) := by omega
        clear hdig h89
        go_wp2_with (go_at_fn (ρ.f 321); refine (Any.internal_strconv_lower { L with } _ _).mono ?_; rintro e w' ⟨rfl, rfl⟩)
        all_goals go_ret2
        all_goals first | exact ⟨rfl, rfl⟩ | exact ⟨by rw [hdec]; rfl, rfl⟩
    · -- THE BYTES ARE AT AN END
      have hkk : k = t.size := by omega
      subst hkk
      have hF : parse8 acc (bs.drop t.size) = .ok acc := by rw [List.drop_eq_nil_of_le (by omega)]; rfl
      rw [hF] at hdec
      subst ha
      clear hacc hF a0 a1
      go_wp2
      go_ret2
      exact ⟨rfl, rfl⟩



/-- of all bytes: an empty text is none. -/
def parseU8 (l : List UInt8) : Lib.NumEnd Nat := if l = [] then .syntax else parse8 0 l
/-- behind no sign, or '+'. -/
def plus8 : Lib.NumEnd Nat → Lib.NumEnd Int
  | .syntax => .syntax
  | .range => .range
  | .ok u => if 9223372036854775808 ≤ u then .range else .ok (u : Int)
/-- behind '-'. -/
def minus8 : Lib.NumEnd Nat → Lib.NumEnd Int
  | .syntax => .syntax
  | .range => .range
  | .ok u => if 9223372036854775808 < u then .range else .ok (-(u : Int))
/-- strconv.ParseInt(s, 8, 64). -/
def parseI8 (l : List UInt8) : Lib.NumEnd Int :=
  match l with
  | [] => .syntax
  | c :: r => if c.toNat = 43 then plus8 (parseU8 r) else if c.toNat = 45 then minus8 (parseU8 r) else plus8 (parseU8 (c :: r))
theorem parseI8_plus (r : List UInt8) : parseI8 (43 :: r) = plus8 (parseU8 r) := rfl
theorem parseI8_minus (r : List UInt8) : parseI8 (45 :: r) = minus8 (parseU8 r) := rfl
theorem parseI8_plain (c : UInt8) (r : List UInt8) (h43 : c.toNat ≠ 43) (h45 : c.toNat ≠ 45) : parseI8 (c :: r) = plus8 (parseU8 (c :: r)) := by
  simp only [parseI8]; rw [if_neg h43, if_neg h45]
theorem parse8_le : ∀ (l : List UInt8) (acc u : Nat), acc ≤ 18446744073709551615 → parse8 acc l = .ok u → u ≤ 18446744073709551615
  | [], acc, u, ha, h => by
    simp only [parse8] at h
    injection h with h
    omega
  | c :: r, acc, u, ha, h => by
    simp only [parse8] at h
    split at h
    · split at h
      · cases h
      · exact parse8_le r _ u (by omega) h
    · cases h
theorem parseU8_le {l : List UInt8} {u : Nat} (h : parseU8 l = .ok u) : u ≤ 18446744073709551615 := by
  unfold parseU8 at h
  split at h
  · cases h
  · exact parse8_le l 0 u (Nat.zero_le _) h
set_option maxRecDepth 100000 in
theorem parseUint8_all (L : Lays.n287 P ρ) (t : ByteArray) (hmax : t.size ≤ 9223372036854775806) (w : World) :
    Calls P (ρ.f 287) #[.string t, .int .i64 8, .int .i64 64] w fun e w' => e = .returned (Lib.uintTupleM (ρ.t 167) 18446744073709551615 (parseU8 t.data.toList)) ∧ (w' = w ∨ w' = Lib.bytesWorld w (ρ.t 5) t) := by
  by_cases h0 : t.size = 0
  · have ht : t = ⟨#[]⟩ := by
      apply ByteArray.ext
      exact Array.eq_empty_of_size_eq_zero h0
    subst ht
    exact (Any.internal_strconv_ParseUint_empty { L with } 8 64 w).mono fun e w' ⟨he, hw⟩ => ⟨he, Or.inl hw⟩
  · have hne : t.data.toList ≠ [] := fun h => h0 (by rw [Lib.size_eq, h]; rfl)
    refine (parseUint8 { L with } t h0 hmax w).mono fun e w' ⟨he, hw⟩ => ⟨?_, Or.inr hw⟩
    rw [he, parseU8, if_neg hne, Lib.uintTuple_eq]
set_option maxHeartbeats 32000000 in
set_option maxRecDepth 100000 in
/-- internal/strconv.ParseInt(s, 8, 64), s NOT EMPTY: 'parseI8' OF ITS BYTES: (the number, nil); (0, ErrSyntax); (the greatest or the least int64 by the sign, ErrRange). The world: as it was, or with the one new row that '[]byte(..)' lays. -/
theorem parseInt8 (L : LaysC.n247 P ρ) (s : ByteArray) (hne : s.size ≠ 0) (hmax : s.size ≤ 9223372036854775806) (w : World) :
    Calls P (ρ.f 247) #[.string s, .int .i64 8, .int .i64 64] w fun e w' => e = .returned (Lib.intTuple (ρ.t 167) (Lib.intSat 64 s.data.toList) (parseI8 s.data.toList)) ∧ (w' = w ∨ ∃ t, w' = Lib.bytesWorld w (ρ.t 5) t) := by
  have mixed := L.mixed
  have t9 := L.t9; have a9 := L.a9; have z9 := L.z9; have v9 := L.v9
  have t3 := L.t3; have a3 := L.a3; have z3 := L.z3; have v3 := L.v3
  have t2 := L.t2; have a2 := L.a2; have z2 := L.z2; have v2 := L.v2
  have t75 := L.t75; have a75 := L.a75; have z75 := L.z75; have v75 := L.v75
  have t4 := L.t4; have a4 := L.a4; have z4 := L.z4; have v4 := L.v4
  have t167 := L.t167; have a167 := L.a167; have z167 := L.z167; have v167 := L.v167
  have t5 := L.t5; have a5 := L.a5; have z5 := L.z5; have v5 := L.v5
  have t53 := L.t53; have a53 := L.a53; have z53 := L.z53; have v53 := L.v53
  have t175 := L.t175; have a175 := L.a175; have z175 := L.z175; have v175 := L.v175
  have t46 := L.t46; have a46 := L.a46; have z46 := L.z46; have v46 := L.v46
  have e287 : ∀ args w, (callFunc (ρ.f 287) args).run P w = .ok (.enter (ρ.f 287) args) w := enters_of L.f287 (by kernel_rfl) rfl
  have hemp : s.toList.isEmpty = false := by
    rw [← decide_eq_emptyBytes]
    exact decide_eq_false (fun h => hne (by rw [h]; rfl))
  have hpos : 0 < s.size := by omega
  obtain ⟨c0, r, hL⟩ : ∃ c0 r, s.data.toList = c0 :: r := by
    cases h : s.data.toList with
    | nil => exact absurd (by rw [Lib.size_eq, h]; rfl) hne
    | cons c0 r => exact ⟨c0, r, rfl⟩
  have hsz : s.size = r.length + 1 := by rw [Lib.size_eq, hL]; rfl
  have hs0 : s[0]'hpos = c0 := by have := Lib.getD_at s 0 hpos; rw [hL] at this; exact this
  have eC : (2 : Nat) ^ (64 - 1) = 9223372036854775808 := by decide
  have eM : (2 : Nat) ^ 64 - 1 = 18446744073709551615 := by decide
  -- 'err != ErrRange', for the walk to take
  have hq2 : ∀ W, (binOp .neq (ρ.t 75) (.iface (ρ.t 167) (.int .i64 2)) (.iface (ρ.t 167) (.int .i64 1))).run P W = .ok (.bool true) W := fun W => Lib.run_neq_iface_int W 2 1 L.t75 L.c167 L.t167
  have hq1 : ∀ W, (binOp .neq (ρ.t 75) (.iface (ρ.t 167) (.int .i64 1)) (.iface (ρ.t 167) (.int .i64 1))).run P W = .ok (.bool false) W := fun W => Lib.run_neq_iface_int W 1 1 L.t75 L.c167 L.t167
  -- '-int64(cutoff)': the least of the size, for the walk to take
  have hmin : wrap64 (-wrap64 9223372036854775808) = -9223372036854775808 := by
    unfold wrap64
    omega
  rw [hL]
  by_cases h43 : c0 = 43
  · -- '+'
    subst h43
    have hsl : ∀ W, (Instr.slice (ρ.t 9) (.string s) (some (.int .i64 1)) none none).run P W = .ok (.string (s.extract 1 s.size)) W := fun W => by
      rw [run_slice_string_from_if W (ρ.t 9) s .i64 _ L.t9, if_pos ⟨by omega, by omega⟩]
      rfl
    have htl : (s.extract 1 s.size).data.toList = r := by
      rw [Lib.extract_data, hL, List.drop_succ_cons, List.drop_zero, List.take_of_length_le (by omega)]
    have hts : (s.extract 1 s.size).size = s.size - 1 := by rw [Lib.size_eq, htl]; omega
    generalize s.extract 1 s.size = t at hsl htl hts
    have hU := parseUint8_all { L with } t (by omega) w
    rw [htl] at hU
    have hwd : ∀ w1 : World, (w1 = w ∨ w1 = Lib.bytesWorld w (ρ.t 5) t) → (w1 = w ∨ ∃ t, w1 = Lib.bytesWorld w (ρ.t 5) t) := fun w1 h => h.imp id fun h => ⟨t, h⟩
    clear hL
    cases hE : parseU8 (r) with
    | «syntax» =>
      have hres : Lib.intTuple (ρ.t 167) (Lib.intSat 64 (43 :: r)) (parseI8 (43 :: r)) = .tuple #[.int .i64 0, .iface (ρ.t 167) (.int .i64 2)] := by rw [parseI8_plus, hE]; rfl
      rw [hres]
      rw [hE] at hU
      have hU : Calls P (ρ.f 287) #[.string t, .int .i64 8, .int .i64 64] w fun e w' => e = .returned (.tuple #[.int .u64 0, .iface (ρ.t 167) (.int .i64 2)]) ∧ (w' = w ∨ w' = Lib.bytesWorld w (ρ.t 5) t) := hU
      go_enter L.f247, Body.n247_ntmps ρ
      go_wp2_with (go_at_fn (ρ.f 287); refine hU.mono ?_; rintro e w1 ⟨rfl, hw1⟩)
      go_wp2
      go_ret2
      refine ⟨?_, hwd w1 hw1⟩
      rfl
    | range =>
      have hres : Lib.intTuple (ρ.t 167) (Lib.intSat 64 (43 :: r)) (parseI8 (43 :: r)) = .tuple #[.int .i64 (9223372036854775807), .iface (ρ.t 167) (.int .i64 1)] := by rw [parseI8_plus, hE, Lib.intSat_other 64 43 r (by decide), eC]; rfl
      rw [hres]
      rw [hE] at hU
      have hU : Calls P (ρ.f 287) #[.string t, .int .i64 8, .int .i64 64] w fun e w' => e = .returned (.tuple #[.int .u64 18446744073709551615, .iface (ρ.t 167) (.int .i64 1)]) ∧ (w' = w ∨ w' = Lib.bytesWorld w (ρ.t 5) t) := hU
      go_enter L.f247, Body.n247_ntmps ρ
      go_wp2_with (go_at_fn (ρ.f 287); refine hU.mono ?_; rintro e w1 ⟨rfl, hw1⟩)
      go_wp2
      go_ret2
      refine ⟨?_, hwd w1 hw1⟩
      first | rfl | (simp only [hmin]; rfl)
    | ok u =>
      have hu64 : u ≤ 18446744073709551615 := by exact parseU8_le hE
      rw [hE] at hU
      obtain ⟨a, ha⟩ : ∃ a : Int, a = (u : Int) := ⟨_, rfl⟩
      have hU : Calls P (ρ.f 287) #[.string t, .int .i64 8, .int .i64 64] w fun e w' => e = .returned (.tuple #[.int .u64 a, .nilIface]) ∧ (w' = w ∨ w' = Lib.bytesWorld w (ρ.t 5) t) := by rw [ha]; exact hU
      have a0 : 0 ≤ a := by omega
      have a1 : a ≤ 18446744073709551615 := by omega
      by_cases hout : 9223372036854775808 ≤ u
      · have hres : Lib.intTuple (ρ.t 167) (Lib.intSat 64 (43 :: r)) (parseI8 (43 :: r)) = .tuple #[.int .i64 (9223372036854775807), .iface (ρ.t 167) (.int .i64 1)] := by rw [parseI8_plus, hE, Lib.intSat_other 64 43 r (by decide), eC]; simp [plus8, hout, Lib.intTuple]
        rw [hres]
        have iout : 9223372036854775808 ≤ a := by omega
        clear hres hout hu64 ha hE
        go_enter L.f247, Body.n247_ntmps ρ
        go_wp2_with (go_at_fn (ρ.f 287); refine hU.mono ?_; rintro e w1 ⟨rfl, hw1⟩)
        go_wp2
        go_ret2
        refine ⟨?_, hwd w1 hw1⟩
        first | rfl | (simp only [hmin]; rfl)
      · have hres : Lib.intTuple (ρ.t 167) (Lib.intSat 64 (43 :: r)) (parseI8 (43 :: r)) = .tuple #[.int .i64 (a), .nilIface] := by rw [parseI8_plus, hE, ha]; simp [plus8, hout, Lib.intTuple]
        rw [hres]
        have iin : a < 9223372036854775808 := by omega
        clear hres hout hu64 ha hE
        go_enter L.f247, Body.n247_ntmps ρ
        go_wp2_with (go_at_fn (ρ.f 287); refine hU.mono ?_; rintro e w1 ⟨rfl, hw1⟩)
        go_wp2
        go_ret2
        refine ⟨?_, hwd w1 hw1⟩
        rfl
  by_cases h45 : c0 = 45
  · -- '-'
    subst h45
    have hsl : ∀ W, (Instr.slice (ρ.t 9) (.string s) (some (.int .i64 1)) none none).run P W = .ok (.string (s.extract 1 s.size)) W := fun W => by
      rw [run_slice_string_from_if W (ρ.t 9) s .i64 _ L.t9, if_pos ⟨by omega, by omega⟩]
      rfl
    have htl : (s.extract 1 s.size).data.toList = r := by
      rw [Lib.extract_data, hL, List.drop_succ_cons, List.drop_zero, List.take_of_length_le (by omega)]
    have hts : (s.extract 1 s.size).size = s.size - 1 := by rw [Lib.size_eq, htl]; omega
    generalize s.extract 1 s.size = t at hsl htl hts
    have hU := parseUint8_all { L with } t (by omega) w
    rw [htl] at hU
    have hwd : ∀ w1 : World, (w1 = w ∨ w1 = Lib.bytesWorld w (ρ.t 5) t) → (w1 = w ∨ ∃ t, w1 = Lib.bytesWorld w (ρ.t 5) t) := fun w1 h => h.imp id fun h => ⟨t, h⟩
    clear hL
    cases hE : parseU8 (r) with
    | «syntax» =>
      have hres : Lib.intTuple (ρ.t 167) (Lib.intSat 64 (45 :: r)) (parseI8 (45 :: r)) = .tuple #[.int .i64 0, .iface (ρ.t 167) (.int .i64 2)] := by rw [parseI8_minus, hE]; rfl
      rw [hres]
      rw [hE] at hU
      have hU : Calls P (ρ.f 287) #[.string t, .int .i64 8, .int .i64 64] w fun e w' => e = .returned (.tuple #[.int .u64 0, .iface (ρ.t 167) (.int .i64 2)]) ∧ (w' = w ∨ w' = Lib.bytesWorld w (ρ.t 5) t) := hU
      go_enter L.f247, Body.n247_ntmps ρ
      go_wp2_with (go_at_fn (ρ.f 287); refine hU.mono ?_; rintro e w1 ⟨rfl, hw1⟩)
      go_wp2
      go_ret2
      refine ⟨?_, hwd w1 hw1⟩
      rfl
    | range =>
      have hres : Lib.intTuple (ρ.t 167) (Lib.intSat 64 (45 :: r)) (parseI8 (45 :: r)) = .tuple #[.int .i64 (-9223372036854775808), .iface (ρ.t 167) (.int .i64 1)] := by rw [parseI8_minus, hE, Lib.intSat_minus, eC]; rfl
      rw [hres]
      rw [hE] at hU
      have hU : Calls P (ρ.f 287) #[.string t, .int .i64 8, .int .i64 64] w fun e w' => e = .returned (.tuple #[.int .u64 18446744073709551615, .iface (ρ.t 167) (.int .i64 1)]) ∧ (w' = w ∨ w' = Lib.bytesWorld w (ρ.t 5) t) := hU
      go_enter L.f247, Body.n247_ntmps ρ
      go_wp2_with (go_at_fn (ρ.f 287); refine hU.mono ?_; rintro e w1 ⟨rfl, hw1⟩)
      go_wp2
      go_ret2
      refine ⟨?_, hwd w1 hw1⟩
      first | rfl | (simp only [hmin]; rfl)
    | ok u =>
      have hu64 : u ≤ 18446744073709551615 := by exact parseU8_le hE
      rw [hE] at hU
      obtain ⟨a, ha⟩ : ∃ a : Int, a = (u : Int) := ⟨_, rfl⟩
      have hU : Calls P (ρ.f 287) #[.string t, .int .i64 8, .int .i64 64] w fun e w' => e = .returned (.tuple #[.int .u64 a, .nilIface]) ∧ (w' = w ∨ w' = Lib.bytesWorld w (ρ.t 5) t) := by rw [ha]; exact hU
      have a0 : 0 ≤ a := by omega
      have a1 : a ≤ 18446744073709551615 := by omega
      by_cases hout : 9223372036854775808 < u
      · have hres : Lib.intTuple (ρ.t 167) (Lib.intSat 64 (45 :: r)) (parseI8 (45 :: r)) = .tuple #[.int .i64 (-9223372036854775808), .iface (ρ.t 167) (.int .i64 1)] := by rw [parseI8_minus, hE, Lib.intSat_minus, eC]; simp [minus8, hout, Lib.intTuple]
        rw [hres]
        have iout : 9223372036854775808 < a := by omega
        clear hres hout hu64 ha hE
        go_enter L.f247, Body.n247_ntmps ρ
        go_wp2_with (go_at_fn (ρ.f 287); refine hU.mono ?_; rintro e w1 ⟨rfl, hw1⟩)
        go_wp2
        go_ret2
        refine ⟨?_, hwd w1 hw1⟩
        first | rfl | (simp only [hmin]; rfl)
      · have hres : Lib.intTuple (ρ.t 167) (Lib.intSat 64 (45 :: r)) (parseI8 (45 :: r)) = .tuple #[.int .i64 (-a), .nilIface] := by rw [parseI8_minus, hE, ha]; simp [minus8, hout, Lib.intTuple]
        rw [hres]
        have iin : a ≤ 9223372036854775808 := by omega
        have hwn : wrap64 (-wrap64 a) = -a := by
          unfold wrap64
          omega
        clear hres hout hu64 ha hE
        go_enter L.f247, Body.n247_ntmps ρ
        go_wp2_with (go_at_fn (ρ.f 287); refine hU.mono ?_; rintro e w1 ⟨rfl, hw1⟩)
        go_wp2
        go_ret2
        refine ⟨?_, hwd w1 hw1⟩
        first | rfl | (simp only [hwn]; rfl)
  · -- NO SIGN
    have n43 : c0.toNat ≠ 43 := fun h => h43 (UInt8.toNat_inj.1 h)
    have n45 : c0.toNat ≠ 45 := fun h => h45 (UInt8.toNat_inj.1 h)
    have i43 : ¬ (c0.toNat : Int) = 43 := by omega
    have i45 : ¬ (c0.toNat : Int) = 45 := by omega
    obtain ⟨t, ht⟩ : ∃ t, t = s := ⟨_, rfl⟩
    have hU := parseUint8_all { L with } s hmax w
    rw [hL] at hU
    have hwd : ∀ w1 : World, (w1 = w ∨ w1 = Lib.bytesWorld w (ρ.t 5) s) → (w1 = w ∨ ∃ t, w1 = Lib.bytesWorld w (ρ.t 5) t) := fun w1 h => h.imp id fun h => ⟨s, h⟩
    subst ht
    clear hL
    cases hE : parseU8 (c0 :: r) with
    | «syntax» =>
      have hres : Lib.intTuple (ρ.t 167) (Lib.intSat 64 (c0 :: r)) (parseI8 (c0 :: r)) = .tuple #[.int .i64 0, .iface (ρ.t 167) (.int .i64 2)] := by rw [parseI8_plain c0 r n43 n45, hE]; rfl
      rw [hres]
      rw [hE] at hU
      have hU : Calls P (ρ.f 287) #[.string t, .int .i64 8, .int .i64 64] w fun e w' => e = .returned (.tuple #[.int .u64 0, .iface (ρ.t 167) (.int .i64 2)]) ∧ (w' = w ∨ w' = Lib.bytesWorld w (ρ.t 5) t) := hU
      go_enter L.f247, Body.n247_ntmps ρ
      go_wp2_with (go_at_fn (ρ.f 287); refine hU.mono ?_; rintro e w1 ⟨rfl, hw1⟩)
      go_wp2
      go_ret2
      refine ⟨?_, hwd w1 hw1⟩
      rfl
    | range =>
      have hres : Lib.intTuple (ρ.t 167) (Lib.intSat 64 (c0 :: r)) (parseI8 (c0 :: r)) = .tuple #[.int .i64 (9223372036854775807), .iface (ρ.t 167) (.int .i64 1)] := by rw [parseI8_plain c0 r n43 n45, hE, Lib.intSat_other 64 c0 r n45, eC]; rfl
      rw [hres]
      rw [hE] at hU
      have hU : Calls P (ρ.f 287) #[.string t, .int .i64 8, .int .i64 64] w fun e w' => e = .returned (.tuple #[.int .u64 18446744073709551615, .iface (ρ.t 167) (.int .i64 1)]) ∧ (w' = w ∨ w' = Lib.bytesWorld w (ρ.t 5) t) := hU
      go_enter L.f247, Body.n247_ntmps ρ
      go_wp2_with (go_at_fn (ρ.f 287); refine hU.mono ?_; rintro e w1 ⟨rfl, hw1⟩)
      go_wp2
      go_ret2
      refine ⟨?_, hwd w1 hw1⟩
      first | rfl | (simp only [hmin]; rfl)
    | ok u =>
      have hu64 : u ≤ 18446744073709551615 := by exact parseU8_le hE
      rw [hE] at hU
      obtain ⟨a, ha⟩ : ∃ a : Int, a = (u : Int) := ⟨_, rfl⟩
      have hU : Calls P (ρ.f 287) #[.string t, .int .i64 8, .int .i64 64] w fun e w' => e = .returned (.tuple #[.int .u64 a, .nilIface]) ∧ (w' = w ∨ w' = Lib.bytesWorld w (ρ.t 5) t) := by rw [ha]; exact hU
      have a0 : 0 ≤ a := by omega
      have a1 : a ≤ 18446744073709551615 := by omega
      by_cases hout : 9223372036854775808 ≤ u
      · have hres : Lib.intTuple (ρ.t 167) (Lib.intSat 64 (c0 :: r)) (parseI8 (c0 :: r)) = .tuple #[.int .i64 (9223372036854775807), .iface (ρ.t 167) (.int .i64 1)] := by rw [parseI8_plain c0 r n43 n45, hE, Lib.intSat_other 64 c0 r n45, eC]; simp [plus8, hout, Lib.intTuple]
        rw [hres]
        have iout : 9223372036854775808 ≤ a := by omega
        clear hres hout hu64 ha hE
        go_enter L.f247, Body.n247_ntmps ρ
        go_wp2_with (go_at_fn (ρ.f 287); refine hU.mono ?_; rintro e w1 ⟨rfl, hw1⟩)
        go_wp2
        go_ret2
        refine ⟨?_, hwd w1 hw1⟩
        first | rfl | (simp only [hmin]; rfl)
      · have hres : Lib.intTuple (ρ.t 167) (Lib.intSat 64 (c0 :: r)) (parseI8 (c0 :: r)) = .tuple #[.int .i64 (a), .nilIface] := by rw [parseI8_plain c0 r n43 n45, hE, ha]; simp [plus8, hout, Lib.intTuple]
        rw [hres]
        have iin : a < 9223372036854775808 := by omega
        clear hres hout hu64 ha hE
        go_enter L.f247, Body.n247_ntmps ρ
        go_wp2_with (go_at_fn (ρ.f 287); refine hU.mono ?_; rintro e w1 ⟨rfl, hw1⟩)
        go_wp2
        go_ret2
        refine ⟨?_, hwd w1 hw1⟩
        rfl



theorem parseInt8_all (L : LaysC.n247 P ρ) (s : ByteArray) (hmax : s.size ≤ 9223372036854775806) (w : World) :
    Calls P (ρ.f 247) #[.string s, .int .i64 8, .int .i64 64] w fun e w' => e = .returned (Lib.intTuple (ρ.t 167) (Lib.intSat 64 s.data.toList) (parseI8 s.data.toList)) ∧ (w' = w ∨ ∃ t, w' = Lib.bytesWorld w (ρ.t 5) t) := by
  by_cases h0 : s.size = 0
  · have hs : s = ⟨#[]⟩ := by
      apply ByteArray.ext
      exact Array.eq_empty_of_size_eq_zero h0
    subst hs
    exact (Any.internal_strconv_ParseInt_empty { L with } 8 64 w).mono fun e w' ⟨he, hw⟩ => ⟨he, Or.inl hw⟩
  · exact parseInt8 { L with } s h0 hmax w
set_option maxHeartbeats 4000000 in
set_option maxRecDepth 100000 in
/-- strconv.ParseInt(s, 8, 64), AT EVERY STRING THAT SPELLS AN int64 ('parseI8 s.data.toList = .ok v'): v, AND NO ERROR. -/
theorem parsePub8_ok (L : LaysC.n174 P ρ) (s : ByteArray) (hmax : s.size ≤ 9223372036854775806) (v : Int) (h : parseI8 s.data.toList = .ok v) (w : World) :
    Calls P (ρ.f 174) #[.string s, .int .i64 8, .int .i64 64] w fun e w' => e = .returned (.tuple #[.int .i64 v, .nilIface]) ∧ (w' = w ∨ ∃ t, w' = Lib.bytesWorld w (ρ.t 5) t) := by
  have mixed := L.mixed
  have t9 := L.t9; have a9 := L.a9; have z9 := L.z9; have v9 := L.v9
  have t3 := L.t3; have a3 := L.a3; have z3 := L.z3; have v3 := L.v3
  have t2 := L.t2; have a2 := L.a2; have z2 := L.z2; have v2 := L.v2
  have t75 := L.t75; have a75 := L.a75; have z75 := L.z75; have v75 := L.v75
  have t85 := L.t85; have a85 := L.a85; have z85 := L.z85; have v85 := L.v85
  have t4 := L.t4; have a4 := L.a4; have z4 := L.z4; have v4 := L.v4
  have e247 : ∀ args w, (callFunc (ρ.f 247) args).run P w = .ok (.enter (ρ.f 247) args) w := enters_of L.f247 (by kernel_rfl) rfl
  have hI := parseInt8_all { L with } s hmax w
  rw [h] at hI
  have hI : Calls P (ρ.f 247) #[.string s, .int .i64 8, .int .i64 64] w fun e w' => e = .returned (.tuple #[.int .i64 v, .nilIface]) ∧ (w' = w ∨ ∃ t, w' = Lib.bytesWorld w (ρ.t 5) t) := hI
  clear h
  go_enter L.f174, Body.n174_ntmps ρ
  go_wp2_with (go_at_fn (ρ.f 247); refine hI.mono ?_; rintro e W1 ⟨rfl, hW⟩)
  go_wp2
  go_ret2
  exact ⟨rfl, hW⟩

set_option maxHeartbeats 4000000 in
set_option maxRecDepth 100000 in
/-- strconv.ParseInt(s, 8, 64), AT EVERY STRING THAT IS NO DECIMAL NUMERAL: 0, AND AN ERROR THAT IS NOT nil: a *NumError in a new block N: {Func: "ParseInt", Num: s's bytes, Err: what the variable ErrSyntax holds}. Of what was there nothing has turned. -/
theorem parsePub8_syntax (L : LaysC.n174 P ρ) (s : ByteArray) (hlim : s.size ≤ 281474976710656) (h : parseI8 s.data.toList = .«syntax») (ev : Value) (w : World) (hv : w.cell? ⟨(ρ.g 15), 0, none⟩ = some ev) (hev : ev = .nilIface ∨ ∃ te pe, ev = .iface te pe) :
    Calls P (ρ.f 174) #[.string s, .int .i64 8, .int .i64 64] w fun e w' => ∃ N, e = .returned (.tuple #[.int .i64 (0), .iface (ρ.t 168) (.pointer (some ⟨N, 0, none⟩))]) ∧ w.heap.size ≤ N ∧ w'.heap[N]? = some (.cells #[.string ⟨#[80, 97, 114, 115, 101, 73, 110, 116]⟩, .string s, ev] (ρ.t 210) (0, 0)) ∧ Below w.heap.size w w' := by
  have mixed := L.mixed
  have t9 := L.t9; have a9 := L.a9; have z9 := L.z9; have v9 := L.v9
  have t3 := L.t3; have a3 := L.a3; have z3 := L.z3; have v3 := L.v3
  have t2 := L.t2; have a2 := L.a2; have z2 := L.z2; have v2 := L.v2
  have t75 := L.t75; have a75 := L.a75; have z75 := L.z75; have v75 := L.v75
  have t85 := L.t85; have a85 := L.a85; have z85 := L.z85; have v85 := L.v85
  have t4 := L.t4; have a4 := L.a4; have z4 := L.z4; have v4 := L.v4
  have e247 : ∀ args w, (callFunc (ρ.f 247) args).run P w = .ok (.enter (ρ.f 247) args) w := enters_of L.f247 (by kernel_rfl) rfl
  have e245 : ∀ args w, (callFunc (ρ.f 245) args).run P w = .ok (.enter (ρ.f 245) args) w := enters_of L.f245 (by kernel_rfl) rfl
  have hG : (ρ.g 15) < w.heap.size := Lib.lt_of_cell hv
  have hI := parseInt8_all { L with } s (by omega) w
  rw [h] at hI
  generalize Lib.intSat 64 s.data.toList = sat at hI ⊢
  have hI : Calls P (ρ.f 247) #[.string s, .int .i64 8, .int .i64 64] w fun e w' => e = .returned (.tuple #[.int .i64 (0), .iface (ρ.t 167) (.int .i64 2)]) ∧ (w' = w ∨ ∃ t, w' = Lib.bytesWorld w (ρ.t 5) t) := hI
  clear h
  go_enter L.f174, Body.n174_ntmps ρ
  go_wp2_with (go_at_fn (ρ.f 247); refine hI.mono ?_)
  rintro e W1 ⟨rfl, hW⟩
  have hb1 : Below w.heap.size w W1 := by
    rcases hW with rfl | ⟨t, rfl⟩
    · exact Below.refl _ _
    · exact Lib.bytesWorld_below _ _ _
  have hv1 : W1.cell? ⟨(ρ.g 15), 0, none⟩ = some ev := (hb1.cell (show (⟨(ρ.g 15), 0, none⟩ : Addr).block < w.heap.size from hG)).trans hv
  clear hW
  go_wp2_with (go_at_fn (ρ.f 245); refine (Any.strconv_toError_syntax { L with } ⟨#[80, 97, 114, 115, 101, 73, 110, 116]⟩ s 8 64 ev _ hlim ?_ hev).mono ?_)
  · exact hv1
  rintro e W2 ⟨N, rfl, h1, h2, h3⟩
  go_wp2
  go_ret2
  exact ⟨N, rfl, Nat.le_trans hb1.size h1, h2, hb1.trans (h3.mono hb1.size)⟩

set_option maxHeartbeats 4000000 in
set_option maxRecDepth 100000 in
/-- strconv.ParseInt(s, 8, 64), AT EVERY NUMERAL THAT NO int64 HOLDS: THE GREATEST OR THE LEAST int64, BY THE SIGN ('Lib.intSat 64'), AND AN ERROR THAT IS NOT nil: a *NumError in a new block N: {Func: "ParseInt", Num: s's bytes, Err: what the variable ErrRange holds}. Of what was there nothing has turned. -/
theorem parsePub8_range (L : LaysC.n174 P ρ) (s : ByteArray) (hlim : s.size ≤ 281474976710656) (h : parseI8 s.data.toList = .range) (ev : Value) (w : World) (hv : w.cell? ⟨(ρ.g 16), 0, none⟩ = some ev) (hev : ev = .nilIface ∨ ∃ te pe, ev = .iface te pe) :
    Calls P (ρ.f 174) #[.string s, .int .i64 8, .int .i64 64] w fun e w' => ∃ N, e = .returned (.tuple #[.int .i64 (Lib.intSat 64 s.data.toList), .iface (ρ.t 168) (.pointer (some ⟨N, 0, none⟩))]) ∧ w.heap.size ≤ N ∧ w'.heap[N]? = some (.cells #[.string ⟨#[80, 97, 114, 115, 101, 73, 110, 116]⟩, .string s, ev] (ρ.t 210) (0, 0)) ∧ Below w.heap.size w w' := by
  have mixed := L.mixed
  have t9 := L.t9; have a9 := L.a9; have z9 := L.z9; have v9 := L.v9
  have t3 := L.t3; have a3 := L.a3; have z3 := L.z3; have v3 := L.v3
  have t2 := L.t2; have a2 := L.a2; have z2 := L.z2; have v2 := L.v2
  have t75 := L.t75; have a75 := L.a75; have z75 := L.z75; have v75 := L.v75
  have t85 := L.t85; have a85 := L.a85; have z85 := L.z85; have v85 := L.v85
  have t4 := L.t4; have a4 := L.a4; have z4 := L.z4; have v4 := L.v4
  have e247 : ∀ args w, (callFunc (ρ.f 247) args).run P w = .ok (.enter (ρ.f 247) args) w := enters_of L.f247 (by kernel_rfl) rfl
  have e245 : ∀ args w, (callFunc (ρ.f 245) args).run P w = .ok (.enter (ρ.f 245) args) w := enters_of L.f245 (by kernel_rfl) rfl
  have hG : (ρ.g 16) < w.heap.size := Lib.lt_of_cell hv
  have hI := parseInt8_all { L with } s (by omega) w
  rw [h] at hI
  generalize Lib.intSat 64 s.data.toList = sat at hI ⊢
  have hI : Calls P (ρ.f 247) #[.string s, .int .i64 8, .int .i64 64] w fun e w' => e = .returned (.tuple #[.int .i64 (sat), .iface (ρ.t 167) (.int .i64 1)]) ∧ (w' = w ∨ ∃ t, w' = Lib.bytesWorld w (ρ.t 5) t) := hI
  clear h
  go_enter L.f174, Body.n174_ntmps ρ
  go_wp2_with (go_at_fn (ρ.f 247); refine hI.mono ?_)
  rintro e W1 ⟨rfl, hW⟩
  have hb1 : Below w.heap.size w W1 := by
    rcases hW with rfl | ⟨t, rfl⟩
    · exact Below.refl _ _
    · exact Lib.bytesWorld_below _ _ _
  have hv1 : W1.cell? ⟨(ρ.g 16), 0, none⟩ = some ev := (hb1.cell (show (⟨(ρ.g 16), 0, none⟩ : Addr).block < w.heap.size from hG)).trans hv
  clear hW
  go_wp2_with (go_at_fn (ρ.f 245); refine (Any.strconv_toError_range { L with } ⟨#[80, 97, 114, 115, 101, 73, 110, 116]⟩ s 8 64 ev _ hlim ?_ hev).mono ?_)
  · exact hv1
  rintro e W2 ⟨N, rfl, h1, h2, h3⟩
  go_wp2
  go_ret2
  exact ⟨N, rfl, Nat.le_trans hb1.size h1, h2, hb1.trans (h3.mono hb1.size)⟩

/-- strconv.ParseInt(s, 8, 64): the number and no error, or some number and an error. -/
theorem parse8_calls (L : LaysC.n174 P ρ) (s : ByteArray) (hlim : s.size ≤ 281474976710656) (e1 e2 : Value) (w : World) (h1 : w.cell? ⟨(ρ.g 15), 0, none⟩ = some e1) (k1 : e1 = .nilIface ∨ ∃ te pe, e1 = .iface te pe) (h2 : w.cell? ⟨(ρ.g 16), 0, none⟩ = some e2) (k2 : e2 = .nilIface ∨ ∃ te pe, e2 = .iface te pe) :
    Calls P (ρ.f 174) #[.string s, .int .i64 8, .int .i64 64] w fun e w' => ∃ n v, e = .returned (.tuple #[.int .i64 n, v]) ∧ Below w.heap.size w w' ∧ ((v = .nilIface ∧ parseI8 s.data.toList = .ok n) ∨ ((∃ N, v = .iface (ρ.t 168) (.pointer (some ⟨N, 0, none⟩))) ∧ ∀ m, parseI8 s.data.toList ≠ .ok m)) := by
  cases h : parseI8 s.data.toList with
  | ok v =>
    refine (parsePub8_ok L s (by omega) v h w).mono ?_
    rintro e w' ⟨rfl, hw⟩
    refine ⟨v, _, rfl, ?_, .inl ⟨rfl, rfl⟩⟩
    rcases hw with rfl | ⟨t, rfl⟩
    · exact Below.refl _ _
    · exact Lib.bytesWorld_below _ _ _
  | «syntax» =>
    refine (parsePub8_syntax L s hlim h e1 w h1 k1).mono ?_
    rintro e w' ⟨N, rfl, _, _, hb⟩
    exact ⟨_, _, rfl, hb, .inr ⟨⟨N, rfl⟩, fun m => by simp⟩⟩
  | range =>
    refine (parsePub8_range L s hlim h e2 w h2 k2).mono ?_
    rintro e w' ⟨N, rfl, _, _, hb⟩
    exact ⟨_, _, rfl, hb, .inr ⟨⟨N, rfl⟩, fun m => by simp⟩⟩
end
section
open Go.Shelf
def laysC174_ren : Go.Shelf.Ren := ⟨fun | 174 => 99 | 247 => 109 | 245 => 110 | 287 => 117 | 279 => 118 | 280 => 119 | 281 => 120 | 282 => 121 | 321 => 124 | 322 => 125 | 316 => 126 | 171 => 128 | 205 => 127 | 243 => 129 | 246 => 94 | 283 => 100 | 284 => 101 | 285 => 102 | 286 => 103 | 129 => 112 | 317 => 111 | 318 => 113 | 319 => 114 | 320 => 115 | 337 => 122 | 338 => 123 | n => n, fun | 9 => 9 | 3 => 3 | 2 => 2 | 75 => 97 | 85 => 105 | 4 => 4 | 167 => 124 | 5 => 5 | 53 => 108 | 175 => 125 | 46 => 103 | 168 => 127 | 37 => 39 | 0 => 0 | 210 => 134 | 21 => 21 | 127 => 104 | 145 => 140 | 143 => 138 | 171 => 107 | 173 => 111 | 212 => 118 | 51 => 119 | 20 => 20 | 213 => 120 | 232 => 136 | 233 => 137 | 80 => 100 | n => n, fun | 15 => 2 | 16 => 3 | 17 => 1 | 18 => 4 | 19 => 5 | n => n⟩
theorem laysC174 : Go.Proofs.LaysC.n174 Tryd.prog laysC174_ren := {
  mixed := by kernel_rfl
  f129 := Tryd.func112.trans (congrArg some (by kernel_rfl))
  f171 := Tryd.func128.trans (congrArg some (by kernel_rfl))
  f174 := Tryd.func99.trans (congrArg some (by kernel_rfl))
  f205 := Tryd.func127.trans (congrArg some (by kernel_rfl))
  f243 := Tryd.func129.trans (congrArg some (by kernel_rfl))
  f245 := Tryd.func110.trans (congrArg some (by kernel_rfl))
  f246 := Tryd.func94.trans (congrArg some (by kernel_rfl))
  f247 := Tryd.func109.trans (congrArg some (by kernel_rfl))
  f279 := Tryd.func118.trans (congrArg some (by kernel_rfl))
  f280 := Tryd.func119.trans (congrArg some (by kernel_rfl))
  f281 := Tryd.func120.trans (congrArg some (by kernel_rfl))
  f282 := Tryd.func121.trans (congrArg some (by kernel_rfl))
  f283 := Tryd.func100.trans (congrArg some (by kernel_rfl))
  f284 := Tryd.func101.trans (congrArg some (by kernel_rfl))
  f285 := Tryd.func102.trans (congrArg some (by kernel_rfl))
  f286 := Tryd.func103.trans (congrArg some (by kernel_rfl))
  f287 := Tryd.func117.trans (congrArg some (by kernel_rfl))
  f316 := Tryd.func126.trans (congrArg some (by kernel_rfl))
  f317 := Tryd.func111.trans (congrArg some (by kernel_rfl))
  f318 := Tryd.func113.trans (congrArg some (by kernel_rfl))
  f319 := Tryd.func114.trans (congrArg some (by kernel_rfl))
  f320 := Tryd.func115.trans (congrArg some (by kernel_rfl))
  f321 := Tryd.func124.trans (congrArg some (by kernel_rfl))
  f322 := Tryd.func125.trans (congrArg some (by kernel_rfl))
  f337 := Tryd.func122.trans (congrArg some (by kernel_rfl))
  f338 := Tryd.func123.trans (congrArg some (by kernel_rfl))
  t0 := Tryd.underlying0
  a0 := Tryd.isAgg0
  z0 := Tryd.sizeOf0
  v0 := Tryd.zeroValue0
  t2 := Tryd.underlying2
  a2 := Tryd.isAgg2
  z2 := Tryd.sizeOf2
  v2 := Tryd.zeroValue2
  t3 := Tryd.underlying3
  a3 := Tryd.isAgg3
  z3 := Tryd.sizeOf3
  v3 := Tryd.zeroValue3
  t4 := Tryd.underlying4
  a4 := Tryd.isAgg4
  z4 := Tryd.sizeOf4
  v4 := Tryd.zeroValue4
  t5 := Tryd.underlying5
  a5 := Tryd.isAgg5
  z5 := Tryd.sizeOf5
  v5 := Tryd.zeroValue5
  t9 := Tryd.underlying9
  a9 := Tryd.isAgg9
  z9 := Tryd.sizeOf9
  v9 := Tryd.zeroValue9
  t20 := Tryd.underlying20
  a20 := Tryd.isAgg20
  z20 := Tryd.sizeOf20
  v20 := Tryd.zeroValue20
  t21 := Tryd.underlying21
  a21 := Tryd.isAgg21
  z21 := Tryd.sizeOf21
  v21 := Tryd.zeroValue21
  t37 := Tryd.underlying39
  a37 := Tryd.isAgg39
  z37 := Tryd.sizeOf39
  v37 := Tryd.zeroValue39
  t46 := Tryd.underlying103
  a46 := Tryd.isAgg103
  z46 := Tryd.sizeOf103
  v46 := Tryd.zeroValue103
  t51 := Tryd.underlying119
  a51 := Tryd.isAgg119
  z51 := Tryd.sizeOf119
  v51 := Tryd.zeroValue119
  t53 := Tryd.underlying108
  a53 := Tryd.isAgg108
  z53 := Tryd.sizeOf108
  v53 := Tryd.zeroValue108
  t75 := Tryd.underlying97
  a75 := Tryd.isAgg97
  z75 := Tryd.sizeOf97
  v75 := Tryd.zeroValue97
  t85 := Tryd.underlying105
  a85 := Tryd.isAgg105
  z85 := Tryd.sizeOf105
  v85 := Tryd.zeroValue105
  t127 := Tryd.underlying104
  a127 := Tryd.isAgg104
  z127 := Tryd.sizeOf104
  v127 := Tryd.zeroValue104
  t143 := Tryd.underlying138
  a143 := Tryd.isAgg138
  z143 := Tryd.sizeOf138
  v143 := Tryd.zeroValue138
  t145 := Tryd.underlying140
  a145 := Tryd.isAgg140
  z145 := Tryd.sizeOf140
  v145 := Tryd.zeroValue140
  t167 := Tryd.underlying124
  a167 := Tryd.isAgg124
  z167 := Tryd.sizeOf124
  v167 := Tryd.zeroValue124
  t168 := Tryd.underlying127
  a168 := Tryd.isAgg127
  z168 := Tryd.sizeOf127
  v168 := Tryd.zeroValue127
  t171 := Tryd.underlying107
  a171 := Tryd.isAgg107
  z171 := Tryd.sizeOf107
  v171 := Tryd.zeroValue107
  t173 := Tryd.underlying111
  a173 := Tryd.isAgg111
  z173 := Tryd.sizeOf111
  v173 := Tryd.zeroValue111
  t175 := Tryd.underlying125
  a175 := Tryd.isAgg125
  z175 := Tryd.sizeOf125
  v175 := Tryd.zeroValue125
  t210 := Tryd.underlying134
  a210 := Tryd.isAgg134
  z210 := Tryd.sizeOf134
  v210 := Tryd.zeroValue134
  t212 := Tryd.underlying118
  a212 := Tryd.isAgg118
  z212 := Tryd.sizeOf118
  v212 := Tryd.zeroValue118
  t213 := Tryd.underlying120
  a213 := Tryd.isAgg120
  z213 := Tryd.sizeOf120
  t232 := Tryd.underlying136
  a232 := Tryd.isAgg136
  z232 := Tryd.sizeOf136
  v232 := Tryd.zeroValue136
  t233 := Tryd.underlying137
  a233 := Tryd.isAgg137
  z233 := Tryd.sizeOf137
  v233 := Tryd.zeroValue137
  g15 := by kernel_rfl
  g16 := by kernel_rfl
  g17 := by kernel_rfl
  g18 := by kernel_rfl
  g19 := by kernel_rfl
  t80 := Tryd.underlying100
  a80 := Tryd.isAgg100
  z80 := Tryd.sizeOf100
  v80 := Tryd.zeroValue100
  i0 := by kernel_rfl
  i2 := by kernel_rfl
  i3 := by kernel_rfl
  i4 := by kernel_rfl
  i5 := by kernel_rfl
  i9 := by kernel_rfl
  i20 := by kernel_rfl
  i21 := by kernel_rfl
  i37 := by kernel_rfl
  i46 := by kernel_rfl
  i51 := by kernel_rfl
  i53 := by kernel_rfl
  i75 := by kernel_rfl
  i80 := by kernel_rfl
  i85 := by kernel_rfl
  i127 := by kernel_rfl
  i143 := by kernel_rfl
  i145 := by kernel_rfl
  i167 := by kernel_rfl
  i168 := by kernel_rfl
  i171 := by kernel_rfl
  i173 := by kernel_rfl
  i175 := by kernel_rfl
  i210 := by kernel_rfl
  i212 := by kernel_rfl
  i232 := by kernel_rfl
  i233 := by kernel_rfl
  m15 := by kernel_rfl
  m16 := by kernel_rfl
  m17 := by kernel_rfl
  m18 := by kernel_rfl
  m19 := by kernel_rfl
  c0 := by kernel_rfl
  c2 := by kernel_rfl
  c3 := by kernel_rfl
  c4 := by kernel_rfl
  c5 := by kernel_rfl
  c9 := by kernel_rfl
  c20 := by kernel_rfl
  c21 := by kernel_rfl
  c37 := by kernel_rfl
  c46 := by kernel_rfl
  c51 := by kernel_rfl
  c53 := by kernel_rfl
  c75 := by kernel_rfl
  c80 := by kernel_rfl
  c85 := by kernel_rfl
  c127 := by kernel_rfl
  c143 := by kernel_rfl
  c145 := by kernel_rfl
  c167 := by kernel_rfl
  c168 := by kernel_rfl
  c171 := by kernel_rfl
  c173 := by kernel_rfl
  c175 := by kernel_rfl
  c210 := by kernel_rfl
  c212 := by kernel_rfl
  c213 := by kernel_rfl
  c232 := by kernel_rfl
  c233 := by kernel_rfl }
end
theorem parse8_at (s : ByteArray) (hlim : s.size ≤ 281474976710656) (w : World) (hT : TabOk w) :
    Calls Tryd.prog 99 #[.string s, .int .i64 8, .int .i64 64] w fun e w' => ∃ n v, e = .returned (.tuple #[.int .i64 n, v]) ∧ Below w.heap.size w w' ∧ ((v = .nilIface ∧ parseI8 s.data.toList = .ok n) ∨ ((∃ t N, v = .iface t (.pointer (some ⟨N, 0, none⟩))) ∧ ∀ m, parseI8 s.data.toList ≠ .ok m)) := by
  obtain ⟨_, ⟨t1, p1, h1⟩, ⟨t2, p2, h2⟩⟩ := hT
  refine (parse8_calls laysC174 s hlim _ _ w h1 (.inr ⟨_, _, rfl⟩) h2 (.inr ⟨_, _, rfl⟩)).mono ?_
  rintro e w' ⟨n, v, rfl, hb, h⟩
  refine ⟨n, v, rfl, hb, ?_⟩
  rcases h with h | ⟨⟨N, rfl⟩, h⟩
  · exact .inl h
  · exact .inr ⟨⟨_, N, rfl⟩, h⟩
theorem parseI8_range {l : List UInt8} {n : Int} (h : parseI8 l = .ok n) : -9223372036854775808 ≤ n ∧ n ≤ 9223372036854775807 := by
  have pl : ∀ x : Lib.NumEnd Nat, plus8 x = .ok n → -9223372036854775808 ≤ n ∧ n ≤ 9223372036854775807 := by
    intro x hx
    cases x with
    | ok u =>
      simp only [plus8] at hx
      split at hx
      · cases hx
      · injection hx with hx; omega
    | «syntax» => cases hx
    | range => cases hx
  have mi : ∀ x : Lib.NumEnd Nat, minus8 x = .ok n → -9223372036854775808 ≤ n ∧ n ≤ 9223372036854775807 := by
    intro x hx
    cases x with
    | ok u =>
      simp only [minus8] at hx
      split at hx
      · cases hx
      · injection hx with hx; omega
    | «syntax» => cases hx
    | range => cases hx
  unfold parseI8 at h
  split at h
  · cases h
  · split at h
    · exact pl _ h
    · split at h
      · exact mi _ h
      · exact pl _ h
/-- the number of a text's digits at base 8, if it has one. -/
def int8? (s : ByteArray) : Option Int := match parseI8 s.data.toList with | .ok n => some n | _ => none
theorem int8_some {s : ByteArray} {n : Int} (h : parseI8 s.data.toList = .ok n) : int8? s = some n := by unfold int8?; rw [h]
theorem int8_none {s : ByteArray} (h : ∀ m, parseI8 s.data.toList ≠ .ok m) : int8? s = none := by
  unfold int8?
  cases e : parseI8 s.data.toList with
  | ok n => exact absurd e (h n)
  | «syntax» => rfl
  | range => rfl
def impl_ParseOct.f (a0 : ByteArray) : Option (Int × Bool) := if a0.size ≤ 281474976710656 then (match int8? a0 with | some n => ((impl_isWord.f n).bind fun t1 => if t1 = true then ((impl_Oct.f n).bind fun t2 => if t2.toList = a0.toList then some (n, true) else some (0, false)) else some (0, false)) | none => some (0, false)) else none
set_option maxHeartbeats 4000000 in
set_option maxRecDepth 100000 in
theorem impl_ParseOct.calls (a0 : ByteArray) (r1 : Int) (r2 : Bool) (w : World) (h : impl_ParseOct.f a0 = some (r1, r2)) (hT_ : TabOk w) :
    Calls Tryd.prog 93 #[.string a0] w fun e w' => e = .returned (.tuple #[.int .i64 r1, .bool r2]) ∧ Below w.heap.size w w' := by
  unfold impl_ParseOct.f at h
  by_cases c : a0.size ≤ 281474976710656
  rotate_left
  · rw [if_neg c] at h; exact absurd h (by simp)
  rw [if_pos c] at h
  go_enter Tryd.func93, Tryd.ntmps93
  go_wp2_with (go_at_call 99; refine (parse8_at a0 c w hT_).mono ?_)
  rintro e w1 ⟨n, v, rfl, hb, hv⟩
  rcases hv with ⟨rfl, hn⟩ | ⟨⟨t, N, rfl⟩, hn⟩
  · rw [int8_some hn] at h
    obtain ⟨n0, n1⟩ := parseI8_range hn
    clear hn
    simp only at h
    obtain ⟨t1, a1, h⟩ := Option.bind_eq_some_iff.1 h
    have wn : wrap64 n = n := by unfold wrap64; omega
    cases t1 with
    | false =>
      rw [if_neg (by decide)] at h
      cases h
      go_wp2_with (go_at_call 48; refine (impl_isWord.calls n false _ a1).mono ?_; rintro e w2 ⟨rfl, ⟨nd, rfl⟩⟩)
      go_ret2
      exact ⟨rfl, by repeat (first | (with_reducible first | exact hb | apply below_alloc | apply pw_below_drewN | apply below_drew1) | exact hb)⟩
    | true =>
      rw [if_pos rfl] at h
      obtain ⟨t2, a2, h⟩ := Option.bind_eq_some_iff.1 h
      go_wp2_with (first
        | (go_at_call 48; refine (impl_isWord.calls n true _ a1).mono ?_; rintro e w2 ⟨rfl, ⟨nd, rfl⟩⟩)
        | (go_at_call 41; refine (impl_Oct.calls n t2 _ a2 (by first | exact hT_ | exact TabOk.below hT_ (by repeat (first | (with_reducible first | exact hb | apply below_alloc | apply pw_below_drewN | apply below_drew1) | exact hb)))).mono ?_; rintro e w3 ⟨rfl, hb2⟩))
      all_goals
        have hend : Below w.heap.size w w3 := hb.trans ((pw_below_drewN (Below.refl _ _) nd).trans hb2 |>.mono hb.size)
        by_cases c2 : t2.toList = a0.toList
      · exfalso; have hq : (!t2.toList == a0.toList) = true := by assumption
        rw [c2] at hq; simp at hq
      · rw [if_neg c2] at h
        cases h
        go_ret2
        exact ⟨rfl, hend⟩
      · rw [if_pos c2] at h
        cases h
        go_ret2
        exact ⟨rfl, hend⟩
      · exfalso; have hq : (!t2.toList == a0.toList) = false := by assumption
        simp only [Bool.not_eq_false', beq_iff_eq] at hq
        exact c2 hq
  · rw [int8_none hn] at h
    simp only at h
    cases h
    go_wp2
    go_ret2
    exact ⟨rfl, hb⟩

end Go.Proofs.YtbemgfdaenepjaaDoor.PFnLexed
