-- Laid by a program of this session; Lean checks every line.
import Derived.Test.YtcpnhlhigpgonaaPFnPutInx15
namespace Go.Proofs.Ytcpnhlhigpgonaa.PFnPutIn
open Go.RowKit Go.Proofs.YtcpnhlhigpgonaaW.PrintWords Go.Proofs.YtcpnhlhigpgonaaW.PrintLast Go.Proofs.YtcpnhlhigpgonaaW.PrintMore Go.Proofs.Ytcpnhlhigpgonaa.Chg
set_option linter.unusedVariables false
set_option linter.unusedSimpArgs false
attribute [local go_sem] max2_int min2_int max_two min_two max_three min_three max_four min_four
section
variable {P : Program} {ops : Array Oper} {Q : Exit → Act → World → Prop} {md : Region.Mode}
theorem cnt_set {l : Array Bool} {i : Nat} (h : l.getD i true = false) : (l.setIfInBounds i true).toList.count false + 1 = l.toList.count false := by
  have hi : i < l.size := by
    rcases Nat.lt_or_ge i l.size with h' | h'
    · exact h'
    · simp [Array.getElem?_eq_none h'] at h
  have hv : l.toList[i]'(by simpa using hi) = false := by simpa [hi] using h
  have hp : 0 < l.toList.count false := List.count_pos_iff.2 (hv ▸ List.getElem_mem _)
  rw [Array.toList_setIfInBounds, List.count_set (by simpa using hi), hv, if_pos (by decide : (false == false) = true), if_neg (by decide : ¬ (true == false) = true)]
  omega
theorem ready_all {n : Nat} (hn : ops.size = n) (hb : ((List.range ops.size).all fun i => match ops[i]? with | some o => o.after.all fun e => !Region.binds md e || decide (e.on < i) | none => true) = true) :
    ∀ (l : Array Bool), l.size = n → Region.ready md ops l = [] → l = Array.replicate n true := by
  intro l hl hr
  have h1 : ∀ i, i < n → l.getD i true = true := by
    intro i
    induction i using Nat.strongRecOn with
    | _ i ih =>
      intro hi
      cases hv : l.getD i true with
      | true => rfl
      | false =>
        obtain ⟨oi, ho⟩ : ∃ oi, ops[i]? = some oi := ⟨_, Array.getElem?_eq_getElem (by omega)⟩
        have hm : i ∈ Region.ready md ops l := mem_ready.2 ⟨hv, oi, ho, fun e he hbe => by
          have h2 := List.all_eq_true.1 hb i (List.mem_range.2 (by omega))
          simp only [ho] at h2
          have h3 := Array.all_eq_true_iff_forall_mem.1 h2 e he
          simp only [hbe, Bool.not_true, Bool.false_or, decide_eq_true_eq] at h3
          have h4 := ih e.on h3 (by omega)
          have h5 : e.on < l.size := by omega
          simpa [h5] using h4⟩
        rw [hr] at hm
        cases hm
  apply Array.ext
  · simpa using hl
  · intro i h2 h3
    have h4 := h1 i (by omega)
    simpa [h2] using h4
theorem open_ {n : Nat} {σ : Type} (A : σ → Act) (I : Array Bool → σ → World → Prop) (hn : ops.size = n)
    (hb : ((List.range ops.size).all fun i => match ops[i]? with | some o => o.after.all fun e => !Region.binds md e || decide (e.on < i) | none => true) = true)
    (hs : ∀ (i : Nat) (oi : Oper) (l : Array Bool) (s : σ) (w : World), i < n → ops[i]? = some oi → l.size = n → l.getD i true = false → (∀ e ∈ oi.after, Region.binds md e = true → l.getD e.on false = true) → I l s w →
      ∀ K : Act → World → Prop, (∀ s' w', I (l.setIfInBounds i true) s' w' → K (A s') w') → if Region.wanted oi (yielded ops (A s).tmps) = true then Oper.wp P oi (A s) w K Q else K ((A s).put oi.dst undef) w)
    (he : ∀ s w, I (Array.replicate n true) s w → Q .normal (A s) w) :
    ∀ (fuel : Nat) (l : Array Bool) (s : σ) (w : World), l.size = n → l.toList.count false ≤ fuel → I l s w → wpAnyLast P md ops Q (fun _ => True) [] fuel l (A s) w := by
  have all := ready_all hn hb
  intro fuel
  induction fuel with
  | zero =>
    intro l s w hl hc hI
    have hr : Region.ready md ops l = [] := by
      rcases h : Region.ready md ops l with _ | ⟨i, r⟩
      · rfl
      · have hm : i ∈ Region.ready md ops l := h ▸ List.mem_cons_self
        have := cnt_set (mem_ready.1 hm).1
        omega
    exact ⟨hr, he s w (all l hl hr ▸ hI)⟩
  | succ fuel ih =>
    intro l s w hl hc hI
    refine ⟨fun hr => he s w (all l hl hr ▸ hI), fun i hi => ?_⟩
    obtain ⟨hun, oi, ho, hall⟩ := mem_ready.1 hi
    have hin : i < n := by have := (Array.getElem?_eq_some_iff.1 ho).1; omega
    refine wpOp_step ho (fun K hK => hs i oi l s w hin ho hl hun hall hI K (fun s' w' hI' => hK _ _ ⟨fun _ h => h, ih _ s' w' (by simpa using hl) ?_ hI'⟩))
    have := cnt_set hun
    omega
theorem open2_ {n : Nat} {σ : Type} {a : Act} {fuel : Nat} {l : Array Bool} {w : World} (ns : σ → List (Tmp × Value)) (I : Array Bool → σ → World → Prop) (hn : ops.size = n)
    (hb : ((List.range ops.size).all fun i => match ops[i]? with | some o => o.after.all fun e => !Region.binds md e || decide (e.on < i) | none => true) = true)
    (hs : ∀ (i : Nat) (oi : Oper) (l : Array Bool) (s : σ) (w : World), i < n → ops[i]? = some oi → l.size = n → l.getD i true = false → (∀ e ∈ oi.after, Region.binds md e = true → l.getD e.on false = true) → I l s w →
      ∀ K : Act → World → Prop, (∀ s' w', I (l.setIfInBounds i true) s' w' → K (putAll a (ns s')) w') → if Region.wanted oi (yielded ops (putAll a (ns s)).tmps) = true then Oper.wp P oi (putAll a (ns s)) w K Q else K ((putAll a (ns s)).put oi.dst undef) w)
    (he : ∀ s w, I (Array.replicate n true) s w → Q .normal (putAll a (ns s)) w)
    (s0 : σ) (ha : putAll a (ns s0) = a) (hl : l.size = n) (hc : l.toList.count false ≤ fuel) (h0 : I l s0 w) : wpAnyLast P md ops Q (fun _ => True) [] fuel l a w :=
  (show wpAnyLast P md ops Q (fun _ => True) [] fuel l (putAll a (ns s0)) w from open_ (fun s => putAll a (ns s)) I hn hb hs he fuel l s0 w hl hc h0) |> (fun h => by rw [ha] at h; exact h)
theorem gst {l : Array Bool} {i j n : Nat} (hl : l.size = n) (hi : i < n) : (l.setIfInBounds i true).getD j false = if i = j then true else l.getD j false := by
  by_cases e : i = j
  · subst e
    rw [if_pos rfl]
    simp [hl, hi]
  · rw [if_neg e]
    exact getD_set_ne false e
theorem gun {l : Array Bool} {i n : Nat} (hl : l.size = n) (hi : i < n) (h : l.getD i true = false) : l.getD i false = false := by
  have : i < l.size := by omega
  simpa [this] using h
end
def up (f : Nat → Bool) (i : Nat) : Nat → Bool := fun j => if i = j then true else f j
def us (s : Nat → Value) (i : Nat) (v : Value) : Nat → Value := fun j => if i = j then v else s j
def ub (b : Nat → Nat) (i g : Nat) : Nat → Nat := fun j => if i = j then g else b j
def wV (T P : Value) (x1 x2 x3 n1 y1 y2 n2 : Int) (b : Nat → Nat) : Nat → Value
  | 0 => T | 1 => P | 2 => .int .i64 x1 | 3 => P | 4 => .int .i64 x2 | 5 => P | 6 => .int .i64 x3
  | 7 => .slice (some ⟨b 7, 0, none⟩) 3 3 | 8 => P | 9 => .slice (some ⟨b 9, 0, none⟩) 4 4 | 10 => .int .i64 n1 | 11 => .slice (some ⟨b 7, 0, none⟩) n1.toNat 3
  | 12 => .slice (some ⟨b 12, 0, none⟩) 2 2 | 13 => P | 14 => .int .i64 y1 | 15 => P | 16 => .int .i64 y2 | 17 => .slice (some ⟨b 17, 0, none⟩) 2 2 | 18 => P | 19 => .slice (some ⟨b 19, 0, none⟩) 4 4
  | 20 => .int .i64 n2 | 21 => .slice (some ⟨b 17, 0, none⟩) n2.toNat 2 | 23 => .slice (some ⟨b 7, 0, none⟩) n1.toNat 3 | 24 => .slice (some ⟨b 12, 0, none⟩) 2 2 | 25 => .slice (some ⟨b 17, 0, none⟩) n2.toNat 2
  | _ => undef
def wU : Nat → Value | 23 => .slice none 0 0 | 24 => .slice none 0 0 | 25 => .slice none 0 0 | _ => undef
def wD : Nat → List Nat | 4 => [2] | 6 => [4] | 7 => [2, 4, 6] | 10 => [6, 9] | 11 => [7, 10] | 14 => [10] | 16 => [14] | 17 => [14, 16] | 20 => [16, 19] | 21 => [17, 20] | 22 => [0, 20] | 23 => [11, 22] | 24 => [12, 23] | 25 => [21, 24] | _ => []
def wB (x1 x2 x3 y1 y2 : Int) : Nat → Obj
  | 7 => .cells #[.int .i64 x1, .int .i64 x2, .int .i64 x3] 3 (0, 0) | 9 => .cells #[.int .i64 3, .int .i64 3, .int .i64 3, .int .i64 1] 3 (0, 0) | 12 => .cells #[.string (⟨#[103]⟩ : ByteArray), .string (⟨#[104]⟩ : ByteArray)] 9 (0, 0)
  | 17 => .cells #[.int .i64 y1, .int .i64 y2] 3 (0, 0) | _ => .cells #[.int .i64 2, .int .i64 2, .int .i64 2, .int .i64 1] 3 (0, 0)
def wR : List Nat := [7, 9, 12, 17, 19]
def wC : List Nat := [2, 4, 6, 10, 14, 16, 20]
def cnt (f : Nat → Bool) : Nat := if f 20 = true then 7 else if f 16 = true then 6 else if f 14 = true then 5 else if f 10 = true then 4 else if f 6 = true then 3 else if f 4 = true then 2 else if f 2 = true then 1 else 0
structure DW (T P : Value) (x1 x2 x3 n1 y1 y2 n2 : Int) (BT BZ : Obj) (cA cB : Nat → Int) (lc : List Int) (w0 wS : World) (gc g2 : Nat) (f : Nat → Bool) (s : Nat → Value) (b : Nat → Nat) (w : World) : Prop where
  val : ∀ i, i < 26 → i ≠ 22 → s i = if f i = true then wV T P x1 x2 x3 n1 y1 y2 n2 b i else wU i
  row : ∀ i, i ∈ wR → f i = true → wS.heap.size ≤ b i ∧ w.heap[b i]? = some (wB x1 x2 x3 y1 y2 i)
  dep : ∀ i, f i = true → ∀ j ∈ wD i, f j = true
  cur : IsS77 w0 w gc lc (cA (cnt f)) (cB (cnt f))
  bel : Below w0.heap.size w0 w
  os : w.os = wS.os
  tape : w.tape = wS.tape
  out : w.output = wS.output
  size : wS.heap.size ≤ w.heap.size
  blk : ∀ k, k < wS.heap.size → k ≠ gc → k ≠ g2 → w.heap[k]? = wS.heap[k]?
  two : w.heap[g2]? = some (if f 22 = true then BT else BZ)
theorem up_true {f : Nat → Bool} {i j : Nat} (h : f j = true) : up f i j = true := by unfold up; split <;> simp_all
theorem up_ne {f : Nat → Bool} {i j : Nat} (h : i ≠ j) : up f i j = f j := if_neg h
theorem us_ne {s : Nat → Value} {v : Value} {i j : Nat} (h : i ≠ j) : us s i v j = s j := if_neg h
theorem ub_ne {b : Nat → Nat} {g i j : Nat} (h : i ≠ j) : ub b i g j = b j := if_neg h
theorem cnt_up {f : Nat → Bool} {i : Nat} (h : i ∉ wC) : cnt (up f i) = cnt f := by
  simp only [wC, List.mem_cons, List.not_mem_nil, or_false, not_or] at h
  unfold cnt
  rw [up_ne (show i ≠ 20 from h.2.2.2.2.2.2), up_ne (show i ≠ 16 from h.2.2.2.2.2.1), up_ne (show i ≠ 14 from h.2.2.2.2.1), up_ne (show i ≠ 10 from h.2.2.2.1), up_ne (show i ≠ 6 from h.2.2.1), up_ne (show i ≠ 4 from h.2.1), up_ne (show i ≠ 2 from h.1)]
section
variable {T P : Value} {x1 x2 x3 n1 y1 y2 n2 : Int} {BT BZ : Obj} {cA cB : Nat → Int} {lc : List Int} {w0 wS w w' : World} {gc g2 g i : Nat} {f : Nat → Bool} {s : Nat → Value} {b : Nat → Nat}
theorem DW.keepRow (h : DW T P x1 x2 x3 n1 y1 y2 n2 BT BZ cA cB lc w0 wS gc g2 f s b w) {j : Nat} (hj : j ∈ wR) (e : f j = true) {lo hi : Nat} (hc : Ch w w' lo hi) (hl : hi ≤ lo ∨ hi ≤ wS.heap.size) : wS.heap.size ≤ b j ∧ w'.heap[b j]? = some (wB x1 x2 x3 y1 y2 j) :=
  ⟨(h.row j hj e).1, blk_ch hc (h.row j hj e).2 (by have := (h.row j hj e).1; omega)⟩
theorem DW.val_up (h : DW T P x1 x2 x3 n1 y1 y2 n2 BT BZ cA cB lc w0 wS gc g2 f s b w) {v : Value} {b' : Nat → Nat} (hv : v = wV T P x1 x2 x3 n1 y1 y2 n2 b' i) (hV : ∀ j, j < 26 → j ≠ 22 → i ≠ j → f j = true → wV T P x1 x2 x3 n1 y1 y2 n2 b' j = wV T P x1 x2 x3 n1 y1 y2 n2 b j) :
    ∀ j, j < 26 → j ≠ 22 → us s i v j = if up f i j = true then wV T P x1 x2 x3 n1 y1 y2 n2 b' j else wU j := by
  intro j hj h22
  by_cases e : i = j
  · subst e; simp [us, up, hv]
  · rw [us_ne e, up_ne e, h.val j hj h22]
    by_cases q : f j = true
    · rw [if_pos q, if_pos q, hV j hj h22 e q]
    · rw [if_neg q, if_neg q]
theorem DW.dep_up (h : DW T P x1 x2 x3 n1 y1 y2 n2 BT BZ cA cB lc w0 wS gc g2 f s b w) (hd : ∀ j ∈ wD i, f j = true) : ∀ q, up f i q = true → ∀ j ∈ wD q, up f i j = true := by
  intro q hq j hj
  by_cases e : i = q
  · subst e; exact up_true (hd j hj)
  · rw [up_ne e] at hq; exact up_true (h.dep q hq j hj)
theorem DW.pure (h : DW T P x1 x2 x3 n1 y1 y2 n2 BT BZ cA cB lc w0 wS gc g2 f s b w) (hr : i ∉ wR) (hc : i ∉ wC) (h22 : i ≠ 22) (hd : ∀ j ∈ wD i, f j = true) : DW T P x1 x2 x3 n1 y1 y2 n2 BT BZ cA cB lc w0 wS gc g2 (up f i) (us s i (wV T P x1 x2 x3 n1 y1 y2 n2 b i)) b w :=
  ⟨h.val_up rfl (fun _ _ _ _ _ => rfl), fun j hj e => h.row j hj (by rwa [up_ne (i := i) (j := j) (fun q => hr (by subst q; exact hj))] at e), h.dep_up hd, by rw [cnt_up hc]; exact h.cur, h.bel, h.os, h.tape, h.out, h.size, h.blk, by rw [up_ne h22]; exact h.two⟩
theorem DW.lit (h : DW T P x1 x2 x3 n1 y1 y2 n2 BT BZ cA cB lc w0 wS gc g2 f s b w) (hr : i ∈ wR) (hf : f i = false) (hd : ∀ j ∈ wD i, f j = true) (hg : g = w.heap.size) (hbx : w'.heap[g]? = some (wB x1 x2 x3 y1 y2 i)) (hb : Below w.heap.size w w') :
    DW T P x1 x2 x3 n1 y1 y2 n2 BT BZ cA cB lc w0 wS gc g2 (up f i) (us s i (wV T P x1 x2 x3 n1 y1 y2 n2 (ub b i g) i)) (ub b i g) w' := by
  have hc := Ch.of_below hb
  have no : ∀ j, i ∈ wD j → f j = false := fun j hj => by
    cases e : f j with
    | false => rfl
    | true => have := h.dep j e i hj; rw [hf] at this; cases this
  have hV : ∀ j, j < 26 → j ≠ 22 → i ≠ j → f j = true → wV T P x1 x2 x3 n1 y1 y2 n2 (ub b i g) j = wV T P x1 x2 x3 n1 y1 y2 n2 b j := by
    intro j hj _ hne hfj
    have n11 : i = 7 → f 11 = false := fun e => no 11 (by subst e; decide)
    have n23 : i = 7 → f 23 = false := fun e => by
      cases q : f 23 with
      | false => rfl
      | true => have := h.dep 23 q 11 (by decide); rw [n11 e] at this; cases this
    have n24 : i = 12 → f 24 = false := fun e => no 24 (by subst e; decide)
    have n21 : i = 17 → f 21 = false := fun e => no 21 (by subst e; decide)
    have n25 : i = 17 → f 25 = false := fun e => by
      cases q : f 25 with
      | false => rfl
      | true => have := h.dep 25 q 21 (by decide); rw [n21 e] at this; cases this
    simp only [wR, List.mem_cons, List.not_mem_nil, or_false] at hr
    obtain rfl | rfl | rfl | rfl | rfl | rfl | rfl | rfl | rfl | rfl | hj : j = 7 ∨ j = 9 ∨ j = 11 ∨ j = 12 ∨ j = 17 ∨ j = 19 ∨ j = 21 ∨ j = 23 ∨ j = 24 ∨ j = 25 ∨ (j ∉ [7, 9, 11, 12, 17, 19, 21, 23, 24, 25]) := by simp; omega
    · simp only [wV, ub_ne hne]
    · simp only [wV, ub_ne hne]
    · have : i ≠ 7 := fun e => by rw [n11 e] at hfj; cases hfj
      simp only [wV, ub_ne this]
    · simp only [wV, ub_ne hne]
    · simp only [wV, ub_ne hne]
    · simp only [wV, ub_ne hne]
    · have : i ≠ 17 := fun e => by rw [n21 e] at hfj; cases hfj
      simp only [wV, ub_ne this]
    · have : i ≠ 7 := fun e => by rw [n23 e] at hfj; cases hfj
      simp only [wV, ub_ne this]
    · have : i ≠ 12 := fun e => by rw [n24 e] at hfj; cases hfj
      simp only [wV, ub_ne this]
    · have : i ≠ 17 := fun e => by rw [n25 e] at hfj; cases hfj
      simp only [wV, ub_ne this]
    · simp only [List.mem_cons, List.not_mem_nil, or_false, not_or] at hj
      unfold wV
      split <;> first | rfl | omega
  have h22 : i ≠ 22 := fun e => by subst e; exact absurd hr (by decide)
  have hcc : i ∉ wC := by
    simp only [wR, wC, List.mem_cons, List.not_mem_nil, or_false] at hr ⊢
    omega
  obtain ⟨A0, c0, q1, q2, q3⟩ := h.cur
  refine ⟨h.val_up rfl hV, fun j hj e => ?_, h.dep_up hd, by rw [cnt_up hcc]; exact ⟨A0, c0, blk_ch hc q1 (Or.inr (Nat.zero_le _)), q2, q3⟩, below_ch h.bel hc (Or.inl (Nat.le_refl _)), hc.os.trans h.os, hc.tape.trans h.tape, hc.output.trans h.out, Nat.le_trans h.size hc.size, fun k hk h1 h2 => (hc.block k (Nat.lt_of_lt_of_le hk h.size) (Or.inr (Nat.zero_le _))).trans (h.blk k hk h1 h2), by rw [up_ne h22]; exact blk_ch hc h.two (Or.inr (Nat.zero_le _))⟩
  by_cases e2 : i = j
  · subst e2
    have : ub b i g i = g := if_pos rfl
    rw [this, hg]
    exact ⟨h.size, hg ▸ hbx⟩
  · rw [up_ne e2] at e
    rw [ub_ne e2]
    exact h.keepRow hj e hc (Or.inl (Nat.le_refl _))
theorem DW.call (h : DW T P x1 x2 x3 n1 y1 y2 n2 BT BZ cA cB lc w0 wS gc g2 f s b w) (hi : i ∈ wC) (hd : ∀ j ∈ wD i, f j = true) (hgc : gc < wS.heap.size) (h2 : g2 ≠ gc) (hcur : IsS77 w0 w' gc lc (cA (cnt (up f i))) (cB (cnt (up f i)))) (hB : Below w0.heap.size w0 w') (hk : KeepBut w w' gc none) :
    DW T P x1 x2 x3 n1 y1 y2 n2 BT BZ cA cB lc w0 wS gc g2 (up f i) (us s i (wV T P x1 x2 x3 n1 y1 y2 n2 b i)) b w' := by
  have hc := k_ch hk h.bel hB
  have h22 : i ≠ 22 := fun e => by subst e; exact absurd hi (by decide)
  have hr : i ∉ wR := by
    simp only [wR, wC, List.mem_cons, List.not_mem_nil, or_false] at hi ⊢
    omega
  exact ⟨h.val_up rfl (fun _ _ _ _ _ => rfl), fun j hj e => h.keepRow hj (by rwa [up_ne (i := i) (j := j) (fun q => hr (by subst q; exact hj))] at e) hc (Or.inr hgc), h.dep_up hd, hcur, hB, hc.os.trans h.os, hc.tape.trans h.tape, hc.output.trans h.out, Nat.le_trans h.size hc.size,
    fun k hk h1 h3 => (hc.block k (Nat.lt_of_lt_of_le hk h.size) (by omega)).trans (h.blk k hk h1 h3), by rw [up_ne h22]; exact blk_ch hc h.two (by omega)⟩
theorem DW.store (h : DW T P x1 x2 x3 n1 y1 y2 n2 BT BZ cA cB lc w0 wS gc g2 f s b w) (hd : ∀ j ∈ wD 22, f j = true) (hg2 : g2 < wS.heap.size) (h2 : g2 ≠ gc) (hbx : w'.heap[g2]? = some BT) (hc : Ch w w' g2 (g2 + 1)) (hb0 : w0.heap.size ≤ g2) : DW T P x1 x2 x3 n1 y1 y2 n2 BT BZ cA cB lc w0 wS gc g2 (up f 22) s b w' := by
  obtain ⟨A0, c0, q1, q2, q3⟩ := h.cur
  refine ⟨fun j hj h22 => ?_, fun j hj e => h.keepRow hj (by rwa [up_ne (i := 22) (j := j) (fun q => by subst q; exact absurd hj (by decide))] at e) hc (Or.inr hg2), h.dep_up hd, by rw [cnt_up (by decide)]; exact ⟨A0, c0, blk_ch hc q1 (by omega), q2, q3⟩, below_ch h.bel hc (Or.inr hb0), hc.os.trans h.os, hc.tape.trans h.tape, hc.output.trans h.out, Nat.le_trans h.size hc.size,
    fun k hk h1 h3 => (hc.block k (Nat.lt_of_lt_of_le hk h.size) (by omega)).trans (h.blk k hk h1 h3), ?_⟩
  · rw [up_ne (Ne.symm h22)]; exact h.val j hj h22
  · rw [if_pos (show up f 22 22 = true from if_pos rfl)]; exact hbx
theorem DW.at2 (h : DW T P x1 x2 x3 n1 y1 y2 n2 BT BZ cA cB lc w0 wS gc g2 f s b w) (hf : f 2 = false) : cnt f = 0 ∧ cnt (up f 2) = 1 := by
  have e4 : f 4 = false := by
    cases e : f 4 with
    | false => rfl
    | true => have := h.dep 4 e 2 (by decide); rw [hf] at this; cases this
  have e6 : f 6 = false := by
    cases e : f 6 with
    | false => rfl
    | true => have := h.dep 6 e 4 (by decide); rw [e4] at this; cases this
  have e10 : f 10 = false := by
    cases e : f 10 with
    | false => rfl
    | true => have := h.dep 10 e 6 (by decide); rw [e6] at this; cases this
  have e14 : f 14 = false := by
    cases e : f 14 with
    | false => rfl
    | true => have := h.dep 14 e 10 (by decide); rw [e10] at this; cases this
  have e16 : f 16 = false := by
    cases e : f 16 with
    | false => rfl
    | true => have := h.dep 16 e 14 (by decide); rw [e14] at this; cases this
  have e20 : f 20 = false := by
    cases e : f 20 with
    | false => rfl
    | true => have := h.dep 20 e 16 (by decide); rw [e16] at this; cases this
  constructor
  · unfold cnt; simp [hf, e4, e6, e10, e14, e16, e20]
  · unfold cnt; simp [up, hf, e4, e6, e10, e14, e16, e20]
theorem DW.at4 (h : DW T P x1 x2 x3 n1 y1 y2 n2 BT BZ cA cB lc w0 wS gc g2 f s b w) (hf : f 4 = false) (h2 : f 2 = true) : cnt f = 1 ∧ cnt (up f 4) = 2 := by
  have e6 : f 6 = false := by
    cases e : f 6 with
    | false => rfl
    | true => have := h.dep 6 e 4 (by decide); rw [hf] at this; cases this
  have e10 : f 10 = false := by
    cases e : f 10 with
    | false => rfl
    | true => have := h.dep 10 e 6 (by decide); rw [e6] at this; cases this
  have e14 : f 14 = false := by
    cases e : f 14 with
    | false => rfl
    | true => have := h.dep 14 e 10 (by decide); rw [e10] at this; cases this
  have e16 : f 16 = false := by
    cases e : f 16 with
    | false => rfl
    | true => have := h.dep 16 e 14 (by decide); rw [e14] at this; cases this
  have e20 : f 20 = false := by
    cases e : f 20 with
    | false => rfl
    | true => have := h.dep 20 e 16 (by decide); rw [e16] at this; cases this
  constructor
  · unfold cnt; simp [hf, e6, e10, e14, e16, e20, h2]
  · unfold cnt; simp [up, hf, e6, e10, e14, e16, e20, h2]
theorem DW.at6 (h : DW T P x1 x2 x3 n1 y1 y2 n2 BT BZ cA cB lc w0 wS gc g2 f s b w) (hf : f 6 = false) (h4 : f 4 = true) : cnt f = 2 ∧ cnt (up f 6) = 3 := by
  have e10 : f 10 = false := by
    cases e : f 10 with
    | false => rfl
    | true => have := h.dep 10 e 6 (by decide); rw [hf] at this; cases this
  have e14 : f 14 = false := by
    cases e : f 14 with
    | false => rfl
    | true => have := h.dep 14 e 10 (by decide); rw [e10] at this; cases this
  have e16 : f 16 = false := by
    cases e : f 16 with
    | false => rfl
    | true => have := h.dep 16 e 14 (by decide); rw [e14] at this; cases this
  have e20 : f 20 = false := by
    cases e : f 20 with
    | false => rfl
    | true => have := h.dep 20 e 16 (by decide); rw [e16] at this; cases this
  constructor
  · unfold cnt; simp [hf, e10, e14, e16, e20, h4]
  · unfold cnt; simp [up, hf, e10, e14, e16, e20, h4]
theorem DW.at10 (h : DW T P x1 x2 x3 n1 y1 y2 n2 BT BZ cA cB lc w0 wS gc g2 f s b w) (hf : f 10 = false) (h6 : f 6 = true) : cnt f = 3 ∧ cnt (up f 10) = 4 := by
  have e14 : f 14 = false := by
    cases e : f 14 with
    | false => rfl
    | true => have := h.dep 14 e 10 (by decide); rw [hf] at this; cases this
  have e16 : f 16 = false := by
    cases e : f 16 with
    | false => rfl
    | true => have := h.dep 16 e 14 (by decide); rw [e14] at this; cases this
  have e20 : f 20 = false := by
    cases e : f 20 with
    | false => rfl
    | true => have := h.dep 20 e 16 (by decide); rw [e16] at this; cases this
  constructor
  · unfold cnt; simp [hf, e14, e16, e20, h6]
  · unfold cnt; simp [up, hf, e14, e16, e20, h6]
theorem DW.at14 (h : DW T P x1 x2 x3 n1 y1 y2 n2 BT BZ cA cB lc w0 wS gc g2 f s b w) (hf : f 14 = false) (h10 : f 10 = true) : cnt f = 4 ∧ cnt (up f 14) = 5 := by
  have e16 : f 16 = false := by
    cases e : f 16 with
    | false => rfl
    | true => have := h.dep 16 e 14 (by decide); rw [hf] at this; cases this
  have e20 : f 20 = false := by
    cases e : f 20 with
    | false => rfl
    | true => have := h.dep 20 e 16 (by decide); rw [e16] at this; cases this
  constructor
  · unfold cnt; simp [hf, e16, e20, h10]
  · unfold cnt; simp [up, hf, e16, e20, h10]
theorem DW.at16 (h : DW T P x1 x2 x3 n1 y1 y2 n2 BT BZ cA cB lc w0 wS gc g2 f s b w) (hf : f 16 = false) (h14 : f 14 = true) : cnt f = 5 ∧ cnt (up f 16) = 6 := by
  have e20 : f 20 = false := by
    cases e : f 20 with
    | false => rfl
    | true => have := h.dep 20 e 16 (by decide); rw [hf] at this; cases this
  constructor
  · unfold cnt; simp [hf, e20, h14]
  · unfold cnt; simp [up, hf, e20, h14]
theorem DW.at20 (h : DW T P x1 x2 x3 n1 y1 y2 n2 BT BZ cA cB lc w0 wS gc g2 f s b w) (hf : f 20 = false) (h16 : f 16 = true) : cnt f = 6 ∧ cnt (up f 20) = 7 := by
  constructor
  · unfold cnt; simp [hf, h16]
  · unfold cnt; simp [up, hf, h16]
end
theorem lit2_ {P : Program} {ops : Array Oper} {Q : Exit → Act → World → Prop} {oi : Oper} {a a1 : Act} {w : World} {K : Act → World → Prop} (e : a = a1) (h : a = a1 → if Region.wanted oi (yielded ops a1.tmps) = true then Oper.wp P oi a1 w K Q else K (a1.put oi.dst undef) w) :
    if Region.wanted oi (yielded ops a.tmps) = true then Oper.wp P oi a w K Q else K (a.put oi.dst undef) w := by
  subst e
  exact h rfl
def ns45 (s : Nat → Value) : List (Tmp × Value) := [(16, s 0), (17, s 1), (18, s 2), (19, s 3), (20, s 4), (21, s 5), (22, s 6), (23, s 7), (24, s 8), (25, s 9), (26, s 10), (27, s 11), (28, s 12), (29, s 13), (30, s 14), (31, s 15), (32, s 16), (33, s 17), (34, s 18), (35, s 19), (36, s 20), (37, s 21), (3, s 23), (4, s 24), (5, s 25)]
theorem getD_rep (n i : Nat) : (Array.replicate n false).getD i false = false := by
  simp [Array.getD, Array.getElem_replicate]
theorem getD_rept {n i : Nat} (h : i < n) : (Array.replicate n true).getD i false = true := by
  simp [Array.getD, h]
theorem DW.of_true {T P : Value} {x1 x2 x3 n1 y1 y2 n2 : Int} {BT BZ : Obj} {cA cB : Nat → Int} {lc : List Int} {w0 wS w : World} {gc g2 : Nat} {f : Nat → Bool} {s : Nat → Value} {b : Nat → Nat} (h : DW T P x1 x2 x3 n1 y1 y2 n2 BT BZ cA cB lc w0 wS gc g2 f s b w) (i : Nat) (hf : f i = true) (hi : i < 26 := by decide) (h2 : i ≠ 22 := by decide) : s i = wV T P x1 x2 x3 n1 y1 y2 n2 b i :=
  (h.val i hi h2).trans (if_pos hf)
theorem slice_yields {P : Program} {oi : Oper} {a : Act} {W : World} (t e : TypeId) (x y : Operand) (kh : IntKind) {i : TypeInfo} (ht : P.underlying t = some (.slice e)) (hi : P.info? e = some i) (ho : oi.op = .slice t x none (some y) none) (A : Option Addr) (n c : Nat) (j : Int) (hx : a.eval x = .slice A n c) (hy : a.eval y = .int kh j) (h0 : 0 ≤ j) (hm : j ≤ n) (hc : n ≤ c) :
    (execOp a.eval oi).run P W = .ok (.value (.slice A j.toNat c)) W := by
  have h := cut_to t e kh ht hi A n c j h0 hm hc W
  unfold execOp
  simp only [ho, hx, hy, Option.map_some, Option.map_none, Instr.sliceAt, Sem.run_bind, run_underlying ht, Result.andThen_ok, Sem.run_pure, h]
section
variable {P : Program} {ops : Array Oper} {Q : Exit → Act → World → Prop} {oi : Oper} {N : Option Tmp} {a a1 : Act} {w w1 : World} {K : Act → World → Prop}
theorem lit2A_ (e : a = a1) (h : a = a1 → Aside0 (if Region.wanted oi (yielded ops a1.tmps) = true then Oper.wp P oi a1 w K Q else K (a1.put oi.dst undef) w)) :
    Aside0 (if Region.wanted oi (yielded ops a.tmps) = true then Oper.wp P oi a w K Q else K (a.put oi.dst undef) w) := by
  subst e
  exact h rfl
theorem valueA_ {v : Value} (hw : Region.wanted oi (yielded ops a.tmps) = true) (hN : oi.dst = N) (hrun : (execOp a.eval oi).run P w = .ok (.value v) w1) (h : K (a.put N v) w1) :
    Aside0 (if Region.wanted oi (yielded ops a.tmps) = true then Oper.wp P oi a w K Q else K (a.put N undef) w) := ⟨value_ hw hN hrun h⟩
theorem storeA_ (hw : Region.wanted oi (yielded ops a.tmps) = true) (hN : oi.dst = none) (t : TypeId) (p x : Operand) (ho : oi.op = .store t p x) {g : Nat} {t' : TypeId} {old cs : Array Value}
    (haddr : a.eval p = .pointer (some ⟨g, 0, none⟩)) (hx : a.eval x = .agg cs) (hb : w.heap[g]? = some (.cells old t' (0, 0))) (ht : (P.info? t).map (·.size) = some cs.size) (hsz : old.size = cs.size)
    (h1 : ∀ q ∈ cs.toList, q.oneCell' = true) (h : ∀ w1, w1.heap[g]? = some (.cells cs t' (0, 0)) → Ch w w1 g (g + 1) → K a w1) :
    Aside0 (if Region.wanted oi (yielded ops a.tmps) = true then Oper.wp P oi a w K Q else K (a.put none undef) w) := ⟨store_struct_step hw hN t p x ho haddr hx hb ht hsz h1 h⟩
end
end Go.Proofs.Ytcpnhlhigpgonaa.PFnPutIn
