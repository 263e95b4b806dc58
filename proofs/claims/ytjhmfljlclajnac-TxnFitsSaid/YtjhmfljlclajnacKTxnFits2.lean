/- Rows of elements: what an insertion and a deletion leave. No program in sight. The reference's small walks on copies. The walks of txn: find, has, copies. Owned transactions, and lists of them. No program in sight. The walk of CopyTxn. The walks of package slices: Clone, Index, Contains, IndexFunc. Rows of elements: copies onto owned rows, for the walk. No program in sight. -/
import Derived.Test.YtjhmfljlclajnacKTxnFits1
import Derived.Test.YtjhmfljlclajnacKTxnFits0
import Derived.Test.YtjhmfljlclajnacChecked
import Derived.Deep.QuietTactic
import Derived.BigQuiet
import Derived.Deep.LoopGhost
namespace Wb
open Go Go.RowKit
set_option linter.unusedVariables false
set_option linter.unusedSimpArgs false
section
variable {α : Type} {f : α → List Value} {base : Nat} {e : TypeId} {c : Nat} {w w' : World} {v : Value} {l : List α}
theorem flat_take (hf : ∀ x, (f x).length = c) : ∀ (l : List α) (i : Nat), i ≤ l.length → (l.flatMap f).take (i * c) = (l.take i).flatMap f
  | l, 0, _ => by simp
  | [], i + 1, h => by simp at h
  | x :: l, i + 1, h => by
    rw [List.flatMap_cons, List.take_succ_cons, List.flatMap_cons, List.take_append, List.take_of_length_le (by rw [hf, Nat.succ_mul]; omega), hf, show (i + 1) * c - c = i * c by rw [Nat.succ_mul]; omega, flat_take hf l i (by simpa using h)]
theorem flat_dropLen (hf : ∀ x, (f x).length = c) (l : List α) (i : Nat) : ((l.drop i).flatMap f).length = (l.length - i) * c := by
  rw [flat_len hf, List.length_drop]
theorem mul_split {n i c : Nat} (h : i ≤ n) : i * c + (n - i) * c = n * c := by rw [← Nat.add_mul]; congr 1; omega
/-- There is room: what stood from i on goes on by one place, then x is written. -/
theorem ins_room (hf : ∀ x, (f x).length = c) (L : List Value) (l : List α) (i cap : Nat) (x : α) (hL : L.length = cap * c) (ht : L.take (l.length * c) = l.flatMap f) (hi : i ≤ l.length) (hc : l.length + 1 ≤ cap) {L1 L2 : List Value}
    (h1 : L1 = L.take ((i + 1) * c) ++ (l.drop i).flatMap f ++ L.drop ((i + 1) * c + ((l.drop i).flatMap f).length)) (h2 : L2 = L1.take (i * c) ++ f x ++ L1.drop (i * c + (f x).length)) :
    L2.length = cap * c ∧ L2.take ((l.length + 1) * c) = (l.take i ++ x :: l.drop i).flatMap f := by
  have hx := hf x
  have hd := flat_dropLen hf l i
  have hm := mul_split (c := c) hi
  have hm2 : (l.length + 1) * c ≤ cap * c := Nat.mul_le_mul_right _ hc
  rw [Nat.succ_mul] at hm2
  have hsucc : (i + 1) * c = i * c + (f x).length := by rw [hx, Nat.succ_mul]
  rw [hsucc] at h1
  subst h1
  rw [seg2 L (i * c) (f x) ((l.drop i).flatMap f) (by rw [hx, hd, hL]; omega)] at h2
  subst h2
  have h3 : L.take (i * c) = (l.take i).flatMap f := by
    rw [← flat_take hf l i hi, ← ht, List.take_take, Nat.min_eq_left (by rw [← hm]; omega)]
  have h4 := flat_len hf (l.take i)
  rw [List.length_take, Nat.min_eq_left hi] at h4
  rw [h3]
  refine ⟨?_, ?_⟩
  · simp only [List.length_append, List.length_drop, h4, hx, hd, hL]
    omega
  · rw [List.flatMap_append, List.flatMap_cons, ← List.append_assoc]
    have h5 : ((l.take i).flatMap f ++ f x ++ (l.drop i).flatMap f).length = (l.length + 1) * c := by
      simp only [List.length_append, h4, hx, hd, Nat.succ_mul]
      omega
    rw [← h5]
    exact List.take_left
/-- There is none: a new row; x is written, then what stood from i on. -/
theorem ins_grow (hf : ∀ x, (f x).length = c) (Z : List Value) (l : List α) (i cap : Nat) (x : α) (hZ : Z.length = (cap - i) * c) (hi : i ≤ l.length) (hc : l.length + 1 ≤ cap) {L L1 L2 : List Value} (h0 : L = (l.take i).flatMap f ++ Z)
    (h1 : L1 = L.take (i * c) ++ f x ++ L.drop (i * c + (f x).length)) (h2 : L2 = L1.take ((i + 1) * c) ++ (l.drop i).flatMap f ++ L1.drop ((i + 1) * c + ((l.drop i).flatMap f).length)) :
    L2.length = cap * c ∧ L2.take ((l.length + 1) * c) = (l.take i ++ x :: l.drop i).flatMap f := by
  have hx := hf x
  have hd := flat_dropLen hf l i
  have hm := mul_split (c := c) hi
  have hm2 : (l.length + 1) * c ≤ cap * c := Nat.mul_le_mul_right _ hc
  rw [Nat.succ_mul] at hm2
  have hm3 := mul_split (c := c) (n := cap) (i := i) (by omega)
  have hsucc : (i + 1) * c = i * c + (f x).length := by rw [hx, Nat.succ_mul]
  have h4 := flat_len hf (l.take i)
  rw [List.length_take, Nat.min_eq_left hi] at h4
  have hL : L.length = cap * c := by rw [h0, List.length_append, h4, hZ]; exact hm3
  rw [hsucc] at h2
  subst h1
  rw [seg3 L (i * c) (f x) ((l.drop i).flatMap f) (by rw [hx, hd, hL]; omega)] at h2
  subst h2
  have h3 : L.take (i * c) = (l.take i).flatMap f := by
    rw [h0, ← h4]
    exact List.take_left
  rw [h3]
  refine ⟨?_, ?_⟩
  · simp only [List.length_append, List.length_drop, h4, hx, hd, hL]
    omega
  · rw [List.flatMap_append, List.flatMap_cons, ← List.append_assoc]
    have h5 : ((l.take i).flatMap f ++ f x ++ (l.drop i).flatMap f).length = (l.length + 1) * c := by
      simp only [List.length_append, h4, hx, hd, Nat.succ_mul]
      omega
    rw [← h5]
    exact List.take_left
/-- The cells of a row from element i on. -/
theorem row_from (hf : ∀ x, (f x).length = c) {g : Nat} {cur : Array Value} (hk : Blk w g cur e) (ht : cur.toList.take (l.length * c) = l.flatMap f) {i : Nat} (hi : i ≤ l.length) :
    ∀ j u, ((l.drop i).flatMap f)[j]? = some u → w.cell? ⟨g, i * c + j, none⟩ = some u := by
  intro j u hj
  have hd := flat_dropLen hf l i
  have hm := mul_split (c := c) hi
  have hlt : j < ((l.drop i).flatMap f).length := (List.getElem?_eq_some_iff.1 hj).1
  have h4 := flat_len hf (l.take i)
  rw [List.length_take, Nat.min_eq_left hi] at h4
  have h5 : (l.flatMap f)[i * c + j]? = some u := by
    conv => lhs; rw [← List.take_append_drop i l]
    rw [List.flatMap_append, List.getElem?_append_right (by omega), h4, Nat.add_sub_cancel_left]
    exact hj
  rw [← ht, List.getElem?_take, if_pos (by omega)] at h5
  rw [hk.cell, ← h5]
  simp
/-- What is cut off behind element i may be written at will. -/
theorem Own.cut {g cap : Nat} (hF : Flat f c) (h : Own f base e c w (.slice (some ⟨g, 0, none⟩) l.length cap) l) {i : Nat} (hi : i ≤ l.length) (zs : List Value) (hz : i * c + zs.length ≤ l.length * c) :
    Own f base e c (w.setCells g (i * c) zs) (.slice (some ⟨g, 0, none⟩) i cap) (l.take i) := by
  obtain ⟨h1, h2⟩ := h
  rcases h2 with ⟨h3, _⟩ | ⟨g', cap', cur, hv, hb, hg, hn, hc, hs, ht⟩
  · exact absurd h3 (by simp)
  · simp only [Value.slice.injEq, Option.some.injEq, Addr.mk.injEq, true_and, and_true] at hv
    obtain ⟨rfl, rfl⟩ := hv
    have hle : l.length * c ≤ cap * c := Nat.mul_le_mul_right _ hn
    have hk := Blk.sets (t := e) zs (i * c) w cur hg (by rw [hs]; omega)
    have hil : (l.take i).length = i := by rw [List.length_take]; omega
    have hm := mul_split (c := c) hi
    have := Own.ofRow (l := l.take i) (cap := cap) hF hb hk (by rw [hil]; omega) hc (by
      simp only [List.size_toArray, List.length_append, List.length_take, List.length_drop, Array.length_toList, hs]
      omega) (by
      rw [hil]
      show ((cur.toList.take (i * c) ++ zs) ++ _).take (i * c) = _
      rw [List.append_assoc, List.take_append_of_le_length (by rw [List.length_take, Array.length_toList, hs]; omega), List.take_take, Nat.min_self, ← flat_take hF.len l i hi, ← ht, List.take_take, Nat.min_eq_left (by omega)])
    rw [hil] at this
    exact this
/-! ### Striking elements out, in place -/
/-- j elements are looked at, i of them kept; the row holds lk. -/
def KeptI (p : α → Bool) (l : List α) (j i : Nat) (lk : List α) : Prop :=
  lk.length = l.length ∧ i = ((l.take j).filter p).length ∧ lk.take i = (l.take j).filter p ∧ lk.drop j = l.drop j
theorem KeptI.le {p : α → Bool} {j i : Nat} {lk : List α} (h : KeptI p l j i lk) : i ≤ j := by
  rw [h.2.1]
  exact Nat.le_trans (List.length_filter_le _ _) (by rw [List.length_take]; exact Nat.min_le_left _ _)
theorem KeptI.get {p : α → Bool} {j i : Nat} {lk : List α} (h : KeptI p l j i lk) (hj : j < l.length) : ∃ hk : j < lk.length, lk[j] = l[j] := by
  have hk : j < lk.length := by rw [h.1]; exact hj
  refine ⟨hk, ?_⟩
  have h1 := congrArg (fun x => x[0]?) h.2.2.2
  simp only [List.getElem?_drop, Nat.add_zero] at h1
  rw [List.getElem?_eq_getElem hk, List.getElem?_eq_getElem hj, Option.some.injEq] at h1
  exact h1
theorem KeptI.keep {p : α → Bool} {j i : Nat} {lk : List α} (h : KeptI p l j i lk) (hj : j < l.length) (hp : p l[j] = true) : KeptI p l (j + 1) (i + 1) (lk.set i l[j]) := by
  have hij := h.le
  obtain ⟨h1, h2, h3, h4⟩ := h
  have h5 : (l.take (j + 1)).filter p = (l.take j).filter p ++ [l[j]] := by rw [List.take_succ_eq_append_getElem hj, List.filter_append, List.filter_cons, if_pos hp, List.filter_nil]
  refine ⟨by simpa using h1, by rw [h5, List.length_append, ← h2]; rfl, ?_, ?_⟩
  · rw [h5, ← h3, List.take_succ_eq_append_getElem (by rw [List.length_set, h1]; omega), List.getElem_set_self]
    congr 1
    rw [List.take_set_of_le (by omega)]
  · rw [List.drop_set_of_lt (by omega), ← List.drop_drop, h4, List.drop_drop]
theorem KeptI.skip {p : α → Bool} {j i : Nat} {lk : List α} (h : KeptI p l j i lk) (hj : j < l.length) (hp : p l[j] = false) : KeptI p l (j + 1) i lk := by
  obtain ⟨h1, h2, h3, h4⟩ := h
  have h5 : (l.take (j + 1)).filter p = (l.take j).filter p := by rw [List.take_succ_eq_append_getElem hj, List.filter_append, List.filter_cons, if_neg (by rw [hp]; simp), List.filter_nil, List.append_nil]
  exact ⟨h1, by rw [h5, ← h2], by rw [h5, ← h3], by rw [← List.drop_drop, h4, List.drop_drop]⟩
theorem KeptI.start {p : α → Bool} {k : Nat} (hk : k < l.length) (h : ∀ i (hi : i < l.length), i < k → p l[i] = true) (hp : p l[k] = false) : KeptI p l (k + 1) k l := by
  have h5 : (l.take k).filter p = l.take k := List.filter_eq_self.2 (fun x hx => by
    obtain ⟨i, hi, rfl⟩ := List.getElem_of_mem hx
    rw [List.length_take] at hi
    rw [List.getElem_take]
    exact h i (by omega) (by omega))
  refine KeptI.skip ⟨rfl, ?_, ?_, rfl⟩ hk hp
  · rw [h5, List.length_take]; omega
  · rw [h5]
theorem KeptI.done {p : α → Bool} {j i : Nat} {lk : List α} (h : KeptI p l j i lk) (hj : l.length ≤ j) : lk.take i = l.filter p ∧ i = (l.filter p).length := by
  obtain ⟨h1, h2, h3, h4⟩ := h
  rw [List.take_of_length_le hj] at h2 h3
  exact ⟨h3, h2⟩
theorem filter_all {p : α → Bool} (h : ∀ i (hi : i < l.length), p l[i] = true) : l.filter p = l := List.filter_eq_self.2 (fun x hx => by
  obtain ⟨i, hi, rfl⟩ := List.getElem_of_mem hx
  exact h i hi)
end
end Wb

namespace Go.Proofs.Ytjhmfljlclajnac
open Go.RowKit Wb
set_option linter.unusedVariables false
set_option linter.unusedSimpArgs false
set_option maxRecDepth 100000
set_option maxHeartbeats 2000000
theorem elemCpy : Elem Try.prog 22 68 2 24 := Elem.mk' (z := .agg #[.int .i64 0, .string ⟨#[]⟩]) Try.underlying22 (by kernel_rfl) rfl

theorem ref_isBlock (n : Int) (w : World) : Calls Try.prog 31 #[.int .i64 n] w fun e w' => e = .returned (.bool (isBlk n)) ∧ w = w' := by
  by_cases h0 : 0 ≤ n
  · by_cases h1 : n < 12
    · have hv : isBlk n = true := decide_eq_true ⟨h0, h1⟩
      rw [hv]
      clear hv
      go_enter Try.func31, Try.ntmps31
      go_wp2
      go_ret
      exact ⟨rfl, rfl⟩
    · have hv : isBlk n = false := decide_eq_false (fun h => h1 h.2)
      rw [hv]
      clear hv
      go_enter Try.func31, Try.ntmps31
      go_wp2
      go_ret
      exact ⟨rfl, rfl⟩
  · have hv : isBlk n = false := decide_eq_false (fun h => h0 h.1)
    rw [hv]
    clear hv
    go_enter Try.func31, Try.ntmps31
    go_wp2
    go_ret
    exact ⟨rfl, rfl⟩

theorem ref_among (l : List Int) (b : Int) (v : Value) (w : World) (h : RL intC w v l) (hl : l.length ≤ 17592186044160) :
    Calls Try.prog 33 #[v, .int .i64 b] w fun e w' => e = .returned (.bool (inI l b)) ∧ w = w' := by
  obtain ⟨a, cap, rfl, _⟩ := h.form
  have hst := fun k (hk : k < l.length) => inI_step (l := l) (b := b) hk
  have hft := fun k (hk : ¬ k < l.length) => inI_full (l := l) (b := b) hk
  have hht := fun k (hk : k < l.length) (hb : l[k] = b) => inI_hit hk hb
  replace h := hid h; replace hst := hid hst; replace hft := hid hft; replace hht := hid hht
  go_enter Try.func33, Try.ntmps33
  go_wp2
  go_loop [9] (fun i => ∃ k : Nat, k ≤ l.length ∧ i = .int .i64 k ∧ Hid (inI (l.take k) b = false)) (fun i => l.length - (intOf i).toNat)
  case atStart => exact ⟨0, Nat.zero_le _, rfl, hid (by simp [inI])⟩
  case round =>
    obtain ⟨k, hk, rfl, hno⟩ := hrel
    by_cases hlt : k < l.length
    · obtain ⟨b1, o1, rfl, c0⟩ := RL.at1 (fun x => .int .i64 x) (fun _ => rfl) h.out hlt
      by_cases hb : l[k] = b
      · have hv := hid (hht.out k hlt hb)
        have e1 : (l[k] == b) = true := beq_iff_eq.2 hb
        clear hb
        generalize l[k] = x at *
        go_wp2
        go_ret
        exact ⟨ret_b hv.out.symm, rfl⟩
      · have hs := hst.out k hlt
        have e1 : (l[k] == b) = false := beq_eq_false_iff_ne.2 hb
        rw [e1, hno.out] at hs
        replace hs := hid hs
        clear hb
        generalize l[k] = x at *
        go_wp2
        go_round
        case rel => exact ⟨k + 1, by omega, by go_num, hs⟩
        case measure => simp [intOf]; omega
    · have hv := hno.out
      rw [hft.out k hlt] at hv
      replace hv := hid hv
      go_wp2
      go_ret
      exact ⟨ret_b hv.out.symm, rfl⟩

theorem ref_TextOf (l : List Cpy) (b : Int) (v : Value) (w : World) (h : RL cpyC w v l) (hl : l.length ≤ 5864062014805) :
    Calls Try.prog 13 #[v, .int .i64 b] w fun e w' => e = .returned (.tuple #[.string ((getC l b).getD ⟨#[]⟩), .bool (getC l b).isSome]) ∧ Below w.heap.size w w' := by
  obtain ⟨a, cap, rfl, _⟩ := h.form
  have hst := fun k (hk : k < l.length) => hasB_step (l := l) (b := b) hk
  have hft := fun k (hk : ¬ k < l.length) => hasB_full (l := l) (b := b) hk
  have hht := fun k (hk : k < l.length) (hn : hasB (l.take k) b = false) (hb : l[k].block = b) => getC_step hk hn hb
  have hno' := fun (hn : hasB l b = false) => getC_none hn
  generalize getC l b = g at *
  replace h := hid h; replace hst := hid hst; replace hft := hid hft; replace hht := hid hht; replace hno' := hid hno'
  go_enter Try.func13, Try.ntmps13
  go_wp2
  go_loopw [7, 10] (fun _ i wr => ∃ k : Nat, k ≤ l.length ∧ i = .int .i64 k ∧ Hid (hasB (l.take k) b = false) ∧ Below w.heap.size w wr) (fun _ i _ => l.length - (intOf i).toNat)
  case atStart => exact ⟨0, Nat.zero_le _, rfl, hid (by simp [hasB]), b0 w⟩
  case round =>
    obtain ⟨k, hk, rfl, hno, nx⟩ := hrel
    by_cases hlt : k < l.length
    · obtain ⟨b1, o1, rfl, c0, c1⟩ := RL.at2 (fun x => .int .i64 x.block) (fun x => .string x.text) (fun _ => rfl) (h.out.below nx) hlt
      by_cases hb : l[k].block = b
      · have hv := hht.out k hlt hno.out hb
        have e1 : (l[k].block == b) = true := beq_iff_eq.2 hb
        clear hb hno'
        generalize l[k] = x at *
        subst hv
        go_wp2
        go_ret2
        exact ⟨by simp, bal nx _⟩
      · have hs := hst.out k hlt
        have e1 : (l[k].block == b) = false := beq_eq_false_iff_ne.2 hb
        rw [e1, hno.out] at hs
        replace hs := hid hs
        clear hb
        generalize l[k] = x at *
        go_wp2
        go_roundw
        case rel => exact ⟨k + 1, by omega, by go_num, hs, bal nx _⟩
        case measure => simp [intOf]; omega
    · have hv := hno.out
      rw [hft.out k hlt] at hv
      have hg := hno'.out hv
      subst hg
      clear hv hno'
      go_wp2
      go_ret2
      exact ⟨rfl, nx⟩

theorem ref_rest (l : List Cpy) (b : Int) (v : Value) (w : World) (h : RL cpyC w v l) (hl : l.length ≤ 1099511627776) :
    Calls Try.prog 35 #[v, .int .i64 b] w fun e w' => ∃ v', e = .returned v' ∧ Own cpyC w.heap.size 68 2 w' v' (dropC l b) ∧ Below w.heap.size w w' := by
  obtain ⟨a, cap, rfl, _⟩ := h.form
  have hst := fun k (hk : k < l.length) => dropC_step (l := l) (b := b) hk
  have hln := fun k => dropC_len (l.take k) b
  replace h := hid h; replace hst := hid hst; replace hln := hid hln
  go_enter Try.func35, Try.ntmps35
  go_wp2
  go_loopw [5, 7, 10] (fun o _ i wr => ∃ k : Nat, k ≤ l.length ∧ i = .int .i64 k ∧ Own cpyC w.heap.size 68 2 wr o (dropC (l.take k) b) ∧ Below w.heap.size w wr) (fun _ _ i _ => l.length - (intOf i).toNat)
  case atStart => exact ⟨0, Nat.zero_le _, rfl, by simpa [dropC] using Own.nil _ _ _ _ _, b0 w⟩
  case round =>
    obtain ⟨k, hk, rfl, hown, nx⟩ := hrel
    by_cases hlt : k < l.length
    · obtain ⟨b1, o1, rfl, c0, c1⟩ := RL.at2 (fun x => .int .i64 x.block) (fun x => .string x.text) (fun _ => rfl) (h.out.below nx) hlt
      have hs := hst.out k hlt
      have hl2 := hln.out k
      rw [List.length_take] at hl2
      by_cases hb : l[k].block = b
      · rw [if_pos hb] at hs
        have e1 : (l[k].block != b) = false := by rw [bne_eq_false_iff_eq]; exact hb
        replace hs := hid hs
        clear hb
        generalize l[k] = x at *
        go_wp2
        go_roundw
        case rel => exact ⟨k + 1, by omega, by go_num, by rw [hs.out]; exact hown.alloc _, bal nx _⟩
        case measure => simp [intOf]; omega
      · rw [if_neg hb] at hs
        have e1 : (l[k].block != b) = true := bne_iff_ne.2 hb
        replace hs := hid hs
        clear hb
        generalize l[k] = x at *
        generalize dropC (l.take k) b = ls at *
        have hsz := nx.size
        go_wp2_with (at_builtin; go_loud (refine wpList_push rfl _ _ _ rfl w.heap.size _ 2 24 cpyC_flat elemCpy (hown.alloc _) rfl x rfl rfl ?c1 ?c2 ?c3 ?c4))
        all_goals try (case c1 => omega)
        all_goals try (case c2 => unfold maxLen; omega)
        all_goals try (case c3 => simp; omega)
        case c4 =>
          intro v7 w7 hown7 hbel7 _
          rw [← hs.out] at hown7
          go_wp2
          go_roundw
          case rel => exact ⟨k + 1, by omega, by go_num, hown7, (bal nx _).trans hbel7⟩
          case measure => simp [intOf]; omega
    · rw [List.take_of_length_le (by omega)] at hown
      go_wp2
      go_ret
      exact ⟨_, rfl, hown, nx⟩

theorem ref_with (l : List Cpy) (b : Int) (s : ByteArray) (v : Value) (w : World) (h : RL cpyC w v l) (hl : l.length ≤ 5864062014805) :
    Calls Try.prog 34 #[v, .int .i64 b, .string s] w fun e w' => ∃ v', e = .returned v' ∧ Own cpyC w.heap.size 68 2 w' v' (withL l b s) ∧ Below w.heap.size w w' := by
  obtain ⟨a, cap, rfl, _⟩ := h.form
  have hT := fun (k : Nat) w (hh : RL cpyC w (.slice a l.length cap) l) => ref_TextOf l k _ w hh hl
  have hst := fun k => withN_step l b s k
  have hln := fun k => withN_len l b s k
  have hwk : ∀ k : Nat, withK l b s k = if (k : Int) = b then some ⟨b, s⟩ else (getC l k).map fun t => ⟨k, t⟩ := fun _ => rfl
  have hwl : withL l b s = withN l b s 12 := rfl
  have hn0 : withN l b s 0 = [] := rfl
  rw [hwl]
  replace h := hid h; replace hT := hid hT; replace hst := hid hst; replace hln := hid hln; replace hwk := hid hwk; replace hn0 := hid hn0
  clear hwl hl
  generalize hW : withN l b s = W at *
  clear hW
  go_enter Try.func34, Try.ntmps34
  go_wp2
  go_loopw [7, 11] (fun o i wr => ∃ k : Nat, k ≤ 12 ∧ i = .int .i64 k ∧ Own cpyC w.heap.size 68 2 wr o (W k) ∧ Below w.heap.size w wr) (fun _ i _ => 12 - (intOf i).toNat)
  case atStart => exact ⟨0, by decide, rfl, by rw [hn0.out]; exact Own.nil _ _ _ _ _, b0 w⟩
  case round =>
    obtain ⟨k, hk, rfl, hown, nx⟩ := hrel
    by_cases hlt : k < 12
    · have hs := hst.out k
      have hw2 := hwk.out k
      have hl2 := hln.out k
      have hTk := hT.out k
      generalize getC l k = g at *
      generalize W k = Wk at *
      by_cases hb : (k : Int) = b
      · rw [hw2, if_pos hb, Option.toList_some] at hs
        have e1 : ((k : Int) == b) = true := beq_iff_eq.2 hb
        replace hs := hid hs; replace hTk := hid hTk
        clear hb hw2
        go_wp2_with (first
          | (go_at_call 13; go_loud ((with_reducible refine (hTk.out _ (h.out.below nx)).mono ?_); rintro e w1 ⟨rfl, hb1⟩; have nx1 := bgo nx hb1; have hown := hown.below hb1; have hsz := nx1.size))
          | (at_builtin; go_loud (refine wpList_push rfl _ _ _ rfl w.heap.size _ 2 24 cpyC_flat elemCpy hown rfl ⟨b, s⟩ rfl rfl (by omega) (by unfold maxLen; omega) nx1.size ?_); intro v7 w7 hown7 hbel7 _))
        rw [← hs.out] at hown7
        go_wp2
        go_roundw
        case rel => exact ⟨k + 1, by omega, by go_num, hown7, nx1.trans hbel7⟩
        case measure => simp [intOf]; omega
      · rw [hw2, if_neg hb] at hs
        have e1 : ((k : Int) == b) = false := beq_eq_false_iff_ne.2 hb
        clear hb hw2
        cases g with
        | none =>
          simp only [Option.map_none, Option.toList_none, List.append_nil] at hs
          simp only [Option.getD_none, Option.isSome_none] at hTk
          replace hs := hid hs; replace hTk := hid hTk
          go_wp2_with (go_at_call 13; go_loud ((with_reducible refine (hTk.out _ (h.out.below nx)).mono ?_); rintro e w1 ⟨rfl, hb1⟩; have nx1 := bgo nx hb1; have hown := hown.below hb1; have hsz := nx1.size))
          go_roundw
          case rel => exact ⟨k + 1, by omega, by go_num, by rw [hs.out]; exact hown, nx1⟩
          case measure => simp [intOf]; omega
        | some t =>
          simp only [Option.map_some, Option.toList_some] at hs
          simp only [Option.getD_some, Option.isSome_some] at hTk
          replace hs := hid hs; replace hTk := hid hTk
          go_wp2_with (first
            | (go_at_call 13; go_loud ((with_reducible refine (hTk.out _ (h.out.below nx)).mono ?_); rintro e w1 ⟨rfl, hb1⟩; have nx1 := bgo nx hb1; have hown := hown.below hb1; have hsz := nx1.size))
            | (at_builtin; go_loud (refine wpList_push rfl _ _ _ rfl w.heap.size _ 2 24 cpyC_flat elemCpy hown rfl ⟨(k : Int), t⟩ rfl rfl (by omega) (by unfold maxLen; omega) nx1.size ?_); intro v7 w7 hown7 hbel7 _))
          rw [← hs.out] at hown7
          go_wp2
          go_roundw
          case rel => exact ⟨k + 1, by omega, by go_num, hown7, nx1.trans hbel7⟩
          case measure => simp [intOf]; omega
    · obtain rfl : k = 12 := by omega
      go_wp2
      go_ret
      exact ⟨_, rfl, hown, nx⟩
end Go.Proofs.Ytjhmfljlclajnac

namespace Go.Proofs.Ytjhmfljlclajnac
open Go.RowKit Wb
set_option linter.unusedVariables false
set_option linter.unusedSimpArgs false
set_option maxRecDepth 100000
set_option maxHeartbeats 4000000
theorem txn_block (b : Int) (w : World) : Calls Try.prog 46 #[.int .i64 b] w fun e w' => e = .returned (.bool (isBlk b)) ∧ w = w' := by
  by_cases h0 : 0 ≤ b
  · by_cases h1 : b < 12
    · have hv : isBlk b = true := decide_eq_true ⟨h0, h1⟩
      rw [hv]
      go_enter Try.func46, Try.ntmps46
      go_wp2
      go_ret
      exact ⟨rfl, rfl⟩
    · have hv : isBlk b = false := decide_eq_false fun hh => h1 hh.2
      rw [hv]
      go_enter Try.func46, Try.ntmps46
      go_wp2
      go_ret
      exact ⟨rfl, rfl⟩
  · have hv : isBlk b = false := decide_eq_false fun hh => h0 hh.1
    rw [hv]
    go_enter Try.func46, Try.ntmps46
    go_wp2
    go_ret
    exact ⟨rfl, rfl⟩
theorem txn_find1 (c : Cpy) (b : Int) (w : World) : Calls Try.prog 70 #[.agg #[.int .i64 c.block, .string c.text], .int .i64 b] w fun e w' => e = .returned (.int .i64 (cmpI c.block b)) ∧ Below w.heap.size w w' := by
  obtain ⟨x, s⟩ := c
  have k0 := Blk.new w #[.int .i64 x, .string s] 68
  have c0 := k0.cell 0; have c1 := k0.cell 1
  simp only [List.getElem?_toArray, List.getElem?_cons_zero, List.getElem?_cons_succ] at c0 c1
  dsimp only
  by_cases h1 : x < b
  · rw [cmpI_lt h1]
    go_enter Try.func70, Try.ntmps70
    go_wp2
    go_ret
    exact ⟨rfl, bal (b0 w) _⟩
  · by_cases h2 : b < x
    · rw [cmpI_gt h2]
      go_enter Try.func70, Try.ntmps70
      go_wp2
      go_ret
      exact ⟨rfl, bal (b0 w) _⟩
    · have h3 : x = b := by omega
      rw [cmpI_eq h3]
      subst h3
      go_enter Try.func70, Try.ntmps70
      go_wp2
      go_ret
      exact ⟨rfl, bal (b0 w) _⟩

theorem slices_BinarySearchC (l : List Cpy) (b : Int) (v : Value) (w : World) (hs : rise (blks l) = true) (h : RL cpyC w v l) (hl : l.length ≤ 5864062014805) :
    Calls Try.prog 69 #[v, .int .i64 b, .func (.func 70) #[] #[]] w fun e w' => e = .returned (.tuple #[.int .i64 (posB l b : Nat), .bool (hasB l b)]) ∧ Below w.heap.size w w' := by
  obtain ⟨a, cap, rfl, _⟩ := h.form
  have hr := hid (rises hs)
  have hpo := hid (fun i h0 h1 h2 => pos_of (l := l) (b := b) (i := i) h0 h1 h2)
  have hha := hid (fun i h1 h2 => has_of (l := l) (b := b) (i := i) hr.out h1 h2)
  generalize posB l b = p at *
  generalize hasB l b = hb at *
  have hC := fun c w => txn_find1 c b w
  replace h := hid h; replace hC := hid hC
  clear hs
  go_enter Try.func69, Try.ntmps69
  go_wp2
  go_loopg [9, 10] l.length (fun kx s9 s10 wr => ∃ lo hi : Nat, s9 = .int .i64 lo ∧ s10 = .int .i64 hi ∧ lo ≤ hi ∧ hi ≤ l.length ∧ hi - lo ≤ kx ∧ Below w.heap.size w wr ∧ Hid (∀ k (hk : k < l.length), k < lo → l[k].block < b) ∧ Hid (∀ k (hk : k < l.length), hi ≤ k → b ≤ l[k].block))
  case atStart => exact ⟨0, l.length, rfl, rfl, Nat.zero_le _, Nat.le_refl _, by omega, b0 w, hid (fun k _ hk => absurd hk (Nat.not_lt_zero k)), hid (fun k hk h2 => by omega)⟩
  case round =>
    obtain ⟨lo, hi, rfl, rfl, hlh, hin, hg, nx, i1, i2⟩ := hrel
    by_cases hlt : lo < hi
    · have hm : (lo + hi) / 2 < l.length := by omega
      obtain ⟨b1, o1, rfl, c0, c1⟩ := RL.at2 (fun x => .int .i64 x.block) (fun x => .string x.text) (fun _ => rfl) (h.out.below nx) hm
      have j1 := hid (fun (hh : l[(lo + hi) / 2].block < b) => (show ∀ k (hk : k < l.length), k < (lo + hi) / 2 + 1 → l[k].block < b from fun k hk hk2 => by
        by_cases e : k = (lo + hi) / 2
        · subst e; exact hh
        · have := hr.out _ hm k (by omega); omega))
      have j2 := hid (fun (hh : b ≤ l[(lo + hi) / 2].block) => (show ∀ k (hk : k < l.length), (lo + hi) / 2 ≤ k → b ≤ l[k].block from fun k hk hk2 => by
        by_cases e : k = (lo + hi) / 2
        · subst e; exact hh
        · have := hr.out k hk _ (show (lo + hi) / 2 < k by omega); omega))
      generalize l[(lo + hi) / 2] = x at *
      have hCx := hC.out x
      by_cases hx : x.block < b
      · rw [cmpI_lt hx] at hCx
        replace j1 := hid (j1.out hx)
        replace hCx := hid hCx
        clear j2
        go_wp2_with (go_at_call 70; go_loud ((with_reducible refine (hCx.out _).mono ?_); rintro e w1 ⟨rfl, hb1⟩))
        go_roundg (hi - ((lo + hi) / 2 + 1))
        case measure => omega
        case rel => exact ⟨(lo + hi) / 2 + 1, hi, by rw [show ((lo : Int) + (hi : Int)) / 2 + 1 = (((lo + hi) / 2 + 1 : Nat) : Int) by omega], rfl, by omega, hin, Nat.le_refl _, bgo nx hb1, j1, i2⟩
      · have hnn : ¬ cmpI x.block b < 0 := by
          by_cases h2 : b < x.block
          · rw [cmpI_gt h2]; decide
          · rw [cmpI_eq (by omega)]; decide
        generalize cmpI x.block b = cv at *
        replace j2 := hid (j2.out (by omega))
        replace hCx := hid hCx
        clear j1 hx
        go_wp2_with (go_at_call 70; go_loud ((with_reducible refine (hCx.out _).mono ?_); rintro e w1 ⟨rfl, hb1⟩))
        go_roundg ((lo + hi) / 2 - lo)
        case measure => omega
        case rel => exact ⟨lo, (lo + hi) / 2, rfl, by rw [show ((lo : Int) + (hi : Int)) / 2 = (((lo + hi) / 2 : Nat) : Int) by omega], by omega, by omega, Nat.le_refl _, bgo nx hb1, i1, j2⟩
    · obtain rfl : hi = lo := by omega
      have hp := hid (hpo.out hi hin i1.out i2.out)
      have hh := hid (hha.out hi i1.out i2.out)
      by_cases hn : hi < l.length
      · obtain ⟨b1, o1, rfl, c0, c1⟩ := RL.at2 (fun x => .int .i64 x.block) (fun x => .string x.text) (fun _ => rfl) (h.out.below nx) hn
        have hge := i2.out hi hn (Nat.le_refl _)
        have hh2 : hb = true ↔ l[hi].block = b := ⟨fun h => (hh.out.1 h).2, fun h => hh.out.2 ⟨hn, h⟩⟩
        clear i1 i2 hh
        generalize l[hi] = x at *
        have hCx := hC.out x
        by_cases hx : x.block = b
        · have hv := hid (hh2.2 hx)
          rw [cmpI_eq hx] at hCx
          replace hCx := hid hCx
          clear hx hge hh2
          go_wp2_with (go_at_call 70; go_loud ((with_reducible refine (hCx.out _).mono ?_); rintro e w1 ⟨rfl, hb1⟩))
          go_ret2
          exact ⟨by rw [hp.out, hv.out]; rfl, bgo nx hb1⟩
        · have hv := hid (show hb = false by
            cases hbv : hb with
            | false => rfl
            | true => exact absurd (hh2.1 hbv) hx)
          rw [cmpI_gt (by omega)] at hCx
          replace hCx := hid hCx
          clear hx hge hh2
          go_wp2_with (go_at_call 70; go_loud ((with_reducible refine (hCx.out _).mono ?_); rintro e w1 ⟨rfl, hb1⟩))
          go_ret2
          exact ⟨by rw [hp.out, hv.out]; rfl, bgo nx hb1⟩
      · have hv := hid (show hb = false by
          cases hbv : hb with
          | false => rfl
          | true => obtain ⟨h1, _⟩ := hh.out.1 hbv; omega)
        clear hh i1 i2
        go_wp2
        go_ret2
        exact ⟨by rw [hp.out, hv.out]; rfl, nx⟩

theorem txn_find (l : List Cpy) (b : Int) (v : Value) (w : World) (hs : rise (blks l) = true) (h : RL cpyC w v l) (hl : l.length ≤ 5864062014805) :
    Calls Try.prog 49 #[v, .int .i64 b] w fun e w' => e = .returned (.tuple #[.int .i64 (posB l b : Nat), .bool (hasB l b)]) ∧ Below w.heap.size w w' := by
  have hB := hid (slices_BinarySearchC l b v w hs h hl)
  obtain ⟨a, cap, rfl, _⟩ := h.form
  generalize posB l b = p at *
  clear h hs
  go_enter Try.func49, Try.ntmps49
  go_wp2_with (go_at_call 69; go_loud ((with_reducible refine hB.out.mono ?_); rintro e w1 ⟨rfl, hb1⟩))
  go_ret2
  exact ⟨rfl, hb1⟩
theorem txn_has (l : List Cpy) (b : Int) (v : Value) (w : World) (hs : rise (blks l) = true) (h : RL cpyC w v l) (hl : l.length ≤ 5864062014805) :
    Calls Try.prog 24 #[v, .int .i64 b] w fun e w' => e = .returned (.bool (hasB l b)) ∧ Below w.heap.size w w' := by
  have hB := hid (txn_find l b v w hs h hl)
  obtain ⟨a, cap, rfl, _⟩ := h.form
  clear h hs
  go_enter Try.func24, Try.ntmps24
  go_wp2_with (go_at_call 49; go_loud ((with_reducible refine hB.out.mono ?_); rintro e w1 ⟨rfl, hb1⟩))
  go_ret
  exact ⟨rfl, hb1⟩
end Go.Proofs.Ytjhmfljlclajnac

namespace Wb
open Go Go.RowKit
theorem Own.cellsOf {α : Type} {f : α → List Value} {base : Nat} {e : TypeId} {c : Nat} {w : World} {v : Value} {l : List α} (h : Own f base e c w v l) {g : Nat} (hg : v.ownBlock = some g) : ∃ cur, w.heap[g]? = some (.cells cur e (0, 0)) := by
  obtain ⟨_, h2⟩ := h
  rcases h2 with ⟨rfl, _⟩ | ⟨g', cap, cur, rfl, _, hh, _⟩
  · cases hg
  · simp only [Value.ownBlock, Option.some.injEq] at hg
    subst hg
    exact ⟨cur, hh⟩
theorem Own.apart {α β : Type} {f : α → List Value} {f2 : β → List Value} {base base2 : Nat} {e e2 : TypeId} {c c2 : Nat} {w : World} {v v2 : Value} {l : List α} {l2 : List β} (h : Own f base e c w v l) (h2 : Own f2 base2 e2 c2 w v2 l2) (hne : e ≠ e2) : v.ownBlock = none ∨ v.ownBlock ≠ v2.ownBlock := by
  cases hv : v.ownBlock with
  | none => exact .inl rfl
  | some g =>
    refine .inr fun hh => ?_
    obtain ⟨c1, h1⟩ := h.cellsOf hv
    obtain ⟨c2, h3⟩ := h2.cellsOf hh.symm
    rw [h1] at h3
    simp only [Option.some.injEq, Obj.cells.injEq] at h3
    exact hne h3.2.1
/-- What is owned stays, while a row of another type is appended to. -/
theorem Own.grownTy {α β : Type} {f : α → List Value} {f2 : β → List Value} {base base2 : Nat} {e e2 : TypeId} {c c2 : Nat} {w w' : World} {v v2 : Value} {l : List α} {l2 : List β} (h : Own f base e c w v l) (h2 : Own f2 base2 e2 c2 w v2 l2) (hne : e ≠ e2) (hg : w.grownBy w' v2.ownBlock) : Own f base e c w' v l :=
  h.grown hg (h.apart h2 hne)
/-- An owned transaction. -/
def OTxn (base : Nat) (tc ti : TypeId) (w : World) (v : Value) (t : Txn) : Prop :=
  ∃ vm vd vr, v = txnV t vm vd vr ∧ Own cpyC base tc 2 w vm t.mt ∧ Own cpyC base tc 2 w vd t.dt ∧ Own intC base ti 1 w vr t.rev ∧ t.mt.length ≤ 5864062014805 ∧ t.dt.length ≤ 5864062014805 ∧ t.rev.length ≤ 17592186044160
section
variable {base : Nat} {tc ti tt : TypeId} {w w' : World} {v : Value} {t : Txn}
theorem OTxn.reads (h : OTxn base tc ti w v t) : RTxn w v t := by
  obtain ⟨vm, vd, vr, hv, h1, h2, h3, h4⟩ := h
  exact ⟨vm, vd, vr, hv, h1.reads, h2.reads, h3.reads, h4⟩
theorem OTxn.below (h : OTxn base tc ti w v t) (hb : Below w.heap.size w w') : OTxn base tc ti w' v t := by
  obtain ⟨vm, vd, vr, hv, h1, h2, h3, h4⟩ := h
  exact ⟨vm, vd, vr, hv, h1.below hb, h2.below hb, h3.below hb, h4⟩
theorem OTxn.mono (h : OTxn base tc ti w v t) {b2 : Nat} (hb : b2 ≤ base) : OTxn b2 tc ti w v t := by
  obtain ⟨vm, vd, vr, hv, h1, h2, h3, h4⟩ := h
  exact ⟨vm, vd, vr, hv, h1.mono hb, h2.mono hb, h3.mono hb, h4⟩
theorem OTxn.grownTy {β : Type} {f2 : β → List Value} {base2 : Nat} {e2 : TypeId} {c2 : Nat} {v2 : Value} {l2 : List β} (h : OTxn base tc ti w v t) (h2 : Own f2 base2 e2 c2 w v2 l2) (hc : tc ≠ e2) (hi : ti ≠ e2) (hg : w.grownBy w' v2.ownBlock) : OTxn base tc ti w' v t := by
  obtain ⟨vm, vd, vr, hv, h1, h2', h3, h4⟩ := h
  exact ⟨vm, vd, vr, hv, h1.grownTy h2 hc hg, h2'.grownTy h2 hc hg, h3.grownTy h2 hi hg, h4⟩
theorem OTxn.tv (h : OTxn base tc ti w v t) : ∃ x : TV, x.t = t ∧ v = x.val ∧ OTxn base tc ti w x.val x.t := by
  obtain ⟨x, hx, hv, _⟩ := h.reads.tv
  exact ⟨x, hx, hv, by rw [hx, ← hv]; exact h⟩
/-- An owned list of owned transactions. -/
def OTxns (base : Nat) (tt tc ti : TypeId) (w : World) (v : Value) (l : List Txn) : Prop :=
  ∃ xs : List TV, Own tvC base tt 10 w v xs ∧ xs.map (·.t) = l ∧ ∀ x ∈ xs, OTxn base tc ti w x.val x.t
variable {l : List Txn}
theorem OTxns.nil (base : Nat) (tt tc ti : TypeId) (w : World) : OTxns base tt tc ti w (.slice none 0 0) [] := ⟨[], Own.nil _ _ _ _ _, rfl, fun _ h => absurd h List.not_mem_nil⟩
theorem OTxns.below (h : OTxns base tt tc ti w v l) (hb : Below w.heap.size w w') : OTxns base tt tc ti w' v l := by
  obtain ⟨xs, h1, h2, h3⟩ := h
  exact ⟨xs, h1.below hb, h2, fun x hx => (h3 x hx).below hb⟩
theorem OTxns.mono (h : OTxns base tt tc ti w v l) {b2 : Nat} (hb : b2 ≤ base) : OTxns b2 tt tc ti w v l := by
  obtain ⟨xs, h1, h2, h3⟩ := h
  exact ⟨xs, h1.mono hb, h2, fun x hx => (h3 x hx).mono hb⟩
theorem OTxns.reads (h : OTxns base tt tc ti w v l) (hl : l.length ≤ 1099511627744) : RTxns w v l := by
  obtain ⟨xs, h1, rfl, h3⟩ := h
  exact ⟨xs, h1.reads, rfl, fun x hx => (h3 x hx).reads, by simpa using hl⟩
theorem OTxns.form (h : OTxns base tt tc ti w v l) : ∃ a c, v = .slice a l.length c := by
  obtain ⟨xs, h1, rfl, h3⟩ := h
  obtain ⟨a, c, hv⟩ := h1.form
  exact ⟨a, c, by rw [hv, List.length_map]⟩
/-- Behind an append of one more. -/
theorem OTxns.pushed {xs : List TV} {v' : Value} {y : TV} (h1 : Own tvC base tt 10 w v xs) (h3 : ∀ x ∈ xs, OTxn base tc ti w x.val x.t) (hy : OTxn base tc ti w y.val y.t) (hc : tc ≠ tt) (hi : ti ≠ tt) (ho : Own tvC base tt 10 w' v' (xs ++ [y])) (hg : w.grownBy w' v.ownBlock) :
    OTxns base tt tc ti w' v' (xs.map (·.t) ++ [y.t]) := by
  refine ⟨xs ++ [y], ho, by simp, fun x hx => ?_⟩
  rcases List.mem_append.1 hx with hx | hx
  · exact (h3 x hx).grownTy h1 hc hi hg
  · rw [List.mem_singleton] at hx
    subst hx
    exact hy.grownTy h1 hc hi hg
end
/-- Element k of a slice of transactions, its slices written out. -/
theorem RTxns.at3 {w : World} {a : Option Addr} {n cap : Nat} {l : List Txn} (h : RTxns w (.slice a n cap) l) {k : Nat} (hk : k < l.length) :
    ∃ b off am cm ad cd ar cr, a = some ⟨b, off, none⟩ ∧ RTxn w (txnV l[k] (.slice am l[k].mt.length cm) (.slice ad l[k].dt.length cd) (.slice ar l[k].rev.length cr)) l[k] ∧ w.cell? ⟨b, off + k * 10, none⟩ = some (.int .i64 l[k].seq) ∧ w.cell? ⟨b, off + k * 10 + 1, none⟩ = some (.slice am l[k].mt.length cm) ∧ w.cell? ⟨b, off + k * 10 + 2, none⟩ = some (.slice ad l[k].dt.length cd) ∧ w.cell? ⟨b, off + k * 10 + 3, none⟩ = some (.slice ar l[k].rev.length cr) ∧ w.cell? ⟨b, off + k * 10 + 4, none⟩ = some (.bool l[k].h0.on) ∧ w.cell? ⟨b, off + k * 10 + 5, none⟩ = some (.int .i64 l[k].h0.left) ∧ w.cell? ⟨b, off + k * 10 + 6, none⟩ = some (.bool l[k].h1.on) ∧ w.cell? ⟨b, off + k * 10 + 7, none⟩ = some (.int .i64 l[k].h1.left) ∧ w.cell? ⟨b, off + k * 10 + 8, none⟩ = some (.bool l[k].h2.on) ∧ w.cell? ⟨b, off + k * 10 + 9, none⟩ = some (.int .i64 l[k].h2.left) := by
  obtain ⟨b, off, vm, vd, vr, ha, hr, c0, c1, c2, c3, c4⟩ := h.at hk
  have hr' := hr
  obtain ⟨vm', vd', vr', hv, hm, hd, hrr, n1, n2, n3⟩ := hr
  simp only [txnV, Value.agg.injEq, Array.mk.injEq, List.cons.injEq, and_true, true_and] at hv
  obtain ⟨rfl, rfl, rfl⟩ := hv
  obtain ⟨am, cm, rfl, _⟩ := hm.form
  obtain ⟨ad, cd, rfl, _⟩ := hd.form
  obtain ⟨ar, cr, rfl, _⟩ := hrr.form
  exact ⟨b, off, am, cm, ad, cd, ar, cr, ha, hr', c0, c1, c2, c3, c4⟩
end Wb

namespace Wb
open Go Go.RowKit
theorem Own.setCells {α : Type} {f : α → List Value} {base : Nat} {e : TypeId} {c : Nat} {v : Value} {l : List α} : ∀ (ps : List (Addr × Value)) (w : World), Own f base e c w v l → (∀ p ∈ ps, p.1.block < base) → Own f base e c (ps.foldl (fun w p => w.setCell p.1 p.2) w) v l
  | [], _, h, _ => h
  | p :: ps, w, h, hp => Own.setCells ps _ (h.setCell (hp p (by simp)) p.2) (fun q hq => hp q (by simp [hq]))
theorem Below.setCells {B : Nat} {w : World} : ∀ (ps : List (Addr × Value)) (w' : World), Below B w w' → (∀ p ∈ ps, B ≤ p.1.block) → Below B w (ps.foldl (fun w p => w.setCell p.1 p.2) w')
  | [], _, h, _ => h
  | p :: ps, w', h, hp => Below.setCells ps _ (h.setCell (hp p (by simp)) p.2) (fun q hq => hp q (by simp [hq]))
end Wb
namespace Go.Proofs.Ytjhmfljlclajnac
open Go.RowKit Wb
set_option linter.unusedVariables false
set_option linter.unusedSimpArgs false
set_option maxRecDepth 100000
set_option maxHeartbeats 4000000
theorem elemIntT : Elem Try.prog 23 3 1 8 := Elem.mk' (z := .int .i64 0) Try.underlying23 (by kernel_rfl) rfl

theorem ref_CopyTxn (t : Txn) (v : Value) (w : World) (h : RTxn w v t) :
    Calls Try.prog 6 #[v] w fun e w' => ∃ v', e = .returned v' ∧ OTxn w.heap.size 68 3 w' v' t ∧ Below w.heap.size w w' := by
  obtain ⟨vm, vd, vr, rfl, hm, hd, hr, n1, n2, n3⟩ := h
  obtain ⟨am, cm, rfl, _⟩ := hm.form
  obtain ⟨ad, cd, rfl, _⟩ := hd.form
  obtain ⟨ar, cr, rfl, _⟩ := hr.form
  obtain ⟨seq, mt, dt, rev, ⟨on0, l0⟩, ⟨on1, l1⟩, ⟨on2, l2⟩⟩ := t
  unfold txnV OTxn
  dsimp only at *
  replace hm := hid hm; replace hd := hid hd; replace hr := hid hr
  go_enter Try.func6, Try.ntmps6
  go_wp2
  go_region_law (first
    | (refine step_app rfl _ _ 22 rfl _ _ 2 24 cpyC_flat elemCpy (Own.nil _ _ _ _ _) rfl mt (hm.out.below (bal (bal (b0 w) _) _).drew) rfl (by simp; omega) (by simp; unfold maxLen; omega) (Nat.le_refl _) ?_; intro v1 w1 hown1 hb1 _; obtain ⟨a1, cap1, rfl⟩ := hown1.form; have k0 : Blk w1 w.heap.size #[.int .i64 seq, .slice am mt.length cm, .slice ad dt.length cd, .slice ar rev.length cr, .bool on0, .int .i64 l0, .bool on1, .int .i64 l1, .bool on2, .int .i64 l2] 28 := (((Blk.new w _ _).alloc _).drew).step hb1; have k1 : Blk w1 (w.heap.size + 1) #[.int .i64 0, .slice none 0 0, .slice none 0 0, .slice none 0 0, .bool false, .int .i64 0, .bool false, .int .i64 0, .bool false, .int .i64 0] 28 := ((Blk.newAt (w := w.alloc _) (by simp)).drew).step hb1; have nx := bgo (bal (bal (b0 w) _) _).drew hb1; have c1 := k0.cell 1; have c2 := k0.cell 2; have c3 := k0.cell 3; simp only [List.getElem?_toArray, List.getElem?_cons_zero, List.getElem?_cons_succ] at c1 c2 c3; simp only [List.nil_append] at hown1)
    | (refine step_app rfl _ _ 22 rfl _ _ 2 24 cpyC_flat elemCpy (Own.nil _ _ _ _ _) rfl dt (hd.out.below nx) rfl (by simp; omega) (by simp; unfold maxLen; omega) (Nat.le_refl _) ?_; intro v2 w2 hown2 hb2 _; obtain ⟨a2, cap2, rfl⟩ := hown2.form; replace k0 := k0.step hb2; replace k1 := k1.step hb2; have nx := bgo nx hb2; replace hown1 := hown1.below hb2; clear c1 c2 c3; have c1 := k0.cell 1; have c2 := k0.cell 2; have c3 := k0.cell 3; simp only [List.getElem?_toArray, List.getElem?_cons_zero, List.getElem?_cons_succ] at c1 c2 c3; simp only [List.nil_append] at hown2)
    | (refine step_app rfl _ _ 23 rfl _ _ 1 8 intC_flat elemIntT (Own.nil _ _ _ _ _) rfl rev (hr.out.below nx) rfl (by simp; omega) (by simp; unfold maxLen; omega) (Nat.le_refl _) ?_; intro v3 w3 hown3 hb3 _; obtain ⟨a3, cap3, rfl⟩ := hown3.form; replace k0 := k0.step hb3; replace k1 := k1.step hb3; have nx := bgo nx hb3; replace hown1 := hown1.below hb3; replace hown2 := hown2.below hb3; clear c1 c2 c3; have c1 := k0.cell 1; have c2 := k0.cell 2; have c3 := k0.cell 3; have f1 := k0.free 1; have f2 := k0.free 2; have f3 := k0.free 3; simp only [List.getElem?_toArray, List.getElem?_cons_zero, List.getElem?_cons_succ] at c1 c2 c3; simp only [List.nil_append] at hown3))
  all_goals
    have k0' := ((k0.set 1 (.slice a1 mt.length cap1)).set 2 (.slice a2 dt.length cap2)).set 3 (.slice a3 rev.length cap3)
    have k1' := ((k1.set_other ⟨w.heap.size, 1, none⟩ (.slice a1 mt.length cap1) (by simp)).set_other ⟨w.heap.size, 2, none⟩ (.slice a2 dt.length cap2) (by simp)).set_other ⟨w.heap.size, 3, none⟩ (.slice a3 rev.length cap3) (by simp)
    have nx' := ((nx.setCell (p := ⟨w.heap.size, 1, none⟩) (by simp) (.slice a1 mt.length cap1)).setCell (p := ⟨w.heap.size, 2, none⟩) (by simp) (.slice a2 dt.length cap2)).setCell (p := ⟨w.heap.size, 3, none⟩) (by simp) (.slice a3 rev.length cap3)
    have o1 := ((hown1.mono (base' := w.heap.size + 2) (by simp)).setCell (p := ⟨w.heap.size, 1, none⟩) (by simp) (.slice a1 mt.length cap1)).setCell (p := ⟨w.heap.size, 2, none⟩) (by simp) (.slice a2 dt.length cap2) |>.setCell (p := ⟨w.heap.size, 3, none⟩) (by simp) (.slice a3 rev.length cap3)
    have hz1 : w.heap.size + 2 ≤ w1.heap.size := by have := hb1.size; simpa using this
    have hz2 : w.heap.size + 2 ≤ w2.heap.size := Nat.le_trans hz1 hb2.size
    have o2 := ((hown2.mono (base' := w.heap.size + 2) hz1).setCell (p := ⟨w.heap.size, 1, none⟩) (by simp) (.slice a1 mt.length cap1)).setCell (p := ⟨w.heap.size, 2, none⟩) (by simp) (.slice a2 dt.length cap2) |>.setCell (p := ⟨w.heap.size, 3, none⟩) (by simp) (.slice a3 rev.length cap3)
    have o3 := ((hown3.mono (base' := w.heap.size + 2) hz2).setCell (p := ⟨w.heap.size, 1, none⟩) (by simp) (.slice a1 mt.length cap1)).setCell (p := ⟨w.heap.size, 2, none⟩) (by simp) (.slice a2 dt.length cap2) |>.setCell (p := ⟨w.heap.size, 3, none⟩) (by simp) (.slice a3 rev.length cap3)
    clear k0 k1 nx hown1 hown2 hown3 c1 c2 c3 f1 f2 f3 hb1 hb2 hb3
    generalize (((w3.setCell ⟨w.heap.size, 1, none⟩ (.slice a1 mt.length cap1)).setCell ⟨w.heap.size, 2, none⟩ (.slice a2 dt.length cap2)).setCell ⟨w.heap.size, 3, none⟩ (.slice a3 rev.length cap3)) = w4 at *
    replace k0' : Blk w4 w.heap.size #[.int .i64 seq, .slice a1 mt.length cap1, .slice a2 dt.length cap2, .slice a3 rev.length cap3, .bool on0, .int .i64 l0, .bool on1, .int .i64 l1, .bool on2, .int .i64 l2] 28 := k0'
    have c0 := k0'.cell 0; have c1 := k0'.cell 1; have c2 := k0'.cell 2; have c3 := k0'.cell 3; have c4 := k0'.cell 4; have c5 := k0'.cell 5; have c6 := k0'.cell 6; have c7 := k0'.cell 7; have c8 := k0'.cell 8; have c9 := k0'.cell 9
    have d0 := k1'.cell 0; have d1 := k1'.cell 1; have d2 := k1'.cell 2; have d3 := k1'.cell 3; have d4 := k1'.cell 4; have d5 := k1'.cell 5; have d6 := k1'.cell 6; have d7 := k1'.cell 7; have d8 := k1'.cell 8; have d9 := k1'.cell 9
    have z0 := k1'.free 0; have z1 := k1'.free 1; have z2 := k1'.free 2; have z3 := k1'.free 3; have z4 := k1'.free 4; have z5 := k1'.free 5; have z6 := k1'.free 6; have z7 := k1'.free 7; have z8 := k1'.free 8; have z9 := k1'.free 9
    simp only [List.getElem?_toArray, List.getElem?_cons_zero, List.getElem?_cons_succ] at c0 c1 c2 c3 c4 c5 c6 c7 c8 c9 d0 d1 d2 d3 d4 d5 d6 d7 d8 d9
    go_wp2
    have e1 := o1.setCells [(⟨w.heap.size + 1, 0, none⟩, .int .i64 seq), (⟨w.heap.size + 1, 1, none⟩, .slice a1 mt.length cap1), (⟨w.heap.size + 1, 2, none⟩, .slice a2 dt.length cap2), (⟨w.heap.size + 1, 3, none⟩, .slice a3 rev.length cap3), (⟨w.heap.size + 1, 4, none⟩, .bool on0), (⟨w.heap.size + 1, 5, none⟩, .int .i64 l0), (⟨w.heap.size + 1, 6, none⟩, .bool on1), (⟨w.heap.size + 1, 7, none⟩, .int .i64 l1), (⟨w.heap.size + 1, 8, none⟩, .bool on2), (⟨w.heap.size + 1, 9, none⟩, .int .i64 l2)] _ (by simp)
    have e2 := o2.setCells [(⟨w.heap.size + 1, 0, none⟩, .int .i64 seq), (⟨w.heap.size + 1, 1, none⟩, .slice a1 mt.length cap1), (⟨w.heap.size + 1, 2, none⟩, .slice a2 dt.length cap2), (⟨w.heap.size + 1, 3, none⟩, .slice a3 rev.length cap3), (⟨w.heap.size + 1, 4, none⟩, .bool on0), (⟨w.heap.size + 1, 5, none⟩, .int .i64 l0), (⟨w.heap.size + 1, 6, none⟩, .bool on1), (⟨w.heap.size + 1, 7, none⟩, .int .i64 l1), (⟨w.heap.size + 1, 8, none⟩, .bool on2), (⟨w.heap.size + 1, 9, none⟩, .int .i64 l2)] _ (by simp)
    have e3 := o3.setCells [(⟨w.heap.size + 1, 0, none⟩, .int .i64 seq), (⟨w.heap.size + 1, 1, none⟩, .slice a1 mt.length cap1), (⟨w.heap.size + 1, 2, none⟩, .slice a2 dt.length cap2), (⟨w.heap.size + 1, 3, none⟩, .slice a3 rev.length cap3), (⟨w.heap.size + 1, 4, none⟩, .bool on0), (⟨w.heap.size + 1, 5, none⟩, .int .i64 l0), (⟨w.heap.size + 1, 6, none⟩, .bool on1), (⟨w.heap.size + 1, 7, none⟩, .int .i64 l1), (⟨w.heap.size + 1, 8, none⟩, .bool on2), (⟨w.heap.size + 1, 9, none⟩, .int .i64 l2)] _ (by simp)
    have e4 := Wb.Below.setCells [(⟨w.heap.size + 1, 0, none⟩, .int .i64 seq), (⟨w.heap.size + 1, 1, none⟩, .slice a1 mt.length cap1), (⟨w.heap.size + 1, 2, none⟩, .slice a2 dt.length cap2), (⟨w.heap.size + 1, 3, none⟩, .slice a3 rev.length cap3), (⟨w.heap.size + 1, 4, none⟩, .bool on0), (⟨w.heap.size + 1, 5, none⟩, .int .i64 l0), (⟨w.heap.size + 1, 6, none⟩, .bool on1), (⟨w.heap.size + 1, 7, none⟩, .int .i64 l1), (⟨w.heap.size + 1, 8, none⟩, .bool on2), (⟨w.heap.size + 1, 9, none⟩, .int .i64 l2)] _ nx' (by simp)
    refine bodyPost_ret (v := .agg #[.int .i64 seq, .slice a1 mt.length cap1, .slice a2 dt.length cap2, .slice a3 rev.length cap3, .bool on0, .int .i64 l0, .bool on1, .int .i64 l1, .bool on2, .int .i64 l2]) (by simp [results, Try.results6, go_sem, d0, d1, d2, d3, d4, d5, d6, d7, d8, d9]) rfl ⟨_, rfl, ⟨_, _, _, rfl, e1.mono (by omega), e2.mono (by omega), e3.mono (by omega), n1, n2, n3⟩, e4⟩
end Go.Proofs.Ytjhmfljlclajnac

namespace Wb
open Go Go.RowKit
/-- The place of the first element of key b, or -1. -/
def idxK {α : Type} (key : α → Int) (l : List α) (b : Int) : Int := match l.findIdx? (fun x => key x == b) with
  | some k => (k : Int)
  | none => -1
section
variable {α : Type} {key : α → Int} {l : List α} {b : Int}
theorem idxK_hit {k : Nat} (hk : k < l.length) (h1 : key l[k] = b) (h2 : ∀ i (hi : i < k), ¬ key l[i] = b) : idxK key l b = k := by
  have : l.findIdx? (fun x => key x == b) = some k := List.findIdx?_eq_some_iff_getElem.2 ⟨hk, by simpa using h1, fun j hj => by simpa using h2 j hj⟩
  unfold idxK; rw [this]
theorem idxK_none (h2 : ∀ i (hi : i < l.length), ¬ key l[i] = b) : idxK key l b = -1 := by
  have : l.findIdx? (fun x => key x == b) = none := List.findIdx?_eq_none_iff.2 (fun x hx => by
    obtain ⟨i, hi, rfl⟩ := List.getElem_of_mem hx
    simpa using h2 i hi)
  unfold idxK; rw [this]
theorem idxK_spec (key : α → Int) (l : List α) (b : Int) : (idxK key l b = -1 ∧ ∀ i (hi : i < l.length), ¬ key l[i] = b) ∨ ∃ k : Nat, idxK key l b = k ∧ ∃ hk : k < l.length, key l[k] = b ∧ ∀ i (hi : i < k), ¬ key l[i] = b := by
  cases e : l.findIdx? (fun x => key x == b) with
  | none =>
    refine .inl ⟨by unfold idxK; rw [e], fun i hi hb => ?_⟩
    have := List.findIdx?_eq_none_iff.1 e _ (List.getElem_mem hi)
    simp [hb] at this
  | some k =>
    obtain ⟨hk, h1, h2⟩ := List.findIdx?_eq_some_iff_getElem.1 e
    exact .inr ⟨k, by unfold idxK; rw [e], hk, by simpa using h1, fun i hi => by simpa using h2 i hi⟩
end
end Wb
namespace Go.Proofs.Ytjhmfljlclajnac
open Go.RowKit Wb
set_option linter.unusedVariables false
set_option linter.unusedSimpArgs false
set_option maxRecDepth 100000
set_option maxHeartbeats 8000000
theorem slices_CloneI (l : List Int) (v : Value) (w : World) (h : RL intC w v l) (hl : l.length ≤ 17592186044160) :
    Calls Try.prog 27 #[v] w fun e w' => ∃ v', e = .returned v' ∧ Own intC w.heap.size 3 1 w' v' l ∧ Below w.heap.size w w' := by
  have hh := h
  obtain ⟨a, cap, rfl, _, _, h3⟩ := hh
  cases a with
  | none =>
    have h0 : l = [] := by
      rcases h3 with h3 | ⟨_, _, h4, _⟩
      · have hl2 := flat_len intC_flat.len l
        rw [h3] at hl2
        exact List.length_eq_zero_iff.1 (by simp at hl2; omega)
      · cases h4
    subst h0
    have heq := Lib.run_eql_slice_nil (P := Try.prog) w 23 3 none 0 cap 0 0 elemIntT.under
    clear h h3 hl
    go_enter Try.func27, Try.ntmps27
    go_wp2
    go_ret
    exact ⟨_, rfl, Own.nil _ _ _ _ _, b0 w⟩
  | some p =>
    obtain ⟨pb, po, ps⟩ := p
    replace h := hid h
    clear h3
    have h0 : Own intC w.heap.size 3 1 (w.alloc (.cells #[] 3)) (.slice (some ⟨w.heap.size, 0, none⟩) 0 0) [] := Own.ofRow (l := ([] : List Int)) intC_flat (Nat.le_refl _) (Blk.new w #[] _) (Nat.le_refl _) (by unfold maxLen; omega) rfl rfl
    have nx := bal (b0 w) (.cells #[] 3)
    have heq := Lib.run_eql_slice_nil (P := Try.prog) w 23 3 (some ⟨pb, po, ps⟩) l.length cap 0 0 elemIntT.under
    replace h0 := hid h0
    go_enter Try.func27, Try.ntmps27
    go_wp2_with (at_builtin; refine wpList_app rfl _ _ 23 rfl w.heap.size _ 1 8 intC_flat elemIntT h0.out rfl l (h.out.below nx) rfl (by simp; omega) (by simp; unfold maxLen; omega) (by simp) ?_; intro v1 w1 hown1 hg1; obtain ⟨a1, cap1, rfl⟩ := hown1.form; have nx2 := nx.trans (h0.out.belowGrown (by simp) hg1); simp only [List.nil_append, List.length_nil, Nat.zero_add] at hown1 nx2)
    go_ret
    exact ⟨_, rfl, hown1, nx2⟩
theorem slices_CloneC (l : List Cpy) (v : Value) (w : World) (h : RL cpyC w v l) (hl : l.length ≤ 5864062014805) :
    Calls Try.prog 51 #[v] w fun e w' => ∃ v', e = .returned v' ∧ Own cpyC w.heap.size 68 2 w' v' l ∧ Below w.heap.size w w' := by
  have hh := h
  obtain ⟨a, cap, rfl, _, _, h3⟩ := hh
  cases a with
  | none =>
    have h0 : l = [] := by
      rcases h3 with h3 | ⟨_, _, h4, _⟩
      · have hl2 := flat_len cpyC_flat.len l
        rw [h3] at hl2
        exact List.length_eq_zero_iff.1 (by simp at hl2; omega)
      · cases h4
    subst h0
    have heq := Lib.run_eql_slice_nil (P := Try.prog) w 22 68 none 0 cap 0 0 elemCpy.under
    clear h h3 hl
    go_enter Try.func51, Try.ntmps51
    go_wp2
    go_ret
    exact ⟨_, rfl, Own.nil _ _ _ _ _, b0 w⟩
  | some p =>
    obtain ⟨pb, po, ps⟩ := p
    replace h := hid h
    clear h3
    have h0 : Own cpyC w.heap.size 68 2 (w.alloc (.cells #[] 68)) (.slice (some ⟨w.heap.size, 0, none⟩) 0 0) [] := Own.ofRow (l := ([] : List Cpy)) cpyC_flat (Nat.le_refl _) (Blk.new w #[] _) (Nat.le_refl _) (by unfold maxLen; omega) rfl rfl
    have nx := bal (b0 w) (.cells #[] 68)
    have heq := Lib.run_eql_slice_nil (P := Try.prog) w 22 68 (some ⟨pb, po, ps⟩) l.length cap 0 0 elemCpy.under
    replace h0 := hid h0
    go_enter Try.func51, Try.ntmps51
    go_wp2_with (at_builtin; refine wpList_app rfl _ _ 22 rfl w.heap.size _ 2 24 cpyC_flat elemCpy h0.out rfl l (h.out.below nx) rfl (by simp; omega) (by simp; unfold maxLen; omega) (by simp) ?_; intro v1 w1 hown1 hg1; obtain ⟨a1, cap1, rfl⟩ := hown1.form; have nx2 := nx.trans (h0.out.belowGrown (by simp) hg1); simp only [List.nil_append, List.length_nil, Nat.zero_add] at hown1 nx2)
    go_ret
    exact ⟨_, rfl, hown1, nx2⟩
theorem slices_IndexI (l : List Int) (b : Int) (v : Value) (w : World) (h : RL intC w v l) (hl : l.length ≤ 17592186044160) :
    Calls Try.prog 54 #[v, .int .i64 b] w fun e w' => ∃ r : Int, e = .returned (.int .i64 r) ∧ (inI l b = decide (0 ≤ r)) ∧ w = w' := by
  obtain ⟨a, cap, rfl, _⟩ := h.form
  have hst := fun k (hk : k < l.length) => inI_step (l := l) (b := b) hk
  have hft := fun k (hk : ¬ k < l.length) => inI_full (l := l) (b := b) hk
  have hht := fun k (hk : k < l.length) (hb : l[k] = b) => inI_hit hk hb
  replace h := hid h; replace hst := hid hst; replace hft := hid hft; replace hht := hid hht
  go_enter Try.func54, Try.ntmps54
  go_wp2
  go_loop [8] (fun i => ∃ k : Nat, k ≤ l.length ∧ i = .int .i64 k ∧ Hid (inI (l.take k) b = false)) (fun i => l.length - (intOf i).toNat)
  case atStart => exact ⟨0, Nat.zero_le _, rfl, hid (by simp [inI])⟩
  case round =>
    obtain ⟨k, hk, rfl, hno⟩ := hrel
    by_cases hlt : k < l.length
    · obtain ⟨b1, o1, rfl, c0⟩ := RL.at1 (fun x => .int .i64 x) (fun _ => rfl) h.out hlt
      by_cases hb : l[k] = b
      · have hv := hid (hht.out k hlt hb)
        have e1 : (l[k] == b) = true := beq_iff_eq.2 hb
        have e2 : (b == l[k]) = true := beq_iff_eq.2 hb.symm
        clear hb
        generalize l[k] = x at *
        go_wp2
        go_ret
        exact ⟨_, rfl, by rw [hv.out]; exact (decide_eq_true (by omega)).symm, rfl⟩
      · have hs := hst.out k hlt
        have e1 : (l[k] == b) = false := beq_eq_false_iff_ne.2 hb
        have e2 : (b == l[k]) = false := beq_eq_false_iff_ne.2 (fun x => hb x.symm)
        rw [e1, hno.out] at hs
        replace hs := hid hs
        clear hb
        generalize l[k] = x at *
        go_wp2
        go_round
        case rel => exact ⟨k + 1, by omega, by go_num, hs⟩
        case measure => simp [intOf]; omega
    · have hv := hid (hft.out k hlt)
      obtain rfl : k = l.length := by omega
      rw [hno.out] at hv
      clear hno
      go_wp2
      go_ret
      exact ⟨_, rfl, by rw [← hv.out]; rfl, rfl⟩
theorem slices_ContainsI (l : List Int) (b : Int) (v : Value) (w : World) (h : RL intC w v l) (hl : l.length ≤ 17592186044160) :
    Calls Try.prog 37 #[v, .int .i64 b] w fun e w' => e = .returned (.bool (inI l b)) ∧ w = w' := by
  have hI := hid (slices_IndexI l b v w h hl)
  obtain ⟨a, cap, rfl, _⟩ := h.form
  clear h
  go_enter Try.func37, Try.ntmps37
  go_wp2_with (go_at_call 54; go_loud ((with_reducible refine hI.out.mono ?_); rintro e w1 ⟨r, rfl, hr, rfl⟩; replace hr := hid hr))
  go_ret
  exact ⟨ret_b hr.out.symm, rfl⟩
theorem txn_Change1 (x b : Int) (gb : Nat) (w : World) (hc : w.cell? ⟨gb, 0, none⟩ = some (.int .i64 b)) :
    Calls Try.prog 28 #[.int .i64 x, .pointer (some ⟨gb, 0, none⟩)] w fun e w' => e = .returned (.bool (x == b)) ∧ Below w.heap.size w w' := by
  by_cases hb : x = b
  · have e1 : (x == b) = true := beq_iff_eq.2 hb
    rw [e1]
    subst hb
    go_enter Try.func28, Try.ntmps28
    go_wp2
    go_ret
    exact ⟨rfl, b0 w⟩
  · have e1 : (x == b) = false := beq_eq_false_iff_ne.2 hb
    rw [e1]
    go_enter Try.func28, Try.ntmps28
    go_wp2
    go_ret
    exact ⟨rfl, b0 w⟩
theorem slices_IndexFuncI (l : List Int) (b : Int) (v : Value) (gb : Nat) (w : World) (h : RL intC w v l) (hc : w.cell? ⟨gb, 0, none⟩ = some (.int .i64 b)) (hl : l.length ≤ 17592186044160) :
    Calls Try.prog 50 #[v, .func (.func 28) #[] #[.pointer (some ⟨gb, 0, none⟩)]] w fun e w' => e = .returned (.int .i64 (idxK (fun x => x) l b)) ∧ Below w.heap.size w w' := by
  obtain ⟨a, cap, rfl, _⟩ := h.form
  have hit := hid (fun k (hk : k < l.length) (h1 : l[k] = b) h2 => idxK_hit (key := fun x => x) (b := b) hk h1 h2)
  have non := hid (fun h2 => idxK_none (key := fun x => x) (l := l) (b := b) h2)
  have hC := hid (fun x w hc => txn_Change1 x b gb w hc)
  generalize idxK (fun x => x) l b = r at *
  replace h := hid h; replace hc := hid hc
  go_enter Try.func50, Try.ntmps50
  go_wp2
  go_loopw [8] (fun i wr => ∃ k : Nat, k ≤ l.length ∧ i = .int .i64 k ∧ Below w.heap.size w wr ∧ Hid (∀ i (hi : i < l.length), i < k → ¬ l[i] = b)) (fun i _ => l.length - (intOf i).toNat)
  case atStart => exact ⟨0, Nat.zero_le _, rfl, b0 w, hid (fun i _ h => absurd h (Nat.not_lt_zero i))⟩
  case round =>
    obtain ⟨k, hk, rfl, nx, hno⟩ := hrel
    by_cases hlt : k < l.length
    · obtain ⟨b1, o1, rfl, c0⟩ := RL.at1 (fun x => .int .i64 x) (fun _ => rfl) (h.out.below nx) hlt
      have hcw := hid (cell_below nx hc.out)
      by_cases hb : l[k] = b
      · have hv := hid (hit.out k hlt hb (fun i hi => hno.out i (by omega) hi))
        have hCx := hC.out l[k] wr hcw.out
        have e1 : (l[k] == b) = true := beq_iff_eq.2 hb
        rw [e1] at hCx
        replace hCx := hid hCx
        clear hb e1 hno hit non
        generalize l[k] = x at *
        go_wp2_with (go_at_call 28; go_loud ((with_reducible refine hCx.out.mono ?_); rintro e w1 ⟨rfl, hb1⟩))
        go_ret
        exact ⟨ret_i hv.out.symm, bgo nx hb1⟩
      · have hno2 : Hid (∀ i (hi : i < l.length), i < k + 1 → ¬ l[i] = b) := hid (fun i hi h2 => by
          by_cases e : i = k
          · subst e; exact hb
          · exact hno.out i hi (by omega))
        have hCx := hC.out l[k] wr hcw.out
        have e1 : (l[k] == b) = false := beq_eq_false_iff_ne.2 hb
        rw [e1] at hCx
        replace hCx := hid hCx
        clear hb e1 hno hit non
        generalize l[k] = x at *
        go_wp2_with (go_at_call 28; go_loud ((with_reducible refine hCx.out.mono ?_); rintro e w1 ⟨rfl, hb1⟩))
        go_roundw
        case rel => first | exact ⟨k + 1, by omega, by go_num, bgo nx hb1, hno2⟩ | ((repeat apply Exists.intro); exact ⟨⟨k + 1, by omega, by go_num, bgo nx hb1, hno2⟩, rfl⟩)
        case measure => simp [intOf]; omega
    · obtain rfl : k = l.length := by omega
      have hv := hid (non.out (fun i hi => hno.out i hi hi))
      clear hno hit non
      go_wp2
      go_ret
      exact ⟨ret_i hv.out.symm, nx⟩
theorem txn_drop1 (x : Cpy) (b : Int) (gb : Nat) (w : World) (hc : w.cell? ⟨gb, 0, none⟩ = some (.int .i64 b)) :
    Calls Try.prog 56 #[.agg #[.int .i64 x.block, .string x.text], .pointer (some ⟨gb, 0, none⟩)] w fun e w' => e = .returned (.bool (x.block == b)) ∧ Below w.heap.size w w' := by
  obtain ⟨x, s⟩ := x
  have k0 := Blk.new w #[.int .i64 x, .string s] 68
  have c0 := k0.cell 0; have c1 := k0.cell 1
  have hc2 := cell_below (bal (b0 w) (.cells #[.int .i64 x, .string s] 68)) hc
  simp only [List.getElem?_toArray, List.getElem?_cons_zero, List.getElem?_cons_succ] at c0 c1
  dsimp only
  by_cases hb : x = b
  · have e1 : (x == b) = true := beq_iff_eq.2 hb
    rw [e1]
    subst hb
    go_enter Try.func56, Try.ntmps56
    go_wp2
    go_ret
    exact ⟨rfl, bal (b0 w) _⟩
  · have e1 : (x == b) = false := beq_eq_false_iff_ne.2 hb
    rw [e1]
    go_enter Try.func56, Try.ntmps56
    go_wp2
    go_ret
    exact ⟨rfl, bal (b0 w) _⟩
theorem slices_IndexFuncC (l : List Cpy) (b : Int) (v : Value) (gb : Nat) (w : World) (h : RL cpyC w v l) (hc : w.cell? ⟨gb, 0, none⟩ = some (.int .i64 b)) (hl : l.length ≤ 5864062014805) :
    Calls Try.prog 74 #[v, .func (.func 56) #[] #[.pointer (some ⟨gb, 0, none⟩)]] w fun e w' => e = .returned (.int .i64 (idxK (fun x => x.block) l b)) ∧ Below w.heap.size w w' := by
  obtain ⟨a, cap, rfl, _⟩ := h.form
  have hit := hid (fun k (hk : k < l.length) (h1 : l[k].block = b) h2 => idxK_hit (key := fun x => x.block) (b := b) hk h1 h2)
  have non := hid (fun h2 => idxK_none (key := fun x => x.block) (l := l) (b := b) h2)
  have hC := hid (fun x w hc => txn_drop1 x b gb w hc)
  generalize idxK (fun x => x.block) l b = r at *
  replace h := hid h; replace hc := hid hc
  go_enter Try.func74, Try.ntmps74
  go_wp2
  go_loopw [8] (fun i wr => ∃ k : Nat, k ≤ l.length ∧ i = .int .i64 k ∧ Below w.heap.size w wr ∧ Hid (∀ i (hi : i < l.length), i < k → ¬ l[i].block = b)) (fun i _ => l.length - (intOf i).toNat)
  case atStart => exact ⟨0, Nat.zero_le _, rfl, b0 w, hid (fun i _ h => absurd h (Nat.not_lt_zero i))⟩
  case round =>
    obtain ⟨k, hk, rfl, nx, hno⟩ := hrel
    by_cases hlt : k < l.length
    · obtain ⟨b1, o1, rfl, c0, c1⟩ := RL.at2 (fun x => .int .i64 x.block) (fun x => .string x.text) (fun _ => rfl) (h.out.below nx) hlt
      have hcw := hid (cell_below nx hc.out)
      by_cases hb : l[k].block = b
      · have hv := hid (hit.out k hlt hb (fun i hi => hno.out i (by omega) hi))
        have hCx := hC.out l[k] wr hcw.out
        have e1 : (l[k].block == b) = true := beq_iff_eq.2 hb
        rw [e1] at hCx
        replace hCx := hid hCx
        clear hb e1 hno hit non
        generalize l[k] = x at *
        go_wp2_with (go_at_call 56; go_loud ((with_reducible refine hCx.out.mono ?_); rintro e w1 ⟨rfl, hb1⟩))
        go_ret
        exact ⟨ret_i hv.out.symm, bgo nx hb1⟩
      · have hno2 : Hid (∀ i (hi : i < l.length), i < k + 1 → ¬ l[i].block = b) := hid (fun i hi h2 => by
          by_cases e : i = k
          · subst e; exact hb
          · exact hno.out i hi (by omega))
        have hCx := hC.out l[k] wr hcw.out
        have e1 : (l[k].block == b) = false := beq_eq_false_iff_ne.2 hb
        rw [e1] at hCx
        replace hCx := hid hCx
        clear hb e1 hno hit non
        generalize l[k] = x at *
        go_wp2_with (go_at_call 56; go_loud ((with_reducible refine hCx.out.mono ?_); rintro e w1 ⟨rfl, hb1⟩))
        go_roundw
        case rel => first | exact ⟨k + 1, by omega, by go_num, bgo nx hb1, hno2⟩ | ((repeat apply Exists.intro); exact ⟨⟨k + 1, by omega, by go_num, bgo nx hb1, hno2⟩, rfl⟩)
        case measure => simp [intOf]; omega
    · obtain rfl : k = l.length := by omega
      have hv := hid (non.out (fun i hi => hno.out i hi hi))
      clear hno hit non
      go_wp2
      go_ret
      exact ⟨ret_i hv.out.symm, nx⟩
end Go.Proofs.Ytjhmfljlclajnac

namespace Wb
open Go Go.RowKit
set_option linter.unusedVariables false
set_option linter.unusedSimpArgs false
section
variable {P : Program} {w : World} {ops : Array Oper} {rest : List Oper} {o : Oper} {a : Act} {Q : Exit → Act → World → Prop}
theorem wpList_copyR (hgd : o.guard = none) (d s : Operand) (t t' : TypeId) (ho : o.op = .call { callee := .builtin .copy, args := #[d, s], argTypes := #[t, t'] }) {v u v' : Value} {w' : World}
    (hr : (Builtin.copy_ #[t, t'] o.type #[v, u]).run P w = .ok v' w') (hd : a.eval d = v) (hs : a.eval s = u) (h : wpList P ops Q rest (a.put o.dst v') w') : wpList P ops Q (o :: rest) a w := by
  refine wpList_plain hgd fun K hK => ?_
  unfold Oper.wp execOp
  simp only [ho, resolve, invoke, builtin, Sem.run_bind, Sem.run_pure, Result.andThen_ok, List.map_toArray, List.map_cons, List.map_nil, hd, hs, hr]
  exact hK _ _ h
theorem wpList_appR (hgd : o.guard = none) (d s : Operand) (t t' : TypeId) (ho : o.op = .call { callee := .builtin .append, args := #[d, s], argTypes := #[t, t'] }) {v u v' : Value} {w' : World}
    (hr : (Builtin.append_ #[t, t'] o.type #[v, u]).run P w = .ok v' w') (hd : a.eval d = v) (hs : a.eval s = u) (h : wpList P ops Q rest (a.put o.dst v') w') : wpList P ops Q (o :: rest) a w := by
  refine wpList_plain hgd fun K hK => ?_
  unfold Oper.wp execOp
  simp only [ho, resolve, invoke, builtin, Sem.run_bind, Sem.run_pure, Result.andThen_ok, List.map_toArray, List.map_cons, List.map_nil, hd, hs, hr]
  exact hK _ _ h
theorem wpList_clearR (hgd : o.guard = none) (s : Operand) (t : TypeId) (ho : o.op = .call { callee := .builtin .clear, args := #[s], argTypes := #[t] }) (u : Value) (hs : a.eval s = u) {v' : Value} {w' : World}
    (hr : (Builtin.clear_ #[t] o.type #[u]).run P w = .ok v' w') (h : wpList P ops Q rest (a.put o.dst v') w') : wpList P ops Q (o :: rest) a w := by
  refine wpList_plain hgd fun K hK => ?_
  unfold Oper.wp execOp
  simp only [ho, resolve, invoke, builtin, Sem.run_bind, Sem.run_pure, Result.andThen_ok, List.map_toArray, List.map_cons, List.map_nil, hs, hr]
  exact hK _ _ h
theorem step_copyR {K : Act → World → Prop} {E : Prop} (hg : o.guard = none) (d s : Operand) (t t' : TypeId) (ho : o.op = .call { callee := .builtin .copy, args := #[d, s], argTypes := #[t, t'] }) {v u v' : Value} {w' : World}
    (hr : (Builtin.copy_ #[t, t'] o.type #[v, u]).run P w = .ok v' w') (hd : a.eval d = v) (hs : a.eval s = u) (hK : K (a.put o.dst v') w') : if Region.wanted o (yielded ops a.tmps) = true then Oper.wp P o a w K Q else E := by
  have hw : Region.wanted o (yielded ops a.tmps) = true := by simp [Region.wanted, hg]
  rw [if_pos hw]
  unfold Oper.wp execOp
  simp only [ho, resolve, invoke, builtin, Sem.run_bind, Sem.run_pure, Result.andThen_ok, List.map_toArray, List.map_cons, List.map_nil, hd, hs, hr]
  exact hK
theorem run_copy_blk {dT elem : TypeId} {c bytes : Nat} (hT : Elem P dT elem c bytes) (w : World) (sT ty : TypeId) {g : Nat} {cur : Array Value} (hk : Blk w g cur elem) (off dLen dCap : Nat) (b soff sLen sCap : Nat) (cs : List Value)
    (hn : cs.length = Nat.min sLen dLen * c) (hsrc : ∀ j v, cs[j]? = some v → w.cell? ⟨b, soff + j, none⟩ = some v) (hfit : off + cs.length ≤ cur.size) (h1 : ∀ v ∈ cs, v.oneCell' = true) :
    (Builtin.copy_ #[dT, sT] ty #[.slice (some ⟨g, off, none⟩) dLen dCap, .slice (some ⟨b, soff, none⟩) sLen sCap]).run P w = .ok (goInt (Nat.min sLen dLen : Nat)) (w.setCells g off cs) := by
  obtain ⟨hu, i, z, hi, hz, hsz, hby, hzs⟩ := hT
  exact run_copy_c w dT sT ty elem c g off dLen dCap ⟨b, soff, none⟩ sLen sCap cs hu (by rw [hi]; simp [hsz]) hn (fun j v hj => by rw [Addr.add_lit]; exact hsrc j v hj) (fun j hj => by rw [hk.cell, Array.getElem?_eq_getElem (by omega)]; rfl) (fun j hj => hk.free _) h1
end
section
variable {α : Type} {f : α → List Value} {base : Nat} {e : TypeId} {c : Nat} {l : List α}
theorem flat_one (hF : Flat f c) (l : List α) : ∀ u ∈ l.flatMap f, u.oneCell' = true := fun u hu => by obtain ⟨x, _, hx⟩ := List.mem_flatMap.1 hu; exact hF.one x u hx
theorem insLen {i : Nat} (x : α) (hi : i ≤ l.length) : (l.take i ++ x :: l.drop i).length = l.length + 1 := by
  rw [List.length_append, List.length_take, List.length_cons, List.length_drop]; omega
theorem ins_shift (hF : Flat f c) {g cap i : Nat} {cur : Array Value} (hbg : base ≤ g) (hmax : cap ≤ maxLen) (hsz : cur.size = cap * c) (htk : cur.toList.take (l.length * c) = l.flatMap f) (hi : i ≤ l.length) (hc : l.length + 1 ≤ cap) (x : α) {w0 : World} (hk : Blk w0 g cur e) :
    ∃ cur1 : Array Value, cur1.size = cap * c ∧ Blk (w0.setCells g ((i + 1) * c) ((l.drop i).flatMap f)) g cur1 e ∧ ∀ w1, Blk w1 g cur1 e → Own f base e c (w1.setCells g (i * c) (f x)) (.slice (some ⟨g, 0, none⟩) (l.length + 1) cap) (l.take i ++ x :: l.drop i) := by
  have hd := flat_dropLen hF.len l i
  have hm := mul_split (c := c) hi
  have hm2 : (l.length + 1) * c ≤ cap * c := Nat.mul_le_mul_right _ hc
  rw [Nat.succ_mul] at hm2
  have b1 := Blk.sets ((l.drop i).flatMap f) ((i + 1) * c) w0 cur hk (by rw [hd, hsz, Nat.succ_mul]; omega)
  have hs1 : (cur.toList.take ((i + 1) * c) ++ (l.drop i).flatMap f ++ cur.toList.drop ((i + 1) * c + ((l.drop i).flatMap f).length)).length = cap * c := by
    simp only [List.length_append, List.length_take, List.length_drop, Array.length_toList, hsz, hd, Nat.succ_mul]
    omega
  refine ⟨_, by simpa using hs1, b1, fun w1 k1 => ?_⟩
  have b2 := Blk.sets (f x) (i * c) w1 _ k1 (by rw [hF.len, List.size_toArray, hs1]; omega)
  obtain ⟨h1, h2⟩ := ins_room hF.len cur.toList l i cap x (by rw [Array.length_toList]; exact hsz) htk hi hc rfl rfl
  have := Own.ofRow (l := l.take i ++ x :: l.drop i) (base := base) hF hbg b2 (by rw [insLen x hi]; exact hc) hmax (by rw [List.size_toArray]; exact h1) (by rw [insLen x hi]; exact h2)
  rw [insLen x hi] at this
  exact this
theorem ins_grown (hF : Flat f c) {g cap i : Nat} {cur : Array Value} (Z : List Value) (hbg : base ≤ g) (hmax : cap ≤ maxLen) (hZ : Z.length = (cap - i) * c) (hcur : cur = ((l.take i).flatMap f ++ Z).toArray) (hi : i ≤ l.length) (hc : l.length + 1 ≤ cap) (x : α) {w0 : World} (hk : Blk w0 g cur e) :
    cur.size = cap * c ∧ ∃ cur1 : Array Value, cur1.size = cap * c ∧ Blk (w0.setCells g (i * c) (f x)) g cur1 e ∧ ∀ w1, Blk w1 g cur1 e → Own f base e c (w1.setCells g ((i + 1) * c) ((l.drop i).flatMap f)) (.slice (some ⟨g, 0, none⟩) (l.length + 1) cap) (l.take i ++ x :: l.drop i) := by
  have hd := flat_dropLen hF.len l i
  have hm := mul_split (c := c) hi
  have hm2 : (l.length + 1) * c ≤ cap * c := Nat.mul_le_mul_right _ hc
  have hm3 := mul_split (c := c) (n := cap) (i := i) (by omega)
  have h4 := flat_len hF.len (l.take i)
  rw [List.length_take, Nat.min_eq_left hi] at h4
  rw [Nat.succ_mul] at hm2
  have hs0 : cur.size = cap * c := by rw [hcur, List.size_toArray, List.length_append, h4, hZ]; exact hm3
  refine ⟨hs0, ?_⟩
  have b1 := Blk.sets (f x) (i * c) w0 cur hk (by rw [hF.len, hs0]; omega)
  have hs1 : (cur.toList.take (i * c) ++ f x ++ cur.toList.drop (i * c + (f x).length)).length = cap * c := by
    simp only [List.length_append, List.length_take, List.length_drop, Array.length_toList, hs0, hF.len]
    omega
  refine ⟨_, by simpa using hs1, b1, fun w1 k1 => ?_⟩
  have b2 := Blk.sets ((l.drop i).flatMap f) ((i + 1) * c) w1 _ k1 (by rw [hd, List.size_toArray, hs1, Nat.succ_mul]; omega)
  obtain ⟨h1, h2⟩ := ins_grow hF.len Z l i cap x hZ hi hc (L := cur.toList) (by rw [hcur]) rfl rfl
  have := Own.ofRow (l := l.take i ++ x :: l.drop i) (base := base) hF hbg b2 (by rw [insLen x hi]; exact hc) hmax (by rw [List.size_toArray]; exact h1) (by rw [insLen x hi]; exact h2)
  rw [insLen x hi] at this
  exact this
/-- append(s[:i], make(.., m)...), no room: a new row. -/
theorem run_app_make {P : Program} {t tn : TypeId} {bytes : Nat} (hF : Flat f c) (hT : Elem P t e c bytes) (htn : P.underlying tn = some (.int .i64)) (w : World) {g cap i m : Nat} {cur : Array Value} (hk : Blk w g cur e) (htk : cur.toList.take (l.length * c) = l.flatMap f) (hi : i ≤ l.length) (hm : 0 < m) (hg : cap < i + m)
    (hroom : (i + m) * bytes ≤ 140737488355328) (h63 : i + m ≤ maxLen) :
    ∃ Z : List Value, Z.length = (grownCap w (i + m) cap e - i) * c ∧ ∀ ty, (Builtin.append_ #[t, tn] ty #[.slice (some ⟨g, 0, none⟩) i cap, .int .i64 m]).run P w =
      .ok (.slice (some ⟨w.heap.size, 0, none⟩) (i + m) (grownCap w (i + m) cap e)) (w.drew.alloc (.cells ((l.take i).flatMap f ++ Z).toArray e)) := by
  obtain ⟨hu, io, z, hio, hz, hsz, hby, hzs⟩ := hT
  have hold : (Builtin.firstCells io.size i (.slice (some ⟨g, 0, none⟩) i cap)).run P w.drew = .ok ((l.take i).flatMap f).toArray w.drew := by
    have h4 := flat_len hF.len (l.take i)
    rw [List.length_take, Nat.min_eq_left hi] at h4
    refine run_firstCells_some w.drew io.size i ⟨g, 0, none⟩ i cap _ (by rw [h4, hsz]) (fun j u hj => ?_)
    have hlt : j < ((l.take i).flatMap f).length := (List.getElem?_eq_some_iff.1 hj).1
    rw [Addr.add_lit, Nat.zero_add]
    have h5 : (l.flatMap f)[j]? = some u := by
      conv => lhs; rw [← List.take_append_drop i l]
      rw [List.flatMap_append, List.getElem?_append_left hlt]
      exact hj
    rw [← htk, List.getElem?_take] at h5
    split at h5
    · show w.cell? _ = _
      rw [hk.cell, ← h5]
      simp
    · cases h5
  have hby' : m * bytes ≤ (i + m) * bytes := Nat.mul_le_mul_right _ (by omega)
  have hr := fun ty => Lib.run_append_grow_zeros w t tn ty e io z .i64 .i64 hu htn hio hz (some ⟨g, 0, none⟩) i cap _ hold m hm (by rw [hsz]; exact hF.pos) hg (by unfold maxLen at h63; omega) (by rw [hby]; omega) (by rw [hby]; exact growslice_fits hg hroom)
  have hge := grownCap_ge w (i + m) cap e
  refine ⟨(Builtin.zeroCells z.cells m).toList ++ (Builtin.zeroCells z.cells (grownCap w (i + m) cap e - (i + m))).toList, ?_, ?_⟩
  · rw [List.length_append, Array.length_toList, Array.length_toList, size_zeroCells, size_zeroCells, hzs, ← Nat.add_mul]
    congr 1
    omega
  · intro ty
    rw [hr]
    congr 3
    apply Array.ext'
    simp [List.append_assoc]
end
end Wb
