/- Parts of the proof: RowI CopyT SlcA RowJ SlcB TxnQ. -/
import Derived.Test.YtjhmfljlclajnaaGreatDoorKTopReads2
import Derived.Test.YtjhmfljlclajnaaGreatDoorKTopReads10
import Derived.Test.YtjhmfljlclajnaaGreatDoorKTopReads4
import Derived.Test.YtjhmfljlclajnaaGreatDoorURegApp
import Derived.Test.YtjhmfljlclajnaaGreatDoorUBytes
set_option linter.unusedVariables false
set_option linter.unusedSimpArgs false
namespace Wb
open Go Go.RowKit
section
variable {α : Type} {f : α → List Value} {base : Nat} {e : TypeId} {c : Nat} {w w' : World} {v : Value} {l : List α}
theorem flat_take (hf : ∀ x, (f x).length = c) : ∀ (l : List α) (i : Nat), i ≤ l.length → (l.flatMap f).take (i * c) = (l.take i).flatMap f
 | l, 0, _ => by simp
 | [], i + 1, h => by simp at h
 | x :: l, i + 1, h => by
  rw [List.flatMap_cons, List.take_succ_cons, List.flatMap_cons, List.take_append, List.take_of_length_le (by rw [hf, Nat.succ_mul]; omega), hf, show (i + 1) * c - c = i * c by rw [Nat.succ_mul]; omega, flat_take hf l i (by simpa using h)]
theorem flat_dropLen (hf : ∀ x, (f x).length = c) (l : List α) (i : Nat) : ((l.drop i).flatMap f).length = (l.length - i) * c := by
 rw [flat_len hf, List.length_drop]
theorem mul_split {n i c : Nat} (h : i ≤ n) : i * c + (n - i) * c = n * c := by rw [← Nat.add_mul]; congr 1; omega
theorem ins_room (hf : ∀ x, (f x).length = c) (L : List Value) (l : List α) (i cap : Nat) (x : α) (hL : L.length = cap * c) (ht : L.take (l.length * c) = l.flatMap f) (hi : i ≤ l.length) (hc : l.length + 1 ≤ cap) {L1 L2 : List Value}
    (h1 : L1 = L.take ((i + 1) * c) ++ (l.drop i).flatMap f ++ L.drop ((i + 1) * c + ((l.drop i).flatMap f).length)) (h2 : L2 = L1.take (i * c) ++ f x ++ L1.drop (i * c + (f x).length)) :
    L2.length = cap * c ∧ L2.take ((l.length + 1) * c) = (l.take i ++ x :: l.drop i).flatMap f := by
 have hx := hf x
 have hd := flat_dropLen hf l i
 have hm := mul_split (c := c) hi
 have hm2 : (l.length + 1) * c ≤ cap * c := Nat.mul_le_mul_right _ hc
 rw [Nat.succ_mul] at hm2
 have hsucc : (i + 1) * c = i * c + (f x).length := by rw [hx, Nat.succ_mul]
 rw [hsucc] at h1
 subst h1
 rw [seg2 L (i * c) (f x) ((l.drop i).flatMap f) (by rw [hx, hd, hL]; omega)] at h2
 subst h2
 have h3 : L.take (i * c) = (l.take i).flatMap f := by
  rw [← flat_take hf l i hi, ← ht, List.take_take, Nat.min_eq_left (by rw [← hm]; omega)]
 have h4 := flat_len hf (l.take i)
 rw [List.length_take, Nat.min_eq_left hi] at h4
 rw [h3]
 refine ⟨?_, ?_⟩
 ·simp only [List.length_append, List.length_drop, h4, hx, hd, hL]
  omega
 ·rw [List.flatMap_append, List.flatMap_cons, ← List.append_assoc]
  have h5 : ((l.take i).flatMap f ++ f x ++ (l.drop i).flatMap f).length = (l.length + 1) * c := by
   simp only [List.length_append, h4, hx, hd, Nat.succ_mul]
   omega
  rw [← h5]
  exact List.take_left
theorem ins_grow (hf : ∀ x, (f x).length = c) (Z : List Value) (l : List α) (i cap : Nat) (x : α) (hZ : Z.length = (cap - i) * c) (hi : i ≤ l.length) (hc : l.length + 1 ≤ cap) {L L1 L2 : List Value} (h0 : L = (l.take i).flatMap f ++ Z)
    (h1 : L1 = L.take (i * c) ++ f x ++ L.drop (i * c + (f x).length)) (h2 : L2 = L1.take ((i + 1) * c) ++ (l.drop i).flatMap f ++ L1.drop ((i + 1) * c + ((l.drop i).flatMap f).length)) :
    L2.length = cap * c ∧ L2.take ((l.length + 1) * c) = (l.take i ++ x :: l.drop i).flatMap f := by
 have hx := hf x
 have hd := flat_dropLen hf l i
 have hm := mul_split (c := c) hi
 have hm2 : (l.length + 1) * c ≤ cap * c := Nat.mul_le_mul_right _ hc
 rw [Nat.succ_mul] at hm2
 have hm3 := mul_split (c := c) (n := cap) (i := i) (by omega)
 have hsucc : (i + 1) * c = i * c + (f x).length := by rw [hx, Nat.succ_mul]
 have h4 := flat_len hf (l.take i)
 rw [List.length_take, Nat.min_eq_left hi] at h4
 have hL : L.length = cap * c := by rw [h0, List.length_append, h4, hZ]; exact hm3
 rw [hsucc] at h2
 subst h1
 rw [seg3 L (i * c) (f x) ((l.drop i).flatMap f) (by rw [hx, hd, hL]; omega)] at h2
 subst h2
 have h3 : L.take (i * c) = (l.take i).flatMap f := by
  rw [h0, ← h4]
  exact List.take_left
 rw [h3]
 refine ⟨?_, ?_⟩
 ·simp only [List.length_append, List.length_drop, h4, hx, hd, hL]
  omega
 ·rw [List.flatMap_append, List.flatMap_cons, ← List.append_assoc]
  have h5 : ((l.take i).flatMap f ++ f x ++ (l.drop i).flatMap f).length = (l.length + 1) * c := by
   simp only [List.length_append, h4, hx, hd, Nat.succ_mul]
   omega
  rw [← h5]
  exact List.take_left
theorem row_from (hf : ∀ x, (f x).length = c) {g : Nat} {cur : Array Value} (hk : Blk w g cur e) (ht : cur.toList.take (l.length * c) = l.flatMap f) {i : Nat} (hi : i ≤ l.length) :
    ∀ j u, ((l.drop i).flatMap f)[j]? = some u → w.cell? ⟨g, i * c + j, none⟩ = some u := by
 intro j u hj
 have hd := flat_dropLen hf l i
 have hm := mul_split (c := c) hi
 have hlt : j < ((l.drop i).flatMap f).length := (List.getElem?_eq_some_iff.1 hj).1
 have h4 := flat_len hf (l.take i)
 rw [List.length_take, Nat.min_eq_left hi] at h4
 have h5 : (l.flatMap f)[i * c + j]? = some u := by
  conv => lhs; rw [← List.take_append_drop i l]
  rw [List.flatMap_append, List.getElem?_append_right (by omega), h4, Nat.add_sub_cancel_left]
  exact hj
 rw [← ht, List.getElem?_take, if_pos (by omega)] at h5
 rw [hk.cell, ← h5]
 simp
theorem Own.cut {g cap : Nat} (hF : Flat f c) (h : Own f base e c w (.slice (some ⟨g, 0, none⟩) l.length cap) l) {i : Nat} (hi : i ≤ l.length) (zs : List Value) (hz : i * c + zs.length ≤ l.length * c) :
    Own f base e c (w.setCells g (i * c) zs) (.slice (some ⟨g, 0, none⟩) i cap) (l.take i) := by
 obtain ⟨h1, h2⟩ := h
 rcases h2 with ⟨h3, _⟩ | ⟨g', cap', cur, hv, hb, hg, hn, hc, hs, ht⟩
 ·exact absurd h3 (by simp)
 ·simp only [Value.slice.injEq, Option.some.injEq, Addr.mk.injEq, true_and, and_true] at hv
  obtain ⟨rfl, rfl⟩ := hv
  have hle : l.length * c ≤ cap * c := Nat.mul_le_mul_right _ hn
  have hk := Blk.sets (t := e) zs (i * c) w cur hg (by rw [hs]; omega)
  have hil : (l.take i).length = i := by rw [List.length_take]; omega
  have hm := mul_split (c := c) hi
  have := Own.ofRow (l := l.take i) (cap := cap) hF hb hk (by rw [hil]; omega) hc (by
   simp only [List.size_toArray, List.length_append, List.length_take, List.length_drop, Array.length_toList, hs]
   omega) (by
   rw [hil]
   show ((cur.toList.take (i * c) ++ zs) ++ _).take (i * c) = _
   rw [List.append_assoc, List.take_append_of_le_length (by rw [List.length_take, Array.length_toList, hs]; omega), List.take_take, Nat.min_self, ← flat_take hF.len l i hi, ← ht, List.take_take, Nat.min_eq_left (by omega)])
  rw [hil] at this
  exact this
def KeptI (p : α → Bool) (l : List α) (j i : Nat) (lk : List α) : Prop :=
 lk.length = l.length ∧ i = ((l.take j).filter p).length ∧ lk.take i = (l.take j).filter p ∧ lk.drop j = l.drop j
theorem KeptI.le {p : α → Bool} {j i : Nat} {lk : List α} (h : KeptI p l j i lk) : i ≤ j := by
 rw [h.2.1]
 exact Nat.le_trans (List.length_filter_le _ _) (by rw [List.length_take]; exact Nat.min_le_left _ _)
theorem KeptI.get {p : α → Bool} {j i : Nat} {lk : List α} (h : KeptI p l j i lk) (hj : j < l.length) : ∃ hk : j < lk.length, lk[j] = l[j] := by
 have hk : j < lk.length := by rw [h.1]; exact hj
 refine ⟨hk, ?_⟩
 have h1 := congrArg (fun x => x[0]?) h.2.2.2
 simp only [List.getElem?_drop, Nat.add_zero] at h1
 rw [List.getElem?_eq_getElem hk, List.getElem?_eq_getElem hj, Option.some.injEq] at h1
 exact h1
theorem KeptI.keep {p : α → Bool} {j i : Nat} {lk : List α} (h : KeptI p l j i lk) (hj : j < l.length) (hp : p l[j] = true) : KeptI p l (j + 1) (i + 1) (lk.set i l[j]) := by
 have hij := h.le
 obtain ⟨h1, h2, h3, h4⟩ := h
 have h5 : (l.take (j + 1)).filter p = (l.take j).filter p ++ [l[j]] := by rw [List.take_succ_eq_append_getElem hj, List.filter_append, List.filter_cons, if_pos hp, List.filter_nil]
 refine ⟨by simpa using h1, by rw [h5, List.length_append, ← h2]; rfl, ?_, ?_⟩
 ·rw [h5, ← h3, List.take_succ_eq_append_getElem (by rw [List.length_set, h1]; omega), List.getElem_set_self]
  congr 1
  rw [List.take_set_of_le (by omega)]
 ·rw [List.drop_set_of_lt (by omega), ← List.drop_drop, h4, List.drop_drop]
theorem KeptI.skip {p : α → Bool} {j i : Nat} {lk : List α} (h : KeptI p l j i lk) (hj : j < l.length) (hp : p l[j] = false) : KeptI p l (j + 1) i lk := by
 obtain ⟨h1, h2, h3, h4⟩ := h
 have h5 : (l.take (j + 1)).filter p = (l.take j).filter p := by rw [List.take_succ_eq_append_getElem hj, List.filter_append, List.filter_cons, if_neg (by rw [hp]; simp), List.filter_nil, List.append_nil]
 exact ⟨h1, by rw [h5, ← h2], by rw [h5, ← h3], by rw [← List.drop_drop, h4, List.drop_drop]⟩
theorem KeptI.start {p : α → Bool} {k : Nat} (hk : k < l.length) (h : ∀ i (hi : i < l.length), i < k → p l[i] = true) (hp : p l[k] = false) : KeptI p l (k + 1) k l := by
 have h5 : (l.take k).filter p = l.take k := List.filter_eq_self.2 (fun x hx => by
  obtain ⟨i, hi, rfl⟩ := List.getElem_of_mem hx
  rw [List.length_take] at hi
  rw [List.getElem_take]
  exact h i (by omega) (by omega))
 refine KeptI.skip ⟨rfl, ?_, ?_, rfl⟩ hk hp
 ·rw [h5, List.length_take]; omega
 ·rw [h5]
theorem KeptI.done {p : α → Bool} {j i : Nat} {lk : List α} (h : KeptI p l j i lk) (hj : l.length ≤ j) : lk.take i = l.filter p ∧ i = (l.filter p).length := by
 obtain ⟨h1, h2, h3, h4⟩ := h
 rw [List.take_of_length_le hj] at h2 h3
 exact ⟨h3, h2⟩
theorem filter_all {p : α → Bool} (h : ∀ i (hi : i < l.length), p l[i] = true) : l.filter p = l := List.filter_eq_self.2 (fun x hx => by
 obtain ⟨i, hi, rfl⟩ := List.getElem_of_mem hx
 exact h i hi)
end
theorem Own.setCells {α : Type} {f : α → List Value} {base : Nat} {e : TypeId} {c : Nat} {v : Value} {l : List α} : ∀ (ps : List (Addr × Value)) (w : World), Own f base e c w v l → (∀ p ∈ ps, p.1.block < base) → Own f base e c (ps.foldl (fun w p => w.setCell p.1 p.2) w) v l
 | [], _, h, _ => h
 | p :: ps, w, h, hp => Own.setCells ps _ (h.setCell (hp p (by simp)) p.2) (fun q hq => hp q (by simp [hq]))
theorem Below.setCells {B : Nat} {w : World} : ∀ (ps : List (Addr × Value)) (w' : World), Below B w w' → (∀ p ∈ ps, B ≤ p.1.block) → Below B w (ps.foldl (fun w p => w.setCell p.1 p.2) w')
 | [], _, h, _ => h
 | p :: ps, w', h, hp => Below.setCells ps _ (h.setCell (hp p (by simp)) p.2) (fun q hq => hp q (by simp [hq]))
end Wb
namespace Go.Proofs.YtjhmfljlclajnaaGreatDoor
open Go.RowKit Wb
set_option maxRecDepth 100000
set_option maxHeartbeats 4000000
theorem elemIntT : Elem Tryz.prog 49 3 1 8 := Elem.mk' (z := .int .i64 0) Tryz.underlying49 (by kernel_rfl) rfl
end Go.Proofs.YtjhmfljlclajnaaGreatDoor
namespace Wb
open Go Go.RowKit
def idxK {α : Type} (key : α → Int) (l : List α) (b : Int) : Int := match l.findIdx? (fun x => key x == b) with
 | some k => (k : Int)
 | none => -1
section
variable {α : Type} {key : α → Int} {l : List α} {b : Int}
theorem idxK_hit {k : Nat} (hk : k < l.length) (h1 : key l[k] = b) (h2 : ∀ i (hi : i < k), ¬ key l[i] = b) : idxK key l b = k := by
 have : l.findIdx? (fun x => key x == b) = some k := List.findIdx?_eq_some_iff_getElem.2 ⟨hk, by simpa using h1, fun j hj => by simpa using h2 j hj⟩
 unfold idxK; rw [this]
theorem idxK_none (h2 : ∀ i (hi : i < l.length), ¬ key l[i] = b) : idxK key l b = -1 := by
 have : l.findIdx? (fun x => key x == b) = none := List.findIdx?_eq_none_iff.2 (fun x hx => by
  obtain ⟨i, hi, rfl⟩ := List.getElem_of_mem hx
  simpa using h2 i hi)
 unfold idxK; rw [this]
theorem idxK_spec (key : α → Int) (l : List α) (b : Int) : (idxK key l b = -1 ∧ ∀ i (hi : i < l.length), ¬ key l[i] = b) ∨ ∃ k : Nat, idxK key l b = k ∧ ∃ hk : k < l.length, key l[k] = b ∧ ∀ i (hi : i < k), ¬ key l[i] = b := by
 cases e : l.findIdx? (fun x => key x == b) with
 | none =>
  refine .inl ⟨by unfold idxK; rw [e], fun i hi hb => ?_⟩
  have := List.findIdx?_eq_none_iff.1 e _ (List.getElem_mem hi)
  simp [hb] at this
 | some k =>
  obtain ⟨hk, h1, h2⟩ := List.findIdx?_eq_some_iff_getElem.1 e
  exact .inr ⟨k, by unfold idxK; rw [e], hk, by simpa using h1, fun i hi => by simpa using h2 i hi⟩
end
end Wb
namespace Go.Proofs.YtjhmfljlclajnaaGreatDoor
open Go.RowKit Wb
set_option maxRecDepth 100000
set_option maxHeartbeats 8000000
theorem slices_CloneI (l : List Int) (v : Value) (w : World) (h : RL intC w v l) (hl : l.length ≤ 17592186044160) :
    Calls Tryz.prog 80 #[v] w fun e w' => ∃ v', e = .returned v' ∧ Wb.Own intC w.heap.size 3 1 w' v' l ∧ Below w.heap.size w w' := by
 have hh := h
 obtain ⟨a, cap, rfl, _, _, h3⟩ := hh
 cases a with
 | none =>
  have h0 : l = [] := by
   rcases h3 with h3 | ⟨_, _, h4, _⟩
   ·have hl2 := flat_len intC_flat.len l
    rw [h3] at hl2
    exact List.length_eq_zero_iff.1 (by simp at hl2; omega)
   ·cases h4
  subst h0
  have heq := Lib.run_eql_slice_nil (P := Tryz.prog) w 49 3 none 0 cap 0 0 elemIntT.under
  clear h h3 hl
  go_enter Tryz.func80, Tryz.ntmps80
  go_wp2
  go_ret
  exact ⟨_, rfl, Own.nil _ _ _ _ _, b0 w⟩
 | some p =>
  obtain ⟨pb, po, ps⟩ := p
  replace h := hid h
  clear h3
  have h0 : Wb.Own intC w.heap.size 3 1 (w.alloc (.cells #[] 3)) (.slice (some ⟨w.heap.size, 0, none⟩) 0 0) [] := Own.ofRow (l := ([] : List Int)) intC_flat (Nat.le_refl _) (Blk.new w #[] _) (Nat.le_refl _) (by unfold maxLen; omega) rfl rfl
  have nx := bal (b0 w) (.cells #[] 3)
  have heq := Lib.run_eql_slice_nil (P := Tryz.prog) w 49 3 (some ⟨pb, po, ps⟩) l.length cap 0 0 elemIntT.under
  replace h0 := hid h0
  go_enter Tryz.func80, Tryz.ntmps80
  go_wp2_with (at_builtin; refine wpList_app rfl _ _ 49 rfl w.heap.size _ 1 8 intC_flat elemIntT h0.out rfl l (h.out.below nx) rfl (by simp; omega) (by simp; unfold maxLen; omega) (by simp) ?_; intro v1 w1 hown1 hg1; obtain ⟨a1, cap1, rfl⟩ := hown1.form; have nx2 := nx.trans (h0.out.belowGrown (by simp) hg1); simp only [List.nil_append, List.length_nil, Nat.zero_add] at hown1 nx2)
  go_ret
  exact ⟨_, rfl, hown1, nx2⟩
theorem slices_CloneC (l : List Cpy) (v : Value) (w : World) (h : RL cpyC w v l) (hl : l.length ≤ 5864062014805) :
    Calls Tryz.prog 102 #[v] w fun e w' => ∃ v', e = .returned v' ∧ Wb.Own cpyC w.heap.size 138 2 w' v' l ∧ Below w.heap.size w w' := by
 have hh := h
 obtain ⟨a, cap, rfl, _, _, h3⟩ := hh
 cases a with
 | none =>
  have h0 : l = [] := by
   rcases h3 with h3 | ⟨_, _, h4, _⟩
   ·have hl2 := flat_len cpyC_flat.len l
    rw [h3] at hl2
    exact List.length_eq_zero_iff.1 (by simp at hl2; omega)
   ·cases h4
  subst h0
  have heq := Lib.run_eql_slice_nil (P := Tryz.prog) w 48 138 none 0 cap 0 0 elemCpy.under
  clear h h3 hl
  go_enter Tryz.func102, Tryz.ntmps102
  go_wp2
  go_ret
  exact ⟨_, rfl, Own.nil _ _ _ _ _, b0 w⟩
 | some p =>
  obtain ⟨pb, po, ps⟩ := p
  replace h := hid h
  clear h3
  have h0 : Wb.Own cpyC w.heap.size 138 2 (w.alloc (.cells #[] 138)) (.slice (some ⟨w.heap.size, 0, none⟩) 0 0) [] := Own.ofRow (l := ([] : List Cpy)) cpyC_flat (Nat.le_refl _) (Blk.new w #[] _) (Nat.le_refl _) (by unfold maxLen; omega) rfl rfl
  have nx := bal (b0 w) (.cells #[] 138)
  have heq := Lib.run_eql_slice_nil (P := Tryz.prog) w 48 138 (some ⟨pb, po, ps⟩) l.length cap 0 0 elemCpy.under
  replace h0 := hid h0
  go_enter Tryz.func102, Tryz.ntmps102
  go_wp2_with (at_builtin; refine wpList_app rfl _ _ 48 rfl w.heap.size _ 2 24 cpyC_flat elemCpy h0.out rfl l (h.out.below nx) rfl (by simp; omega) (by simp; unfold maxLen; omega) (by simp) ?_; intro v1 w1 hown1 hg1; obtain ⟨a1, cap1, rfl⟩ := hown1.form; have nx2 := nx.trans (h0.out.belowGrown (by simp) hg1); simp only [List.nil_append, List.length_nil, Nat.zero_add] at hown1 nx2)
  go_ret
  exact ⟨_, rfl, hown1, nx2⟩
theorem slices_IndexI (l : List Int) (b : Int) (v : Value) (w : World) (h : RL intC w v l) (hl : l.length ≤ 17592186044160) :
    Calls Tryz.prog 99 #[v, .int .i64 b] w fun e w' => ∃ r : Int, e = .returned (.int .i64 r) ∧ (inI l b = decide (0 ≤ r)) ∧ w = w' := by
 obtain ⟨a, cap, rfl, _⟩ := h.form
 have hst := fun k (hk : k < l.length) => inI_step (l := l) (b := b) hk
 have hft := fun k (hk : ¬ k < l.length) => inI_full (l := l) (b := b) hk
 have hht := fun k (hk : k < l.length) (hb : l[k] = b) => inI_hit hk hb
 replace h := hid h; replace hst := hid hst; replace hft := hid hft; replace hht := hid hht
 go_enter Tryz.func99, Tryz.ntmps99
 go_wp2
 go_loop [8] (fun i => ∃ k : Nat, k ≤ l.length ∧ i = .int .i64 k ∧ Hid (inI (l.take k) b = false)) (fun i => l.length - (intOf i).toNat)
 case atStart => exact ⟨0, Nat.zero_le _, rfl, hid (by simp [inI])⟩
 case round =>
  obtain ⟨k, hk, rfl, hno⟩ := hrel
  by_cases hlt : k < l.length
  ·obtain ⟨b1, o1, rfl, c0⟩ := RL.at1 (fun x => .int .i64 x) (fun _ => rfl) h.out hlt
   by_cases hb : l[k] = b
   ·have hv := hid (hht.out k hlt hb)
    have e1 : (l[k] == b) = true := beq_iff_eq.2 hb
    have e2 : (b == l[k]) = true := beq_iff_eq.2 hb.symm
    clear hb
    generalize l[k] = x at *
    go_wp2
    go_ret
    exact ⟨_, rfl, by rw [hv.out]; exact (decide_eq_true (by omega)).symm, rfl⟩
   ·have hs := hst.out k hlt
    have e1 : (l[k] == b) = false := beq_eq_false_iff_ne.2 hb
    have e2 : (b == l[k]) = false := beq_eq_false_iff_ne.2 (fun x => hb x.symm)
    rw [e1, hno.out] at hs
    replace hs := hid hs
    clear hb
    generalize l[k] = x at *
    go_wp2
    go_round
    case rel => exact ⟨k + 1, by omega, by go_num, hs⟩
    case measure => simp [intOf]; omega
  ·have hv := hid (hft.out k hlt)
   obtain rfl : k = l.length := by omega
   rw [hno.out] at hv
   clear hno
   go_wp2
   go_ret
   exact ⟨_, rfl, by rw [← hv.out]; rfl, rfl⟩
theorem slices_ContainsI (l : List Int) (b : Int) (v : Value) (w : World) (h : RL intC w v l) (hl : l.length ≤ 17592186044160) :
    Calls Tryz.prog 72 #[v, .int .i64 b] w fun e w' => e = .returned (.bool (inI l b)) ∧ w = w' := by
 have hI := hid (slices_IndexI l b v w h hl)
 obtain ⟨a, cap, rfl, _⟩ := h.form
 clear h
 go_enter Tryz.func72, Tryz.ntmps72
 go_wp2_with (go_at_call 99; go_loud ((with_reducible refine hI.out.mono ?_); rintro e w1 ⟨r, rfl, hr, rfl⟩; replace hr := hid hr))
 go_ret
 exact ⟨ret_b hr.out.symm, rfl⟩
theorem txn_Change1 (x b : Int) (gb : Nat) (w : World) (hc : w.cell? ⟨gb, 0, none⟩ = some (.int .i64 b)) :
    Calls Tryz.prog 81 #[.int .i64 x, .pointer (some ⟨gb, 0, none⟩)] w fun e w' => e = .returned (.bool (x == b)) ∧ Below w.heap.size w w' := by
 by_cases hb : x = b
 ·have e1 : (x == b) = true := beq_iff_eq.2 hb
  rw [e1]
  subst hb
  go_enter Tryz.func81, Tryz.ntmps81
  go_wp2
  go_ret
  exact ⟨rfl, b0 w⟩
 ·have e1 : (x == b) = false := beq_eq_false_iff_ne.2 hb
  rw [e1]
  go_enter Tryz.func81, Tryz.ntmps81
  go_wp2
  go_ret
  exact ⟨rfl, b0 w⟩
theorem slices_IndexFuncI (l : List Int) (b : Int) (v : Value) (gb : Nat) (w : World) (h : RL intC w v l) (hc : w.cell? ⟨gb, 0, none⟩ = some (.int .i64 b)) (hl : l.length ≤ 17592186044160) :
    Calls Tryz.prog 101 #[v, .func (.func 81) #[] #[.pointer (some ⟨gb, 0, none⟩)]] w fun e w' => e = .returned (.int .i64 (idxK (fun x => x) l b)) ∧ Below w.heap.size w w' := by
 obtain ⟨a, cap, rfl, _⟩ := h.form
 have hit := hid (fun k (hk : k < l.length) (h1 : l[k] = b) h2 => idxK_hit (key := fun x => x) (b := b) hk h1 h2)
 have non := hid (fun h2 => idxK_none (key := fun x => x) (l := l) (b := b) h2)
 have hC := hid (fun x w hc => txn_Change1 x b gb w hc)
 generalize idxK (fun x => x) l b = r at *
 replace h := hid h; replace hc := hid hc
 go_enter Tryz.func101, Tryz.ntmps101
 go_wp2
 go_loopw [8] (fun i wr => ∃ k : Nat, k ≤ l.length ∧ i = .int .i64 k ∧ Below w.heap.size w wr ∧ Hid (∀ i (hi : i < l.length), i < k → ¬ l[i] = b)) (fun i _ => l.length - (intOf i).toNat)
 case atStart => exact ⟨0, Nat.zero_le _, rfl, b0 w, hid (fun i _ h => absurd h (Nat.not_lt_zero i))⟩
 case round =>
  obtain ⟨k, hk, rfl, nx, hno⟩ := hrel
  by_cases hlt : k < l.length
  ·obtain ⟨b1, o1, rfl, c0⟩ := RL.at1 (fun x => .int .i64 x) (fun _ => rfl) (h.out.below nx) hlt
   have hcw := hid (cell_below nx hc.out)
   by_cases hb : l[k] = b
   ·have hv := hid (hit.out k hlt hb (fun i hi => hno.out i (by omega) hi))
    have hCx := hC.out l[k] wr hcw.out
    have e1 : (l[k] == b) = true := beq_iff_eq.2 hb
    rw [e1] at hCx
    replace hCx := hid hCx
    clear hb e1 hno hit non
    generalize l[k] = x at *
    go_wp2_with (go_at_call 81; go_loud ((with_reducible refine hCx.out.mono ?_); rintro e w1 ⟨rfl, hb1⟩))
    go_ret
    exact ⟨ret_i hv.out.symm, bgo nx hb1⟩
   ·have hno2 : Hid (∀ i (hi : i < l.length), i < k + 1 → ¬ l[i] = b) := hid (fun i hi h2 => by
      by_cases e : i = k
      · subst e; exact hb
      · exact hno.out i hi (by omega))
    have hCx := hC.out l[k] wr hcw.out
    have e1 : (l[k] == b) = false := beq_eq_false_iff_ne.2 hb
    rw [e1] at hCx
    replace hCx := hid hCx
    clear hb e1 hno hit non
    generalize l[k] = x at *
    go_wp2_with (go_at_call 81; go_loud ((with_reducible refine hCx.out.mono ?_); rintro e w1 ⟨rfl, hb1⟩))
    go_roundw
    case rel => first | exact ⟨k + 1, by omega, by go_num, bgo nx hb1, hno2⟩ | ((repeat apply Exists.intro); exact ⟨⟨k + 1, by omega, by go_num, bgo nx hb1, hno2⟩, rfl⟩)
    case measure => simp [intOf]; omega
  ·obtain rfl : k = l.length := by omega
   have hv := hid (non.out (fun i hi => hno.out i hi hi))
   clear hno hit non
   go_wp2
   go_ret
   exact ⟨ret_i hv.out.symm, nx⟩
theorem txn_drop1 (x : Cpy) (b : Int) (gb : Nat) (w : World) (hc : w.cell? ⟨gb, 0, none⟩ = some (.int .i64 b)) :
    Calls Tryz.prog 105 #[.agg #[.int .i64 x.block, .string x.text], .pointer (some ⟨gb, 0, none⟩)] w fun e w' => e = .returned (.bool (x.block == b)) ∧ Below w.heap.size w w' := by
 obtain ⟨x, s⟩ := x
 have k0 := Blk.new w #[.int .i64 x, .string s] 138
 have c0 := k0.cell 0; have c1 := k0.cell 1
 have hc2 := cell_below (bal (b0 w) (.cells #[.int .i64 x, .string s] 138)) hc
 simp only [Zga, Zgb, Zgc] at c0 c1
 dsimp only
 by_cases hb : x = b
 ·have e1 : (x == b) = true := beq_iff_eq.2 hb
  rw [e1]
  subst hb
  go_enter Tryz.func105, Tryz.ntmps105
  go_wp2
  go_ret
  exact ⟨rfl, bal (b0 w) _⟩
 ·have e1 : (x == b) = false := beq_eq_false_iff_ne.2 hb
  rw [e1]
  go_enter Tryz.func105, Tryz.ntmps105
  go_wp2
  go_ret
  exact ⟨rfl, bal (b0 w) _⟩
theorem slices_IndexFuncC (l : List Cpy) (b : Int) (v : Value) (gb : Nat) (w : World) (h : RL cpyC w v l) (hc : w.cell? ⟨gb, 0, none⟩ = some (.int .i64 b)) (hl : l.length ≤ 5864062014805) :
    Calls Tryz.prog 116 #[v, .func (.func 105) #[] #[.pointer (some ⟨gb, 0, none⟩)]] w fun e w' => e = .returned (.int .i64 (idxK (fun x => x.block) l b)) ∧ Below w.heap.size w w' := by
 obtain ⟨a, cap, rfl, _⟩ := h.form
 have hit := hid (fun k (hk : k < l.length) (h1 : l[k].block = b) h2 => idxK_hit (key := fun x => x.block) (b := b) hk h1 h2)
 have non := hid (fun h2 => idxK_none (key := fun x => x.block) (l := l) (b := b) h2)
 have hC := hid (fun x w hc => txn_drop1 x b gb w hc)
 generalize idxK (fun x => x.block) l b = r at *
 replace h := hid h; replace hc := hid hc
 go_enter Tryz.func116, Tryz.ntmps116
 go_wp2
 go_loopw [8] (fun i wr => ∃ k : Nat, k ≤ l.length ∧ i = .int .i64 k ∧ Below w.heap.size w wr ∧ Hid (∀ i (hi : i < l.length), i < k → ¬ l[i].block = b)) (fun i _ => l.length - (intOf i).toNat)
 case atStart => exact ⟨0, Nat.zero_le _, rfl, b0 w, hid (fun i _ h => absurd h (Nat.not_lt_zero i))⟩
 case round =>
  obtain ⟨k, hk, rfl, nx, hno⟩ := hrel
  by_cases hlt : k < l.length
  ·obtain ⟨b1, o1, rfl, c0, c1⟩ := RL.at2 (fun x => .int .i64 x.block) (fun x => .string x.text) (fun _ => rfl) (h.out.below nx) hlt
   have hcw := hid (cell_below nx hc.out)
   by_cases hb : l[k].block = b
   ·have hv := hid (hit.out k hlt hb (fun i hi => hno.out i (by omega) hi))
    have hCx := hC.out l[k] wr hcw.out
    have e1 : (l[k].block == b) = true := beq_iff_eq.2 hb
    rw [e1] at hCx
    replace hCx := hid hCx
    clear hb e1 hno hit non
    generalize l[k] = x at *
    go_wp2_with (go_at_call 105; go_loud ((with_reducible refine hCx.out.mono ?_); rintro e w1 ⟨rfl, hb1⟩))
    go_ret
    exact ⟨ret_i hv.out.symm, bgo nx hb1⟩
   ·have hno2 : Hid (∀ i (hi : i < l.length), i < k + 1 → ¬ l[i].block = b) := hid (fun i hi h2 => by
      by_cases e : i = k
      · subst e; exact hb
      · exact hno.out i hi (by omega))
    have hCx := hC.out l[k] wr hcw.out
    have e1 : (l[k].block == b) = false := beq_eq_false_iff_ne.2 hb
    rw [e1] at hCx
    replace hCx := hid hCx
    clear hb e1 hno hit non
    generalize l[k] = x at *
    go_wp2_with (go_at_call 105; go_loud ((with_reducible refine hCx.out.mono ?_); rintro e w1 ⟨rfl, hb1⟩))
    go_roundw
    case rel => first | exact ⟨k + 1, by omega, by go_num, bgo nx hb1, hno2⟩ | ((repeat apply Exists.intro); exact ⟨⟨k + 1, by omega, by go_num, bgo nx hb1, hno2⟩, rfl⟩)
    case measure => simp [intOf]; omega
  ·obtain rfl : k = l.length := by omega
   have hv := hid (non.out (fun i hi => hno.out i hi hi))
   clear hno hit non
   go_wp2
   go_ret
   exact ⟨ret_i hv.out.symm, nx⟩
end Go.Proofs.YtjhmfljlclajnaaGreatDoor
namespace Wb
open Go Go.RowKit
section
variable {P : Program} {w : World} {ops : Array Oper} {rest : List Oper} {o : Oper} {a : Act} {Q : Exit → Act → World → Prop}
theorem wpList_appR (hgd : o.guard = none) (d s : Operand) (t t' : TypeId) (ho : o.op = .call { callee := .builtin .append, args := #[d, s], argTypes := #[t, t'] }) {v u v' : Value} {w' : World}
    (hr : (Builtin.append_ #[t, t'] o.type #[v, u]).run P w = .ok v' w') (hd : a.eval d = v) (hs : a.eval s = u) (h : wpList P ops Q rest (a.put o.dst v') w') : wpList P ops Q (o :: rest) a w := by
 refine wpList_plain hgd fun K hK => ?_
 unfold Oper.wp execOp
 simp only [ho, resolve, invoke, builtin, Sem.run_bind, Sem.run_pure, Result.andThen_ok, List.map_toArray, List.map_cons, List.map_nil, hd, hs, hr]
 exact hK _ _ h
theorem step_copyR {K : Act → World → Prop} {E : Prop} (hg : o.guard = none) (d s : Operand) (t t' : TypeId) (ho : o.op = .call { callee := .builtin .copy, args := #[d, s], argTypes := #[t, t'] }) {v u v' : Value} {w' : World}
    (hr : (Builtin.copy_ #[t, t'] o.type #[v, u]).run P w = .ok v' w') (hd : a.eval d = v) (hs : a.eval s = u) (hK : K (a.put o.dst v') w') : if Region.wanted o (yielded ops a.tmps) = true then Oper.wp P o a w K Q else E := by
 have hw : Region.wanted o (yielded ops a.tmps) = true := by simp [Region.wanted, hg]
 rw [if_pos hw]
 unfold Oper.wp execOp
 simp only [ho, resolve, invoke, builtin, Sem.run_bind, Sem.run_pure, Result.andThen_ok, List.map_toArray, List.map_cons, List.map_nil, hd, hs, hr]
 exact hK
theorem run_copy_blk {dT elem : TypeId} {c bytes : Nat} (hT : Elem P dT elem c bytes) (w : World) (sT ty : TypeId) {g : Nat} {cur : Array Value} (hk : Blk w g cur elem) (off dLen dCap : Nat) (b soff sLen sCap : Nat) (cs : List Value)
    (hn : cs.length = Nat.min sLen dLen * c) (hsrc : ∀ j v, cs[j]? = some v → w.cell? ⟨b, soff + j, none⟩ = some v) (hfit : off + cs.length ≤ cur.size) (h1 : ∀ v ∈ cs, v.oneCell' = true) :
    (Builtin.copy_ #[dT, sT] ty #[.slice (some ⟨g, off, none⟩) dLen dCap, .slice (some ⟨b, soff, none⟩) sLen sCap]).run P w = .ok (goInt (Nat.min sLen dLen : Nat)) (w.setCells g off cs) := by
 obtain ⟨hu, i, z, hi, hz, hsz, hby, hzs⟩ := hT
 exact run_copy_c w dT sT ty elem c g off dLen dCap ⟨b, soff, none⟩ sLen sCap cs hu (by rw [hi]; simp [hsz]) hn (fun j v hj => by rw [Addr.add_lit]; exact hsrc j v hj) (fun j hj => by rw [hk.cell, Array.getElem?_eq_getElem (by omega)]; rfl) (fun j hj => hk.free _) h1
end
section
variable {α : Type} {f : α → List Value} {base : Nat} {e : TypeId} {c : Nat} {l : List α}
theorem flat_one (hF : Flat f c) (l : List α) : ∀ u ∈ l.flatMap f, u.oneCell' = true := fun u hu => by obtain ⟨x, _, hx⟩ := List.mem_flatMap.1 hu; exact hF.one x u hx
theorem insLen {i : Nat} (x : α) (hi : i ≤ l.length) : (l.take i ++ x :: l.drop i).length = l.length + 1 := by
 rw [List.length_append, List.length_take, List.length_cons, List.length_drop]; omega
theorem ins_shift (hF : Flat f c) {g cap i : Nat} {cur : Array Value} (hbg : base ≤ g) (hmax : cap ≤ maxLen) (hsz : cur.size = cap * c) (htk : cur.toList.take (l.length * c) = l.flatMap f) (hi : i ≤ l.length) (hc : l.length + 1 ≤ cap) (x : α) {w0 : World} (hk : Blk w0 g cur e) :
    ∃ cur1 : Array Value, cur1.size = cap * c ∧ Blk (w0.setCells g ((i + 1) * c) ((l.drop i).flatMap f)) g cur1 e ∧ ∀ w1, Blk w1 g cur1 e → Own f base e c (w1.setCells g (i * c) (f x)) (.slice (some ⟨g, 0, none⟩) (l.length + 1) cap) (l.take i ++ x :: l.drop i) := by
 have hd := flat_dropLen hF.len l i
 have hm := mul_split (c := c) hi
 have hm2 : (l.length + 1) * c ≤ cap * c := Nat.mul_le_mul_right _ hc
 rw [Nat.succ_mul] at hm2
 have b1 := Blk.sets ((l.drop i).flatMap f) ((i + 1) * c) w0 cur hk (by rw [hd, hsz, Nat.succ_mul]; omega)
 have hs1 : (cur.toList.take ((i + 1) * c) ++ (l.drop i).flatMap f ++ cur.toList.drop ((i + 1) * c + ((l.drop i).flatMap f).length)).length = cap * c := by
  simp only [List.length_append, List.length_take, List.length_drop, Array.length_toList, hsz, hd, Nat.succ_mul]
  omega
 refine ⟨_, by simpa using hs1, b1, fun w1 k1 => ?_⟩
 have b2 := Blk.sets (f x) (i * c) w1 _ k1 (by rw [hF.len, List.size_toArray, hs1]; omega)
 obtain ⟨h1, h2⟩ := ins_room hF.len cur.toList l i cap x (by rw [Array.length_toList]; exact hsz) htk hi hc rfl rfl
 have := Own.ofRow (l := l.take i ++ x :: l.drop i) (base := base) hF hbg b2 (by rw [insLen x hi]; exact hc) hmax (by rw [List.size_toArray]; exact h1) (by rw [insLen x hi]; exact h2)
 rw [insLen x hi] at this
 exact this
theorem ins_grown (hF : Flat f c) {g cap i : Nat} {cur : Array Value} (Z : List Value) (hbg : base ≤ g) (hmax : cap ≤ maxLen) (hZ : Z.length = (cap - i) * c) (hcur : cur = ((l.take i).flatMap f ++ Z).toArray) (hi : i ≤ l.length) (hc : l.length + 1 ≤ cap) (x : α) {w0 : World} (hk : Blk w0 g cur e) :
    cur.size = cap * c ∧ ∃ cur1 : Array Value, cur1.size = cap * c ∧ Blk (w0.setCells g (i * c) (f x)) g cur1 e ∧ ∀ w1, Blk w1 g cur1 e → Own f base e c (w1.setCells g ((i + 1) * c) ((l.drop i).flatMap f)) (.slice (some ⟨g, 0, none⟩) (l.length + 1) cap) (l.take i ++ x :: l.drop i) := by
 have hd := flat_dropLen hF.len l i
 have hm := mul_split (c := c) hi
 have hm2 : (l.length + 1) * c ≤ cap * c := Nat.mul_le_mul_right _ hc
 have hm3 := mul_split (c := c) (n := cap) (i := i) (by omega)
 have h4 := flat_len hF.len (l.take i)
 rw [List.length_take, Nat.min_eq_left hi] at h4
 rw [Nat.succ_mul] at hm2
 have hs0 : cur.size = cap * c := by rw [hcur, List.size_toArray, List.length_append, h4, hZ]; exact hm3
 refine ⟨hs0, ?_⟩
 have b1 := Blk.sets (f x) (i * c) w0 cur hk (by rw [hF.len, hs0]; omega)
 have hs1 : (cur.toList.take (i * c) ++ f x ++ cur.toList.drop (i * c + (f x).length)).length = cap * c := by
  simp only [List.length_append, List.length_take, List.length_drop, Array.length_toList, hs0, hF.len]
  omega
 refine ⟨_, by simpa using hs1, b1, fun w1 k1 => ?_⟩
 have b2 := Blk.sets ((l.drop i).flatMap f) ((i + 1) * c) w1 _ k1 (by rw [hd, List.size_toArray, hs1, Nat.succ_mul]; omega)
 obtain ⟨h1, h2⟩ := ins_grow hF.len Z l i cap x hZ hi hc (L := cur.toList) (by rw [hcur]) rfl rfl
 have := Own.ofRow (l := l.take i ++ x :: l.drop i) (base := base) hF hbg b2 (by rw [insLen x hi]; exact hc) hmax (by rw [List.size_toArray]; exact h1) (by rw [insLen x hi]; exact h2)
 rw [insLen x hi] at this
 exact this
theorem run_app_make {P : Program} {t tn : TypeId} {bytes : Nat} (hF : Flat f c) (hT : Elem P t e c bytes) (htn : P.underlying tn = some (.int .i64)) (w : World) {g cap i m : Nat} {cur : Array Value} (hk : Blk w g cur e) (htk : cur.toList.take (l.length * c) = l.flatMap f) (hi : i ≤ l.length) (hm : 0 < m) (hg : cap < i + m)
    (hroom : (i + m) * bytes ≤ 140737488355328) (h63 : i + m ≤ maxLen) :
    ∃ Z : List Value, Z.length = (grownCap w (i + m) cap e - i) * c ∧ ∀ ty, (Builtin.append_ #[t, tn] ty #[.slice (some ⟨g, 0, none⟩) i cap, .int .i64 m]).run P w =
      .ok (.slice (some ⟨w.heap.size, 0, none⟩) (i + m) (grownCap w (i + m) cap e)) (w.drew.alloc (.cells ((l.take i).flatMap f ++ Z).toArray e)) := by
 obtain ⟨hu, io, z, hio, hz, hsz, hby, hzs⟩ := hT
 have hold : (Builtin.firstCells io.size i (.slice (some ⟨g, 0, none⟩) i cap)).run P w.drew = .ok ((l.take i).flatMap f).toArray w.drew := by
  have h4 := flat_len hF.len (l.take i)
  rw [List.length_take, Nat.min_eq_left hi] at h4
  refine run_firstCells_some w.drew io.size i ⟨g, 0, none⟩ i cap _ (by rw [h4, hsz]) (fun j u hj => ?_)
  have hlt : j < ((l.take i).flatMap f).length := (List.getElem?_eq_some_iff.1 hj).1
  rw [Addr.add_lit, Nat.zero_add]
  have h5 : (l.flatMap f)[j]? = some u := by
   conv => lhs; rw [← List.take_append_drop i l]
   rw [List.flatMap_append, List.getElem?_append_left hlt]
   exact hj
  rw [← htk, List.getElem?_take] at h5
  split at h5
  ·show w.cell? _ = _
   rw [hk.cell, ← h5]
   simp
  ·cases h5
 have hby' : m * bytes ≤ (i + m) * bytes := Nat.mul_le_mul_right _ (by omega)
 have hr := fun ty => Lib.run_append_grow_zeros w t tn ty e io z .i64 .i64 hu htn hio hz (some ⟨g, 0, none⟩) i cap _ hold m hm (by rw [hsz]; exact hF.pos) hg (by unfold maxLen at h63; omega) (by rw [hby]; omega) (by rw [hby]; exact growslice_fits hg hroom)
 have hge := grownCap_ge w (i + m) cap e
 refine ⟨(Builtin.zeroCells z.cells m).toList ++ (Builtin.zeroCells z.cells (grownCap w (i + m) cap e - (i + m))).toList, ?_, ?_⟩
 ·rw [List.length_append, Array.length_toList, Array.length_toList, size_zeroCells, size_zeroCells, hzs, ← Nat.add_mul]
  congr 1
  omega
 ·intro ty
  rw [hr]
  congr 3
  apply Array.ext'
  simp [List.append_assoc]
end
end Wb
namespace Go.Proofs.YtjhmfljlclajnaaGreatDoor
open Go.RowKit Wb
set_option maxRecDepth 100000
set_option maxHeartbeats 8000000
theorem slices_InsertC (l : List Cpy) (i : Nat) (x : Cpy) (v : Value) (vb base : Nat) (w : World) (h : Wb.Own cpyC base 138 2 w v l) (hbase : base ≤ w.heap.size) (hx : Blk w vb #[.int .i64 x.block, .string x.text] 138) (hvb : v.ownBlock ≠ some vb) (hi : i ≤ l.length) (hl : l.length ≤ 1000000) :
    Calls Tryz.prog 103 #[v, .int .i64 i, .slice (some ⟨vb, 0, none⟩) 1 1] w fun e w' => ∃ v', e = .returned v' ∧ Wb.Own cpyC base 138 2 w' v' (l.take i ++ x :: l.drop i) ∧ Below base w w' := by
 have hrx : RL cpyC w (.slice (some ⟨vb, 0, none⟩) 1 1) [x] := RL.ofBlk (e := 138) [x] (by simpa [cpyC] using hx) (by simp [maxLen])
 by_cases hn : i = l.length
 ·subst hn
  have e1 : l.take l.length ++ x :: l.drop l.length = l ++ [x] := by simp
  rw [e1]
  obtain ⟨a, cap, rfl, hc1, hc2⟩ := h.reads.form
  have hg : a = none ∧ cap = 0 ∨ ∃ g, a = some ⟨g, 0, none⟩ := by
   rcases h.2 with ⟨h1, _⟩ | ⟨g, cap', cur, h1, _⟩
   ·simp only [Value.slice.injEq] at h1
    exact .inl ⟨h1.1, h1.2.2⟩
   ·simp only [Value.slice.injEq] at h1
    exact .inr ⟨g, h1.1⟩
  replace h := hid h; replace hrx := hid hrx
  clear hx hvb e1
  rcases hg with ⟨rfl, rfl⟩ | ⟨g, rfl⟩
  ·go_enter Tryz.func103, Tryz.ntmps103
   go_wp2_with (at_builtin; refine wpList_app rfl _ _ 48 rfl base _ 2 24 cpyC_flat elemCpy h.out rfl [x] hrx.out rfl (by simp; omega) (by simp; unfold maxLen; omega) hbase ?_; intro v1 w1 hown1 hg1; obtain ⟨a1, cap1, rfl⟩ := hown1.form; have nx := h.out.belowGrown hbase hg1; simp only [len1] at hown1)
   go_ret
   exact ⟨_, rfl, hown1, nx⟩
  ·by_cases hcc : cap = l.length
   ·subst hcc
    go_enter Tryz.func103, Tryz.ntmps103
    go_wp2_with (at_builtin; refine wpList_app rfl _ _ 48 rfl base _ 2 24 cpyC_flat elemCpy h.out rfl [x] hrx.out rfl (by simp; omega) (by simp; unfold maxLen; omega) hbase ?_; intro v1 w1 hown1 hg1; obtain ⟨a1, cap1, rfl⟩ := hown1.form; have nx := h.out.belowGrown hbase hg1; simp only [len1] at hown1)
    go_ret
    exact ⟨_, rfl, hown1, nx⟩
   ·go_enter Tryz.func103, Tryz.ntmps103
    go_wp2_with (at_builtin; refine wpList_app rfl _ _ 48 rfl base _ 2 24 cpyC_flat elemCpy h.out rfl [x] hrx.out rfl (by simp; omega) (by simp; unfold maxLen; omega) hbase ?_; intro v1 w1 hown1 hg1; obtain ⟨a1, cap1, rfl⟩ := hown1.form; have nx := h.out.belowGrown hbase hg1; simp only [len1] at hown1)
    go_ret
    exact ⟨_, rfl, hown1, nx⟩
 ·have hlt : i < l.length := by omega
  obtain ⟨g, cap, cur, rfl, hbg, hkk, hcap, hmax, hsz, htk⟩ := h.row (by omega)
  have hne : vb ≠ g := fun h2 => hvb (by rw [h2]; rfl)
  have hn1 : ¬ ((i : Int) = (l.length : Int)) := by omega
  have hcells := row_from cpyC_flat.len hkk htk hi
  have hxc := fun j u (hj : (cpyC x)[j]? = some u) => (show w.cell? ⟨vb, 0 + j, none⟩ = some u by rw [hx.cell, Nat.zero_add, ← hj]; simp [cpyC])
  have hdl := flat_dropLen cpyC_flat.len l i
  have hfx := cpyC_flat.len x
  have hci : ¬ (cap = i) := by omega
  have hin : (i : Int) ≤ (l.length : Int) := by omega
  have hw1 : IntKind.i64.wrap ((i : Int) + 1) = (i : Int) + 1 := IntWalk.i64_in _ (by omega)
  have hw2 : IntKind.i64.wrap ((l.length : Int) + 1) = (l.length : Int) + 1 := IntWalk.i64_in _ (by omega)
  have ht1 : ((i : Int) + 1).toNat = i + 1 := by omega
  have hb1 : (0 : Int) ≤ (i : Int) + 1 := by omega
  have hb3 : (i : Int) ≤ (l.length : Int) + 1 := by omega
  have ht2 : ((l.length : Int) + 1).toNat = l.length + 1 := by omega
  by_cases hroom : l.length + 1 ≤ cap
  ·have hci2 : ¬ (cap = i + 1) := by omega
   have hz : ∀ w, (Go.sizeOf 138).run Tryz.prog w = .ok 2 w := fun w => by
    obtain ⟨io, z, h1, h2, h3, _⟩ := elemCpy.info
    simp [Go.sizeOf, typeInfo, h1, h3]
   have hcz : cur.size ≠ 0 := by rw [hsz]; have := Nat.mul_le_mul_right 2 hroom; omega
   have hov : ∀ off lb cb, (callFunc 114 #[.slice (some ⟨vb, 0, none⟩) 1 1, .slice (some ⟨g, off, none⟩) lb cb]).run Tryz.prog w = .ok (.value (.bool false)) w := fun off lb cb => by
    rw [run_callFunc_extern Tryz.func114 (by kernel_rfl) (by kernel_rfl) (by kernel_rfl) (e := Extern.SlicesOverlaps.overlaps #[48, 48] #[4]) (by kernel_rfl),
     Lib.run_overlaps_apart w 48 4 138 elemCpy.under 2 hz ⟨vb, 0, none⟩ ⟨g, off, none⟩ 1 1 lb cb hne 138 138 _ _ (by show w.shape? vb = _; unfold World.shape?; rw [show w.heap[vb]? = _ from hx]) (by show w.shape? g = _; unfold World.shape?; rw [show w.heap[g]? = _ from hkk]) hcz (hx.free _) (hx.free _)]
    rfl
   obtain ⟨cur1, hs1, hk1, hfin⟩ := ins_shift (base := base) cpyC_flat hbg hmax hsz htk hi hroom x (w0 := w.drew) hkk
   have hcp1 : ∀ ty dc sc, (Builtin.copy_ #[48, 48] ty #[.slice (some ⟨g, (i + 1) * 2, none⟩) (l.length - i) dc, .slice (some ⟨g, i * 2, none⟩) (l.length + 1 - i) sc]).run Tryz.prog w.drew = .ok _ (w.drew.setCells g ((i + 1) * 2) ((l.drop i).flatMap cpyC)) := fun ty dc sc =>
    run_copy_blk elemCpy w.drew _ ty (cur := cur) hkk _ _ dc g _ _ sc _ (by rw [hdl]; congr 1; show l.length - i = min (l.length + 1 - i) (l.length - i); omega) hcells (by rw [hdl, hsz]; have h5 := mul_split (c := 2) (n := l.length + 1) (i := i + 1) (by omega); have h6 := Nat.mul_le_mul_right 2 hroom; rw [show l.length + 1 - (i + 1) = l.length - i by omega] at h5; omega) (flat_one cpyC_flat _)
   have hcp2 : ∀ ty dc (w1 : World), Blk w1 g cur1 138 → (∀ j u, (cpyC x)[j]? = some u → w1.cell? ⟨vb, 0 + j, none⟩ = some u) → (Builtin.copy_ #[48, 48] ty #[.slice (some ⟨g, i * 2, none⟩) (l.length + 1 - i) dc, .slice (some ⟨vb, 0, none⟩) 1 1]).run Tryz.prog w1 = .ok _ (w1.setCells g (i * 2) (cpyC x)) := fun ty dc w1 k1 hs2 =>
    run_copy_blk elemCpy w1 _ ty (cur := cur1) k1 _ _ dc vb 0 1 1 _ (by rw [hfx, show Nat.min 1 (l.length + 1 - i) = 1 from Nat.min_eq_left (by omega)]) hs2 (by rw [hfx, hs1]; have h5 := mul_split (c := 2) (n := cap) (i := i) (by omega); have h6 : 1 * 2 ≤ (cap - i) * 2 := Nat.mul_le_mul_right _ (by omega); omega) (fun u hu => cpyC_flat.one x u hu)
   have hk1 : Blk (w.drew.setCells g ((i + 1) * 2) ((l.drop i).flatMap cpyC)) g cur1 138 := hk1
   have hs2 := fun j u hj => (show (w.drew.setCells g ((i + 1) * 2) ((l.drop i).flatMap cpyC)).cell? ⟨vb, 0 + j, none⟩ = some u by rw [Blk.cell (Blk.sets_other hne _ _ _ hx.drew), ← hxc j u hj, hx.cell])
   have nz1 := Wb.Below.sets g hbg ((l.drop i).flatMap cpyC) ((i + 1) * 2) _ (Below.refl base w).drew
   have nz2 := Wb.Below.sets g hbg (cpyC x) (i * 2) _ nz1
   replace hfin := hid hfin; replace nz2 := hid nz2; replace hxc := hid hxc; replace hs2 := hid hs2; replace hk1 := hid hk1; replace hcp1 := hid hcp1; replace hcp2 := hid hcp2
   clear hcells hdl htk hsz hkk hcz hz hx h nz1
   have hcp2x := fun ty dc => hcp2.out ty dc _ hk1.out hs2.out
   go_enter Tryz.func103, Tryz.ntmps103
   go_wp2_with (simp only [hov])
   go_region_law (refine step_copyR rfl _ _ 48 48 rfl (hcp1.out 3 (cap - (i + 1)) (cap - i)) (by simp [Act.eval, Act.put]) (by simp [Act.eval, Act.put]) ?_)
   all_goals go_wp2
   all_goals go_ret
   all_goals exact ⟨_, rfl, hfin.out _ hk1.out, nz2.out⟩
  ·obtain rfl : cap = l.length := by omega
   obtain ⟨Z, hZ, hrz⟩ : ∃ Z : List Value, Z.length = (grownCap w (l.length + 1) l.length 138 - i) * 2 ∧ ∀ ty, (Builtin.append_ #[48, 3] ty #[.slice (some ⟨g, 0, none⟩) i l.length, .int .i64 ((l.length : Int) + 1 - (i : Int))]).run Tryz.prog w = .ok (.slice (some ⟨w.heap.size, 0, none⟩) (l.length + 1) (grownCap w (l.length + 1) l.length 138)) (w.drew.alloc (.cells ((l.take i).flatMap cpyC ++ Z).toArray 138)) := by
    have e1 : i + (l.length + 1 - i) = l.length + 1 := by omega
    have e2 : ((l.length + 1 - i : Nat) : Int) = (l.length : Int) + 1 - (i : Int) := by omega
    obtain ⟨Z, hZ, hq⟩ := run_app_make (P := Tryz.prog) (tn := 3) (cap := l.length) cpyC_flat elemCpy (by kernel_rfl) w hkk htk hi (show 0 < l.length + 1 - i by omega) (by omega) (by rw [e1]; omega) (by rw [e1]; unfold maxLen; omega)
    rw [e1] at hZ hq
    rw [e2] at hq
    exact ⟨Z, hZ, hq⟩
   have hGn : l.length + 1 ≤ grownCap w (l.length + 1) l.length 138 := grownCap_ge w _ _ _
   have hGm : grownCap w (l.length + 1) l.length 138 ≤ maxLen := grownCap_le_maxLen w _ _ _ (by unfold maxLen; omega)
   obtain ⟨G, hG⟩ : ∃ G, G = grownCap w (l.length + 1) l.length 138 := ⟨_, rfl⟩
   rw [← hG] at hZ hrz hGn hGm
   clear hG
   obtain ⟨row, hrow⟩ : ∃ row : Array Value, row = ((l.take i).flatMap cpyC ++ Z).toArray := ⟨_, rfl⟩
   rw [← hrow] at hrz
   have hbw : g < w.heap.size := Blk.lt (cs := cur) hkk
   have hbv : vb < w.heap.size := hx.lt
   have hk0 : Blk (w.drew.alloc (.cells row 138)) w.heap.size row 138 := Blk.new w.drew row _
   have hk0' : Blk ((w.alloc (.cells row 138)).drew) w.heap.size row 138 := (Blk.new w row _).drew
   have hGi : ¬ (G = i) := by omega
   have hGi2 : ¬ (G = i + 1) := by omega
   have hgt : (l.length : Int) < (l.length : Int) + 1 := by omega
   have hin2 : i ≤ l.length + 1 := by omega
   obtain ⟨hs0, cur1, hs1, hk1, hfin⟩ := ins_grown (base := base) cpyC_flat Z hbase hGm hZ hrow hi hGn x (w0 := w.drew.alloc (.cells row 138)) hk0
   obtain ⟨W1, hW1⟩ : ∃ W1, W1 = w.drew.alloc (.cells row 138) := ⟨_, rfl⟩
   have hxc1 : ∀ j u, (cpyC x)[j]? = some u → W1.cell? ⟨vb, 0 + j, none⟩ = some u := fun j u hj => by rw [hW1, Blk.cell (hx.drew.alloc _), ← hxc j u hj, hx.cell]
   have hk0w : Blk W1 w.heap.size row 138 := by rw [hW1]; exact hk0
   have hcpA : ∀ ty dc, (Builtin.copy_ #[48, 48] ty #[.slice (some ⟨w.heap.size, i * 2, none⟩) (l.length + 1 - i) dc, .slice (some ⟨vb, 0, none⟩) 1 1]).run Tryz.prog W1 = .ok _ (W1.setCells w.heap.size (i * 2) (cpyC x)) := fun ty dc =>
    run_copy_blk elemCpy W1 _ ty (cur := row) hk0w _ _ dc vb 0 1 1 _ (by rw [hfx, show Nat.min 1 (l.length + 1 - i) = 1 from Nat.min_eq_left (by omega)]) hxc1 (by rw [hfx, hs0]; have h5 := mul_split (c := 2) (n := G) (i := i) (by omega); have h6 : 1 * 2 ≤ (G - i) * 2 := Nat.mul_le_mul_right _ (by omega); omega) (fun u hu => cpyC_flat.one x u hu)
   have hk1w : Blk (W1.setCells w.heap.size (i * 2) (cpyC x)).drew w.heap.size cur1 138 := by rw [hW1]; exact hk1
   have hcells1 : ∀ j u, ((l.drop i).flatMap cpyC)[j]? = some u → (W1.setCells w.heap.size (i * 2) (cpyC x)).drew.cell? ⟨g, i * 2 + j, none⟩ = some u := fun j u hj => by
    rw [show (W1.setCells w.heap.size (i * 2) (cpyC x)).drew.cell? ⟨g, i * 2 + j, none⟩ = (W1.setCells w.heap.size (i * 2) (cpyC x)).cell? ⟨g, i * 2 + j, none⟩ from rfl, hW1, Blk.cell (Blk.sets_other (by omega) _ _ _ ((show Blk w.drew g cur 138 from hkk).alloc _)), ← Blk.cell hkk]
    exact hcells j u hj
   have hcpB : ∀ ty dc sc, (Builtin.copy_ #[48, 48] ty #[.slice (some ⟨w.heap.size, (i + 1) * 2, none⟩) (l.length - i) dc, .slice (some ⟨g, i * 2, none⟩) (l.length - i) sc]).run Tryz.prog (W1.setCells w.heap.size (i * 2) (cpyC x)).drew = .ok _ ((W1.setCells w.heap.size (i * 2) (cpyC x)).drew.setCells w.heap.size ((i + 1) * 2) ((l.drop i).flatMap cpyC)) := fun ty dc sc =>
    run_copy_blk elemCpy (W1.setCells w.heap.size (i * 2) (cpyC x)).drew _ ty (cur := cur1) hk1w _ _ dc g _ _ sc _ (by rw [hdl]; congr 1; show l.length - i = min (l.length - i) (l.length - i); omega) hcells1 (by rw [hdl, hs1]; have h5 := mul_split (c := 2) (n := l.length + 1) (i := i + 1) (by omega); have h6 := Nat.mul_le_mul_right 2 hGn; rw [show l.length + 1 - (i + 1) = l.length - i by omega] at h5; omega) (flat_one cpyC_flat _)
   have hfinw := hfin _ (show Blk (W1.setCells w.heap.size (i * 2) (cpyC x)).drew w.heap.size cur1 138 from hk1w)
   have nx1 : Below base w W1 := by rw [hW1]; exact (Below.refl base w).drew.alloc (by simpa using hbase) _
   have nz2 := Wb.Below.sets w.heap.size hbase ((l.drop i).flatMap cpyC) ((i + 1) * 2) _ (Wb.Below.sets w.heap.size hbase (cpyC x) (i * 2) _ nx1).drew
   rw [← hW1] at hrz
   replace hfinw := hid hfinw; replace nz2 := hid nz2; replace hW1 := hid hW1; replace hcpB := hid hcpB
   clear hcells hcells1 hdl htk hsz hkk hx h hfin hxc hxc1 hk0 hk0' hk0w hk1 hk1w hs0 hs1 nx1 hrow hZ
   go_enter Tryz.func103, Tryz.ntmps103
   go_wp2_with (at_builtin; refine wpList_appR rfl _ _ _ _ rfl (hrz _) rfl rfl ?_)
   go_region_law (refine step_copyR rfl _ _ 48 48 rfl (hcpB.out 3 (G - (i + 1)) (l.length - i)) (by simp [Act.eval, Act.put]) (by simp [Act.eval, Act.put]) ?_)
   all_goals go_wp2
   all_goals go_ret
   all_goals exact ⟨_, rfl, hfinw.out, nz2.out⟩
theorem slices_InsertI (l : List Int) (i : Nat) (x : Int) (v : Value) (vb base : Nat) (w : World) (h : Wb.Own intC base 3 1 w v l) (hbase : base ≤ w.heap.size) (hx : Blk w vb #[.int .i64 x] 3) (hvb : v.ownBlock ≠ some vb) (hi : i ≤ l.length) (hl : l.length ≤ 1000000) :
    Calls Tryz.prog 85 #[v, .int .i64 i, .slice (some ⟨vb, 0, none⟩) 1 1] w fun e w' => ∃ v', e = .returned v' ∧ Wb.Own intC base 3 1 w' v' (l.take i ++ x :: l.drop i) ∧ Below base w w' := by
 have hrx : RL intC w (.slice (some ⟨vb, 0, none⟩) 1 1) [x] := RL.ofBlk (e := 3) [x] (by simpa [intC] using hx) (by simp [maxLen])
 by_cases hn : i = l.length
 ·subst hn
  have e1 : l.take l.length ++ x :: l.drop l.length = l ++ [x] := by simp
  rw [e1]
  obtain ⟨a, cap, rfl, hc1, hc2⟩ := h.reads.form
  have hg : a = none ∧ cap = 0 ∨ ∃ g, a = some ⟨g, 0, none⟩ := by
   rcases h.2 with ⟨h1, _⟩ | ⟨g, cap', cur, h1, _⟩
   ·simp only [Value.slice.injEq] at h1
    exact .inl ⟨h1.1, h1.2.2⟩
   ·simp only [Value.slice.injEq] at h1
    exact .inr ⟨g, h1.1⟩
  replace h := hid h; replace hrx := hid hrx
  clear hx hvb e1
  rcases hg with ⟨rfl, rfl⟩ | ⟨g, rfl⟩
  ·go_enter Tryz.func85, Tryz.ntmps85
   go_wp2_with (at_builtin; refine wpList_app rfl _ _ 49 rfl base _ 1 8 intC_flat elemIntT h.out rfl [x] hrx.out rfl (by simp; omega) (by simp; unfold maxLen; omega) hbase ?_; intro v1 w1 hown1 hg1; obtain ⟨a1, cap1, rfl⟩ := hown1.form; have nx := h.out.belowGrown hbase hg1; simp only [len1] at hown1)
   go_ret
   exact ⟨_, rfl, hown1, nx⟩
  ·by_cases hcc : cap = l.length
   ·subst hcc
    go_enter Tryz.func85, Tryz.ntmps85
    go_wp2_with (at_builtin; refine wpList_app rfl _ _ 49 rfl base _ 1 8 intC_flat elemIntT h.out rfl [x] hrx.out rfl (by simp; omega) (by simp; unfold maxLen; omega) hbase ?_; intro v1 w1 hown1 hg1; obtain ⟨a1, cap1, rfl⟩ := hown1.form; have nx := h.out.belowGrown hbase hg1; simp only [len1] at hown1)
    go_ret
    exact ⟨_, rfl, hown1, nx⟩
   ·go_enter Tryz.func85, Tryz.ntmps85
    go_wp2_with (at_builtin; refine wpList_app rfl _ _ 49 rfl base _ 1 8 intC_flat elemIntT h.out rfl [x] hrx.out rfl (by simp; omega) (by simp; unfold maxLen; omega) hbase ?_; intro v1 w1 hown1 hg1; obtain ⟨a1, cap1, rfl⟩ := hown1.form; have nx := h.out.belowGrown hbase hg1; simp only [len1] at hown1)
    go_ret
    exact ⟨_, rfl, hown1, nx⟩
 ·have hlt : i < l.length := by omega
  obtain ⟨g, cap, cur, rfl, hbg, hkk, hcap, hmax, hsz, htk⟩ := h.row (by omega)
  have hne : vb ≠ g := fun h2 => hvb (by rw [h2]; rfl)
  have hn1 : ¬ ((i : Int) = (l.length : Int)) := by omega
  have hcells := row_from intC_flat.len hkk htk hi
  have hxc := fun j u (hj : (intC x)[j]? = some u) => (show w.cell? ⟨vb, 0 + j, none⟩ = some u by rw [hx.cell, Nat.zero_add, ← hj]; simp [intC])
  have hdl := flat_dropLen intC_flat.len l i
  have hfx := intC_flat.len x
  have hci : ¬ (cap = i) := by omega
  have hin : (i : Int) ≤ (l.length : Int) := by omega
  have hw1 : IntKind.i64.wrap ((i : Int) + 1) = (i : Int) + 1 := IntWalk.i64_in _ (by omega)
  have hw2 : IntKind.i64.wrap ((l.length : Int) + 1) = (l.length : Int) + 1 := IntWalk.i64_in _ (by omega)
  have ht1 : ((i : Int) + 1).toNat = i + 1 := by omega
  have hb1 : (0 : Int) ≤ (i : Int) + 1 := by omega
  have hb3 : (i : Int) ≤ (l.length : Int) + 1 := by omega
  have ht2 : ((l.length : Int) + 1).toNat = l.length + 1 := by omega
  by_cases hroom : l.length + 1 ≤ cap
  ·have hci2 : ¬ (cap = i + 1) := by omega
   have hz : ∀ w, (Go.sizeOf 3).run Tryz.prog w = .ok 1 w := fun w => by
    obtain ⟨io, z, h1, h2, h3, _⟩ := elemIntT.info
    simp [Go.sizeOf, typeInfo, h1, h3]
   have hcz : cur.size ≠ 0 := by rw [hsz]; have := Nat.mul_le_mul_right 1 hroom; omega
   have hov : ∀ off lb cb, (callFunc 108 #[.slice (some ⟨vb, 0, none⟩) 1 1, .slice (some ⟨g, off, none⟩) lb cb]).run Tryz.prog w = .ok (.value (.bool false)) w := fun off lb cb => by
    rw [run_callFunc_extern Tryz.func108 (by kernel_rfl) (by kernel_rfl) (by kernel_rfl) (e := Extern.SlicesOverlaps.overlaps #[49, 49] #[4]) (by kernel_rfl),
     Lib.run_overlaps_apart w 49 4 3 elemIntT.under 1 hz ⟨vb, 0, none⟩ ⟨g, off, none⟩ 1 1 lb cb hne 3 3 _ _ (by show w.shape? vb = _; unfold World.shape?; rw [show w.heap[vb]? = _ from hx]) (by show w.shape? g = _; unfold World.shape?; rw [show w.heap[g]? = _ from hkk]) hcz (hx.free _) (hx.free _)]
    rfl
   obtain ⟨cur1, hs1, hk1, hfin⟩ := ins_shift (base := base) intC_flat hbg hmax hsz htk hi hroom x (w0 := w.drew) hkk
   have hcp1 : ∀ ty dc sc, (Builtin.copy_ #[49, 49] ty #[.slice (some ⟨g, (i + 1) * 1, none⟩) (l.length - i) dc, .slice (some ⟨g, i * 1, none⟩) (l.length + 1 - i) sc]).run Tryz.prog w.drew = .ok _ (w.drew.setCells g ((i + 1) * 1) ((l.drop i).flatMap intC)) := fun ty dc sc =>
    run_copy_blk elemIntT w.drew _ ty (cur := cur) hkk _ _ dc g _ _ sc _ (by rw [hdl]; congr 1; show l.length - i = min (l.length + 1 - i) (l.length - i); omega) hcells (by rw [hdl, hsz]; have h5 := mul_split (c := 1) (n := l.length + 1) (i := i + 1) (by omega); have h6 := Nat.mul_le_mul_right 1 hroom; rw [show l.length + 1 - (i + 1) = l.length - i by omega] at h5; omega) (flat_one intC_flat _)
   have hcp2 : ∀ ty dc (w1 : World), Blk w1 g cur1 3 → (∀ j u, (intC x)[j]? = some u → w1.cell? ⟨vb, 0 + j, none⟩ = some u) → (Builtin.copy_ #[49, 49] ty #[.slice (some ⟨g, i * 1, none⟩) (l.length + 1 - i) dc, .slice (some ⟨vb, 0, none⟩) 1 1]).run Tryz.prog w1 = .ok _ (w1.setCells g (i * 1) (intC x)) := fun ty dc w1 k1 hs2 =>
    run_copy_blk elemIntT w1 _ ty (cur := cur1) k1 _ _ dc vb 0 1 1 _ (by rw [hfx, show Nat.min 1 (l.length + 1 - i) = 1 from Nat.min_eq_left (by omega)]) hs2 (by rw [hfx, hs1]; have h5 := mul_split (c := 1) (n := cap) (i := i) (by omega); have h6 : 1 * 1 ≤ (cap - i) * 1 := Nat.mul_le_mul_right _ (by omega); omega) (fun u hu => intC_flat.one x u hu)
   have hk1 : Blk (w.drew.setCells g ((i + 1) * 1) ((l.drop i).flatMap intC)) g cur1 3 := hk1
   have hs2 := fun j u hj => (show (w.drew.setCells g ((i + 1) * 1) ((l.drop i).flatMap intC)).cell? ⟨vb, 0 + j, none⟩ = some u by rw [Blk.cell (Blk.sets_other hne _ _ _ hx.drew), ← hxc j u hj, hx.cell])
   have nz1 := Wb.Below.sets g hbg ((l.drop i).flatMap intC) ((i + 1) * 1) _ (Below.refl base w).drew
   have nz2 := Wb.Below.sets g hbg (intC x) (i * 1) _ nz1
   (try simp only [Nat.mul_one] at hfin); (try simp only [Nat.mul_one] at nz2); (try simp only [Nat.mul_one] at hs2); (try simp only [Nat.mul_one] at hk1); (try simp only [Nat.mul_one] at hcp1); (try simp only [Nat.mul_one] at hcp2)
   replace hfin := hid hfin; replace nz2 := hid nz2; replace hxc := hid hxc; replace hs2 := hid hs2; replace hk1 := hid hk1; replace hcp1 := hid hcp1; replace hcp2 := hid hcp2
   clear hcells hdl htk hsz hkk hcz hz hx h nz1
   have hcp2x := fun ty dc => hcp2.out ty dc _ hk1.out hs2.out
   go_enter Tryz.func85, Tryz.ntmps85
   go_wp2_with (simp only [hov])
   go_region_law (refine step_copyR rfl _ _ 49 49 rfl (hcp1.out 3 (cap - (i + 1)) (cap - i)) (by simp [Act.eval, Act.put]) (by simp [Act.eval, Act.put]) ?_)
   all_goals go_wp2
   all_goals go_ret
   all_goals exact ⟨_, rfl, hfin.out _ hk1.out, nz2.out⟩
  ·obtain rfl : cap = l.length := by omega
   obtain ⟨Z, hZ, hrz⟩ : ∃ Z : List Value, Z.length = (grownCap w (l.length + 1) l.length 3 - i) * 1 ∧ ∀ ty, (Builtin.append_ #[49, 3] ty #[.slice (some ⟨g, 0, none⟩) i l.length, .int .i64 ((l.length : Int) + 1 - (i : Int))]).run Tryz.prog w = .ok (.slice (some ⟨w.heap.size, 0, none⟩) (l.length + 1) (grownCap w (l.length + 1) l.length 3)) (w.drew.alloc (.cells ((l.take i).flatMap intC ++ Z).toArray 3)) := by
    have e1 : i + (l.length + 1 - i) = l.length + 1 := by omega
    have e2 : ((l.length + 1 - i : Nat) : Int) = (l.length : Int) + 1 - (i : Int) := by omega
    obtain ⟨Z, hZ, hq⟩ := run_app_make (P := Tryz.prog) (tn := 3) (cap := l.length) intC_flat elemIntT (by kernel_rfl) w hkk htk hi (show 0 < l.length + 1 - i by omega) (by omega) (by rw [e1]; omega) (by rw [e1]; unfold maxLen; omega)
    rw [e1] at hZ hq
    rw [e2] at hq
    exact ⟨Z, hZ, hq⟩
   have hGn : l.length + 1 ≤ grownCap w (l.length + 1) l.length 3 := grownCap_ge w _ _ _
   have hGm : grownCap w (l.length + 1) l.length 3 ≤ maxLen := grownCap_le_maxLen w _ _ _ (by unfold maxLen; omega)
   obtain ⟨G, hG⟩ : ∃ G, G = grownCap w (l.length + 1) l.length 3 := ⟨_, rfl⟩
   rw [← hG] at hZ hrz hGn hGm
   clear hG
   obtain ⟨row, hrow⟩ : ∃ row : Array Value, row = ((l.take i).flatMap intC ++ Z).toArray := ⟨_, rfl⟩
   rw [← hrow] at hrz
   have hbw : g < w.heap.size := Blk.lt (cs := cur) hkk
   have hbv : vb < w.heap.size := hx.lt
   have hk0 : Blk (w.drew.alloc (.cells row 3)) w.heap.size row 3 := Blk.new w.drew row _
   have hk0' : Blk ((w.alloc (.cells row 3)).drew) w.heap.size row 3 := (Blk.new w row _).drew
   have hGi : ¬ (G = i) := by omega
   have hGi2 : ¬ (G = i + 1) := by omega
   have hgt : (l.length : Int) < (l.length : Int) + 1 := by omega
   have hin2 : i ≤ l.length + 1 := by omega
   obtain ⟨hs0, cur1, hs1, hk1, hfin⟩ := ins_grown (base := base) intC_flat Z hbase hGm hZ hrow hi hGn x (w0 := w.drew.alloc (.cells row 3)) hk0
   obtain ⟨W1, hW1⟩ : ∃ W1, W1 = w.drew.alloc (.cells row 3) := ⟨_, rfl⟩
   have hxc1 : ∀ j u, (intC x)[j]? = some u → W1.cell? ⟨vb, 0 + j, none⟩ = some u := fun j u hj => by rw [hW1, Blk.cell (hx.drew.alloc _), ← hxc j u hj, hx.cell]
   have hk0w : Blk W1 w.heap.size row 3 := by rw [hW1]; exact hk0
   have hcpA : ∀ ty dc, (Builtin.copy_ #[49, 49] ty #[.slice (some ⟨w.heap.size, i * 1, none⟩) (l.length + 1 - i) dc, .slice (some ⟨vb, 0, none⟩) 1 1]).run Tryz.prog W1 = .ok _ (W1.setCells w.heap.size (i * 1) (intC x)) := fun ty dc =>
    run_copy_blk elemIntT W1 _ ty (cur := row) hk0w _ _ dc vb 0 1 1 _ (by rw [hfx, show Nat.min 1 (l.length + 1 - i) = 1 from Nat.min_eq_left (by omega)]) hxc1 (by rw [hfx, hs0]; have h5 := mul_split (c := 1) (n := G) (i := i) (by omega); have h6 : 1 * 1 ≤ (G - i) * 1 := Nat.mul_le_mul_right _ (by omega); omega) (fun u hu => intC_flat.one x u hu)
   have hk1w : Blk (W1.setCells w.heap.size (i * 1) (intC x)).drew w.heap.size cur1 3 := by rw [hW1]; exact hk1
   have hcells1 : ∀ j u, ((l.drop i).flatMap intC)[j]? = some u → (W1.setCells w.heap.size (i * 1) (intC x)).drew.cell? ⟨g, i * 1 + j, none⟩ = some u := fun j u hj => by
    rw [show (W1.setCells w.heap.size (i * 1) (intC x)).drew.cell? ⟨g, i * 1 + j, none⟩ = (W1.setCells w.heap.size (i * 1) (intC x)).cell? ⟨g, i * 1 + j, none⟩ from rfl, hW1, Blk.cell (Blk.sets_other (by omega) _ _ _ ((show Blk w.drew g cur 3 from hkk).alloc _)), ← Blk.cell hkk]
    exact hcells j u hj
   have hcpB : ∀ ty dc sc, (Builtin.copy_ #[49, 49] ty #[.slice (some ⟨w.heap.size, (i + 1) * 1, none⟩) (l.length - i) dc, .slice (some ⟨g, i * 1, none⟩) (l.length - i) sc]).run Tryz.prog (W1.setCells w.heap.size (i * 1) (intC x)).drew = .ok _ ((W1.setCells w.heap.size (i * 1) (intC x)).drew.setCells w.heap.size ((i + 1) * 1) ((l.drop i).flatMap intC)) := fun ty dc sc =>
    run_copy_blk elemIntT (W1.setCells w.heap.size (i * 1) (intC x)).drew _ ty (cur := cur1) hk1w _ _ dc g _ _ sc _ (by rw [hdl]; congr 1; show l.length - i = min (l.length - i) (l.length - i); omega) hcells1 (by rw [hdl, hs1]; have h5 := mul_split (c := 1) (n := l.length + 1) (i := i + 1) (by omega); have h6 := Nat.mul_le_mul_right 1 hGn; rw [show l.length + 1 - (i + 1) = l.length - i by omega] at h5; omega) (flat_one intC_flat _)
   have hfinw := hfin _ (show Blk (W1.setCells w.heap.size (i * 1) (intC x)).drew w.heap.size cur1 3 from hk1w)
   have nx1 : Below base w W1 := by rw [hW1]; exact (Below.refl base w).drew.alloc (by simpa using hbase) _
   have nz2 := Wb.Below.sets w.heap.size hbase ((l.drop i).flatMap intC) ((i + 1) * 1) _ (Wb.Below.sets w.heap.size hbase (intC x) (i * 1) _ nx1).drew
   rw [← hW1] at hrz
   (try simp only [Nat.mul_one] at hfinw); (try simp only [Nat.mul_one] at nz2); (try simp only [Nat.mul_one] at hcpA); (try simp only [Nat.mul_one] at hcpB)
   replace hfinw := hid hfinw; replace nz2 := hid nz2; replace hW1 := hid hW1; replace hcpB := hid hcpB
   clear hcells hcells1 hdl htk hsz hkk hx h hfin hxc hxc1 hk0 hk0' hk0w hk1 hk1w hs0 hs1 nx1 hrow hZ
   go_enter Tryz.func85, Tryz.ntmps85
   go_wp2_with (at_builtin; refine wpList_appR rfl _ _ _ _ rfl (hrz _) rfl rfl ?_)
   go_region_law (refine step_copyR rfl _ _ 49 49 rfl (hcpB.out 3 (G - (i + 1)) (l.length - i)) (by simp [Act.eval, Act.put]) (by simp [Act.eval, Act.put]) ?_)
   all_goals go_wp2
   all_goals go_ret
   all_goals exact ⟨_, rfl, hfinw.out, nz2.out⟩
theorem txn_put (l : List Cpy) (b : Int) (s : ByteArray) (v : Value) (w : World) (hs : rise (blks l) = true) (h : RL cpyC w v l) (hl : l.length ≤ 1000000) :
    Calls Tryz.prog 82 #[v, .int .i64 b, .string s] w fun e w' => ∃ v', e = .returned v' ∧ Wb.Own cpyC w.heap.size 138 2 w' v' (putL l b s) ∧ Below w.heap.size w w' := by
 have hF := hid (txn_find l b v w hs h (by omega))
 have hC := hid (fun w' (hb : Below w.heap.size w w') => slices_CloneC l v w' (h.below hb) (by omega))
 have hha := has_at (b := b) hs
 obtain ⟨_, _, hp⟩ := pos_at b hs
 obtain ⟨a, cap, rfl, _⟩ := h.form
 unfold putL
 generalize posB l b = p at *
 cases hb : hasB l b with
 | true =>
  rw [hb] at hF
  obtain ⟨hk, hkb⟩ := hha.1 hb
  rw [if_pos rfl]
  have hy : cpyC ⟨b, s⟩ = (cpyC l[p]).set 1 (.string s) := by simp [cpyC, hkb]
  replace hy := hid hy
  clear hs h hha hb hp
  go_enter Tryz.func82, Tryz.ntmps82
  go_wp2_with (first
   | (go_at_call 100; go_loud ((with_reducible refine hF.out.mono ?_); rintro e w1 ⟨rfl, hb1⟩))
   | (go_at_call 102; go_loud ((with_reducible refine (hC.out _ hb1).mono ?_); rintro e w2 ⟨v2, rfl, ho2, hb2⟩; obtain ⟨g, cap2, rfl, hbg, hgw, hq, hnew⟩ := Own.poke cpyC_flat ho2 hk; have q0 := (hq 1 (by decide)).1; have q1 := (hq 1 (by decide)).2; have hn2 := hid (hnew 1 _ _ (by decide) hy.out); have nx := hb1.trans (hb2.mono hb1.size); have hgs := Nat.le_trans hb1.size hbg; simp only [cpyC, List.getElem?_cons_succ, List.getElem?_cons_zero] at q1; replace nx := hid nx; clear hq hnew ho2)))
  go_ret
  exact ⟨_, rfl, hn2.out.mono hb1.size, nx.out.setCell hgs _⟩
 | false =>
  rw [hb] at hF
  rw [if_neg (by decide)]
  clear hs h hha hb
  go_enter Tryz.func82, Tryz.ntmps82
  go_wp2_with (first
   | (go_at_call 100; go_loud ((with_reducible refine hF.out.mono ?_); rintro e w1 ⟨rfl, hb1⟩))
   | (go_at_call 102; go_loud ((with_reducible refine (hC.out _ hb1).mono ?_); rintro e w2 ⟨v2, rfl, ho2, hb2⟩; have hlt2 := World.ownsRow.lt ho2; have hbase := hb1.trans (hb2.mono hb1.size); have ho3 := hid (ho2.mono hb1.size); have hI := hid (slices_InsertC l p ⟨b, s⟩ v2 w2.heap.size w.heap.size (w2.alloc (.cells #[.int .i64 b, .string s] 138)) (ho3.out.alloc _) (by have := hbase.size; simp; omega) (Blk.new w2 _ _) (fun hh => by have := (hlt2 _ hh).2; omega) hp hl); obtain ⟨a2, cap2, rfl⟩ := ho2.form; replace hbase := hid hbase; clear hlt2 ho2))
   | (go_at_call 103; go_loud ((with_reducible refine hI.out.mono ?_); rintro e w3 ⟨v3, rfl, ho4, hb3⟩)))
  go_ret
  exact ⟨_, rfl, ho4, (hbase.out.alloc (by have := hbase.out.size; omega) _).trans hb3⟩
theorem txn_may (t : Txn) (h b : Int) (v : Value) (w : World) (ht : RTxn w v t) :
    Calls Tryz.prog 76 #[v, .int .i64 h, .int .i64 b] w fun e w' => e = .returned (.int .i64 (mayE t h b)) ∧ Below w.heap.size w w' := by
 have hG0 := fun w' (hh : Below w.heap.size w w') => txn_Good t _ w' (ht.below hh)
 obtain ⟨vm, vd, vr, rfl, hm, hd, hr, n1, n2, n3⟩ := ht
 obtain ⟨am, cm, rfl, _⟩ := hm.form
 obtain ⟨ad, cd, rfl, _⟩ := hd.form
 obtain ⟨ar, cr, rfl, _⟩ := hr.form
 have hH := fun w => txn_handle h w
 have hB := fun w => txn_block b w
 obtain ⟨seq, mt, dt, rev, ⟨o0, l0⟩, ⟨o1, l1⟩, ⟨o2, l2⟩⟩ := t
 unfold txnV at hG0 ⊢
 dsimp only at *
 have k0 : Blk (w.alloc (.cells #[.int .i64 seq, .slice am mt.length cm, .slice ad dt.length cd, .slice ar rev.length cr, .bool o0, .int .i64 l0, .bool o1, .int .i64 l1, .bool o2, .int .i64 l2] 54)) w.heap.size #[.int .i64 seq, .slice am mt.length cm, .slice ad dt.length cd, .slice ar rev.length cr, .bool o0, .int .i64 l0, .bool o1, .int .i64 l1, .bool o2, .int .i64 l2] 54 := Blk.new w _ _
 have nx := bal (b0 w) (.cells #[.int .i64 seq, .slice am mt.length cm, .slice ad dt.length cd, .slice ar rev.length cr, .bool o0, .int .i64 l0, .bool o1, .int .i64 l1, .bool o2, .int .i64 l2] 54)
 have e0 := k0.cell 0; have e1 := k0.cell 1; have e2 := k0.cell 2; have e3 := k0.cell 3; have e4 := k0.cell 4; have e5 := k0.cell 5; have e6 := k0.cell 6; have e7 := k0.cell 7; have e8 := k0.cell 8; have e9 := k0.cell 9; simp only [Zga, Zgb, Zgc] at e0 e1 e2 e3 e4 e5 e6 e7 e8 e9; have l0' := k0.lt
 clear hm hd hr
 cases hg : goodT ⟨seq, mt, dt, rev, ⟨o0, l0⟩, ⟨o1, l1⟩, ⟨o2, l2⟩⟩ with
 | false =>
  have hv := hid (may_bad (h := h) (b := b) hg)
  rw [hg] at hG0
  have hG := hid hG0
  clear hg hG0 hH hB
  go_enter Tryz.func76, Tryz.ntmps76
  go_wp2_with (go_at_call 64; go_loud ((with_reducible refine (hG.out _ nx).mono ?_); rintro e w1 ⟨rfl, hb1⟩; replace k0 := k0.step hb1; replace nx := bgo nx hb1; clear e0 e1 e2 e3 e4 e5 e6 e7 e8 e9 l0'; have e0 := k0.cell 0; have e1 := k0.cell 1; have e2 := k0.cell 2; have e3 := k0.cell 3; have e4 := k0.cell 4; have e5 := k0.cell 5; have e6 := k0.cell 6; have e7 := k0.cell 7; have e8 := k0.cell 8; have e9 := k0.cell 9; simp only [Zga, Zgb, Zgc] at e0 e1 e2 e3 e4 e5 e6 e7 e8 e9; have l0' := k0.lt))
  go_ret
  exact ⟨ret_i hv.out.symm, nx⟩
 | true =>
  rw [hg] at hG0
  have hG := hid hG0
  clear hG0
  by_cases hh : 0 ≤ h ∧ h ≤ 2
  rotate_left
  ·have hv := hid (may_none (b := b) hg (.inl hh))
   have hhf : isHnd h = false := decide_eq_false (by omega)
   rw [hhf] at hH
   replace hH := hid hH
   clear hhf hg hB
   by_cases hneg : h < 0
   ·clear hh
    go_enter Tryz.func76, Tryz.ntmps76
    go_wp2_with (go_at_call 64; go_loud ((with_reducible refine (hG.out _ nx).mono ?_); rintro e w1 ⟨rfl, hb1⟩; replace k0 := k0.step hb1; replace nx := bgo nx hb1; clear e0 e1 e2 e3 e4 e5 e6 e7 e8 e9 l0'; have e0 := k0.cell 0; have e1 := k0.cell 1; have e2 := k0.cell 2; have e3 := k0.cell 3; have e4 := k0.cell 4; have e5 := k0.cell 5; have e6 := k0.cell 6; have e7 := k0.cell 7; have e8 := k0.cell 8; have e9 := k0.cell 9; simp only [Zga, Zgb, Zgc] at e0 e1 e2 e3 e4 e5 e6 e7 e8 e9; have l0' := k0.lt))
    go_wp2_with (first | (go_at_call 73; go_loud ((with_reducible refine (hH.out _).mono ?_); rintro e w1 ⟨rfl, rfl⟩)) | (go_at_call 95; go_loud ((with_reducible refine (hB.out _).mono ?_); rintro e w1 ⟨rfl, rfl⟩)))
    go_ret
    exact ⟨ret_i hv.out.symm, nx⟩
   ·have hgt : 2 < h := by omega
    clear hh
    go_enter Tryz.func76, Tryz.ntmps76
    go_wp2_with (go_at_call 64; go_loud ((with_reducible refine (hG.out _ nx).mono ?_); rintro e w1 ⟨rfl, hb1⟩; replace k0 := k0.step hb1; replace nx := bgo nx hb1; clear e0 e1 e2 e3 e4 e5 e6 e7 e8 e9 l0'; have e0 := k0.cell 0; have e1 := k0.cell 1; have e2 := k0.cell 2; have e3 := k0.cell 3; have e4 := k0.cell 4; have e5 := k0.cell 5; have e6 := k0.cell 6; have e7 := k0.cell 7; have e8 := k0.cell 8; have e9 := k0.cell 9; simp only [Zga, Zgb, Zgc] at e0 e1 e2 e3 e4 e5 e6 e7 e8 e9; have l0' := k0.lt))
    go_wp2_with (first | (go_at_call 73; go_loud ((with_reducible refine (hH.out _).mono ?_); rintro e w1 ⟨rfl, rfl⟩)) | (go_at_call 95; go_loud ((with_reducible refine (hB.out _).mono ?_); rintro e w1 ⟨rfl, rfl⟩)))
    go_ret
    exact ⟨ret_i hv.out.symm, nx⟩
  have hht : isHnd h = true := decide_eq_true (by omega)
  rw [hht] at hH
  replace hH := hid hH
  clear hht
  obtain (rfl | rfl | rfl) : h = 0 ∨ h = 1 ∨ h = 2 := by omega
  ·cases o0 with
   | false =>
    have hv := hid (may_none (h := 0) (b := b) hg (.inr (.inl (by simp [getH]))))
    clear hg hh hB
    go_enter Tryz.func76, Tryz.ntmps76
    go_wp2_with (go_at_call 64; go_loud ((with_reducible refine (hG.out _ nx).mono ?_); rintro e w1 ⟨rfl, hb1⟩; replace k0 := k0.step hb1; replace nx := bgo nx hb1; clear e0 e1 e2 e3 e4 e5 e6 e7 e8 e9 l0'; have e0 := k0.cell 0; have e1 := k0.cell 1; have e2 := k0.cell 2; have e3 := k0.cell 3; have e4 := k0.cell 4; have e5 := k0.cell 5; have e6 := k0.cell 6; have e7 := k0.cell 7; have e8 := k0.cell 8; have e9 := k0.cell 9; simp only [Zga, Zgb, Zgc] at e0 e1 e2 e3 e4 e5 e6 e7 e8 e9; have l0' := k0.lt))
    go_wp2_with (first | (go_at_call 73; go_loud ((with_reducible refine (hH.out _).mono ?_); rintro e w1 ⟨rfl, rfl⟩)) | (go_at_call 95; go_loud ((with_reducible refine (hB.out _).mono ?_); rintro e w1 ⟨rfl, rfl⟩)))
    go_ret
    exact ⟨ret_i hv.out.symm, nx⟩
   | true =>
    cases hbb : isBlk b with
    | false =>
     have hv := hid (may_none (h := 0) (b := b) hg (.inr (.inr hbb)))
     rw [hbb] at hB
     replace hB := hid hB
     clear hg hh hbb
     go_enter Tryz.func76, Tryz.ntmps76
     go_wp2_with (go_at_call 64; go_loud ((with_reducible refine (hG.out _ nx).mono ?_); rintro e w1 ⟨rfl, hb1⟩; replace k0 := k0.step hb1; replace nx := bgo nx hb1; clear e0 e1 e2 e3 e4 e5 e6 e7 e8 e9 l0'; have e0 := k0.cell 0; have e1 := k0.cell 1; have e2 := k0.cell 2; have e3 := k0.cell 3; have e4 := k0.cell 4; have e5 := k0.cell 5; have e6 := k0.cell 6; have e7 := k0.cell 7; have e8 := k0.cell 8; have e9 := k0.cell 9; simp only [Zga, Zgb, Zgc] at e0 e1 e2 e3 e4 e5 e6 e7 e8 e9; have l0' := k0.lt))
     go_wp2_with (first | (go_at_call 73; go_loud ((with_reducible refine (hH.out _).mono ?_); rintro e w1 ⟨rfl, rfl⟩)) | (go_at_call 95; go_loud ((with_reducible refine (hB.out _).mono ?_); rintro e w1 ⟨rfl, rfl⟩)))
     go_ret
     exact ⟨ret_i hv.out.symm, nx⟩
    | true =>
     have hv := hid (may_ok (h := 0) (b := b) hg (by decide) (by simp [getH]) hbb)
     rw [hbb] at hB
     replace hB := hid hB
     clear hg hh hbb
     go_enter Tryz.func76, Tryz.ntmps76
     go_wp2_with (go_at_call 64; go_loud ((with_reducible refine (hG.out _ nx).mono ?_); rintro e w1 ⟨rfl, hb1⟩; replace k0 := k0.step hb1; replace nx := bgo nx hb1; clear e0 e1 e2 e3 e4 e5 e6 e7 e8 e9 l0'; have e0 := k0.cell 0; have e1 := k0.cell 1; have e2 := k0.cell 2; have e3 := k0.cell 3; have e4 := k0.cell 4; have e5 := k0.cell 5; have e6 := k0.cell 6; have e7 := k0.cell 7; have e8 := k0.cell 8; have e9 := k0.cell 9; simp only [Zga, Zgb, Zgc] at e0 e1 e2 e3 e4 e5 e6 e7 e8 e9; have l0' := k0.lt))
     go_wp2_with (first | (go_at_call 73; go_loud ((with_reducible refine (hH.out _).mono ?_); rintro e w1 ⟨rfl, rfl⟩)) | (go_at_call 95; go_loud ((with_reducible refine (hB.out _).mono ?_); rintro e w1 ⟨rfl, rfl⟩)))
     go_ret
     exact ⟨ret_i hv.out.symm, nx⟩
  ·cases o1 with
   | false =>
    have hv := hid (may_none (h := 1) (b := b) hg (.inr (.inl (by simp [getH]))))
    clear hg hh hB
    go_enter Tryz.func76, Tryz.ntmps76
    go_wp2_with (go_at_call 64; go_loud ((with_reducible refine (hG.out _ nx).mono ?_); rintro e w1 ⟨rfl, hb1⟩; replace k0 := k0.step hb1; replace nx := bgo nx hb1; clear e0 e1 e2 e3 e4 e5 e6 e7 e8 e9 l0'; have e0 := k0.cell 0; have e1 := k0.cell 1; have e2 := k0.cell 2; have e3 := k0.cell 3; have e4 := k0.cell 4; have e5 := k0.cell 5; have e6 := k0.cell 6; have e7 := k0.cell 7; have e8 := k0.cell 8; have e9 := k0.cell 9; simp only [Zga, Zgb, Zgc] at e0 e1 e2 e3 e4 e5 e6 e7 e8 e9; have l0' := k0.lt))
    go_wp2_with (first | (go_at_call 73; go_loud ((with_reducible refine (hH.out _).mono ?_); rintro e w1 ⟨rfl, rfl⟩)) | (go_at_call 95; go_loud ((with_reducible refine (hB.out _).mono ?_); rintro e w1 ⟨rfl, rfl⟩)))
    go_ret
    exact ⟨ret_i hv.out.symm, nx⟩
   | true =>
    cases hbb : isBlk b with
    | false =>
     have hv := hid (may_none (h := 1) (b := b) hg (.inr (.inr hbb)))
     rw [hbb] at hB
     replace hB := hid hB
     clear hg hh hbb
     go_enter Tryz.func76, Tryz.ntmps76
     go_wp2_with (go_at_call 64; go_loud ((with_reducible refine (hG.out _ nx).mono ?_); rintro e w1 ⟨rfl, hb1⟩; replace k0 := k0.step hb1; replace nx := bgo nx hb1; clear e0 e1 e2 e3 e4 e5 e6 e7 e8 e9 l0'; have e0 := k0.cell 0; have e1 := k0.cell 1; have e2 := k0.cell 2; have e3 := k0.cell 3; have e4 := k0.cell 4; have e5 := k0.cell 5; have e6 := k0.cell 6; have e7 := k0.cell 7; have e8 := k0.cell 8; have e9 := k0.cell 9; simp only [Zga, Zgb, Zgc] at e0 e1 e2 e3 e4 e5 e6 e7 e8 e9; have l0' := k0.lt))
     go_wp2_with (first | (go_at_call 73; go_loud ((with_reducible refine (hH.out _).mono ?_); rintro e w1 ⟨rfl, rfl⟩)) | (go_at_call 95; go_loud ((with_reducible refine (hB.out _).mono ?_); rintro e w1 ⟨rfl, rfl⟩)))
     go_ret
     exact ⟨ret_i hv.out.symm, nx⟩
    | true =>
     have hv := hid (may_ok (h := 1) (b := b) hg (by decide) (by simp [getH]) hbb)
     rw [hbb] at hB
     replace hB := hid hB
     clear hg hh hbb
     go_enter Tryz.func76, Tryz.ntmps76
     go_wp2_with (go_at_call 64; go_loud ((with_reducible refine (hG.out _ nx).mono ?_); rintro e w1 ⟨rfl, hb1⟩; replace k0 := k0.step hb1; replace nx := bgo nx hb1; clear e0 e1 e2 e3 e4 e5 e6 e7 e8 e9 l0'; have e0 := k0.cell 0; have e1 := k0.cell 1; have e2 := k0.cell 2; have e3 := k0.cell 3; have e4 := k0.cell 4; have e5 := k0.cell 5; have e6 := k0.cell 6; have e7 := k0.cell 7; have e8 := k0.cell 8; have e9 := k0.cell 9; simp only [Zga, Zgb, Zgc] at e0 e1 e2 e3 e4 e5 e6 e7 e8 e9; have l0' := k0.lt))
     go_wp2_with (first | (go_at_call 73; go_loud ((with_reducible refine (hH.out _).mono ?_); rintro e w1 ⟨rfl, rfl⟩)) | (go_at_call 95; go_loud ((with_reducible refine (hB.out _).mono ?_); rintro e w1 ⟨rfl, rfl⟩)))
     go_ret
     exact ⟨ret_i hv.out.symm, nx⟩
  ·cases o2 with
   | false =>
    have hv := hid (may_none (h := 2) (b := b) hg (.inr (.inl (by simp [getH]))))
    clear hg hh hB
    go_enter Tryz.func76, Tryz.ntmps76
    go_wp2_with (go_at_call 64; go_loud ((with_reducible refine (hG.out _ nx).mono ?_); rintro e w1 ⟨rfl, hb1⟩; replace k0 := k0.step hb1; replace nx := bgo nx hb1; clear e0 e1 e2 e3 e4 e5 e6 e7 e8 e9 l0'; have e0 := k0.cell 0; have e1 := k0.cell 1; have e2 := k0.cell 2; have e3 := k0.cell 3; have e4 := k0.cell 4; have e5 := k0.cell 5; have e6 := k0.cell 6; have e7 := k0.cell 7; have e8 := k0.cell 8; have e9 := k0.cell 9; simp only [Zga, Zgb, Zgc] at e0 e1 e2 e3 e4 e5 e6 e7 e8 e9; have l0' := k0.lt))
    go_wp2_with (first | (go_at_call 73; go_loud ((with_reducible refine (hH.out _).mono ?_); rintro e w1 ⟨rfl, rfl⟩)) | (go_at_call 95; go_loud ((with_reducible refine (hB.out _).mono ?_); rintro e w1 ⟨rfl, rfl⟩)))
    go_ret
    exact ⟨ret_i hv.out.symm, nx⟩
   | true =>
    cases hbb : isBlk b with
    | false =>
     have hv := hid (may_none (h := 2) (b := b) hg (.inr (.inr hbb)))
     rw [hbb] at hB
     replace hB := hid hB
     clear hg hh hbb
     go_enter Tryz.func76, Tryz.ntmps76
     go_wp2_with (go_at_call 64; go_loud ((with_reducible refine (hG.out _ nx).mono ?_); rintro e w1 ⟨rfl, hb1⟩; replace k0 := k0.step hb1; replace nx := bgo nx hb1; clear e0 e1 e2 e3 e4 e5 e6 e7 e8 e9 l0'; have e0 := k0.cell 0; have e1 := k0.cell 1; have e2 := k0.cell 2; have e3 := k0.cell 3; have e4 := k0.cell 4; have e5 := k0.cell 5; have e6 := k0.cell 6; have e7 := k0.cell 7; have e8 := k0.cell 8; have e9 := k0.cell 9; simp only [Zga, Zgb, Zgc] at e0 e1 e2 e3 e4 e5 e6 e7 e8 e9; have l0' := k0.lt))
     go_wp2_with (first | (go_at_call 73; go_loud ((with_reducible refine (hH.out _).mono ?_); rintro e w1 ⟨rfl, rfl⟩)) | (go_at_call 95; go_loud ((with_reducible refine (hB.out _).mono ?_); rintro e w1 ⟨rfl, rfl⟩)))
     go_ret
     exact ⟨ret_i hv.out.symm, nx⟩
    | true =>
     have hv := hid (may_ok (h := 2) (b := b) hg (by decide) (by simp [getH]) hbb)
     rw [hbb] at hB
     replace hB := hid hB
     clear hg hh hbb
     go_enter Tryz.func76, Tryz.ntmps76
     go_wp2_with (go_at_call 64; go_loud ((with_reducible refine (hG.out _ nx).mono ?_); rintro e w1 ⟨rfl, hb1⟩; replace k0 := k0.step hb1; replace nx := bgo nx hb1; clear e0 e1 e2 e3 e4 e5 e6 e7 e8 e9 l0'; have e0 := k0.cell 0; have e1 := k0.cell 1; have e2 := k0.cell 2; have e3 := k0.cell 3; have e4 := k0.cell 4; have e5 := k0.cell 5; have e6 := k0.cell 6; have e7 := k0.cell 7; have e8 := k0.cell 8; have e9 := k0.cell 9; simp only [Zga, Zgb, Zgc] at e0 e1 e2 e3 e4 e5 e6 e7 e8 e9; have l0' := k0.lt))
     go_wp2_with (first | (go_at_call 73; go_loud ((with_reducible refine (hH.out _).mono ?_); rintro e w1 ⟨rfl, rfl⟩)) | (go_at_call 95; go_loud ((with_reducible refine (hB.out _).mono ?_); rintro e w1 ⟨rfl, rfl⟩)))
     go_ret
     exact ⟨ret_i hv.out.symm, nx⟩
end Go.Proofs.YtjhmfljlclajnaaGreatDoor
