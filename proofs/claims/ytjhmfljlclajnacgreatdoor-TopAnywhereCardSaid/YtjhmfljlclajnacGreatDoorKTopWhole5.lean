/- Parts of the proof: RowI TxnR TxnA CopyT SlcA JwM Range TSm JnL TSn THm IMap MapL MapR JnV. -/
import Derived.Test.YtjhmfljlclajnacGreatDoorKTopWhole4
import Derived.RangeFuncNested
import Derived.OrdersIn
set_option linter.unusedVariables false
set_option linter.unusedSimpArgs false
set_option maxRecDepth 100000
set_option maxHeartbeats 40000000
namespace Wb
open Go Go.RowKit
section
variable {α : Type} {f : α -> List Value} {base : Nat} {e : TypeId} {c : Nat} {w w' : World} {v : Value} {l : List α}
theorem flat_take (hf : ∀ x, (f x).length = c) : ∀ (l : List α) (i : Nat), i <= l.length -> (l.flatMap f).take (i * c) = (l.take i).flatMap f
 | l, 0, _ => by simp
 | [], i + 1, h => by simp at h
 | x :: l, i + 1, h => by
  rw [List.flatMap_cons, List.take_succ_cons, List.flatMap_cons, List.take_append, List.take_of_length_le (by rw [hf, Nat.succ_mul]; omega), hf, show (i + 1) * c - c = i * c by rw [Nat.succ_mul]; omega, flat_take hf l i (by simpa using h)]
theorem flat_dropLen (hf : ∀ x, (f x).length = c) (l : List α) (i : Nat) : ((l.drop i).flatMap f).length = (l.length - i) * c := by
 rw [flat_len hf, List.length_drop]
theorem mul_split {n i c : Nat} (h : i <= n) : i * c + (n - i) * c = n * c := by rw [<- Nat.add_mul]; congr 1; omega
theorem ins_room (hf : ∀ x, (f x).length = c) (L : List Value) (l : List α) (i cap : Nat) (x : α) (hL : L.length = cap * c) (ht : L.take (l.length * c) = l.flatMap f) (hi : i <= l.length) (hc : l.length + 1 <= cap) {L1 L2 : List Value}
    (h1 : L1 = L.take ((i + 1) * c) ++ (l.drop i).flatMap f ++ L.drop ((i + 1) * c + ((l.drop i).flatMap f).length)) (h2 : L2 = L1.take (i * c) ++ f x ++ L1.drop (i * c + (f x).length)) :
    L2.length = cap * c /\ L2.take ((l.length + 1) * c) = (l.take i ++ x :: l.drop i).flatMap f := by
 have hx := hf x
 have hd := flat_dropLen hf l i
 have hm := mul_split (c := c) hi
 have hm2 : (l.length + 1) * c <= cap * c := Nat.mul_le_mul_right _ hc
 rw [Nat.succ_mul] at hm2
 have hsucc : (i + 1) * c = i * c + (f x).length := by rw [hx, Nat.succ_mul]
 rw [hsucc] at h1
 subst h1
 rw [seg2 L (i * c) (f x) ((l.drop i).flatMap f) (by rw [hx, hd, hL]; omega)] at h2
 subst h2
 have h3 : L.take (i * c) = (l.take i).flatMap f := by
  rw [<- flat_take hf l i hi, <- ht, List.take_take, Nat.min_eq_left (by rw [<- hm]; omega)]
 have h4 := flat_len hf (l.take i)
 rw [List.length_take, Nat.min_eq_left hi] at h4
 rw [h3]
 refine ⟨?_, ?_⟩
 ·simp only [List.length_append, List.length_drop, h4, hx, hd, hL]
  omega
 ·rw [List.flatMap_append, List.flatMap_cons, <- List.append_assoc]
  have h5 : ((l.take i).flatMap f ++ f x ++ (l.drop i).flatMap f).length = (l.length + 1) * c := by
   simp only [List.length_append, h4, hx, hd, Nat.succ_mul]
   omega
  rw [<- h5]
  exact List.take_left
theorem ins_grow (hf : ∀ x, (f x).length = c) (Z : List Value) (l : List α) (i cap : Nat) (x : α) (hZ : Z.length = (cap - i) * c) (hi : i <= l.length) (hc : l.length + 1 <= cap) {L L1 L2 : List Value} (h0 : L = (l.take i).flatMap f ++ Z)
    (h1 : L1 = L.take (i * c) ++ f x ++ L.drop (i * c + (f x).length)) (h2 : L2 = L1.take ((i + 1) * c) ++ (l.drop i).flatMap f ++ L1.drop ((i + 1) * c + ((l.drop i).flatMap f).length)) :
    L2.length = cap * c /\ L2.take ((l.length + 1) * c) = (l.take i ++ x :: l.drop i).flatMap f := by
 have hx := hf x
 have hd := flat_dropLen hf l i
 have hm := mul_split (c := c) hi
 have hm2 : (l.length + 1) * c <= cap * c := Nat.mul_le_mul_right _ hc
 rw [Nat.succ_mul] at hm2
 have hm3 := mul_split (c := c) (n := cap) (i := i) (by omega)
 have hsucc : (i + 1) * c = i * c + (f x).length := by rw [hx, Nat.succ_mul]
 have h4 := flat_len hf (l.take i)
 rw [List.length_take, Nat.min_eq_left hi] at h4
 have hL : L.length = cap * c := by rw [h0, List.length_append, h4, hZ]; exact hm3
 rw [hsucc] at h2
 subst h1
 rw [seg3 L (i * c) (f x) ((l.drop i).flatMap f) (by rw [hx, hd, hL]; omega)] at h2
 subst h2
 have h3 : L.take (i * c) = (l.take i).flatMap f := by
  rw [h0, <- h4]
  exact List.take_left
 rw [h3]
 refine ⟨?_, ?_⟩
 ·simp only [List.length_append, List.length_drop, h4, hx, hd, hL]
  omega
 ·rw [List.flatMap_append, List.flatMap_cons, <- List.append_assoc]
  have h5 : ((l.take i).flatMap f ++ f x ++ (l.drop i).flatMap f).length = (l.length + 1) * c := by
   simp only [List.length_append, h4, hx, hd, Nat.succ_mul]
   omega
  rw [<- h5]
  exact List.take_left
theorem row_from (hf : ∀ x, (f x).length = c) {g : Nat} {cur : Array Value} (hk : Blk w g cur e) (ht : cur.toList.take (l.length * c) = l.flatMap f) {i : Nat} (hi : i <= l.length) :
    ∀ j u, ((l.drop i).flatMap f)[j]? = some u -> w.cell? ⟨g, i * c + j, none⟩ = some u := by
 intro j u hj
 have hd := flat_dropLen hf l i
 have hm := mul_split (c := c) hi
 have hlt : j < ((l.drop i).flatMap f).length := (List.getElem?_eq_some_iff.1 hj).1
 have h4 := flat_len hf (l.take i)
 rw [List.length_take, Nat.min_eq_left hi] at h4
 have h5 : (l.flatMap f)[i * c + j]? = some u := by
  conv => lhs; rw [<- List.take_append_drop i l]
  rw [List.flatMap_append, List.getElem?_append_right (by omega), h4, Nat.add_sub_cancel_left]
  exact hj
 rw [<- ht, List.getElem?_take, if_pos (by omega)] at h5
 rw [hk.cell, <- h5]
 simp
theorem Own.cut {g cap : Nat} (hF : Flat f c) (h : Own f base e c w (.slice (some ⟨g, 0, none⟩) l.length cap) l) {i : Nat} (hi : i <= l.length) (zs : List Value) (hz : i * c + zs.length <= l.length * c) :
    Own f base e c (w.setCells g (i * c) zs) (.slice (some ⟨g, 0, none⟩) i cap) (l.take i) := by
 obtain ⟨h1, h2⟩ := h
 rcases h2 with ⟨h3, _⟩ | ⟨g', cap', cur, hv, hb, hg, hn, hc, hs, ht⟩
 ·exact absurd h3 (by simp)
 ·simp only [Value.slice.injEq, Option.some.injEq, Addr.mk.injEq, true_and, and_true] at hv
  obtain ⟨rfl, rfl⟩ := hv
  have hle : l.length * c <= cap * c := Nat.mul_le_mul_right _ hn
  have hk := Blk.sets (t := e) zs (i * c) w cur hg (by rw [hs]; omega)
  have hil : (l.take i).length = i := by rw [List.length_take]; omega
  have hm := mul_split (c := c) hi
  have := Own.ofRow (l := l.take i) (cap := cap) hF hb hk (by rw [hil]; omega) hc (by
   simp only [List.size_toArray, List.length_append, List.length_take, List.length_drop, Array.length_toList, hs]
   omega) (by
   rw [hil]
   show ((cur.toList.take (i * c) ++ zs) ++ _).take (i * c) = _
   rw [List.append_assoc, List.take_append_of_le_length (by rw [List.length_take, Array.length_toList, hs]; omega), List.take_take, Nat.min_self, <- flat_take hF.len l i hi, <- ht, List.take_take, Nat.min_eq_left (by omega)])
  rw [hil] at this
  exact this
def KeptI (p : α -> Bool) (l : List α) (j i : Nat) (lk : List α) : Prop :=
 lk.length = l.length /\ i = ((l.take j).filter p).length /\ lk.take i = (l.take j).filter p /\ lk.drop j = l.drop j
theorem KeptI.le {p : α -> Bool} {j i : Nat} {lk : List α} (h : KeptI p l j i lk) : i <= j := by
 rw [h.2.1]
 exact Nat.le_trans (List.length_filter_le _ _) (by rw [List.length_take]; exact Nat.min_le_left _ _)
theorem KeptI.get {p : α -> Bool} {j i : Nat} {lk : List α} (h : KeptI p l j i lk) (hj : j < l.length) : ∃ hk : j < lk.length, lk[j] = l[j] := by
 have hk : j < lk.length := by rw [h.1]; exact hj
 refine ⟨hk, ?_⟩
 have h1 := congrArg (fun x => x[0]?) h.2.2.2
 simp only [List.getElem?_drop, Nat.add_zero] at h1
 rw [List.getElem?_eq_getElem hk, List.getElem?_eq_getElem hj, Option.some.injEq] at h1
 exact h1
theorem KeptI.keep {p : α -> Bool} {j i : Nat} {lk : List α} (h : KeptI p l j i lk) (hj : j < l.length) (hp : p l[j] = true) : KeptI p l (j + 1) (i + 1) (lk.set i l[j]) := by
 have hij := h.le
 obtain ⟨h1, h2, h3, h4⟩ := h
 have h5 : (l.take (j + 1)).filter p = (l.take j).filter p ++ [l[j]] := by rw [List.take_succ_eq_append_getElem hj, List.filter_append, List.filter_cons, if_pos hp, List.filter_nil]
 refine ⟨by simpa using h1, by rw [h5, List.length_append, <- h2]; rfl, ?_, ?_⟩
 ·rw [h5, <- h3, List.take_succ_eq_append_getElem (by rw [List.length_set, h1]; omega), List.getElem_set_self]
  congr 1
  rw [List.take_set_of_le (by omega)]
 ·rw [List.drop_set_of_lt (by omega), <- List.drop_drop, h4, List.drop_drop]
theorem KeptI.skip {p : α -> Bool} {j i : Nat} {lk : List α} (h : KeptI p l j i lk) (hj : j < l.length) (hp : p l[j] = false) : KeptI p l (j + 1) i lk := by
 obtain ⟨h1, h2, h3, h4⟩ := h
 have h5 : (l.take (j + 1)).filter p = (l.take j).filter p := by rw [List.take_succ_eq_append_getElem hj, List.filter_append, List.filter_cons, if_neg (by rw [hp]; simp), List.filter_nil, List.append_nil]
 exact ⟨h1, by rw [h5, <- h2], by rw [h5, <- h3], by rw [<- List.drop_drop, h4, List.drop_drop]⟩
theorem KeptI.start {p : α -> Bool} {k : Nat} (hk : k < l.length) (h : ∀ i (hi : i < l.length), i < k -> p l[i] = true) (hp : p l[k] = false) : KeptI p l (k + 1) k l := by
 have h5 : (l.take k).filter p = l.take k := List.filter_eq_self.2 (fun x hx => by
  obtain ⟨i, hi, rfl⟩ := List.getElem_of_mem hx
  rw [List.length_take] at hi
  rw [List.getElem_take]
  exact h i (by omega) (by omega))
 refine KeptI.skip ⟨rfl, ?_, ?_, rfl⟩ hk hp
 ·rw [h5, List.length_take]; omega
 ·rw [h5]
theorem KeptI.done {p : α -> Bool} {j i : Nat} {lk : List α} (h : KeptI p l j i lk) (hj : l.length <= j) : lk.take i = l.filter p /\ i = (l.filter p).length := by
 obtain ⟨h1, h2, h3, h4⟩ := h
 rw [List.take_of_length_le hj] at h2 h3
 exact ⟨h3, h2⟩
theorem filter_all {p : α -> Bool} (h : ∀ i (hi : i < l.length), p l[i] = true) : l.filter p = l := List.filter_eq_self.2 (fun x hx => by
 obtain ⟨i, hi, rfl⟩ := List.getElem_of_mem hx
 exact h i hi)
end
end Wb
namespace Go.Proofs.YtjhmfljlclajnacGreatDoor
open Go.RowKit Wb
theorem elemCpy : Elem Tryz.prog 34 92 2 24 := Elem.mk' (z := .agg #[.int .i64 0, .string ⟨#[]⟩]) Tryz.underlying34 (by kernel_rfl) rfl
theorem txn_block (b : Int) (w : World) : Calls Tryz.prog 71 #[.int .i64 b] w fun e w' => e = .returned (.bool (isBlk b)) /\ w = w' := by
 by_cases h0 : 0 <= b
 ·by_cases h1 : b < 12
  ·have hv : isBlk b = true := decide_eq_true ⟨h0, h1⟩
   rw [hv]
   go_enter Tryz.func71, Tryz.ntmps71
   go_wp2
   go_ret
   exact ⟨rfl, rfl⟩
  ·have hv : isBlk b = false := decide_eq_false fun hh => h1 hh.2
   rw [hv]
   go_enter Tryz.func71, Tryz.ntmps71
   go_wp2
   go_ret
   exact ⟨rfl, rfl⟩
 ·have hv : isBlk b = false := decide_eq_false fun hh => h0 hh.1
  rw [hv]
  go_enter Tryz.func71, Tryz.ntmps71
  go_wp2
  go_ret
  exact ⟨rfl, rfl⟩
theorem txn_find1 (c : Cpy) (b : Int) (w : World) : Calls Tryz.prog 157 #[.agg #[.int .i64 c.block, .string c.text], .int .i64 b] w fun e w' => e = .returned (.int .i64 (cmpI c.block b)) /\ Below w.heap.size w w' := by
 obtain ⟨x, s⟩ := c
 have k0 := Blk.new w #[.int .i64 x, .string s] 92
 have c0 := k0.cell 0; have c1 := k0.cell 1
 simp only [Zga, Zgb, Zgc] at c0 c1
 dsimp only
 by_cases h1 : x < b
 ·rw [cmpI_lt h1]
  go_enter Tryz.func157, Tryz.ntmps157
  go_wp2
  go_ret
  exact ⟨rfl, bal (b0 w) _⟩
 ·by_cases h2 : b < x
  ·rw [cmpI_gt h2]
   go_enter Tryz.func157, Tryz.ntmps157
   go_wp2
   go_ret
   exact ⟨rfl, bal (b0 w) _⟩
  ·have h3 : x = b := by omega
   rw [cmpI_eq h3]
   subst h3
   go_enter Tryz.func157, Tryz.ntmps157
   go_wp2
   go_ret
   exact ⟨rfl, bal (b0 w) _⟩
theorem slices_BinarySearchC (l : List Cpy) (b : Int) (v : Value) (w : World) (hs : rise (blks l) = true) (h : RL cpyC w v l) (hl : l.length <= 5864062014805) :
    Calls Tryz.prog 156 #[v, .int .i64 b, .func (.func 157) #[] #[]] w fun e w' => e = .returned (.tuple #[.int .i64 (posB l b : Nat), .bool (hasB l b)]) /\ Below w.heap.size w w' := by
 obtain ⟨a, cap, rfl, _⟩ := h.form
 have hr := hid (rises hs)
 have hpo := hid (fun i h0 h1 h2 => pos_of (l := l) (b := b) (i := i) h0 h1 h2)
 have hha := hid (fun i h1 h2 => has_of (l := l) (b := b) (i := i) hr.out h1 h2)
 generalize posB l b = p at *
 generalize hasB l b = hb at *
 have hC := fun c w => txn_find1 c b w
 replace h := hid h; replace hC := hid hC
 clear hs
 go_enter Tryz.func156, Tryz.ntmps156
 go_wp2
 go_loopg [9, 10] l.length (fun kx s9 s10 wr => ∃ lo hi : Nat, s9 = .int .i64 lo /\ s10 = .int .i64 hi /\ lo <= hi /\ hi <= l.length /\ hi - lo <= kx /\ Below w.heap.size w wr /\ Hid (∀ k (hk : k < l.length), k < lo -> l[k].block < b) /\ Hid (∀ k (hk : k < l.length), hi <= k -> b <= l[k].block))
 case atStart => exact ⟨0, l.length, rfl, rfl, Nat.zero_le _, Nat.le_refl _, by omega, b0 w, hid (fun k _ hk => absurd hk (Nat.not_lt_zero k)), hid (fun k hk h2 => by omega)⟩
 case round =>
  obtain ⟨lo, hi, rfl, rfl, hlh, hin, hg, nx, i1, i2⟩ := hrel
  by_cases hlt : lo < hi
  ·have hm : (lo + hi) / 2 < l.length := by omega
   obtain ⟨b1, o1, rfl, c0, c1⟩ := RL.at2 (fun x => .int .i64 x.block) (fun x => .string x.text) (fun _ => rfl) (h.out.below nx) hm
   have j1 := hid (fun (hh : l[(lo + hi) / 2].block < b) => (show ∀ k (hk : k < l.length), k < (lo + hi) / 2 + 1 -> l[k].block < b from fun k hk hk2 => by
    by_cases e : k = (lo + hi) / 2
    ·subst e; exact hh
    ·have := hr.out _ hm k (by omega); omega))
   have j2 := hid (fun (hh : b <= l[(lo + hi) / 2].block) => (show ∀ k (hk : k < l.length), (lo + hi) / 2 <= k -> b <= l[k].block from fun k hk hk2 => by
    by_cases e : k = (lo + hi) / 2
    ·subst e; exact hh
    ·have := hr.out k hk _ (show (lo + hi) / 2 < k by omega); omega))
   generalize l[(lo + hi) / 2] = x at *
   have hCx := hC.out x
   by_cases hx : x.block < b
   ·rw [cmpI_lt hx] at hCx
    replace j1 := hid (j1.out hx)
    replace hCx := hid hCx
    clear j2
    go_wp2_with (go_at_call 157; ((with_reducible refine (hCx.out _).mono ?_); rintro e w1 ⟨rfl, hb1⟩))
    go_roundg (hi - ((lo + hi) / 2 + 1))
    case measure => omega
    case rel => exact ⟨(lo + hi) / 2 + 1, hi, by rw [show ((lo : Int) + (hi : Int)) / 2 + 1 = (((lo + hi) / 2 + 1 : Nat) : Int) by omega], rfl, by omega, hin, Nat.le_refl _, bgo nx hb1, j1, i2⟩
   ·have hnn : ¬ cmpI x.block b < 0 := by
      by_cases h2 : b < x.block
      · rw [cmpI_gt h2]; decide
      · rw [cmpI_eq (by omega)]; decide
    generalize cmpI x.block b = cv at *
    replace j2 := hid (j2.out (by omega))
    replace hCx := hid hCx
    clear j1 hx
    go_wp2_with (go_at_call 157; ((with_reducible refine (hCx.out _).mono ?_); rintro e w1 ⟨rfl, hb1⟩))
    go_roundg ((lo + hi) / 2 - lo)
    case measure => omega
    case rel => exact ⟨lo, (lo + hi) / 2, rfl, by rw [show ((lo : Int) + (hi : Int)) / 2 = (((lo + hi) / 2 : Nat) : Int) by omega], by omega, by omega, Nat.le_refl _, bgo nx hb1, i1, j2⟩
  ·obtain rfl : hi = lo := by omega
   have hp := hid (hpo.out hi hin i1.out i2.out)
   have hh := hid (hha.out hi i1.out i2.out)
   by_cases hn : hi < l.length
   ·obtain ⟨b1, o1, rfl, c0, c1⟩ := RL.at2 (fun x => .int .i64 x.block) (fun x => .string x.text) (fun _ => rfl) (h.out.below nx) hn
    have hge := i2.out hi hn (Nat.le_refl _)
    have hh2 : hb = true ↔ l[hi].block = b := ⟨fun h => (hh.out.1 h).2, fun h => hh.out.2 ⟨hn, h⟩⟩
    clear i1 i2 hh
    generalize l[hi] = x at *
    have hCx := hC.out x
    by_cases hx : x.block = b
    ·have hv := hid (hh2.2 hx)
     rw [cmpI_eq hx] at hCx
     replace hCx := hid hCx
     clear hx hge hh2
     go_wp2_with (go_at_call 157; ((with_reducible refine (hCx.out _).mono ?_); rintro e w1 ⟨rfl, hb1⟩))
     go_ret2
     exact ⟨by rw [hp.out, hv.out]; rfl, bgo nx hb1⟩
    ·have hv := hid (show hb = false by
       cases hbv : hb with
       | false => rfl
       | true => exact absurd (hh2.1 hbv) hx)
     rw [cmpI_gt (by omega)] at hCx
     replace hCx := hid hCx
     clear hx hge hh2
     go_wp2_with (go_at_call 157; ((with_reducible refine (hCx.out _).mono ?_); rintro e w1 ⟨rfl, hb1⟩))
     go_ret2
     exact ⟨by rw [hp.out, hv.out]; rfl, bgo nx hb1⟩
   ·have hv := hid (show hb = false by
      cases hbv : hb with
      | false => rfl
      | true => obtain ⟨h1, _⟩ := hh.out.1 hbv; omega)
    clear hh i1 i2
    go_wp2
    go_ret2
    exact ⟨by rw [hp.out, hv.out]; rfl, nx⟩
theorem txn_find (l : List Cpy) (b : Int) (v : Value) (w : World) (hs : rise (blks l) = true) (h : RL cpyC w v l) (hl : l.length <= 5864062014805) :
    Calls Tryz.prog 114 #[v, .int .i64 b] w fun e w' => e = .returned (.tuple #[.int .i64 (posB l b : Nat), .bool (hasB l b)]) /\ Below w.heap.size w w' := by
 have hB := hid (slices_BinarySearchC l b v w hs h hl)
 obtain ⟨a, cap, rfl, _⟩ := h.form
 generalize posB l b = p at *
 clear h hs
 go_enter Tryz.func114, Tryz.ntmps114
 go_wp2_with (go_at_call 156; ((with_reducible refine hB.out.mono ?_); rintro e w1 ⟨rfl, hb1⟩))
 go_ret2
 exact ⟨rfl, hb1⟩
theorem txn_has (l : List Cpy) (b : Int) (v : Value) (w : World) (hs : rise (blks l) = true) (h : RL cpyC w v l) (hl : l.length <= 5864062014805) :
    Calls Tryz.prog 72 #[v, .int .i64 b] w fun e w' => e = .returned (.bool (hasB l b)) /\ Below w.heap.size w w' := by
 have hB := hid (txn_find l b v w hs h hl)
 obtain ⟨a, cap, rfl, _⟩ := h.form
 clear h hs
 go_enter Tryz.func72, Tryz.ntmps72
 go_wp2_with (go_at_call 114; ((with_reducible refine hB.out.mono ?_); rintro e w1 ⟨rfl, hb1⟩))
 go_ret
 exact ⟨rfl, hb1⟩
end Go.Proofs.YtjhmfljlclajnacGreatDoor
namespace Wb
open Go Go.RowKit
theorem Own.setCells {α : Type} {f : α -> List Value} {base : Nat} {e : TypeId} {c : Nat} {v : Value} {l : List α} : ∀ (ps : List (Addr × Value)) (w : World), Own f base e c w v l -> (∀ p ∈ ps, p.1.block < base) -> Own f base e c (ps.foldl (fun w p => w.setCell p.1 p.2) w) v l
 | [], _, h, _ => h
 | p :: ps, w, h, hp => Own.setCells ps _ (h.setCell (hp p (by simp)) p.2) (fun q hq => hp q (by simp [hq]))
theorem Below.setCells {B : Nat} {w : World} : ∀ (ps : List (Addr × Value)) (w' : World), Below B w w' -> (∀ p ∈ ps, B <= p.1.block) -> Below B w (ps.foldl (fun w p => w.setCell p.1 p.2) w')
 | [], _, h, _ => h
 | p :: ps, w', h, hp => Below.setCells ps _ (h.setCell (hp p (by simp)) p.2) (fun q hq => hp q (by simp [hq]))
end Wb
namespace Go.Proofs.YtjhmfljlclajnacGreatDoor
open Go.RowKit Wb
theorem elemIntT : Elem Tryz.prog 35 3 1 8 := Elem.mk' (z := .int .i64 0) Tryz.underlying35 (by kernel_rfl) rfl
end Go.Proofs.YtjhmfljlclajnacGreatDoor
namespace Wb
open Go Go.RowKit
def idxK {α : Type} (key : α -> Int) (l : List α) (b : Int) : Int := match l.findIdx? (fun x => key x == b) with
 | some k => (k : Int)
 | none => -1
section
variable {α : Type} {key : α -> Int} {l : List α} {b : Int}
theorem idxK_hit {k : Nat} (hk : k < l.length) (h1 : key l[k] = b) (h2 : ∀ i (hi : i < k), ¬ key l[i] = b) : idxK key l b = k := by
 have : l.findIdx? (fun x => key x == b) = some k := List.findIdx?_eq_some_iff_getElem.2 ⟨hk, by simpa using h1, fun j hj => by simpa using h2 j hj⟩
 unfold idxK; rw [this]
theorem idxK_none (h2 : ∀ i (hi : i < l.length), ¬ key l[i] = b) : idxK key l b = -1 := by
 have : l.findIdx? (fun x => key x == b) = none := List.findIdx?_eq_none_iff.2 (fun x hx => by
  obtain ⟨i, hi, rfl⟩ := List.getElem_of_mem hx
  simpa using h2 i hi)
 unfold idxK; rw [this]
theorem idxK_spec (key : α -> Int) (l : List α) (b : Int) : (idxK key l b = -1 /\ ∀ i (hi : i < l.length), ¬ key l[i] = b) \/ ∃ k : Nat, idxK key l b = k /\ ∃ hk : k < l.length, key l[k] = b /\ ∀ i (hi : i < k), ¬ key l[i] = b := by
 cases e : l.findIdx? (fun x => key x == b) with
 | none =>
  refine .inl ⟨by unfold idxK; rw [e], fun i hi hb => ?_⟩
  have := List.findIdx?_eq_none_iff.1 e _ (List.getElem_mem hi)
  simp [hb] at this
 | some k =>
  obtain ⟨hk, h1, h2⟩ := List.findIdx?_eq_some_iff_getElem.1 e
  exact .inr ⟨k, by unfold idxK; rw [e], hk, by simpa using h1, fun i hi => by simpa using h2 i hi⟩
end
end Wb
namespace Go.Proofs.YtjhmfljlclajnacGreatDoor
open Go.RowKit Wb
theorem slices_CloneI (l : List Int) (v : Value) (w : World) (h : RL intC w v l) (hl : l.length <= 17592186044160) :
    Calls Tryz.prog 44 #[v] w fun e w' => ∃ v', e = .returned v' /\ Wb.Own intC w.heap.size 3 1 w' v' l /\ Below w.heap.size w w' := by
 have hh := h
 obtain ⟨a, cap, rfl, _, _, h3⟩ := hh
 cases a with
 | none =>
  have h0 : l = [] := by
   rcases h3 with h3 | ⟨_, _, h4, _⟩
   ·have hl2 := flat_len intC_flat.len l
    rw [h3] at hl2
    exact List.length_eq_zero_iff.1 (by simp at hl2; omega)
   ·cases h4
  subst h0
  have heq := Lib.run_eql_slice_nil (P := Tryz.prog) w 35 3 none 0 cap 0 0 elemIntT.under
  clear h h3 hl
  go_enter Tryz.func44, Tryz.ntmps44
  go_wp2
  go_ret
  exact ⟨_, rfl, Own.nil _ _ _ _ _, b0 w⟩
 | some p =>
  obtain ⟨pb, po, ps⟩ := p
  replace h := hid h
  clear h3
  have h0 : Wb.Own intC w.heap.size 3 1 (w.alloc (.cells #[] 3)) (.slice (some ⟨w.heap.size, 0, none⟩) 0 0) [] := Own.ofRow (l := ([] : List Int)) intC_flat (Nat.le_refl _) (Blk.new w #[] _) (Nat.le_refl _) (by unfold maxLen; omega) rfl rfl
  have nx := bal (b0 w) (.cells #[] 3)
  have heq := Lib.run_eql_slice_nil (P := Tryz.prog) w 35 3 (some ⟨pb, po, ps⟩) l.length cap 0 0 elemIntT.under
  replace h0 := hid h0
  go_enter Tryz.func44, Tryz.ntmps44
  go_wp2_with (at_builtin; refine wpList_app rfl _ _ 35 rfl w.heap.size _ 1 8 intC_flat elemIntT h0.out rfl l (h.out.below nx) rfl (by simp; omega) (by simp; unfold maxLen; omega) (by simp) ?_; intro v1 w1 hown1 hg1; obtain ⟨a1, cap1, rfl⟩ := hown1.form; have nx2 := nx.trans (h0.out.belowGrown (by simp) hg1); simp only [List.nil_append, List.length_nil, Nat.zero_add] at hown1 nx2)
  go_ret
  exact ⟨_, rfl, hown1, nx2⟩
theorem slices_CloneC (l : List Cpy) (v : Value) (w : World) (h : RL cpyC w v l) (hl : l.length <= 5864062014805) :
    Calls Tryz.prog 43 #[v] w fun e w' => ∃ v', e = .returned v' /\ Wb.Own cpyC w.heap.size 92 2 w' v' l /\ Below w.heap.size w w' := by
 have hh := h
 obtain ⟨a, cap, rfl, _, _, h3⟩ := hh
 cases a with
 | none =>
  have h0 : l = [] := by
   rcases h3 with h3 | ⟨_, _, h4, _⟩
   ·have hl2 := flat_len cpyC_flat.len l
    rw [h3] at hl2
    exact List.length_eq_zero_iff.1 (by simp at hl2; omega)
   ·cases h4
  subst h0
  have heq := Lib.run_eql_slice_nil (P := Tryz.prog) w 34 92 none 0 cap 0 0 elemCpy.under
  clear h h3 hl
  go_enter Tryz.func43, Tryz.ntmps43
  go_wp2
  go_ret
  exact ⟨_, rfl, Own.nil _ _ _ _ _, b0 w⟩
 | some p =>
  obtain ⟨pb, po, ps⟩ := p
  replace h := hid h
  clear h3
  have h0 : Wb.Own cpyC w.heap.size 92 2 (w.alloc (.cells #[] 92)) (.slice (some ⟨w.heap.size, 0, none⟩) 0 0) [] := Own.ofRow (l := ([] : List Cpy)) cpyC_flat (Nat.le_refl _) (Blk.new w #[] _) (Nat.le_refl _) (by unfold maxLen; omega) rfl rfl
  have nx := bal (b0 w) (.cells #[] 92)
  have heq := Lib.run_eql_slice_nil (P := Tryz.prog) w 34 92 (some ⟨pb, po, ps⟩) l.length cap 0 0 elemCpy.under
  replace h0 := hid h0
  go_enter Tryz.func43, Tryz.ntmps43
  go_wp2_with (at_builtin; refine wpList_app rfl _ _ 34 rfl w.heap.size _ 2 24 cpyC_flat elemCpy h0.out rfl l (h.out.below nx) rfl (by simp; omega) (by simp; unfold maxLen; omega) (by simp) ?_; intro v1 w1 hown1 hg1; obtain ⟨a1, cap1, rfl⟩ := hown1.form; have nx2 := nx.trans (h0.out.belowGrown (by simp) hg1); simp only [List.nil_append, List.length_nil, Nat.zero_add] at hown1 nx2)
  go_ret
  exact ⟨_, rfl, hown1, nx2⟩
theorem slices_IndexI (l : List Int) (b : Int) (v : Value) (w : World) (h : RL intC w v l) (hl : l.length <= 17592186044160) :
    Calls Tryz.prog 163 #[v, .int .i64 b] w fun e w' => ∃ r : Int, e = .returned (.int .i64 r) /\ (inI l b = decide (0 <= r)) /\ w = w' := by
 obtain ⟨a, cap, rfl, _⟩ := h.form
 have hst := fun k (hk : k < l.length) => inI_step (l := l) (b := b) hk
 have hft := fun k (hk : ¬ k < l.length) => inI_full (l := l) (b := b) hk
 have hht := fun k (hk : k < l.length) (hb : l[k] = b) => inI_hit hk hb
 replace h := hid h; replace hst := hid hst; replace hft := hid hft; replace hht := hid hht
 go_enter Tryz.func163, Tryz.ntmps163
 go_wp2
 go_loop [8] (fun i => ∃ k : Nat, k <= l.length /\ i = .int .i64 k /\ Hid (inI (l.take k) b = false)) (fun i => l.length - (intOf i).toNat)
 case atStart => exact ⟨0, Nat.zero_le _, rfl, hid (by simp [inI])⟩
 case round =>
  obtain ⟨k, hk, rfl, hno⟩ := hrel
  by_cases hlt : k < l.length
  ·obtain ⟨b1, o1, rfl, c0⟩ := RL.at1 (fun x => .int .i64 x) (fun _ => rfl) h.out hlt
   by_cases hb : l[k] = b
   ·have hv := hid (hht.out k hlt hb)
    have e1 : (l[k] == b) = true := beq_iff_eq.2 hb
    have e2 : (b == l[k]) = true := beq_iff_eq.2 hb.symm
    clear hb
    generalize l[k] = x at *
    go_wp2
    go_ret
    exact ⟨_, rfl, by rw [hv.out]; exact (decide_eq_true (by omega)).symm, rfl⟩
   ·have hs := hst.out k hlt
    have e1 : (l[k] == b) = false := beq_eq_false_iff_ne.2 hb
    have e2 : (b == l[k]) = false := beq_eq_false_iff_ne.2 (fun x => hb x.symm)
    rw [e1, hno.out] at hs
    replace hs := hid hs
    clear hb
    generalize l[k] = x at *
    go_wp2
    go_round
    case rel => exact ⟨k + 1, by omega, by go_num, hs⟩
    case measure => simp [intOf]; omega
  ·have hv := hid (hft.out k hlt)
   obtain rfl : k = l.length := by omega
   rw [hno.out] at hv
   clear hno
   go_wp2
   go_ret
   exact ⟨_, rfl, by rw [<- hv.out]; rfl, rfl⟩
theorem slices_ContainsI (l : List Int) (b : Int) (v : Value) (w : World) (h : RL intC w v l) (hl : l.length <= 17592186044160) :
    Calls Tryz.prog 125 #[v, .int .i64 b] w fun e w' => e = .returned (.bool (inI l b)) /\ w = w' := by
 have hI := hid (slices_IndexI l b v w h hl)
 obtain ⟨a, cap, rfl, _⟩ := h.form
 clear h
 go_enter Tryz.func125, Tryz.ntmps125
 go_wp2_with (go_at_call 163; ((with_reducible refine hI.out.mono ?_); rintro e w1 ⟨r, rfl, hr, rfl⟩; replace hr := hid hr))
 go_ret
 exact ⟨ret_b hr.out.symm, rfl⟩
theorem txn_Change1 (x b : Int) (gb : Nat) (w : World) (hc : w.cell? ⟨gb, 0, none⟩ = some (.int .i64 b)) :
    Calls Tryz.prog 130 #[.int .i64 x, .pointer (some ⟨gb, 0, none⟩)] w fun e w' => e = .returned (.bool (x == b)) /\ Below w.heap.size w w' := by
 by_cases hb : x = b
 ·have e1 : (x == b) = true := beq_iff_eq.2 hb
  rw [e1]
  subst hb
  go_enter Tryz.func130, Tryz.ntmps130
  go_wp2
  go_ret
  exact ⟨rfl, b0 w⟩
 ·have e1 : (x == b) = false := beq_eq_false_iff_ne.2 hb
  rw [e1]
  go_enter Tryz.func130, Tryz.ntmps130
  go_wp2
  go_ret
  exact ⟨rfl, b0 w⟩
theorem slices_IndexFuncI (l : List Int) (b : Int) (v : Value) (gb : Nat) (w : World) (h : RL intC w v l) (hc : w.cell? ⟨gb, 0, none⟩ = some (.int .i64 b)) (hl : l.length <= 17592186044160) :
    Calls Tryz.prog 164 #[v, .func (.func 130) #[] #[.pointer (some ⟨gb, 0, none⟩)]] w fun e w' => e = .returned (.int .i64 (idxK (fun x => x) l b)) /\ Below w.heap.size w w' := by
 obtain ⟨a, cap, rfl, _⟩ := h.form
 have hit := hid (fun k (hk : k < l.length) (h1 : l[k] = b) h2 => idxK_hit (key := fun x => x) (b := b) hk h1 h2)
 have non := hid (fun h2 => idxK_none (key := fun x => x) (l := l) (b := b) h2)
 have hC := hid (fun x w hc => txn_Change1 x b gb w hc)
 generalize idxK (fun x => x) l b = r at *
 replace h := hid h; replace hc := hid hc
 go_enter Tryz.func164, Tryz.ntmps164
 go_wp2
 go_loopw [8] (fun i wr => ∃ k : Nat, k <= l.length /\ i = .int .i64 k /\ Below w.heap.size w wr /\ Hid (∀ i (hi : i < l.length), i < k -> ¬ l[i] = b)) (fun i _ => l.length - (intOf i).toNat)
 case atStart => exact ⟨0, Nat.zero_le _, rfl, b0 w, hid (fun i _ h => absurd h (Nat.not_lt_zero i))⟩
 case round =>
  obtain ⟨k, hk, rfl, nx, hno⟩ := hrel
  by_cases hlt : k < l.length
  ·obtain ⟨b1, o1, rfl, c0⟩ := RL.at1 (fun x => .int .i64 x) (fun _ => rfl) (h.out.below nx) hlt
   have hcw := hid (cell_below nx hc.out)
   by_cases hb : l[k] = b
   ·have hv := hid (hit.out k hlt hb (fun i hi => hno.out i (by omega) hi))
    have hCx := hC.out l[k] wr hcw.out
    have e1 : (l[k] == b) = true := beq_iff_eq.2 hb
    rw [e1] at hCx
    replace hCx := hid hCx
    clear hb e1 hno hit non
    generalize l[k] = x at *
    go_wp2_with (go_at_call 130; ((with_reducible refine hCx.out.mono ?_); rintro e w1 ⟨rfl, hb1⟩))
    go_ret
    exact ⟨ret_i hv.out.symm, bgo nx hb1⟩
   ·have hno2 : Hid (∀ i (hi : i < l.length), i < k + 1 -> ¬ l[i] = b) := hid (fun i hi h2 => by
      by_cases e : i = k
      · subst e; exact hb
      · exact hno.out i hi (by omega))
    have hCx := hC.out l[k] wr hcw.out
    have e1 : (l[k] == b) = false := beq_eq_false_iff_ne.2 hb
    rw [e1] at hCx
    replace hCx := hid hCx
    clear hb e1 hno hit non
    generalize l[k] = x at *
    go_wp2_with (go_at_call 130; ((with_reducible refine hCx.out.mono ?_); rintro e w1 ⟨rfl, hb1⟩))
    go_roundw
    case rel => first | exact ⟨k + 1, by omega, by go_num, bgo nx hb1, hno2⟩ | ((repeat apply Exists.intro); exact ⟨⟨k + 1, by omega, by go_num, bgo nx hb1, hno2⟩, rfl⟩)
    case measure => simp [intOf]; omega
  ·obtain rfl : k = l.length := by omega
   have hv := hid (non.out (fun i hi => hno.out i hi hi))
   clear hno hit non
   go_wp2
   go_ret
   exact ⟨ret_i hv.out.symm, nx⟩
theorem txn_drop1 (x : Cpy) (b : Int) (gb : Nat) (w : World) (hc : w.cell? ⟨gb, 0, none⟩ = some (.int .i64 b)) :
    Calls Tryz.prog 167 #[.agg #[.int .i64 x.block, .string x.text], .pointer (some ⟨gb, 0, none⟩)] w fun e w' => e = .returned (.bool (x.block == b)) /\ Below w.heap.size w w' := by
 obtain ⟨x, s⟩ := x
 have k0 := Blk.new w #[.int .i64 x, .string s] 92
 have c0 := k0.cell 0; have c1 := k0.cell 1
 have hc2 := cell_below (bal (b0 w) (.cells #[.int .i64 x, .string s] 92)) hc
 simp only [Zga, Zgb, Zgc] at c0 c1
 dsimp only
 by_cases hb : x = b
 ·have e1 : (x == b) = true := beq_iff_eq.2 hb
  rw [e1]
  subst hb
  go_enter Tryz.func167, Tryz.ntmps167
  go_wp2
  go_ret
  exact ⟨rfl, bal (b0 w) _⟩
 ·have e1 : (x == b) = false := beq_eq_false_iff_ne.2 hb
  rw [e1]
  go_enter Tryz.func167, Tryz.ntmps167
  go_wp2
  go_ret
  exact ⟨rfl, bal (b0 w) _⟩
theorem slices_IndexFuncC (l : List Cpy) (b : Int) (v : Value) (gb : Nat) (w : World) (h : RL cpyC w v l) (hc : w.cell? ⟨gb, 0, none⟩ = some (.int .i64 b)) (hl : l.length <= 5864062014805) :
    Calls Tryz.prog 182 #[v, .func (.func 167) #[] #[.pointer (some ⟨gb, 0, none⟩)]] w fun e w' => e = .returned (.int .i64 (idxK (fun x => x.block) l b)) /\ Below w.heap.size w w' := by
 obtain ⟨a, cap, rfl, _⟩ := h.form
 have hit := hid (fun k (hk : k < l.length) (h1 : l[k].block = b) h2 => idxK_hit (key := fun x => x.block) (b := b) hk h1 h2)
 have non := hid (fun h2 => idxK_none (key := fun x => x.block) (l := l) (b := b) h2)
 have hC := hid (fun x w hc => txn_drop1 x b gb w hc)
 generalize idxK (fun x => x.block) l b = r at *
 replace h := hid h; replace hc := hid hc
 go_enter Tryz.func182, Tryz.ntmps182
 go_wp2
 go_loopw [8] (fun i wr => ∃ k : Nat, k <= l.length /\ i = .int .i64 k /\ Below w.heap.size w wr /\ Hid (∀ i (hi : i < l.length), i < k -> ¬ l[i].block = b)) (fun i _ => l.length - (intOf i).toNat)
 case atStart => exact ⟨0, Nat.zero_le _, rfl, b0 w, hid (fun i _ h => absurd h (Nat.not_lt_zero i))⟩
 case round =>
  obtain ⟨k, hk, rfl, nx, hno⟩ := hrel
  by_cases hlt : k < l.length
  ·obtain ⟨b1, o1, rfl, c0, c1⟩ := RL.at2 (fun x => .int .i64 x.block) (fun x => .string x.text) (fun _ => rfl) (h.out.below nx) hlt
   have hcw := hid (cell_below nx hc.out)
   by_cases hb : l[k].block = b
   ·have hv := hid (hit.out k hlt hb (fun i hi => hno.out i (by omega) hi))
    have hCx := hC.out l[k] wr hcw.out
    have e1 : (l[k].block == b) = true := beq_iff_eq.2 hb
    rw [e1] at hCx
    replace hCx := hid hCx
    clear hb e1 hno hit non
    generalize l[k] = x at *
    go_wp2_with (go_at_call 167; ((with_reducible refine hCx.out.mono ?_); rintro e w1 ⟨rfl, hb1⟩))
    go_ret
    exact ⟨ret_i hv.out.symm, bgo nx hb1⟩
   ·have hno2 : Hid (∀ i (hi : i < l.length), i < k + 1 -> ¬ l[i].block = b) := hid (fun i hi h2 => by
      by_cases e : i = k
      · subst e; exact hb
      · exact hno.out i hi (by omega))
    have hCx := hC.out l[k] wr hcw.out
    have e1 : (l[k].block == b) = false := beq_eq_false_iff_ne.2 hb
    rw [e1] at hCx
    replace hCx := hid hCx
    clear hb e1 hno hit non
    generalize l[k] = x at *
    go_wp2_with (go_at_call 167; ((with_reducible refine hCx.out.mono ?_); rintro e w1 ⟨rfl, hb1⟩))
    go_roundw
    case rel => first | exact ⟨k + 1, by omega, by go_num, bgo nx hb1, hno2⟩ | ((repeat apply Exists.intro); exact ⟨⟨k + 1, by omega, by go_num, bgo nx hb1, hno2⟩, rfl⟩)
    case measure => simp [intOf]; omega
  ·obtain rfl : k = l.length := by omega
   have hv := hid (non.out (fun i hi => hno.out i hi hi))
   clear hno hit non
   go_wp2
   go_ret
   exact ⟨ret_i hv.out.symm, nx⟩
end Go.Proofs.YtjhmfljlclajnacGreatDoor
namespace Wb
open Go Go.RowKit
theorem rdS {w : World} {d : Dsk} {vs vw : Value} (h : RDisk w (.agg #[vs, vw]) d) : RL strC w vs d.safe := by
 obtain ⟨_, _, he, h1, _⟩ := h
 cases he
 exact h1
theorem rdW {w : World} {d : Dsk} {vs vw : Value} (h : RDisk w (.agg #[vs, vw]) d) : RL wrC w vw d.writes := by
 obtain ⟨_, _, he, _, h1, _⟩ := h
 cases he
 exact h1
end Wb
namespace Go.Proofs.YtjhmfljlclajnacGreatDoor
open Go.RowKit Wb
theorem jr_Disk {S : List Nat} {w0 w : World} {L : List Ent} {R : List Rd} {g : Nat} {j : Jn} {M : List Ent} {Rj : List Rd} (F : JF g j M Rj) (X : St S w0 w (M ++ L) (Rj ++ R)) :
    Calls Tryz.prog 15 #[.pointer (some ⟨g, 0, none⟩)] w fun e w' => ∃ a1 c1 a2 c2, e = .returned (.agg #[.slice a1 j.disk.safe.length c1, .slice a2 j.disk.writes.length c2]) /\ St S w0 w' (M ++ L) (Rd.of wrC (.slice a2 j.disk.writes.length c2) j.disk.writes :: Rd.of strC (.slice a1 j.disk.safe.length c1) j.disk.safe :: (Rj ++ R)) := by
 obtain ⟨v, ds, fs, MD, MU, hm, rfl, rfl⟩ := F
 have hsz := hm.inv.sz hm.sz
 have hln := goodD_len hsz.dk
 rw [List.cons_append] at X ⊢
 have hDk := fun (w : World) (L2 : List Ent) (R2 : List Rd) (X : St S w0 w L2 (R2 ++ (jRds v j ds fs ++ R))) => X.jDisk hsz.dk (fun r hr => List.mem_append_right _ (List.mem_append_left _ hr))
 unfold jCells at X ⊢
 have hCs := fun v w h => clone_Strings j.disk.safe v w h (by have := hln.1; omega)
 have hCw := fun v w h => clone_Writes j.disk.writes v w h (by have := hln.2; omega)
 generalize jRds v j ds fs ++ R = RR at *
 generalize MD ++ MU ++ L = LL at *
 clear hln
 replace hCs := hid hCs; replace hCw := hid hCw; replace hDk := hid hDk
 go_enter Tryz.func15, Tryz.ntmps15
 go_upto_region 3 with (first
     | (refine ZeL ?_) | (refine ZeS ?_; clear X; intro w X) | (refine ZeA ?_; clear X; intro g w X))
 have X9 := X.perm (.swap _ _ _)
 clear X
 have X := X9
 clear X9
 (refine q_startS 1 [] [5, 11, 13] [4, 10] [0, 1, 2, 3, 4, 6, 7, 8, 9, 10, 5, 11, 12, 13] X ?_; clear X; intro hQ X hL; simp only [zF, zG] at hL; simp only [zF, zG])
 refine Zm ?_
 refine Zn ?_
 refine Zf ?_
 refine Zf ?_
 refine Zl ?_
 refine Zm ?_
 refine Zn ?_
 refine Zf ?_
 refine Zf ?_
 refine Zl ?_
 (refine q_callS 45 Tryz.func45 (hCs.out _ _ (rdS (hDk.out _ _ [] X))) ?_; rintro e w1 ⟨v1, rfl, ho1, hb1⟩; obtain ⟨a1, c1, rfl⟩ := ho1.form; replace X := X.addOwn hb1 ho1; clear hb1 ho1; refine Zce ?_; clear hL; intro hL)
 (refine q_callS 46 Tryz.func46 (hCw.out _ _ (rdW (hDk.out _ _ [_] X))) ?_; rintro e w2 ⟨v2, rfl, ho2, hb2⟩; obtain ⟨a2, c2, rfl⟩ := ho2.form; replace X := X.addOwn hb2 ho2; clear hb2 ho2; refine Zce ?_; clear hL; intro hL)
 refine Zg ?_
 (refine Zs ?_; clear hL X; intro w X hL)
 refine q_nil ?_
 go_wp2
 exact m_ret1 rfl (.tmp rfl rfl) X (.tail _ (.head _)) rfl rfl ⟨_, _, _, _, rfl, X.sub (List.Sublist.cons_cons _ (List.sublist_cons_self _ _))⟩
end Go.Proofs.YtjhmfljlclajnacGreatDoor
namespace Wb
open Go Go.RowKit
abbrev FW : Fence := Fence.wide
def Iter (P : Program) (gf : Nat) (lb : Array Value) (xs : List Value) (B : List Nat) (w : World) : Prop :=
 ∀ (l : Nat) (J : Nat -> World -> Prop) (W : World), (∀ b ∈ B, W.heap[b]? = w.heap[b]?) -> (∀ k A A', J k A -> Below A.heap.size A A' -> J k A') ->
  (∀ k (hk : k < xs.length) A, J k A -> YieldAt FW 0 P l #[xs[k]] A fun e A' => e = .returned (.bool true) /\ J (k + 1) A' /\ A.heap.size <= A'.heap.size /\ ∀ b ∈ B, A'.heap[b]? = A.heap[b]?) ->
  J 0 W -> CallsIn FW 0 P gf (#[.func (.yield l) #[] #[]] ++ lb) W fun e W' => (∃ v, e = .returned v) /\ J xs.length W'
section
variable {P : Program} {Q : Exit -> Act -> World -> Prop} {a : Act} {w : World}
structure AtBody (W W1 : World) (p : Prop) : Prop where
 eq : W1 = W
 run : p
def BodyRun (P : Program) (body : Code) (w : World) (B : List Nat) (I : Nat -> World -> Prop) (k l : Nat) (a1 : Act) : Prop :=
 ∀ W2, w.heap.size <= W2.heap.size -> I k W2 -> body.wpIn (FW.inRound l) 0 P (fun e _ W' => e = .normal /\ KeepsFrom w.heap.size W2 W' /\ (∀ b ∈ B, W'.heap[b]? = W2.heap[b]?) /\ I (k + 1) W') a1 W2
theorem wp_range {g : Operand} {p : Tmp} {assign body : Code} {gf : Nat} {lb : Array Value} {xs : List Value} {B : List Nat} (hg : a.eval g = .func (.func gf) #[] lb) (eg : ∀ args w, (callFunc gf args).run P w = .ok (.enter gf args) w)
    (hB : ∀ b ∈ B, b < w.heap.size) (hit : Iter P gf lb xs B w) (I : Nat -> World -> Prop) (hI : ∀ k A A', I k A -> Below A.heap.size A A' -> I k A')
    (hI2 : ∀ k A l o o', I k A -> w.heap.size <= l -> A.heap[l]? = some o -> o.isCells = false -> I k (A.putObj l o')) (h0 : I 0 w)
    (hround : ∀ k (hk : k < xs.length) l W, assign.wpIn (FW.inRound l) 0 P (Exit.then (fun a1 W1 => AtBody W W1 (BodyRun P body w B I k l a1)) (fun _ _ _ => False)) { tmps := a.tmps.setIfInBounds p xs[k], defers := [] } W)
    (hdone : ∀ D W, w.heap.size <= D -> I xs.length W -> W.heap[D]? = some (.deferred (some [])) -> Q .normal { a with defers := { target := .collected D, args := #[] } :: a.defers } W) :
    (Code.rangeFunc g #[p] assign body).wp P Q a w := by
 refine (wpIn_wide (n := 0)).1 (wpIn_rangeFunc fun fn hfn => ?_)
 obtain ⟨rec, hrec⟩ : ∃ rec : LoopState -> Option Code -> Loop, rec = fun st pe => { state := st, pending := pe, fn, tmps := a.tmps, params := #[p], assign, body, defers := w.heap.size } := ⟨_, rfl⟩
 obtain ⟨W1, hW1⟩ : ∃ W1, (w.alloc (.deferred (some []))).alloc (.loop (rec .ready none)) = W1 := ⟨_, rfl⟩
 have hb1 : Below w.heap.size w W1 := by rw [<- hW1]; exact bal (bal (b0 w) _) _
 have hL1 : W1.heap[w.heap.size + 1]? = some (.loop (rec .ready none)) := by
  rw [<- hW1]; have := World.alloc_heap_new (w.alloc (.deferred (some []))) (.loop (rec .ready none)); rwa [World.size_alloc] at this
 have hK1 : W1.heap[w.heap.size]? = some (.deferred (some [])) := by
  rw [<- hW1]; exact (Below.heap_alloc _ _ _ (by simp)).trans (World.alloc_heap_new w _)
 have hne : ∀ {W : World} {l : Nat} {o : Obj}, w.heap.size <= l -> ∀ b ∈ B, (W.putObj l o).heap[b]? = W.heap[b]? := fun hl b hb => World.putObj_heap_other (by have := hB b hb; omega)
 refine ⟨w.heap.size + 1, [{ target := .collected w.heap.size, args := #[] }], W1, { target := .fn (.func gf) lb, args := #[.func (.yield (w.heap.size + 1)) #[] #[]] }, W1, gf,
  #[.func (.yield (w.heap.size + 1)) #[] #[]] ++ lb, W1, ?_, ?_, fun _ _ => trivial, ?_, fun h => by simp [Fence.wide] at h, ?_⟩
 ·rw [<- hW1, hrec]; exact run_enterLoop_outer _ _ _ _ _
 ·simp only [resolve, hg]
  simp [go_sem]
 ·simp [invoke, go_sem, eg]
 refine (hit (w.heap.size + 1) (fun k W => I k W /\ W.heap[w.heap.size + 1]? = some (.loop (rec .ready none)) /\ W.heap[w.heap.size]? = some (.deferred (some [])) /\ w.heap.size <= W.heap.size) W1
  (fun b hb => hb1.block b (hB b hb)) (fun k A A' h hb => ?_) (fun k hk A h => ?_) ⟨hI _ _ _ h0 hb1, hL1, hK1, hb1.size⟩).mono ?_
 ·obtain ⟨h1, h2, h3, h4⟩ := h
  exact ⟨hI _ _ _ h1 hb, (hb.block _ (Array.getElem?_eq_some_iff.1 h2).1).trans h2, (hb.block _ (Array.getElem?_eq_some_iff.1 h3).1).trans h3, Nat.le_trans h4 hb.size⟩
 ·obtain ⟨hi, hl, hk1, hsz⟩ := h
  have hlt : w.heap.size + 1 < A.heap.size := (Array.getElem?_eq_some_iff.1 hl).1
  have hy := run_yield (P := P) (args := #[xs[k]]) hl (by rw [hrec]; simp)
  rw [hrec] at hy
  have hl2 : (A.putObj (w.heap.size + 1) (.loop { rec .ready none with state := .busy })).heap[w.heap.size + 1]? = some (.loop { rec .ready none with state := .busy }) := World.putObj_heap_same hlt
  have hk2 : (A.putObj (w.heap.size + 1) (.loop { rec .ready none with state := .busy })).heap[w.heap.size]? = some (.deferred (some [])) := (World.putObj_heap_other (by omega)).trans hk1
  have hts : (#[p].zip #[xs[k]]).foldl (fun t (x : Tmp × Value) => t.setIfInBounds x.1 x.2) a.tmps = a.tmps.setIfInBounds p xs[k] := by simp
  refine ⟨fn, _, assign, body, hy, roundIn_of_wpIn hfn ?_⟩
  have hr0 := hround k hk (w.heap.size + 1) A
  rw [<- hts] at hr0
  refine wpIn_mono hr0 ?_
  intro e a1 W1 hq
  cases e with
  | normal =>
   obtain ⟨rfl, hq⟩ := hq
   refine ⟨_, run_beginRound hl (by rw [hrec]), wpIn_mono (hq _ (by simpa using hsz) (hI2 _ _ _ _ _ hi (by omega) hl rfl)) ?_⟩
   rintro e a3 W3 ⟨rfl, hk3, hB3, hi3⟩
   have hl3 := hk3.same _ _ (by omega) hl2 rfl
   have hr := run_endRound (P := P) none hl3
   rw [hrec] at hr hl3 ⊢
   have hlt3 := (Array.getElem?_eq_some_iff.1 hl3).1
   refine ⟨_, _, hr, rfl, ⟨hI2 _ _ _ _ _ hi3 (by omega) hl3 rfl, World.putObj_heap_same hlt3, (World.putObj_heap_other (by omega)).trans (hk3.same _ _ (Nat.le_refl _) hk2 rfl), ?_⟩, ?_, fun b hb => ?_⟩
   ·have := hk3.size; simp at this ⊢; omega
   ·have := hk3.size; simp at this ⊢; omega
   ·rw [hne (by omega) b hb, hB3 b hb]
    exact hne (by omega) b hb
  | _ => exact hq.elim
 ·rintro e W2 ⟨⟨v, rfl⟩, hi, hl, hk, hsz⟩
  exact ⟨none, _, by have := run_endLoop (P := P) hl (by rw [hrec]; simp); rw [hrec] at this; exact this, hdone _ _ (Nat.le_refl _) (hI2 _ _ _ _ _ hi (by omega) hl rfl) ((World.putObj_heap_other (by omega)).trans hk)⟩
theorem upon_in {F : Fence} {n : Nat} (hd : F.depth = none) (hf : ∀ f, F.fn f) (hF : ∀ m, Machine.fenced P F m) {o : Oper} {K : Act -> World -> Prop} : ∀ {r : Result Next}, o.upon P a K Q r -> o.uponIn F n P a K Q r
 | .ok (.value v) w', h => h
 | .ok .skip w', h => h
 | .ok (.defer d) w', h => h
 | .ok (.enter f args) w', h => ⟨fun hh => (by rw [hd] at hh; cases hh), hf f, fun cs _ => by
     obtain ⟨e, w2, fr, h1, h2, h3⟩ := h cs
     refine ⟨e, w2, fr, ?_, ?_, h3⟩
     · cases e <;> exact h1
     · cases e with
       | returned v => exact (StepsIn.of_steps h2).mono fun m _ => hF m
       | panicked c => exact (StepsIn.of_steps h2).mono fun m _ => hF m
       | outgrown => exact h2⟩
 | .ok (.row row args) w', h => ⟨fun hh => (by rw [hd] at hh; cases hh), fun c cs _ => by
     obtain ⟨v, w2, h1, h2⟩ := h c cs
     exact ⟨v, w2, h1, (StepsIn.of_steps h2).mono fun m _ => hF m⟩⟩
 | .ok (.round ..) w', h => h.elim
 | .halt x w', h => by cases x <;> first | exact h | exact h.elim
def noDefer : Oper -> Bool := fun o => match o.op with | .defer _ => false | _ => true
theorem oper_in {F : Fence} {n : Nat} (hd : F.depth = none) (hf : ∀ f, F.fn f) (hF : ∀ m, Machine.fenced P F m) {o : Oper} (ho : noDefer o = true) {K : Act -> World -> Prop} (h : o.wp P a w K Q) : o.wpIn F n P a w K Q := by
 have hs : o.semAt F.round a.eval = execOp a.eval o := by
  cases hr : F.round with
  | none => simp [Oper.semAt]
  | some l => exact Oper.semAt_some l _ _ fun c hc => by unfold noDefer at ho; rw [hc] at ho; cases ho
 refine ⟨fun f _ => hf f, ?_⟩
 rw [hs]
 exact upon_in hd hf hF h
theorem list_in {F : Fence} {n : Nat} (hd : F.depth = none) (hf : ∀ f, F.fn f) (hF : ∀ m, Machine.fenced P F m) {ops : Array Oper} (hno : ∀ a w, ¬ Q .outgrown a w) : ∀ (l : List Oper) (a : Act) (w : World), l.all noDefer = true -> wpList P ops Q l a w -> wpListIn F n P ops Q l a w
 | [], _, _, _, h => h
 | o :: r, a, w, hn, h => by
  rw [List.all_cons, Bool.and_eq_true] at hn
  unfold wpList at h
  unfold wpListIn
  split at h
  ·rename_i hw
   rw [if_pos hw]
   exact Oper.wpIn_mono (fun a w hh => list_in hd hf hF hno r a w hn.2 hh) (oper_in hd hf hF hn.1 (h.resolve_right fun hh => by obtain ⟨_, a, w, hq⟩ := hh; exact hno a w hq))
  ·rename_i hw
   rw [if_neg hw]
   exact ⟨fun f _ => hf f, list_in hd hf hF hno r _ _ hn.2 h⟩
theorem region_in {l id : Nat} {ops : List Oper} (hn : ops.all noDefer = true) (hno : ∀ a w, ¬ Q .outgrown a w) (h : wpList P ops.toArray Q ops a w) : (Code.region id ops.toArray false).wpIn (FW.inRound l) 0 P Q a w :=
 wpIn_region_lit (list_in (F := FW.inRound l) rfl (fun _ => trivial) (fun m => fenced_wide P m) hno _ _ _ hn h)
end
section
variable {S : List Nat} {w0 W W' : World} {L L' : List Ent} {R R' : List Rd}
theorem St.restart (X : St S w0 W L R) : St (L.map Ent.g) W W L R := ⟨Mv.refl _ _, X.nd, X.blk, fun e he => .inl (List.mem_map_of_mem he), X.rd⟩
theorem St.back (X : St S w0 W L R) (Y : St (L.map Ent.g) W W' L' R') : St S w0 W' L' R' :=
 ⟨X.mv.then Y.mv fun k hk => by
     obtain ⟨e, he, rfl⟩ := List.mem_map.1 hk
     exact X.own e he, Y.nd, Y.blk, fun e he => by
     rcases Y.own e he with h | h
     · obtain ⟨e2, he2, heq⟩ := List.mem_map.1 h
       rw [<- heq]; exact X.own e2 he2
     · exact .inr (Nat.le_trans X.mv.size h), Y.rd⟩
theorem St.keepsFrom (X : St S w0 W L R) (Y : St (L.map Ent.g) W W' L' R') (B : Nat) : KeepsFrom B W W' :=
 ⟨Y.mv.size, fun k o _ hk ho => by
  refine (Y.mv.block k (Array.getElem?_eq_some_iff.1 hk).1 fun hm => ?_).trans hk
  obtain ⟨e, he, rfl⟩ := List.mem_map.1 hm
  have := X.blk e he
  unfold Blk at this
  rw [this] at hk
  cases hk
  cases ho⟩
theorem St.other (X : St S w0 W L R) (Y : St (L.map Ent.g) W W' L' R') {D : Nat} {o : Obj} (hD : W.heap[D]? = some o) (ho : o.isCells = false) : W'.heap[D]? = some o := (X.keepsFrom Y 0).same D o (Nat.zero_le _) hD ho
theorem St.putO (X : St S w0 W L R) {l : Nat} {o : Obj} (o' : Obj) (hl : w0.heap.size <= l) (ho : W.heap[l]? = some o) (hc : o.isCells = false) (hS : l ∉ S) : St S w0 (W.putObj l o') L R := by
 have hne : ∀ {b : Nat} {cs t f}, W.heap[b]? = some (.cells cs t f) -> b ≠ l := fun hb e => by
  rw [e, ho] at hb; cases hb; cases hc
 have hcell : ∀ {b j : Nat} {u : Value}, W.cell? ⟨b, j, none⟩ = some u -> (W.putObj l o').cell? ⟨b, j, none⟩ = some u := fun {b j u} h => by
  obtain ⟨q, hq, hw⟩ := not_walk_of_cell h
  have hb : b ≠ l := fun e => by
   subst e
   unfold World.cell? at h
   rw [ho] at h
   cases o <;> simp_all [Obj.isCells]
  rw [<- h]
  exact World.cell?_of_block (World.putObj_heap_other hb)
 refine ⟨⟨X.mv.os, X.mv.tape, X.mv.output, by simpa using X.mv.size, fun k hk hn => ?_⟩, X.nd, fun e he => ?_, X.own, fun r hr => ⟨?_, (X.rd r hr).2⟩⟩
 ·rw [World.putObj_heap_other (by omega)]; exact X.mv.block k hk hn
 ·have := X.blk e he
  unfold Blk at this ⊢
  rw [World.putObj_heap_other (hne this)]; exact this
 ·obtain ⟨a, cap, hv, h1, h2, h3⟩ := (X.rd r hr).1
  exact ⟨a, cap, hv, h1, h2, h3.imp id fun ⟨b, off, ha, hc2⟩ => ⟨b, off, ha, fun j u hj => hcell (hc2 j u hj)⟩⟩
end
theorem St.gs6 {S : List Nat} {w0 w : World} {a b c d e f : Nat} {ca cb cc cd ce cf : List Value} {ta tb tc td te tf : TypeId} {L : List Ent} {R : List Rd} (_ : St S w0 w (⟨a, ca, ta⟩ :: ⟨b, cb, tb⟩ :: ⟨c, cc, tc⟩ :: ⟨d, cd, td⟩ :: ⟨e, ce, te⟩ :: ⟨f, cf, tf⟩ :: L) R) : ∃ x1 x2 x3 x4 x5 x6, x1 = a /\ x2 = b /\ x3 = c /\ x4 = d /\ x5 = e /\ x6 = f := ⟨_, _, _, _, _, _, rfl, rfl, rfl, rfl, rfl, rfl⟩
theorem St.gs4 {S : List Nat} {w0 w : World} {a b c d : Nat} {ca cb cc cd : List Value} {ta tb tc td : TypeId} {L : List Ent} {R : List Rd} (_ : St S w0 w (⟨a, ca, ta⟩ :: ⟨b, cb, tb⟩ :: ⟨c, cc, tc⟩ :: ⟨d, cd, td⟩ :: L) R) : ∃ x1 x2 x3 x4, x1 = a /\ x2 = b /\ x3 = c /\ x4 = d := ⟨_, _, _, _, rfl, rfl, rfl, rfl⟩
theorem St.front (pre : List Ent) {S : List Nat} {w0 w : World} {x : Ent} {L : List Ent} {R : List Rd} (X : St S w0 w (pre ++ x :: L) R) : St S w0 w (x :: (pre ++ L)) R := X.perm List.perm_middle
theorem St.gs2 {S : List Nat} {w0 w : World} {a b : Nat} {ca cb : List Value} {ta tb : TypeId} {L : List Ent} {R : List Rd} (_ : St S w0 w (⟨a, ca, ta⟩ :: ⟨b, cb, tb⟩ :: L) R) : ∃ x1 x2, x1 = a /\ x2 = b := ⟨_, _, rfl, rfl⟩
theorem St.gs1 {S : List Nat} {w0 w : World} {a : Nat} {ca : List Value} {ta : TypeId} {L : List Ent} {R : List Rd} (_ : St S w0 w (⟨a, ca, ta⟩ :: L) R) : ∃ x1, x1 = a := ⟨_, rfl⟩
theorem St.less {S : List Nat} {w0 w : World} {L L2 : List Ent} {R R2 : List Rd} (X : St S w0 w L R) (hL : L2.Sublist L) (hR : ∀ r ∈ R2, r ∈ R) : St S w0 w L2 R2 :=
 ⟨X.mv, (hL.map _).nodup X.nd, fun x hx => X.blk x (hL.subset hx), fun x hx => X.own x (hL.subset hx), fun r hr => ⟨(X.rd r (hR r hr)).1, (X.rd r (hR r hr)).2.imp id fun h b hb x hx => h b hb x (hL.subset hx)⟩⟩
theorem own_base {α : Type} {f : α -> List Value} {base : Nat} {e : TypeId} {c : Nat} {w : World} {v : Value} {l : List α} (hF : Flat f c) (h : Wb.Own f base e c w v l) (hl : 0 < l.length) : ∃ g cap, v = .slice (some ⟨g, 0, none⟩) l.length cap /\ l.length <= cap /\ cap <= maxLen := by
 obtain ⟨h1, h2⟩ := h
 rcases h2 with ⟨rfl, h0⟩ | ⟨g, cap, cur, rfl, hb, hg, hn, hc, hs, ht⟩
 ·omega
 ·exact ⟨g, cap, rfl, hn, hc⟩
theorem RL.part {α : Type} {f : α -> List Value} {c : Nat} (hF : ∀ x, (f x).length = c) {w : World} {b off n cap : Nat} {l : List α} (h : RL f w (.slice (some ⟨b, off, none⟩) n cap) l) (j m : Nat) (hm : j + m <= l.length) : RL f w (.slice (some ⟨b, off + j * c, none⟩) m m) ((l.drop j).take m) := by
 obtain ⟨a, cap', hv, h1, h2, h3⟩ := h
 have hl : ((l.drop j).take m).length = m := by rw [List.length_take, List.length_drop]; omega
 refine ⟨_, m, by rw [hl], by rw [hl]; exact Nat.le_refl _, by omega, ?_⟩
 rcases h3 with h3 | ⟨b', off', ha, hc⟩
 ·left
  have h4 := flat_len hF l
  rw [h3, List.length_nil] at h4
  have h5 := flat_len hF ((l.drop j).take m)
  rw [hl] at h5
  have : m * c = 0 := by
   rcases Nat.mul_eq_zero.1 h4.symm with h6 | h6
   ·have : m = 0 := by omega
    rw [this, Nat.zero_mul]
   ·rw [h6, Nat.mul_zero]
  rw [this] at h5
  exact List.length_eq_zero_iff.1 h5
 ·right
  cases hv; cases ha
  refine ⟨b, off + j * c, rfl, fun i u hi => ?_⟩
  rw [Nat.add_assoc]
  apply hc
  have e : l.flatMap f = (l.take j).flatMap f ++ ((l.drop j).take m).flatMap f ++ ((l.drop j).drop m).flatMap f := by
   rw [<- List.flatMap_append, <- List.flatMap_append, List.append_assoc, List.take_append_drop, List.take_append_drop]
  have hl2 : ((l.take j).flatMap f).length = j * c := by rw [flat_len hF, List.length_take]; congr 1; omega
  rw [e, List.append_assoc, List.getElem?_append_right (by omega), hl2, Nat.add_sub_cancel_left, List.getElem?_append_left (List.getElem?_eq_some_iff.1 hi).1]
  exact hi
theorem St.partR {S : List Nat} {w0 w : World} {L : List Ent} {R : List Rd} (X : St S w0 w L R) {α : Type} {f : α -> List Value} {c : Nat} (hF : ∀ x, (f x).length = c) {b off n cap : Nat} {l : List α} (hR : Rd.of f (.slice (some ⟨b, off, none⟩) n cap) l ∈ R) (j m : Nat) (hm : j + m <= l.length) :
    St S w0 w L (Rd.of f (.slice (some ⟨b, off + j * c, none⟩) m m) ((l.drop j).take m) :: R) := by
 obtain ⟨h1, h2⟩ := X.rd _ hR
 refine X.addR (RL.part hF h1 j m hm) ?_
 rcases h2 with h2 | h2
 ·left
  have h3 : l.flatMap f = [] := h2
  have h4 := flat_len hF l
  rw [h3, List.length_nil] at h4
  have h5 := flat_len hF ((l.drop j).take m)
  rw [List.length_take, List.length_drop] at h5
  have : min m (l.length - j) * c = 0 := by
   rcases Nat.mul_eq_zero.1 h4.symm with h6 | h6
   ·have : min m (l.length - j) = 0 := by omega
    rw [this, Nat.zero_mul]
   ·rw [h6, Nat.mul_zero]
  rw [this] at h5
  exact List.length_eq_zero_iff.1 h5
 ·right
  intro b' hb e he
  cases hb
  exact h2 b rfl e he
theorem St.shortR {S : List Nat} {w0 w : World} {L : List Ent} {R : List Rd} (X : St S w0 w L R) {α : Type} {f : α -> List Value} {a : Option Addr} {cap : Nat} {l : List α} (hR : Rd.of f (.slice a l.length cap) l ∈ R) : St S w0 w L (Rd.of f (.slice a l.length l.length) l :: R) := by
 obtain ⟨⟨a', c', hv, h1, h3, h4⟩, h2⟩ := X.rd _ hR
 cases hv
 exact X.addR ⟨_, _, rfl, Nat.le_refl _, Nat.le_trans h1 h3, h4⟩ (h2.imp id fun h b hb => h b (by cases a with | none => cases hb | some x => exact hb))
section
variable {P : Program} {fn : Func} {F : Ending -> World -> Prop} {a : Act} {w w0 : World} {S : List Nat} {L : List Ent} {R : List Rd}
theorem leave0 (h : bodyPost P fn F .ret a w) : bodyPostM FW 0 P fn F .ret a w := by
 obtain ⟨hd, v, h1, h2⟩ := h
 show LeavesInM FW 0 P fn a.tmps F a.defers .returning w
 rw [hd]
 exact ⟨v, h1, h2⟩
theorem leaveD {D : Nat} {ds : List Deferred} {T : Array Value} (hD : w.heap[D]? = some (.deferred (some []))) (h : LeavesInM FW 0 P fn T F ds .returning (w.putObj D (.deferred none))) : LeavesInM FW 0 P fn T F ({ target := .collected D, args := #[] } :: ds) .returning w :=
 ⟨by simp, .inl ⟨_, _, rfl, run_takeDeferred hD, h⟩⟩
theorem m_leave2 {D1 D2 : Nat} {p q r : Tmp} {T : TypeId} (hr : fn.results = #[.cell p T, .tmp q, .tmp r]) {g : Nat} (hp : EvR a (.tmp p) (.pointer (some ⟨g, 0, none⟩))) {v u : Value} (hq : EvR a (.tmp q) v) (hu : EvR a (.tmp r) u) {n : Nat} [hT : AggT P T n] (X : St S w0 w L R)
    {cs : List Value} {t : TypeId} (he : ⟨g, cs, t⟩ ∈ L) (hn : cs.length = n) (hd : a.defers = [{ target := .collected D2, args := #[] }, { target := .collected D1, args := #[] }]) (h1 : w.heap[D1]? = some (.deferred (some []))) (h2 : w.heap[D2]? = some (.deferred (some []))) (h12 : D1 ≠ D2)
    (s1 : w0.heap.size <= D1) (s2 : w0.heap.size <= D2) (n1 : D1 ∉ S) (n2 : D2 ∉ S) (h : ∀ w', St S w0 w' L R -> F (.returned (.tuple #[.agg cs.toArray, v, u])) w') : bodyPostM FW 0 P fn F .ret a w := by
 have hp' : a.tmps[p]?.getD undef = .pointer (some ⟨g, 0, none⟩) := by have := hp.eval; simpa [Act.eval] using this
 have hq' : a.tmps[q]?.getD undef = v := by have := hq.eval; simpa [Act.eval] using this
 have hu' : a.tmps[r]?.getD undef = u := by have := hu.eval; simpa [Act.eval] using this
 have h1' : (w.putObj D2 (.deferred none)).heap[D1]? = some (.deferred (some [])) := (World.putObj_heap_other h12).trans h1
 have X2 := (X.putO (.deferred none) s2 h2 rfl n2).putO (.deferred none) s1 h1' rfl n1
 show LeavesInM FW 0 P fn a.tmps F a.defers .returning w
 rw [hd]
 refine leaveD h2 (leaveD h1' ⟨.tuple #[.agg cs.toArray, v, u], ?_, h _ X2⟩)
 simp [results, hr, hp', hq', hu', asAddr, X2.whole (T := T) he hn]
def leavePost (P : Program) (fn : Func) (F : Ending -> World -> Prop) : Exit -> Act -> World -> Prop
 | .ret, a, w => bodyPostM FW 0 P fn F .ret a w
 | .normal, a, w => bodyPostM FW 0 P fn F .normal a w
 | _, _, _ => False
theorem calls_marks {f : FuncId} {c : Code} {args : Array Value} {R : Ending -> World -> Prop} (hf : P.funcs[f]? = some fn) (hb : fn.body = some c)
    (h : c.wp P (leavePost P fn R) { tmps := args ++ Array.replicate (fn.ntmps - args.size) undef, defers := [] } w) : Calls P f args w R :=
 (callsIn_wide (n := 0)).1 (callsIn_of_wp_marks hf hb trivial ((wpIn_wide (n := 0)).2 (wp_mono h fun e a w hq => by cases e <;> first | exact hq | exact hq.elim)) rfl)
end
end Wb
namespace Go.Proofs.YtjhmfljlclajnacGreatDoor
open Go.RowKit Wb
instance aggHnd3 : AggT Tryz.prog 38 6 := ⟨⟨_, Tryz.underlying38, rfl⟩, by kernel_rfl⟩
end Go.Proofs.YtjhmfljlclajnacGreatDoor
namespace Wb
open Go Go.RowKit
theorem end_code (j : Jn) : (endJ j).2.code = 0 := by
 unfold endJ; split
 ·rfl
 split
 ·rfl
 split <;> rfl
theorem acts_do (j : Jn) (a : Aj) : (doJ j a).1.acts = if 400 <= j.acts then j.acts else j.acts + 1 := by
 unfold doJ
 split
 ·rfl
 split
 ·rfl
 generalize hJ : ({ j with acts := j.acts + 1 } : Jn) = J
 have e : J.acts = j.acts + 1 := by rw [<- hJ]
 rw [<- e]
 split
 ·show (crashJ J a.n).1.acts = _; unfold crashJ; split <;> rfl
 split
 ·show (beginJ J).1.acts = _; unfold beginJ; split
  ·rfl
  split
  ·rfl
  split <;> rfl
 split
 ·unfold stepJ; split
  ·rfl
  split
  ·rfl
  split
  ·rfl
  split
  ·unfold endJ; split
   ·rfl
   split
   ·rfl
   split <;> rfl
  ·rfl
 split
 ·rfl
 split
 ·unfold commitJ; split
  ·rfl
  split
  ·rfl
  split
  ·rfl
  split <;> rfl
 split
 ·show (checkJ J).1.acts = _; unfold checkJ; split
  ·rfl
  split <;> rfl
 split
 ·rfl
 ·show (changeJ J a).1.acts = _; unfold changeJ; split <;> rfl
end Wb
namespace Go.Proofs.YtjhmfljlclajnacGreatDoor
open Go.RowKit Wb
section
variable {S : List Nat} {w0 w : World} {L LL : List Ent} {RR : List Rd} {g : Nat} {j : Jn} {M : List Ent} {Rj : List Rd}
theorem jr_RingS (F : JF g j M Rj) (X : St S w0 w LL RR) (hp : LL.Perm (M ++ L)) (hr : ∀ r ∈ Rj, r ∈ RR) :
    Calls Tryz.prog 10 #[.pointer (some ⟨g, 0, none⟩)] w fun e w' => e = .returned (.tuple #[.agg #[.int .i64 j.ring.head, .int .i64 j.ring.used], .int .i64 j.last, .bool j.down]) /\ St S w0 w' LL RR := by
 have X2 : St S w0 w (M ++ L) (Rj ++ RR) := (X.perm hp).rds fun r h => (List.mem_append.1 h).elim (hr r) id
 refine (jr_Ring F X2).mono ?_
 rintro e w' ⟨rfl, X3⟩
 exact ⟨rfl, (X3.perm hp.symm).rds fun r h => List.mem_append_right _ h⟩
theorem jr_DiskS (F : JF g j M Rj) (X : St S w0 w LL RR) (hp : LL.Perm (M ++ L)) (hr : ∀ r ∈ Rj, r ∈ RR) {d : Dsk} (hd : j.disk = d) :
    Calls Tryz.prog 15 #[.pointer (some ⟨g, 0, none⟩)] w fun e w' => ∃ a1 c1 a2 c2, e = .returned (.agg #[.slice a1 d.safe.length c1, .slice a2 d.writes.length c2]) /\ RDisk w' (.agg #[.slice a1 d.safe.length c1, .slice a2 d.writes.length c2]) d /\ St S w0 w' LL (Rd.of wrC (.slice a2 d.writes.length c2) d.writes :: Rd.of strC (.slice a1 d.safe.length c1) d.safe :: RR) := by
 subst hd
 have X2 : St S w0 w (M ++ L) (Rj ++ RR) := (X.perm hp).rds fun r h => (List.mem_append.1 h).elim (hr r) id
 have hg : goodD j.disk = true := by obtain ⟨v, ds, fs, MD, MU, hm, _⟩ := F; exact (hm.inv.sz hm.sz).dk
 refine (jr_Disk F X2).mono ?_
 rintro e w' ⟨a1, c1, a2, c2, rfl, X3⟩
 refine ⟨a1, c1, a2, c2, rfl, ⟨_, _, rfl, X3.read (.tail _ (.head _)), X3.read (.head _), ?_, ?_⟩, (X3.perm hp.symm).rds fun r h => ?_⟩
 ·have := (goodD_len hg).1; omega
 ·have := (goodD_len hg).2; omega
 ·rcases List.mem_cons.1 h with rfl | h
  ·exact .head _
  rcases List.mem_cons.1 h with rfl | h
  ·exact .tail _ (.head _)
  ·exact .tail _ (.tail _ (List.mem_append_right _ h))
end
theorem top_home (K : JK) {S : List Nat} {w0 w : World} {L LL : List Ent} {RR : List Rd} {g : Nat} {j : Jn} {M : List Ent} {Rj : List Rd} (F : JF g j M Rj) (X : St S w0 w LL RR) (hp : LL.Perm (M ++ L)) (hr : ∀ r ∈ Rj, r ∈ RR) {b : Int} (hb : isBlk b = true) :
    Calls Tryz.prog 26 #[.pointer (some ⟨g, 0, none⟩), .int .i64 b] w fun e w' => e = .returned (.string (readD j.disk (25 + b))) /\ St S w0 w' LL RR := by
 have hDk := hid (jr_DiskS F X hp hr (d := j.disk) rfl)
 have hRe := hid (fun v w h => K.read j.disk (25 + b) v w h)
 have hwb : IntKind.i64.wrap (25 + b) = 25 + b := by
  unfold isBlk at hb
  have := of_decide_eq_true hb
  exact IntWalk.i64_in _ (by omega)
 generalize readD j.disk (25 + b) = T at *
 generalize readE j.disk (25 + b) = eT at *
 go_enter Tryz.func26, Tryz.ntmps26
 go_wp2_with (first
  | (refine ZyL ?_) | (refine ZyS ?_; clear X; intro w X) | (refine ZyA ?_; clear X; intro g w X)
  | (go_at_call 15; ((with_reducible refine (hDk.out).mono ?_); rintro e w1 ⟨a1, c1, a2, c2, rfl, hRD, X2⟩; replace X := X2; clear X2))
  | (go_at_call 67; ((with_reducible refine (hRe.out _ _ hRD).mono ?_); rintro e w1 ⟨rfl, hb1⟩; replace X := X.call hb1; clear hb1)))
 go_ret
 exact ⟨rfl, X.rds (fun r h => .tail _ (.tail _ h))⟩
end Go.Proofs.YtjhmfljlclajnacGreatDoor
namespace Wb
open Go Go.RowKit Go.MapKept
def IMap (w : World) (b : Nat) (f : Int -> Option Value) : Prop :=
 ∃ es clock, w.heap[b]? = some (.map es clock) /\ Stamped es clock /\ (∀ x ∈ es.toList, IsKey (.int .i64) x.key) /\ ∀ k v, f k = some v ↔ ∃ x ∈ es.toList, x.key = .int .i64 k /\ x.val = v
section
variable {w w' : World} {b : Nat} {f : Int -> Option Value} {P : Program} {t kt e : TypeId}
theorem IMap.lt (h : IMap w b f) : b < w.heap.size := by
 obtain ⟨es, c, h1, _⟩ := h
 exact (Array.getElem?_eq_some_iff.1 h1).1
theorem IMap.drew (h : IMap w b f) : IMap w.drew b f := h
theorem IMap.alloc (h : IMap w b f) (o : Obj) : IMap (w.alloc o) b f := by
 have hl := h.lt
 obtain ⟨es, c, h1, r⟩ := h
 exact ⟨es, c, (heap_alloc_old w o hl).trans h1, r⟩
theorem IMap.grown {row : Option Nat} (h : IMap w b f) (hg : w.grownBy w' row) (hne : some b ≠ row) : IMap w' b f := by
 have hl := h.lt
 obtain ⟨es, c, h1, r⟩ := h
 exact ⟨es, c, (hg.block b hl hne).trans h1, r⟩
theorem IMap.congr {g : Int -> Option Value} (h : IMap w b f) (hfg : ∀ k, f k = g k) : IMap w b g := by
 obtain rfl : f = g := funext hfg
 exact h
theorem IMap.made (w : World) : IMap (w.alloc (.map #[] 0)) w.heap.size (fun _ => none) :=
 ⟨#[], 0, (MapKept.heap_alloc w _).1, stamped_empty 0, by simp, by simp⟩
theorem IMap.at_ {w : World} {b : Nat} {f : Int -> Option Value} (h : IMap w b f) (k : Int) : ∃ es clock, w.heap[b]? = some (.map es clock) /\
    ((f k = none /\ Instr.findNow (.int .i64) (.int .i64 k) es.toList 0 = some none /\ ∀ x ∈ es.toList, x.key ≠ .int .i64 k) \/
     ∃ j x, Instr.findNow (.int .i64) (.int .i64 k) es.toList 0 = some (some (j, x.val)) /\ es[j]? = some x /\ x.key = .int .i64 k /\ f k = some x.val) := by
 obtain ⟨es, c, h1, h2, h3, h4⟩ := h
 refine ⟨es, c, h1, ?_⟩
 rcases findNow_spec (d := .int .i64) (k := .int .i64 k) rfl es.toList 0 h3 with ⟨g1, g2⟩ | ⟨j, x, g1, g2, g3⟩
 ·refine .inl ⟨?_, g1, g2⟩
  cases hf : f k with
  | none => rfl
  | some v =>
   obtain ⟨x, hx, hk, _⟩ := (h4 k v).1 hf
   exact absurd hk (g2 x hx)
 ·rw [Nat.zero_add] at g1
  exact .inr ⟨j, x, g1, by simpa using g2, g3, (h4 k x.val).2 ⟨x, List.mem_of_getElem? g2, g3, rfl⟩⟩
theorem IMap.lookup (h : IMap w b f) (ht : P.underlying t = some (.map kt e)) (hk : P.underlying kt = some (.int .i64)) {z : Value} (hz : (zeroValue e).run P w = .ok z w) (k : Int) :
    (Instr.lookup t (.map (some b)) (.int .i64 k) false).run P w = .ok ((f k).getD z) w /\
    (Instr.lookup t (.map (some b)) (.int .i64 k) true).run P w = .ok (.tuple #[(f k).getD z, .bool (f k).isSome]) w := by
 obtain ⟨es, c, h1, hh⟩ := h.at_ k
 have hc := fun n e' => run_checkKey (P := P) (w := w) hk (k := .int .i64 k) rfl e' n
 rcases hh with ⟨hf, g1, _⟩ | ⟨j, x, g1, g2, g3, hf⟩
 ·have hfk := run_findKey (P := P) (w := w) hk g1
  rw [hf]
  constructor <;> simp [Instr.lookup, run_underlying ht, run_getObj_map h1, hc 9999, hfk, hz, Result.andThen]
 ·have hfk := run_findKey (P := P) (w := w) hk g1
  rw [hf]
  constructor <;> simp [Instr.lookup, run_underlying ht, run_getObj_map h1, hc 9999, hfk, Result.andThen]
structure Turned (w w' : World) (b : Nat) : Prop where
 os : w'.os = w.os
 tape : w'.tape = w.tape
 output : w'.output = w.output
 size : w'.heap.size = w.heap.size
 block : ∀ i, i ≠ b -> w'.heap[i]? = w.heap[i]?
theorem setBlock_turned {es : Array MapEntry} {c : Nat} (hb : w.heap[b]? = some (.map es c)) (o : Obj) : Turned w (ChangeMaps.setBlock w b o) b :=
 ⟨rfl, rfl, rfl, by simp [ChangeMaps.setBlock], fun i hi => ChangeMaps.heap_setBlock_other hb _ hi⟩
theorem Turned.blk (h : Turned w w' b) {g : Nat} {cs : Array Value} {ty : TypeId} (hg : Blk w g cs ty) (hne : g ≠ b) : Blk w' g cs ty := (h.block g hne).trans hg
theorem Turned.imap (h : Turned w w' b) {g : Nat} {f : Int -> Option Value} (hg : IMap w g f) (hne : g ≠ b) : IMap w' g f := by
 obtain ⟨es, c, h1, r⟩ := hg
 exact ⟨es, c, (h.block g hne).trans h1, r⟩
theorem Turned.below (h : Turned w w' b) {W : World} {B : Nat} (hw : Below B W w) (hlt : B <= b) : Below B W w' :=
 ⟨h.os.trans hw.os, by rw [h.tape]; exact hw.tape, by rw [h.output]; exact hw.output, by rw [h.size]; exact hw.size, fun i hi => (h.block i (by omega)).trans (hw.block i hi)⟩
theorem IMap.update (h : IMap w b f) (ht : P.underlying t = some (.map kt e)) (hk : P.underlying kt = some (.int .i64)) (k : Int) (v : Value) :
    ∃ w', (Instr.mapUpdate t (.map (some b)) (.int .i64 k) v).run P w = .ok () w' /\ IMap w' b (fun x => if x = k then some v else f x) /\ Turned w w' b := by
 obtain ⟨es, c, h1, h2, h3, h4⟩ := h
 have hc := fun n e' => run_checkKey (P := P) (w := w) hk (k := .int .i64 k) rfl e' n
 rcases findNow_spec (d := .int .i64) (k := .int .i64 k) rfl es.toList 0 h3 with ⟨g1, g2⟩ | ⟨j, x, g1, g2, g3⟩
 ·have hfk := run_findKey (P := P) (w := w) hk g1
  refine ⟨ChangeMaps.setBlock w b (.map (es.push { key := .int .i64 k, val := v, born := c }) (c + 1)), ?_, ?_, setBlock_turned h1 _⟩
  ·simp [Instr.mapUpdate, run_underlying ht, run_getObj_map h1, hc 9999, hfk, run_setObj_map _ h1, Result.andThen, ChangeMaps.setBlock]
  ·refine ⟨_, _, ChangeMaps.heap_setBlock_same h1 _, stamped_push h2 g2, ?_, ?_⟩
   ·intro y hy
    simp only [Array.toList_push, List.mem_append, List.mem_singleton] at hy
    rcases hy with hy | rfl
    ·exact h3 y hy
    ·rfl
   ·intro q u
    simp only [Array.toList_push, List.mem_append, List.mem_singleton]
    by_cases hq : q = k
    ·subst hq
     simp only [if_pos]
     constructor
     ·intro hu
      cases hu
      exact ⟨_, .inr rfl, rfl, rfl⟩
     ·rintro ⟨y, hy | rfl, e1, e2⟩
      ·exact absurd e1 (g2 y hy)
      ·simp at e2; rw [e2]
    ·simp only [if_neg hq, h4 q u]
     constructor
     ·rintro ⟨y, hy, e1, e2⟩
      exact ⟨y, .inl hy, e1, e2⟩
     ·rintro ⟨y, hy | rfl, e1, e2⟩
      ·exact ⟨y, hy, e1, e2⟩
      ·simp at e1; exact absurd e1.symm hq
 ·rw [Nat.zero_add] at g1
  have hj : es[j]? = some x := by simpa using g2
  have hfk := run_findKey (P := P) (w := w) hk g1
  have hkey : ∀ e', es[j]? = some e' -> ({ e' with key := .int .i64 k, val := v } : MapEntry).key = e'.key := fun e' he' => by rw [hj] at he'; cases he'; exact g3.symm
  refine ⟨ChangeMaps.setBlock w b (.map (es.modify j fun e => { e with key := .int .i64 k, val := v }) c), ?_, ?_, setBlock_turned h1 _⟩
  ·simp [Instr.mapUpdate, run_underlying ht, run_getObj_map h1, hc 9999, hfk, hj, g3, run_keyThatStays (d := .int .i64) (k := .int .i64 k) rfl, run_setObj_map _ h1, Result.andThen, ChangeMaps.setBlock]
  ·have hst := stamped_modify h2 j (fun e => { e with key := .int .i64 k, val := v }) (fun _ _ => rfl) (fun e' _ he' => hkey e' he')
   refine ⟨_, _, ChangeMaps.heap_setBlock_same h1 _, hst, isKey_modify h3 _ _ hkey, ?_⟩
   have hmem : ∀ y, y ∈ (es.modify j fun e => { e with key := .int .i64 k, val := v }).toList ↔ (y = { x with key := .int .i64 k, val := v } \/ ∃ i, i ≠ j /\ es[i]? = some y) := by
    intro y
    rw [List.mem_iff_getElem?]
    simp only [Array.getElem?_toList, Array.getElem?_modify]
    constructor
    ·rintro ⟨i, hi⟩
     by_cases hij : j = i
     ·subst hij
      simp [hj] at hi
      exact .inl hi.symm
     ·simp [hij] at hi
      exact .inr ⟨i, fun h => hij h.symm, hi⟩
    ·rintro (rfl | ⟨i, hi, hy⟩)
     ·exact ⟨j, by simp [hj]⟩
     ·exact ⟨i, by simp [Ne.symm hi, hy]⟩
   have hun : ∀ i y, es[i]? = some y -> y.key = .int .i64 k -> i = j := by
    intro i y hi hy
    have hnd := h2.2.2
    have hi' : (es.toList.map (·.key))[i]? = some (.int .i64 k) := by simp [hi, hy]
    have hj' : (es.toList.map (·.key))[j]? = some (.int .i64 k) := by simp [hj, g3]
    have hil := (List.getElem?_eq_some_iff.1 hi').1
    exact (List.getElem?_inj hil hnd).1 (hi'.trans hj'.symm)
   intro q u
   by_cases hq : q = k
   ·subst hq
    simp only [if_pos]
    constructor
    ·intro hu
     cases hu
     exact ⟨_, (hmem _).2 (.inl rfl), rfl, rfl⟩
    ·rintro ⟨y, hy, e1, e2⟩
     rcases (hmem y).1 hy with rfl | ⟨i, hi, hy⟩
     ·simp at e2; rw [e2]
     ·exact absurd (hun i y hy e1) hi
   ·simp only [if_neg hq, h4 q u]
    constructor
    ·rintro ⟨y, hy, e1, e2⟩
     obtain ⟨i, hi⟩ := List.mem_iff_getElem?.1 hy
     refine ⟨y, (hmem y).2 (.inr ⟨i, ?_, by simpa using hi⟩), e1, e2⟩
     rintro rfl
     rw [g2] at hi
     cases hi
     rw [g3] at e1
     simp at e1
     exact hq e1.symm
    ·rintro ⟨y, hy, e1, e2⟩
     rcases (hmem y).1 hy with rfl | ⟨i, hi, hy⟩
     ·simp at e1; exact absurd e1.symm hq
     ·exact ⟨y, List.mem_iff_getElem?.2 ⟨i, by simpa using hy⟩, e1, e2⟩
end
section
variable {w w' : World} {b : Nat} {f : Int -> Option Value} {P : Program} {t kt e ty : TypeId}
theorem IMap.delete (h : IMap w b f) (ht : P.underlying t = some (.map kt e)) (hk : P.underlying kt = some (.int .i64)) (k : Int) :
    ∃ w', (Builtin.delete_ #[t, kt] ty #[.map (some b), .int .i64 k]).run P w = .ok (.tuple #[]) w' /\ IMap w' b (fun x => if x = k then none else f x) /\ Turned w w' b := by
 obtain ⟨es, c, h1, h2, h3, h4⟩ := h
 have hc := fun n e' => run_checkKey (P := P) (w := w) hk (k := .int .i64 k) rfl e' n
 rcases findNow_spec (d := .int .i64) (k := .int .i64 k) rfl es.toList 0 h3 with ⟨g1, g2⟩ | ⟨j, x, g1, g2, g3⟩
 ·have hfk := run_findKey (P := P) (w := w) hk g1
  refine ⟨ChangeMaps.setBlock w b (.map es c), ?_, ?_, setBlock_turned h1 _⟩
  ·simp [Builtin.delete_, run_underlying ht, run_getObj_map h1, hc 9999, hfk, run_setObj_map _ h1, Result.andThen, ChangeMaps.setBlock]
  ·refine ⟨_, _, ChangeMaps.heap_setBlock_same h1 _, h2, h3, ?_⟩
   intro q u
   by_cases hq : q = k
   ·subst hq
    simp only [if_pos]
    constructor
    ·intro hu; cases hu
    ·rintro ⟨y, hy, e1, _⟩
     exact absurd e1 (g2 y hy)
   ·simp only [if_neg hq]
    exact h4 q u
 ·rw [Nat.zero_add] at g1
  have hj : es[j]? = some x := by simpa using g2
  have hjs : j < es.size := (Array.getElem?_eq_some_iff.1 hj).1
  have hfk := run_findKey (P := P) (w := w) hk g1
  have hsub : (es.eraseIdxIfInBounds j).toList = es.toList.eraseIdx j := by
   unfold Array.eraseIdxIfInBounds
   rw [dif_pos hjs]
   simp
  refine ⟨ChangeMaps.setBlock w b (.map (es.eraseIdxIfInBounds j) c), ?_, ?_, setBlock_turned h1 _⟩
  ·simp [Builtin.delete_, run_underlying ht, run_getObj_map h1, hc 9999, hfk, run_setObj_map _ h1, Result.andThen, ChangeMaps.setBlock]
  ·refine ⟨_, _, ChangeMaps.heap_setBlock_same h1 _, stamped_erase h2 j, ?_, ?_⟩
   ·intro y hy
    rw [hsub] at hy
    exact h3 y ((List.eraseIdx_sublist _ _).subset hy)
   have hun : ∀ i y, es[i]? = some y -> y.key = .int .i64 k -> i = j := by
    intro i y hi hy
    have hnd := h2.2.2
    have hi' : (es.toList.map (·.key))[i]? = some (.int .i64 k) := by simp [hi, hy]
    have hj' : (es.toList.map (·.key))[j]? = some (.int .i64 k) := by simp [hj, g3]
    have hil := (List.getElem?_eq_some_iff.1 hi').1
    exact (List.getElem?_inj hil hnd).1 (hi'.trans hj'.symm)
   have hmem : ∀ y, y ∈ (es.eraseIdxIfInBounds j).toList ↔ ∃ i, i ≠ j /\ es[i]? = some y := by
    intro y
    rw [hsub, List.mem_eraseIdx_iff_getElem?]
    simp
   intro q u
   by_cases hq : q = k
   ·subst hq
    simp only [if_pos]
    constructor
    ·intro hu; cases hu
    ·rintro ⟨y, hy, e1, _⟩
     obtain ⟨i, hi, hy⟩ := (hmem y).1 hy
     exact absurd (hun i y hy e1) hi
   ·simp only [if_neg hq, h4 q u]
    constructor
    ·rintro ⟨y, hy, e1, e2⟩
     obtain ⟨i, hi⟩ := List.mem_iff_getElem?.1 hy
     refine ⟨y, (hmem y).2 ⟨i, ?_, by simpa using hi⟩, e1, e2⟩
     rintro rfl
     rw [g2] at hi
     cases hi
     rw [g3] at e1
     simp at e1
     exact hq e1.symm
    ·rintro ⟨y, hy, e1, e2⟩
     obtain ⟨i, _, hy⟩ := (hmem y).1 hy
     exact ⟨y, List.mem_iff_getElem?.2 ⟨i, by simpa using hy⟩, e1, e2⟩
end
section
variable {S : List Nat} {w0 w w' : World} {L : List Ent} {R : List Rd} {b : Nat} {f g : Int -> Option Value}
theorem IMap.same (h : IMap w b f) (he : w'.heap[b]? = w.heap[b]?) : IMap w' b f := by
 obtain ⟨es, c, h1, r⟩ := h
 exact ⟨es, c, he.trans h1, r⟩
theorem St.rd_map (X : St S w0 w L R) (im : IMap w b f) : ∀ r ∈ R, r.cs = [] \/ ∀ k, vblk r.v = some k -> k ∉ [b] := by
 intro r hr
 obtain ⟨⟨a, cap, hv, h1, h2, h3⟩, _⟩ := X.rd r hr
 rcases h3 with h3 | ⟨k, off, ha, hc⟩
 ·exact .inl h3
 ·cases hcs : r.cs with
  | nil => exact .inl rfl
  | cons u l =>
   refine .inr fun k' hk' hm => ?_
   obtain rfl := List.mem_singleton.1 hm
   rw [hv, ha] at hk'
   cases hk'
   have h4 := hc 0 u (by rw [hcs]; rfl)
   obtain ⟨es, c, h5, _⟩ := im
   unfold World.cell? at h4
   simp [h5] at h4
theorem Turned.mv (h : Turned w w' b) : Mv [b] w w' := ⟨h.os, h.tape, h.output, by rw [h.size]; exact Nat.le_refl _, fun k _ hn => h.block k fun e => hn (by rw [e]; exact List.mem_singleton.2 rfl)⟩
theorem St.turned (X : St S w0 w L R) (im : IMap w b f) (ht : Turned w w' b) (hs : b ∈ S \/ w0.heap.size <= b) (hL : ∀ e ∈ L, e.g ≠ b) : St S w0 w' L R :=
 X.moved ht.mv (fun k hk => by rw [List.mem_singleton.1 hk]; exact hs) (fun e he h => hL e he (List.mem_singleton.1 h)) (X.rd_map im)
theorem St.madeMap (X : St S w0 w L R) : St S w0 (w.alloc (.map #[] 0)) L R := X.call (bal (b0 w) _)
end
section
variable {P : Program} {ops : Array Oper} {Q : Exit -> Act -> World -> Prop} {L0 : List Ent} {brk eff lds : List Nat} {i : Nat} {r : List Nat} {o : Oper} {a : Act} {w w2 : World} {R0 : List Rd}
theorem q_upd {T : TypeId} {m k x : Operand} {b : Nat} {n : Int} {v : Value} (hi : oAt ops i = some o) (ho : o.op = .mapUpdate T m k x) (hm : EvR a m (.map (some b))) (hk : EvR a k (.int .i64 n)) (hx : EvR a x v) (he : eff.contains i = true) (hb : brk.contains i = true) (hw : Region.wanted o (yielded ops a.tmps) = true)
    (hrun : (Instr.mapUpdate T (.map (some b)) (.int .i64 n) v).run P w = .ok () w2) (h : SQ P ops Q L0 R0 brk eff lds r (a.put o.dst undef) w2) : SQ P ops Q L0 R0 brk eff lds (i :: r) a w :=
 q_eff hi he hw fun K hK => by
  unfold Oper.wp execOp
  simp only [ho, hm.eval, hk.eval, hx.eval, Sem.run_bind, Sem.run_pure, Result.andThen_ok, hrun]
  exact hK _ _ (fun hf => by rw [hb] at hf; cases hf) h
end
def MRun (w : World) (r bm : Nat) (f left : Int -> Option Value) (cnt : Nat) : Prop :=
 ∃ es clock since c0 seen, w.heap[r]? = some (.mapIter (some bm) since seen c0) /\ w.heap[bm]? = some (.map es clock) /\ (∀ x ∈ es.toList, x.born < since) /\ since <= c0 /\ Stamped es clock /\ c0 <= clock /\ (∀ x ∈ es.toList, IsKey (.int .i64) x.key) /\
  (∀ k v, f k = some v ↔ ∃ x ∈ es.toList, x.key = .int .i64 k /\ x.val = v) /\ (∀ k v, left k = some v ↔ ∃ x ∈ (leftOf es seen).toList, x.key = .int .i64 k /\ x.val = v) /\ cnt = (leftOf es seen).size
section
variable {w w' : World} {r bm : Nat} {f left : Int -> Option Value} {cnt : Nat} {P : Program} {t kt e ty : TypeId}
theorem MRun.lt (h : MRun w r bm f left cnt) : r < w.heap.size /\ bm < w.heap.size /\ r ≠ bm := by
 obtain ⟨es, clock, since, c0, seen, h1, h2, _⟩ := h
 refine ⟨(Array.getElem?_eq_some_iff.1 h1).1, (Array.getElem?_eq_some_iff.1 h2).1, fun e => ?_⟩
 rw [e, h2] at h1
 cases h1
theorem MRun.same (h : MRun w r bm f left cnt) (h1 : w'.heap[r]? = w.heap[r]?) (h2 : w'.heap[bm]? = w.heap[bm]?) : MRun w' r bm f left cnt := by
 unfold MRun
 rw [h1, h2]
 exact h
theorem MRun.le (h : MRun w r bm f left cnt) {k : Int} {v : Value} (hk : left k = some v) : f k = some v := by
 obtain ⟨es, clock, since, c0, seen, h1, h2, h3, h4, h5, h6, h7, h8, h9, h10⟩ := h
 obtain ⟨x, hx, h11⟩ := (h9 k v).1 hk
 exact (h8 k v).2 ⟨x, (mem_left hx).1, h11⟩
theorem leftOf_none (es : Array MapEntry) : leftOf es #[] = es := by
 unfold leftOf
 rw [Array.filter_eq_self]
 intro a _
 simp
theorem IMap.range (h : IMap w bm f) (ht : P.underlying t = some (.map kt e)) :
    ∃ ob cnt, (Instr.range t (.map (some bm))).run P w = .ok (.pointer (some ⟨w.heap.size, 0, none⟩)) (w.alloc ob) /\ MRun (w.alloc ob) w.heap.size bm f f cnt := by
 have hl := h.lt
 obtain ⟨es, c, h1, h2, h3, h4⟩ := h
 refine ⟨.mapIter (some bm) c #[] c, es.size, run_range_map w t kt e bm es c ht h1, es, c, c, c, #[], heap_alloc_new _ _, (heap_alloc_old w _ hl).trans h1, h2.1, Nat.le_refl _, h2, Nat.le_refl _, h3, h4, ?_, ?_⟩
 ·rw [leftOf_none]; exact h4
 ·rw [leftOf_none]
theorem MRun.next (h : MRun w r bm f left cnt) (ty : TypeId) :
    ((∀ k, left k = none) /\ (Instr.next (.pointer (some ⟨r, 0, none⟩)) false ty).run P w = .ok (.tuple #[.bool false]) w) \/
    ∃ k v w' cnt', left k = some v /\ (Instr.next (.pointer (some ⟨r, 0, none⟩)) false ty).run P w = .ok (.tuple #[.bool true, .int .i64 k, v]) w' /\ MRun w' r bm f (fun x => if x = k then none else left x) cnt' /\ cnt' < cnt /\ Turned w w' r /\ (Instr.entry (.pointer (some ⟨r, 0, none⟩))).run P w' = .ok (.tuple #[.int .i64 k, v]) w' := by
 have hlt := h.lt
 obtain ⟨es, clock, since, c0, seen, h1, h2, h3, h4, h5, h6, h7, h8, h9, h10⟩ := h
 rcases run_next_at (P := P) w ty r bm since c0 seen es clock h1 h2 h3 h4 with ⟨g1, g2⟩ | ⟨en, hen, w1, hw1, hrun⟩
 ·refine .inl ⟨fun k => ?_, g2⟩
  cases hk : left k with
  | none => rfl
  | some v =>
   obtain ⟨x, hx, _⟩ := (h9 k v).1 hk
   have : (leftOf es seen).toList.length = 0 := by rw [Array.length_toList]; exact g1
   rw [List.eq_nil_of_length_eq_zero this] at hx
   cases hx
 ·have hm := mem_left hen
  have hkey := h7 en hm.1
  obtain ⟨k, hk⟩ : ∃ k, en.key = .int .i64 k := by
   cases hke : en.key with
   | int q n =>
    rw [hke] at hkey
    have : q = .i64 := by
     have := hkey
     simp [IsKey] at this
     first
      | exact this
      | exact this.symm
      | (cases this; rfl)
    exact ⟨n, by rw [this]⟩
   | _ => rw [hke] at hkey; simp [IsKey] at hkey
  have e1 : ∀ i, i ≠ r -> (ChangeMaps.setBlock w1 r (.mapIter (some bm) since (seen.push en.born) clock)).heap[i]? = w.heap[i]? := fun i hi => by
   have hh : w1.heap = w.heap := by rcases hw1 with rfl | rfl <;> rfl
   have h1' : w1.heap[r]? = some (.mapIter (some bm) since seen c0) := by rw [hh]; exact h1
   show (w1.heap.setIfInBounds r _)[i]? = _
   rw [Array.getElem?_setIfInBounds_ne (fun e => hi e.symm), hh]
  have e2 : (ChangeMaps.setBlock w1 r (.mapIter (some bm) since (seen.push en.born) clock)).heap[r]? = some (.mapIter (some bm) since (seen.push en.born) clock) := by
   have hh : w1.heap = w.heap := by rcases hw1 with rfl | rfl <;> rfl
   show (w1.heap.setIfInBounds r _)[r]? = _
   rw [Array.getElem?_setIfInBounds_self_of_lt (by rw [hh]; exact hlt.1)]
  have hb2 : (ChangeMaps.setBlock w1 r (.mapIter (some bm) since (seen.push en.born) clock)).heap[bm]? = some (.map es clock) := (e1 bm (fun e => hlt.2.2 e.symm)).trans h2
  refine .inr ⟨k, en.val, _, (leftOf es (seen.push en.born)).size, (h9 k en.val).2 ⟨en, hen, hk, rfl⟩, by rw [hrun, hk], ?_, ?_, ?_, ?_⟩
  ·refine ⟨es, clock, since, clock, seen.push en.born, e2, hb2, h3, Nat.le_trans h4 h6, h5, Nat.le_refl _, h7, h8, ?_, rfl⟩
   have hun : ∀ x ∈ es.toList, x.key = .int .i64 k -> x = en := fun x hx hxk => by
    have hnd := h5.2.2
    obtain ⟨i, hi⟩ := List.mem_iff_getElem?.1 hx
    obtain ⟨j, hj⟩ := List.mem_iff_getElem?.1 hm.1
    have hi' : (es.toList.map (·.key))[i]? = some (.int .i64 k) := by rw [List.getElem?_map, hi]; simp [hxk]
    have hj' : (es.toList.map (·.key))[j]? = some (.int .i64 k) := by rw [List.getElem?_map, hj]; simp [hk]
    have hil := (List.getElem?_eq_some_iff.1 hi').1
    have := (List.getElem?_inj hil hnd).1 (hi'.trans hj'.symm)
    rw [this, hj] at hi
    exact (Option.some.inj hi).symm
   have hmm : ∀ x, x ∈ (leftOf es (seen.push en.born)).toList ↔ x ∈ (leftOf es seen).toList /\ x.born ≠ en.born := fun x => by
    unfold leftOf
    simp only [Array.toList_filter, List.mem_filter, contains_push]
    constructor
    ·rintro ⟨a1, a2⟩
     refine ⟨⟨a1, ?_⟩, fun hb => ?_⟩
     ·cases hc : seen.contains x.born with
      | false => rfl
      | true => rw [hc] at a2; simp at a2
     ·rw [hb] at a2; simp at a2
    ·rintro ⟨⟨a1, a2⟩, a3⟩
     refine ⟨a1, ?_⟩
     have : (x.born == en.born) = false := by simpa using a3
     rw [this, Bool.or_false]; exact a2
   intro q v
   show (if q = k then none else left q) = some v ↔ _
   by_cases hq : q = k
   ·rw [if_pos hq]
    constructor
    ·intro h; cases h
    ·rintro ⟨x, hx, hx1, _⟩
     rw [hq] at hx1
     obtain ⟨hx2, hx3⟩ := (hmm x).1 hx
     exact absurd (by rw [hun x (mem_left hx2).1 hx1]) hx3
   ·rw [if_neg hq, h9 q v]
    constructor
    ·rintro ⟨x, hx, hx1, hx2⟩
     refine ⟨x, (hmm x).2 ⟨hx, fun hb => ?_⟩, hx1, hx2⟩
     have := born_inj h5.2.1 (mem_left hx).1 hm.1 hb
     rw [this, hk] at hx1
     cases hx1
     exact hq rfl
    ·rintro ⟨x, hx, hx1, hx2⟩
     exact ⟨x, ((hmm x).1 hx).1, hx1, hx2⟩
  ·rw [h10]; exact left_shrinks es seen en hen
  ·refine ⟨?_, ?_, ?_, ?_, e1⟩
   ·rcases hw1 with rfl | rfl <;> rfl
   ·rcases hw1 with rfl | rfl <;> rfl
   ·rcases hw1 with rfl | rfl <;> rfl
   ·show (w1.heap.setIfInBounds r _).size = _
    rw [Array.size_setIfInBounds]
    rcases hw1 with rfl | rfl <;> rfl
  ·have := run_entry_at (P := P) _ r bm since seen es clock en e2 hb2 hm.1 h5.2.1
   rw [hk] at this
   exact this
end
end Wb
namespace Wb
open Go Go.RowKit
def topT (t : Txn) (b : Int) : Option (Option ByteArray) := match getC t.mt b with | some s => some (some s) | none => match getC t.dt b with | some s => some (some s) | none => if inI t.rev b = true then some none else none
theorem topT_congr {t u : Txn} {b : Int} (h1 : getC u.mt b = getC t.mt b) (h2 : getC u.dt b = getC t.dt b) (h3 : inI u.rev b = inI t.rev b) : topT u b = topT t b := by unfold topT; rw [h1, h2, h3]
theorem turnT_some {t : Txn} {b : Int} {o : Option ByteArray} {s : ByteArray} (h : getC t.mt b = some s) : turnT t o b = some s := by unfold turnT; rw [h]
theorem turnT_else {t : Txn} {b : Int} {o : Option ByteArray} (h : getC t.mt b = none) (h2 : inI t.rev b = false) : turnT t o b = o := by unfold turnT; rw [h]; simp [h2]
theorem orE_zero {e f : Int} {c : Prop} [Decidable c] (hf : f ≠ 0) (h : orE e c f = 0) : e = 0 /\ ¬ c := by
 unfold orE at h
 split at h
 ·exact absurd h hf
 ·rename_i hc
  exact ⟨h, fun hcc => hc ⟨h, hcc⟩⟩
theorem chg_zero {t : Txn} {h b : Int} {s : ByteArray} (e : chgE t h b s = 0) : mayE t h b = 0 /\ hasB t.dt b = false := by
 unfold chgE at e
 split at e
 ·rename_i h1; exact absurd e h1
 rename_i h1
 split at e
 ·cases e
 split at e
 ·cases e
 rename_i h2
 exact ⟨by simpa using h1, by simpa using h2⟩
theorem fil_zero {t : Txn} {h b : Int} {s : ByteArray} (e : filE t h b s = 0) : mayE t h b = 0 /\ hasB t.mt b = false /\ inI t.rev b = false := by
 unfold filE at e
 split at e
 ·rename_i h1; exact absurd e h1
 rename_i h1
 split at e
 ·cases e
 split at e
 ·cases e
 rename_i h2
 refine ⟨by simpa using h1, ?_⟩
 unfold owed at h2
 simpa using h2
theorem rvk_zero {t : Txn} {h b : Int} (e : rvkE t h b = 0) : mayE t h b = 0 := by
 unfold rvkE at e
 split at e
 ·rename_i h1; exact absurd e h1
 rename_i h1
 simpa using h1
structure ChgD (t u : Txn) (b : Int) : Prop where
 mt : ∀ x, x ≠ b -> getC u.mt x = getC t.mt x
 dt : ∀ x, x ≠ b -> getC u.dt x = getC t.dt x
 rev : ∀ x, x ≠ b -> inI u.rev x = inI t.rev x
theorem chg_d {t : Txn} {h b : Int} {s : ByteArray} (e : chgE t h b s = 0) (hg : goodT t = true) : ChgD t (chgT t h b s) b /\ getC (chgT t h b s).mt b = some s /\ (chgT t h b s).dt = t.dt /\ inI (chgT t h b s).rev b = false := by
 have g := goodT_of.1 hg
 unfold chgT
 rw [if_pos e]
 refine ⟨⟨fun x hx => ?_, fun x hx => ?_, fun x hx => ?_⟩, ?_, ?_, ?_⟩
 ·show getC (putL t.mt b s) x = _
  rw [put_get b s g.mt, if_neg hx]
 ·show getC (payT t h b).dt x = _
  rw [(payT_same t h b).2.2.1]
 ·show inI (offI t.rev b) x = _
  rw [off_in]; simp [hx]
 ·show getC (putL t.mt b s) b = _
  rw [put_get b s g.mt, if_pos rfl]
 ·exact (payT_same t h b).2.2.1
 ·show inI (offI t.rev b) b = _
  rw [off_in]; simp
theorem fil_d {t : Txn} {h b : Int} {s : ByteArray} (e : filE t h b s = 0) (hg : goodT t = true) : ChgD t (filT t h b s) b /\ getC (filT t h b s).dt b = some s /\ (filT t h b s).mt = t.mt /\ (filT t h b s).rev = t.rev := by
 have g := goodT_of.1 hg
 unfold filT
 rw [if_pos e]
 refine ⟨⟨fun x hx => rfl, fun x hx => ?_, fun x hx => rfl⟩, ?_, rfl, rfl⟩
 ·show getC (putL t.dt b s) x = _
  rw [put_get b s g.dt, if_neg hx]
 ·show getC (putL t.dt b s) b = _
  rw [put_get b s g.dt, if_pos rfl]
theorem rvk_d {t : Txn} {h b : Int} (e : rvkE t h b = 0) : ChgD t (rvkT t h b) b /\ getC (rvkT t h b).mt b = none /\ getC (rvkT t h b).dt b = none /\ inI (rvkT t h b).rev b = true := by
 unfold rvkT
 rw [if_pos e]
 refine ⟨⟨fun x hx => ?_, fun x hx => ?_, fun x hx => ?_⟩, ?_, ?_, ?_⟩
 ·show getC (dropC t.mt b) x = _
  rw [drop_get, if_neg hx]
 ·show getC (dropC t.dt b) x = _
  rw [drop_get, if_neg hx]
 ·show inI (insI t.rev b) x = _
  rw [ins_in]; simp [hx]
 ·show getC (dropC t.mt b) b = _
  rw [drop_get, if_pos rfl]
 ·show getC (dropC t.dt b) b = _
  rw [drop_get, if_pos rfl]
 ·show inI (insI t.rev b) b = _
  rw [ins_in]; simp
theorem ChgD.top {t u : Txn} {b : Int} (h : ChgD t u b) {x : Int} (hx : x ≠ b) : topT u x = topT t x := topT_congr (h.mt x hx) (h.dt x hx) (h.rev x hx)
theorem setF_self (f : Int -> Int) (b v : Int) : setF f b v b = v := by simp [setF]
theorem setF_ne {f : Int -> Int} {b v x : Int} (h : x ≠ b) : setF f b v x = f x := by simp [setF, h]
theorem role_change {j : Jn} {a : Aj} (he : altE j a = 0) (hb : isBlk a.b = true) : (changeJ j a).1.roles a.b = altTo j a /\ ∀ x, x ≠ a.b -> (changeJ j a).1.roles x = j.roles x := by
 unfold changeJ
 rw [if_pos he]
 dsimp only
 have hr : roleJ j a.b = j.roles a.b := by unfold roleJ; rw [if_pos hb]
 split
 ·exact ⟨setF_self _ _ _, fun x hx => setF_ne hx⟩
 ·rename_i hn
  refine ⟨?_, fun x _ => rfl⟩
  apply Classical.byContradiction
  intro hne
  exact hn ⟨hb, fun h => hne (by rw [h, hr])⟩
end Wb
