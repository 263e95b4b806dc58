/- Part of the proof: Poke. -/
import Derived.Test.YtjhmfljlclajnacDoorUBytes
set_option linter.unusedVariables false
set_option linter.unusedSimpArgs false
namespace Wb
open Go Go.RowKit
theorem flat_set {α : Type} {f : α → List Value} {c : Nat} (hf : ∀ x, (f x).length = c) : ∀ (l : List α) (k : Nat) (hk : k < l.length) (y : α) (i : Nat) (u : Value), i < c → f y = (f l[k]).set i u → (l.set k y).flatMap f = (l.flatMap f).set (k * c + i) u
 | [], k, hk, _, _, _, _, _ => by simp at hk
 | x :: l, 0, _, y, i, u, hi, hy => by
  simp only [List.getElem_cons_zero] at hy
  rw [List.set_cons_zero, List.flatMap_cons, List.flatMap_cons, hy, Nat.zero_mul, Nat.zero_add, List.set_append_left _ _ (by rw [hf]; exact hi)]
 | x :: l, k + 1, hk, y, i, u, hi, hy => by
  rw [List.set_cons_succ, List.flatMap_cons, List.flatMap_cons, flat_set hf l k (by simpa using hk) y i u hi (by simpa using hy), List.set_append_right _ _ (by rw [hf, Nat.succ_mul]; omega)]
  congr 2
  rw [hf, Nat.succ_mul]; omega
theorem Own.poke {α : Type} {f : α → List Value} {base : Nat} {e : TypeId} {c : Nat} (hF : Flat f c) {w : World} {v : Value} {l : List α} (h : Own f base e c w v l) {k : Nat} (hk : k < l.length) :
    ∃ g cap, v = .slice (some ⟨g, 0, none⟩) l.length cap ∧ base ≤ g ∧ g < w.heap.size ∧ (∀ i, i < c → w.frozen? ⟨g, k * c + i, none⟩ = false ∧ w.cell? ⟨g, k * c + i, none⟩ = (f l[k])[i]?) ∧
      ∀ i y u, i < c → f y = (f l[k]).set i u → Own f base e c (w.setCell ⟨g, k * c + i, none⟩ u) v (l.set k y) := by
 have hr := h.reads
 obtain ⟨h1, h2⟩ := h
 rcases h2 with ⟨rfl, h0⟩ | ⟨g, cap, cur, rfl, hb, hg, hn, hc, hs, ht⟩
 ·rw [h0] at h1
  have hl := flat_len hF.len l
  rw [h0] at hk
  omega
 ·refine ⟨g, cap, rfl, hb, (Array.getElem?_eq_some_iff.1 hg).1, fun i hi => ⟨Blk.free (cs := cur) hg _, ?_⟩, fun i y u hi hy => ?_⟩
  ·have hlt : i < (f l[k]).length := by rw [hF.len]; exact hi
   have := flat_get hF.len l k l[k] (by simp [hk]) i (f l[k])[i] (by simp [hlt])
   rw [← ht, List.getElem?_take] at this
   split at this
   ·rw [Blk.cell (cs := cur) hg, List.getElem?_eq_getElem hlt]; simpa using this
   ·simp at this
  ·have hb2 := Blk.set (cs := cur) hg (k * c + i) u
   refine ⟨flat_len hF.len _, .inr ⟨g, cap, cur.setIfInBounds (k * c + i) u, by simp, hb, hb2, by simpa using hn, hc, by simpa using hs, ?_⟩⟩
   rw [flat_set hF.len l k hk y i u hi hy, ← ht]
   simp only [List.length_set, Array.toList_setIfInBounds]
   rw [List.take_set]
end Wb
