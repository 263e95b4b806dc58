/- A text as a block. No program in sight. -/
import Derived.Test.YtjhmfljlclajnacDoorBytes
namespace Wb
/-- A text as a block: cut, or filled up with noughts. -/
def fitL (s : List UInt8) : List UInt8 := s.take 32 ++ List.replicate (32 - s.length) 0
theorem fitL_len (s : List UInt8) : (fitL s).length = 32 := by rw [fitL, List.length_append, List.length_take, List.length_replicate]; omega
theorem fitL_same {s : List UInt8} (h : s.length = 32) : fitL s = s := by rw [fitL, h, List.take_of_length_le (Nat.le_of_eq h), Nat.sub_self, List.replicate_zero, List.append_nil]
def fit (s : ByteArray) : ByteArray := str (fitL s.data.toList)
theorem fit_size (s : ByteArray) : (fit s).size = 32 := by rw [fit, str_size, fitL_len]
theorem fit_same {s : ByteArray} (h : s.size = 32) : fit s = s := by
  rw [fit, fitL_same (by rw [Array.length_toList]; exact h), str_toList]
/-- The first k bytes of a text, noughts behind them, 32 in all. -/
def fitPart (s : List UInt8) (k : Nat) : List UInt8 := s.take k ++ List.replicate (32 - k) 0
theorem fitPart_len {s : List UInt8} {k : Nat} (h : k ≤ s.length) (h2 : k ≤ 32) : (fitPart s k).length = 32 := by simp [fitPart]; omega
theorem fitPart_zero (s : List UInt8) : fitPart s 0 = List.replicate 32 0 := by simp [fitPart]
theorem fitPart_set {s : List UInt8} {k : Nat} (h : k < s.length) (h2 : k < 32) : (fitPart s k).set k s[k] = fitPart s (k + 1) := by
  apply List.ext_getElem?
  intro i
  unfold fitPart
  have hl : (s.take k).length = k := by simp; omega
  have hl1 : (s.take (k + 1)).length = k + 1 := by simp; omega
  rw [List.getElem?_set]
  by_cases e : k = i
  · subst e
    rw [if_pos rfl, if_pos (by simp; omega), List.getElem?_append_left (by omega), List.getElem?_take_of_lt (by omega)]
    simp [h]
  · rw [if_neg e]
    by_cases e2 : i < k
    · rw [List.getElem?_append_left (by omega), List.getElem?_append_left (by omega), List.getElem?_take_of_lt e2, List.getElem?_take_of_lt (by omega)]
    · rw [List.getElem?_append_right (by omega), List.getElem?_append_right (by omega), hl, hl1, List.getElem?_replicate, List.getElem?_replicate]
      by_cases e3 : i < 32
      · rw [if_pos (by omega), if_pos (by omega)]
      · rw [if_neg (by omega), if_neg (by omega)]
theorem fitPart_full {s : List UInt8} {k : Nat} (h : k ≤ s.length) (h2 : k ≤ 32) (h3 : ¬ (k < s.length ∧ k < 32)) : fitPart s k = fitL s := by
  unfold fitPart fitL
  by_cases e : s.length ≤ 32
  · obtain rfl : k = s.length := by omega
    rw [List.take_of_length_le (Nat.le_refl _), List.take_of_length_le e]
  · obtain rfl : k = 32 := by omega
    simp; omega
end Wb
