/- The plain data and what the functions compute on it. No program in sight. -/
import Derived.Test.YtjhmfljlclajnaaBase
namespace Wb
open Go Go.RowKit

/-! ### ring -/
structure Ring where
  head : Int
  used : Int
def Ring.val (r : Ring) : Value := .agg #[.int .i64 r.head, .int .i64 r.used]
def goodR (r : Ring) : Bool := decide (0 ≤ r.head ∧ r.head < 24 ∧ 0 ≤ r.used ∧ r.used ≤ 24)
/-- The k places from a head on. -/
def places (h : Int) (k : Nat) : List Int := (List.range k).map fun (i : Nat) => (h + (i : Int)) % 24
/-- Take's error. -/
def takeE (r : Ring) (n : Int) : Int := if goodR r = false ∨ n < 0 then 2 else if n > 24 - r.used then 6 else 0
def takeR (r : Ring) (n : Int) : Ring := if takeE r n = 0 then ⟨(r.head + n) % 24, r.used + n⟩ else r
def takeL (r : Ring) (n : Int) : List Int := if takeE r n = 0 then places r.head n.toNat else []
def giveE (r : Ring) (n : Int) : Int := if goodR r = false ∨ n < 0 ∨ n > r.used then 2 else 0
def giveR (r : Ring) (n : Int) : Ring := if giveE r n = 0 then ⟨r.head, r.used - n⟩ else r
/-- How many it takes to name n, each so many. -/
def partsOf (n each : Int) : Int := (n + each - 1) / each
def needE (m r : Int) : Int := if m < 0 ∨ m > 12 ∨ r < 0 ∨ r > 12 then 2 else 0
def needN (m r : Int) : Int := if needE m r = 0 then partsOf r 20 + partsOf m 10 + m + 1 else 0
def clamp24 (n : Int) : Int := max 0 (min n 24)
def mostN (n : Int) : Int := clamp24 n + partsOf (clamp24 n) 10 + partsOf (clamp24 n) 20 + 1

theorem goodR_iff (r : Ring) : goodR r = true ↔ 0 ≤ r.head ∧ r.head < 24 ∧ 0 ≤ r.used ∧ r.used ≤ 24 := by simp [goodR]
theorem goodR_not (r : Ring) : goodR r = false ↔ ¬ (0 ≤ r.head ∧ r.head < 24 ∧ 0 ≤ r.used ∧ r.used ≤ 24) := by simp [goodR]
theorem places_succ (h : Int) (k : Nat) : places h (k + 1) = places h k ++ [(h + k) % 24] := by simp [places, List.range_succ]
theorem places_len (h : Int) (k : Nat) : (places h k).length = k := by simp [places]
theorem takeL_len (r : Ring) (n : Int) : (takeL r n).length ≤ 24 := by
  unfold takeL
  split
  · rename_i hh
    rw [places_len]
    unfold takeE at hh
    split at hh
    · cases hh
    · split at hh
      · cases hh
      · rename_i h1 h2
        simp at h1
        obtain ⟨h3, h4⟩ := h1
        have := (goodR_iff r).1 h3
        omega
  · simp
theorem places_get (h : Int) (k i : Nat) (hi : i < k) : (places h k)[i]? = some ((h + i) % 24) := by simp [places, hi]

end Wb
