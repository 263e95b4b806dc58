/- Part of the proof: Pure. -/
import Derived.Test.YtjhmfljlclajnacDoorUBase
set_option linter.unusedVariables false
set_option linter.unusedSimpArgs false
namespace Wb
open Go Go.RowKit
structure Ring where
 head : Int
 used : Int
def Ring.val (r : Ring) : Value := .agg #[.int .i64 r.head, .int .i64 r.used]
def goodR (r : Ring) : Bool := decide (0 ≤ r.head ∧ r.head < 24 ∧ 0 ≤ r.used ∧ r.used ≤ 24)
def places (h : Int) (k : Nat) : List Int := (List.range k).map fun (i : Nat) => (h + (i : Int)) % 24
def takeE (r : Ring) (n : Int) : Int := if goodR r = false ∨ n < 0 then 2 else if n > 24 - r.used then 6 else 0
def takeR (r : Ring) (n : Int) : Ring := if takeE r n = 0 then ⟨(r.head + n) % 24, r.used + n⟩ else r
def takeL (r : Ring) (n : Int) : List Int := if takeE r n = 0 then places r.head n.toNat else []
def partsOf (n each : Int) : Int := (n + each - 1) / each
def needE (m r : Int) : Int := if m < 0 ∨ m > 12 ∨ r < 0 ∨ r > 12 then 2 else 0
def needN (m r : Int) : Int := if needE m r = 0 then partsOf r 20 + partsOf m 10 + m + 1 else 0
def clamp24 (n : Int) : Int := max 0 (min n 24)
def mostN (n : Int) : Int := clamp24 n + partsOf (clamp24 n) 10 + partsOf (clamp24 n) 20 + 1
theorem goodR_iff (r : Ring) : goodR r = true ↔ 0 ≤ r.head ∧ r.head < 24 ∧ 0 ≤ r.used ∧ r.used ≤ 24 := by simp [goodR]
theorem goodR_not (r : Ring) : goodR r = false ↔ ¬ (0 ≤ r.head ∧ r.head < 24 ∧ 0 ≤ r.used ∧ r.used ≤ 24) := by simp [goodR]
theorem places_succ (h : Int) (k : Nat) : places h (k + 1) = places h k ++ [(h + k) % 24] := by simp [places, List.range_succ]
theorem places_len (h : Int) (k : Nat) : (places h k).length = k := by simp [places]
theorem takeL_len (r : Ring) (n : Int) : (takeL r n).length ≤ 24 := by
 unfold takeL
 split
 ·rename_i hh
  rw [places_len]
  unfold takeE at hh
  split at hh
  ·cases hh
  ·split at hh
   ·cases hh
   ·rename_i h1 h2
    simp at h1
    obtain ⟨h3, h4⟩ := h1
    have := (goodR_iff r).1 h3
    omega
 ·simp
theorem places_get (h : Int) (k i : Nat) (hi : i < k) : (places h k)[i]? = some ((h + i) % 24) := by simp [places, hi]
structure Tag where
 block : Int
 esc : Bool
structure Mrk where
 kind : Int
 seq : Int
 at_ : Int
 tags : List Tag
 blocks : List Int
def tagC (t : Tag) : List Value := [.int .i64 t.block, .bool t.esc]
theorem tagC_flat : Flat tagC 2 := ⟨fun _ => rfl, fun _ u hu => by simp [tagC] at hu; rcases hu with rfl | rfl <;> rfl, by decide⟩
def isBlk (b : Int) : Bool := decide (0 ≤ b ∧ b < 12)
def riseAt (l : List Int) (k : Nat) : Prop := 0 ≤ l.getD k 0 ∧ l.getD k 0 < 12 ∧ (0 < k → l.getD (k - 1) 0 < l.getD k 0)
instance (l : List Int) (k : Nat) : Decidable (riseAt l k) := by unfold riseAt; infer_instance
def riseTo (l : List Int) (n : Nat) : Prop := ∀ k, k < n → riseAt l k
def rise (l : List Int) : Bool := decide (∀ k, k < l.length → riseAt l k)
theorem rise_iff (l : List Int) : rise l = true ↔ riseTo l l.length := by simp [rise, riseTo]
theorem rise_no {l : List Int} {k : Nat} (hk : k < l.length) (h : ¬ riseAt l k) : rise l = false := by
 simp only [rise, decide_eq_false_iff_not]
 exact fun hh => h (hh k hk)
theorem riseTo_succ {l : List Int} {k : Nat} (h : riseTo l k) (h2 : riseAt l k) : riseTo l (k + 1) := by
 intro j hj
 by_cases e : j = k
 ·subst e; exact h2
 ·exact h j (by omega)
def badKind (m : Mrk) : Prop := m.kind < 1 ∨ m.kind > 4
def badNum (m : Mrk) : Prop := m.seq < 1 ∨ m.seq > 2147483647 ∨ m.at_ < 0 ∨ m.at_ > 23
def badForm (m : Mrk) : Prop := m.kind ≠ 1 ∧ m.at_ ≠ 0 ∨ m.kind ≠ 2 ∧ m.tags.length ≠ 0 ∨ m.kind ≠ 3 ∧ m.blocks.length ≠ 0
def badLen (m : Mrk) : Prop := m.tags.length > 10 ∨ m.blocks.length > 20 ∨ m.kind = 2 ∧ m.tags.length = 0 ∨ m.kind = 3 ∧ m.blocks.length = 0
def badRise (m : Mrk) : Prop := rise (m.tags.map (·.block)) = false ∨ rise m.blocks = false
instance (m : Mrk) : Decidable (badKind m) := by unfold badKind; infer_instance
instance (m : Mrk) : Decidable (badNum m) := by unfold badNum; infer_instance
instance (m : Mrk) : Decidable (badForm m) := by unfold badForm; infer_instance
instance (m : Mrk) : Decidable (badLen m) := by unfold badLen; infer_instance
instance (m : Mrk) : Decidable (badRise m) := by unfold badRise; infer_instance
def markE (m : Mrk) : Int := if badKind m then 3 else if badNum m then 2 else if badForm m then 1 else if badLen m ∨ badRise m then 2 else 0
theorem markE_kind {m : Mrk} (h : badKind m) : markE m = 3 := by unfold markE; rw [if_pos h]
theorem markE_num {m : Mrk} (h1 : ¬ badKind m) (h : badNum m) : markE m = 2 := by unfold markE; rw [if_neg h1, if_pos h]
theorem markE_form {m : Mrk} (h1 : ¬ badKind m) (h2 : ¬ badNum m) (h : badForm m) : markE m = 1 := by unfold markE; rw [if_neg h1, if_neg h2, if_pos h]
theorem markE_len {m : Mrk} (h1 : ¬ badKind m) (h2 : ¬ badNum m) (h3 : ¬ badForm m) (h : badLen m) : markE m = 2 := by unfold markE; rw [if_neg h1, if_neg h2, if_neg h3, if_pos (.inl h)]
theorem markE_rise {m : Mrk} (h1 : ¬ badKind m) (h2 : ¬ badNum m) (h3 : ¬ badForm m) (h : badRise m) : markE m = 2 := by unfold markE; rw [if_neg h1, if_neg h2, if_neg h3, if_pos (.inr h)]
theorem markE_ok {m : Mrk} (h1 : ¬ badKind m) (h2 : ¬ badNum m) (h3 : ¬ badForm m) (h4 : ¬ badLen m) (h5 : ¬ badRise m) : markE m = 0 := by unfold markE; rw [if_neg h1, if_neg h2, if_neg h3, if_neg (by simp [h4, h5])]
def RMark (w : World) (v : Value) (m : Mrk) : Prop :=
 ∃ vt vb, v = .agg #[.int .i64 m.kind, .int .i64 m.seq, .int .i64 m.at_, vt, vb] ∧ RL tagC w vt m.tags ∧ RL intC w vb m.blocks ∧ m.tags.length ≤ 8796093022208 ∧ m.blocks.length ≤ 17592186044416
theorem RMark.below {w w' : World} {v : Value} {m : Mrk} (h : RMark w v m) (hb : Below w.heap.size w w') : RMark w' v m := by
 obtain ⟨vt, vb, hv, h1, h2, h3⟩ := h
 exact ⟨vt, vb, hv, h1.below hb, h2.below hb, h3⟩
end Wb
