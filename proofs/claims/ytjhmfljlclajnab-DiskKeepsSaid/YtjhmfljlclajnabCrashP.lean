/- What a crash leaves, as plain lists. No program in sight. -/
import Derived.Test.YtjhmfljlclajnabDiskP2
namespace Wb
open Go Go.RowKit
/-- All texts of place k. -/
def textsAt (d : Dsk) (k : Nat) : List ByteArray := afterL (d.safe.getD k ⟨#[]⟩) k d.writes
/-- What is left of the draw at place k. -/
def drawAt (d : Dsk) (x : Nat) : Nat → Nat
  | 0 => x
  | k + 1 => drawAt d x k / (textsAt d k).length
def crashAt (d : Dsk) (x k : Nat) : ByteArray := (textsAt d k).getD (drawAt d x k % (textsAt d k).length) ⟨#[]⟩
def crashL (d : Dsk) (x k : Nat) : List ByteArray := (List.range k).map (crashAt d x)
def mixL (d : Dsk) (x k : Nat) : List ByteArray := crashL d x k ++ d.safe.drop k
def crashE (d : Dsk) (draw : Int) : Int := if goodD d = true ∧ 0 ≤ draw then 0 else 2
def crashD (d : Dsk) (draw : Int) : Dsk := if goodD d = true ∧ 0 ≤ draw then ⟨crashL d draw.toNat d.safe.length, []⟩ else d
theorem textsAt_eq (d : Dsk) {k : Nat} (hk : k < d.safe.length) : textsAt d k = afterL d.safe[k] k d.writes := by
  unfold textsAt; rw [List.getD_eq_getElem?_getD, List.getElem?_eq_getElem hk]; rfl
theorem textsAt_pos (d : Dsk) (k : Nat) : 0 < (textsAt d k).length := by simp [textsAt, afterL]
theorem textsAt_le (d : Dsk) (k : Nat) : (textsAt d k).length ≤ d.writes.length + 1 := afterL_len _ _ _
theorem drawAt_le (d : Dsk) (x k : Nat) : drawAt d x k ≤ x := by
  induction k with
  | zero => exact Nat.le_refl _
  | succ k ih => exact Nat.le_trans (Nat.div_le_self _ _) ih
theorem drawAt_succ (d : Dsk) (x k : Nat) : drawAt d x (k + 1) = drawAt d x k / (textsAt d k).length := rfl
theorem crashL_len (d : Dsk) (x k : Nat) : (crashL d x k).length = k := by simp [crashL]
theorem crashL_succ (d : Dsk) (x k : Nat) : crashL d x (k + 1) = crashL d x k ++ [crashAt d x k] := by simp [crashL, List.range_succ]
theorem mixL_zero (d : Dsk) (x : Nat) : mixL d x 0 = d.safe := by simp [mixL, crashL]
theorem mixL_len (d : Dsk) (x : Nat) {k : Nat} (hk : k ≤ d.safe.length) : (mixL d x k).length = d.safe.length := by simp [mixL, crashL]; omega
theorem mixL_full (d : Dsk) (x : Nat) : mixL d x d.safe.length = crashL d x d.safe.length := by simp [mixL]
theorem mixL_set (d : Dsk) (x : Nat) {k : Nat} (hk : k < d.safe.length) : (mixL d x k).set k (crashAt d x k) = mixL d x (k + 1) := by
  unfold mixL
  rw [List.set_append_right _ _ (by rw [crashL_len]; exact Nat.le_refl _), crashL_len, Nat.sub_self, List.drop_eq_getElem_cons hk, List.set_cons_zero, crashL_succ, List.append_assoc]
  rfl
theorem crashAt_mem (d : Dsk) (x k : Nat) : crashAt d x k ∈ textsAt d k := by
  unfold crashAt
  rw [List.getD_eq_getElem?_getD, List.getElem?_eq_getElem (Nat.mod_lt _ (textsAt_pos d k))]
  exact List.getElem_mem _
theorem crashAt_get (d : Dsk) (x k : Nat) (h : drawAt d x k % (textsAt d k).length < (textsAt d k).length) : (textsAt d k)[drawAt d x k % (textsAt d k).length] = crashAt d x k := by
  unfold crashAt
  rw [List.getD_eq_getElem?_getD, List.getElem?_eq_getElem h]; rfl
/-- Every text of a good disk has 32 bytes. -/
theorem texts_ok {d : Dsk} (hg : goodD d = true) {k : Nat} (hk : k < d.safe.length) : ∀ t ∈ textsAt d k, ok32 t = true := by
  obtain ⟨g1, g2, g3, g4⟩ := (goodD_iff d).1 hg
  intro t ht
  rw [textsAt_eq d hk, afterL] at ht
  rcases List.mem_cons.1 ht with rfl | ht
  · exact List.all_eq_true.1 g3 _ (List.getElem_mem hk)
  · obtain ⟨x, hx, rfl⟩ := List.mem_map.1 ht
    have := List.all_eq_true.1 g4 x (List.mem_filter.1 hx).1
    simp only [wrOk, Bool.and_eq_true] at this
    exact this.2
theorem crash_good {d : Dsk} {draw : Int} (h : crashE d draw = 0) : goodD (crashD d draw) = true := by
  have hc : goodD d = true ∧ 0 ≤ draw := by
    unfold crashE at h
    by_cases hh : goodD d = true ∧ 0 ≤ draw
    · exact hh
    · rw [if_neg hh] at h; cases h
  unfold crashD
  rw [if_pos hc]
  obtain ⟨g1, g2, g3, g4⟩ := (goodD_iff d).1 hc.1
  refine (goodD_iff _).2 ⟨by simpa [crashL] using g1, by simp, ?_, rfl⟩
  rw [List.all_eq_true]
  intro t ht
  obtain ⟨k, hk, rfl⟩ := List.mem_map.1 ht
  exact texts_ok hc.1 (List.mem_range.1 hk) _ (crashAt_mem d _ k)
end Wb
