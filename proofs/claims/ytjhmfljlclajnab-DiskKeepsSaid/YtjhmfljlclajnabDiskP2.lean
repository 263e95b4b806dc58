/- Flush and Crash as plain lists. No program in sight. -/
import Derived.Test.YtjhmfljlclajnabDskP
namespace Wb
open Go Go.RowKit
/-- The safe texts with the first k writes laid over. -/
def flushL (s : List ByteArray) (ws : List Wr) : List ByteArray := ws.foldl (fun s x => s.set x.at_.toNat x.text) s
theorem flushL_step (s : List ByteArray) (ws : List Wr) {k : Nat} (hk : k < ws.length) : flushL s (ws.take (k + 1)) = (flushL s (ws.take k)).set ws[k].at_.toNat ws[k].text := by
  unfold flushL; rw [List.take_succ_eq_append_getElem hk, List.foldl_append]; rfl
theorem flushL_len (s : List ByteArray) (ws : List Wr) : (flushL s ws).length = s.length := by
  unfold flushL
  induction ws generalizing s with
  | nil => rfl
  | cons x ws ih => rw [List.foldl_cons, ih]; simp
/-- What stands at each place behind a flush: the last text. -/
theorem flushL_get (s : List ByteArray) (ws : List Wr) (hw : ws.all wrOk = true) (n : Nat) (hn : n < s.length) : (flushL s ws)[n]? = some (lastT s[n] n ws) := by
  induction ws generalizing s with
  | nil => simp [flushL, lastT, hn]
  | cons x ws ih =>
    rw [List.all_cons, Bool.and_eq_true] at hw
    have h0 : 0 ≤ x.at_ := by
      have := hw.1
      simp only [wrOk, Bool.and_eq_true, isAt, decide_eq_true_eq] at this
      exact this.1.1
    have hx := ih (s.set x.at_.toNat x.text) hw.2 (by simpa using hn)
    simp only [flushL, lastT, List.foldl_cons] at hx ⊢
    rw [hx, List.getElem_set]
    by_cases h : x.at_ = n
    · rw [if_pos h, if_pos (by omega)]
    · rw [if_neg h, if_neg (by omega)]
def flushD (d : Dsk) : Dsk := if goodD d = true then ⟨flushL d.safe d.writes, []⟩ else d
def flushE (d : Dsk) : Int := if goodD d = true then 0 else 2
/-- The reference's flush: place by place. -/
theorem flush_ref (s : List ByteArray) (ws : List Wr) (hw : ws.all wrOk = true) : s.mapIdx (fun n x => lastT x n ws) = flushL s ws := by
  refine List.ext_getElem? fun n => ?_
  by_cases hn : n < s.length
  · rw [flushL_get s ws hw n hn]; simp [hn]
  · rw [List.getElem?_eq_none (by simpa using hn), List.getElem?_eq_none (by rw [flushL_len]; omega)]
theorem mapIdx_take {α β : Type} (f : Nat → α → β) (l : List α) {k : Nat} (hk : k < l.length) : (l.mapIdx f).take (k + 1) = (l.mapIdx f).take k ++ [f k l[k]] := by
  rw [List.take_succ_eq_append_getElem (by simpa using hk)]; simp
theorem putE_zero {d : Dsk} {n : Int} {t : ByteArray} (h : putE d n t = 0) : goodD d = true ∧ isAt n = true ∧ t.size = 32 ∧ ¬ 200 ≤ d.writes.length := by
  unfold putE at h
  by_cases h1 : goodD d = true ∧ isAt n = true
  · rw [if_neg (not_not_intro h1)] at h
    by_cases h2 : t.size = 32
    · rw [if_neg (not_not_intro h2)] at h
      by_cases h3 : 200 ≤ d.writes.length
      · rw [if_pos h3] at h; simp at h
      · exact ⟨h1.1, h1.2, h2, h3⟩
    · rw [if_pos h2] at h; simp at h
  · rw [if_pos h1] at h; simp at h
theorem putE_one {d : Dsk} {n : Int} {t : ByteArray} (hg : goodD d = true) (ha : isAt n = true) (h32 : t.size = 32) (h200 : ¬ 200 ≤ d.writes.length) : putE d n t = 0 := by
  unfold putE; rw [if_neg (not_not_intro ⟨hg, ha⟩), if_neg (not_not_intro h32), if_neg h200]
theorem putD_one {d : Dsk} {n : Int} {t : ByteArray} (h : putE d n t = 0) : putD d n t = ⟨d.safe, d.writes ++ [⟨n, t⟩]⟩ := by unfold putD; rw [if_pos h]
theorem putD_same {d : Dsk} {n : Int} {t : ByteArray} (h : putE d n t ≠ 0) : putD d n t = d := by unfold putD; rw [if_neg h]
/-- Behind a write that was taken the disk is good, and the text is read there. -/
theorem put_good {d : Dsk} {n : Int} {t : ByteArray} (h : putE d n t = 0) : goodD (putD d n t) = true := by
  obtain ⟨hg, ha, h32, h200⟩ := putE_zero h
  rw [putD_one h]
  obtain ⟨g1, g2, g3, g4⟩ := (goodD_iff d).1 hg
  refine (goodD_iff _).2 ⟨g1, by simp; omega, g3, ?_⟩
  simp only [List.all_append, g4, List.all_cons, List.all_nil, wrOk, ha, ok32, h32]
  decide
theorem put_read {d : Dsk} {n : Int} {t : ByteArray} (h : putE d n t = 0) : readD (putD d n t) n = t := by
  obtain ⟨hg, ha, h32, h200⟩ := putE_zero h
  unfold readD
  rw [if_pos ⟨put_good h, ha⟩, putD_one h, lastT_step, if_pos rfl]
theorem put_readE {d : Dsk} {n : Int} {t : ByteArray} (h : putE d n t = 0) (m : Int) : readE (putD d n t) m = readE d m := by
  obtain ⟨hg, ha, h32, h200⟩ := putE_zero h
  unfold readE; simp only [put_good h, hg]
theorem put_other {d : Dsk} {n m : Int} {t : ByteArray} (h : putE d n t = 0) (hm : m ≠ n) : readD (putD d n t) m = readD d m := by
  obtain ⟨hg, ha, h32, h200⟩ := putE_zero h
  have hp := put_good h
  unfold readD
  rw [hp, hg, putD_one h]
  simp only [lastT_step, safeAt]
  rw [if_neg (fun hh : n = m => hm hh.symm)]
end Wb
