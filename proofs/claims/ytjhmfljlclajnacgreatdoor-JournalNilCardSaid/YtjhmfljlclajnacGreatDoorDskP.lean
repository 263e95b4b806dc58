/- Disks. No program in sight. -/
import Derived.Test.YtjhmfljlclajnacGreatDoorBytes
namespace Wb
open Go Go.RowKit
structure Wr where
  at_ : Int
  text : ByteArray
structure Dsk where
  safe : List ByteArray
  writes : List Wr
instance : Inhabited Wr := ⟨⟨0, ⟨#[]⟩⟩⟩
instance : Inhabited ByteArray := ⟨⟨#[]⟩⟩
def wrC (x : Wr) : List Value := [.int .i64 x.at_, .string x.text]
theorem wrC_flat : Flat wrC 2 := ⟨fun _ => rfl, fun _ u hu => by simp [wrC] at hu; rcases hu with rfl | rfl <;> rfl, by decide⟩
def isAt (n : Int) : Bool := decide (0 ≤ n ∧ n < 37)
def ok32 (s : ByteArray) : Bool := decide (s.size = 32)
def wrOk (x : Wr) : Bool := isAt x.at_ && ok32 x.text
def goodD (d : Dsk) : Bool := decide (d.safe.length = 37) && decide (d.writes.length ≤ 200) && d.safe.all ok32 && d.writes.all wrOk
theorem goodD_iff (d : Dsk) : goodD d = true ↔ d.safe.length = 37 ∧ d.writes.length ≤ 200 ∧ d.safe.all ok32 = true ∧ d.writes.all wrOk = true := by
  unfold goodD; simp only [Bool.and_eq_true, decide_eq_true_iff, and_assoc]
/-- A disk by value, as it is read. -/
def RDisk (w : World) (v : Value) (d : Dsk) : Prop :=
  ∃ vs vw, v = .agg #[vs, vw] ∧ RL strC w vs d.safe ∧ RL wrC w vw d.writes ∧ d.safe.length ≤ 8796093022208 ∧ d.writes.length ≤ 5864062014805
theorem RDisk.below {w w' : World} {v : Value} {d : Dsk} (h : RDisk w v d) (hb : Below w.heap.size w w') : RDisk w' v d := by
  obtain ⟨vs, vw, hv, h1, h2, h3⟩ := h
  exact ⟨vs, vw, hv, h1.below hb, h2.below hb, h3⟩
/-- What IndexFunc says of a list of which all is well, or not. -/
def idxIs (b : Bool) (r : Int) : Prop := if b = true then r = -1 else 0 ≤ r
/-! ### All of a list, so far -/
theorem all_step {α : Type} {p : α → Bool} {l : List α} {k : Nat} (hk : k < l.length) (h : (l.take k).all p = true) (hp : p l[k] = true) : (l.take (k + 1)).all p = true := by
  rw [List.take_succ_eq_append_getElem hk, List.all_append, h]
  simp [hp]
theorem all_no {α : Type} {p : α → Bool} {l : List α} {k : Nat} (hk : k < l.length) (hp : p l[k] = false) : l.all p = false := by
  rw [← Bool.not_eq_true, List.all_eq_true]
  intro h
  rw [h _ (List.getElem_mem hk)] at hp
  exact Bool.noConfusion hp
theorem all_full {α : Type} {p : α → Bool} {l : List α} {k : Nat} (hk : k ≤ l.length) (hn : ¬ k < l.length) (h : (l.take k).all p = true) : l.all p = true := by
  rw [List.take_of_length_le (by omega)] at h; exact h
/-! ### Reading -/
/-- The last text that is written at a place. -/
def lastT (s : ByteArray) (n : Int) (ws : List Wr) : ByteArray := ws.foldl (fun r x => if x.at_ = n then x.text else r) s
theorem lastT_nil (s : ByteArray) (n : Int) : lastT s n [] = s := rfl
theorem lastT_step (s : ByteArray) (n : Int) (ws : List Wr) (x : Wr) : lastT s n (ws ++ [x]) = if x.at_ = n then x.text else lastT s n ws := by simp [lastT]
theorem lastT_hit (s : ByteArray) (n : Int) {ws : List Wr} {k : Nat} (hk : k < ws.length) (h : ws[k].at_ = n) : lastT s n (ws.take (k + 1)) = ws[k].text := by
  rw [List.take_succ_eq_append_getElem hk, lastT_step, if_pos h]
theorem lastT_miss (s : ByteArray) (n : Int) {ws : List Wr} {k : Nat} (hk : k < ws.length) (h : ws[k].at_ ≠ n) : lastT s n (ws.take (k + 1)) = lastT s n (ws.take k) := by
  rw [List.take_succ_eq_append_getElem hk, lastT_step, if_neg h]
def safeAt (d : Dsk) (n : Int) : ByteArray := d.safe.getD n.toNat ⟨#[]⟩
def readD (d : Dsk) (n : Int) : ByteArray := if goodD d = true ∧ isAt n = true then lastT (safeAt d n) n d.writes else ⟨#[]⟩
def readE (d : Dsk) (n : Int) : Int := if goodD d = true ∧ isAt n = true then 0 else 2
/-- All texts that a block has had since it was safe, that one first. -/
def afterL (s : ByteArray) (n : Int) (ws : List Wr) : List ByteArray := s :: (ws.filter (fun x => decide (x.at_ = n))).map (·.text)
theorem afterL_nil (s : ByteArray) (n : Int) : afterL s n [] = [s] := rfl
theorem afterL_step (s : ByteArray) (n : Int) (ws : List Wr) (x : Wr) : afterL s n (ws ++ [x]) = if x.at_ = n then afterL s n ws ++ [x.text] else afterL s n ws := by
  by_cases h : x.at_ = n <;> simp [afterL, h]
theorem afterL_len (s : ByteArray) (n : Int) (ws : List Wr) : (afterL s n ws).length ≤ ws.length + 1 := by
  simp only [afterL, List.length_cons, List.length_map]
  have := List.length_filter_le (fun x : Wr => decide (x.at_ = n)) ws
  omega
theorem afterL_hit (s : ByteArray) (n : Int) {ws : List Wr} {k : Nat} (hk : k < ws.length) (h : ws[k].at_ = n) : afterL s n (ws.take (k + 1)) = afterL s n (ws.take k) ++ [ws[k].text] := by
  rw [List.take_succ_eq_append_getElem hk, afterL_step, if_pos h]
theorem afterL_miss (s : ByteArray) (n : Int) {ws : List Wr} {k : Nat} (hk : k < ws.length) (h : ws[k].at_ ≠ n) : afterL s n (ws.take (k + 1)) = afterL s n (ws.take k) := by
  rw [List.take_succ_eq_append_getElem hk, afterL_step, if_neg h]
theorem afterL_ne (s : ByteArray) (n : Int) (ws : List Wr) : afterL s n ws ≠ [] := by simp [afterL]
theorem after_last (s : ByteArray) (n : Int) (ws : List Wr) : (afterL s n ws).getLast? = some (lastT s n ws) := by
  have key : ∀ k, k ≤ ws.length → (afterL s n (ws.take k)).getLast? = some (lastT s n (ws.take k)) := by
    intro k
    induction k with
    | zero => intro _; rfl
    | succ k ih =>
      intro hk
      by_cases h : ws[k].at_ = n
      · rw [afterL_hit s n hk h, lastT_hit s n hk h]; simp
      · rw [afterL_miss s n hk h, lastT_miss s n hk h]; exact ih (by omega)
  have := key ws.length (Nat.le_refl _)
  rwa [List.take_length] at this
/-! ### Writing -/
def putE (d : Dsk) (n : Int) (t : ByteArray) : Int := if ¬ (goodD d = true ∧ isAt n = true) then 2 else if t.size ≠ 32 then 1 else if 200 ≤ d.writes.length then 11 else 0
def putD (d : Dsk) (n : Int) (t : ByteArray) : Dsk := if putE d n t = 0 then ⟨d.safe, d.writes ++ [⟨n, t⟩]⟩ else d
end Wb
