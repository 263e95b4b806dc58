/- Part of the proof: DecP. -/
import Derived.Test.YtjhmfljlclajnacDoorUPure2
set_option linter.unusedVariables false
set_option linter.unusedSimpArgs false
namespace Wb
open Go Go.RowKit
def bt (s : ByteArray) (i : Nat) : UInt8 := s.data.toList.getD i 0
theorem bt_get (s : ByteArray) (i : Nat) (h : i < s.size) : s[i] = bt s i := by
 have h' : i < s.data.toList.length := by simpa using h
 simp [bt, List.getD_eq_getElem?_getD, List.getElem?_eq_getElem h']
 rfl
def nb (s : ByteArray) (i : Nat) : Int := ((bt s i).toNat : Int)
theorem nb_nonneg (s : ByteArray) (i : Nat) : 0 ≤ nb s i := Int.natCast_nonneg _
theorem nb_lt (s : ByteArray) (i : Nat) : nb s i < 256 := by have := (bt s i).toNat_lt; unfold nb; omega
def seqOf (s : ByteArray) : Int := nb s 5 * 16777216 + nb s 6 * 65536 + nb s 7 * 256 + nb s 8
def tagAt (s : ByteArray) (i : Nat) : Tag := ⟨nb s (10 + 2 * i), decide (nb s (11 + 2 * i) = 1)⟩
def rawTags (s : ByteArray) (n : Nat) : List Tag := (List.range n).map (tagAt s)
def rawBlks (s : ByteArray) (n : Nat) : List Int := (List.range n).map (fun i => nb s (10 + i))
theorem rawTags_succ (s : ByteArray) (n : Nat) : rawTags s (n + 1) = rawTags s n ++ [tagAt s n] := by simp [rawTags, List.range_succ]
theorem rawBlks_succ (s : ByteArray) (n : Nat) : rawBlks s (n + 1) = rawBlks s n ++ [nb s (10 + n)] := by simp [rawBlks, List.range_succ]
theorem rawTags_len (s : ByteArray) (n : Nat) : (rawTags s n).length = n := by simp [rawTags]
theorem rawBlks_len (s : ByteArray) (n : Nat) : (rawBlks s n).length = n := by simp [rawBlks]
def cnt (s : ByteArray) : Nat := (bt s 9).toNat
def rawM (s : ByteArray) : Mrk :=
 ⟨nb s 4, seqOf s, if nb s 4 = 1 then nb s 9 else 0, if nb s 4 = 2 then rawTags s (min (cnt s) 11) else [], if nb s 4 = 3 then rawBlks s (min (cnt s) 22) else []⟩
def okS (s : ByteArray) : Prop := s.size = 32 ∧ s.data.toList.take 4 = magic
instance (s : ByteArray) : Decidable (okS s) := by unfold okS; infer_instance
def decOk (s : ByteArray) : Prop := okS s ∧ markE (rawM s) = 0 ∧ str (markL (rawM s)) = s
instance (s : ByteArray) : Decidable (decOk s) := by unfold decOk; infer_instance
def zeroM : Mrk := ⟨0, 0, 0, [], []⟩
def decM (s : ByteArray) : Mrk := if decOk s then rawM s else zeroM
def decE (s : ByteArray) : Int := if decOk s then 0 else 1
theorem fitL_getD (l : List UInt8) (i : Nat) (h : i < 32) : (fitL l).getD i 0 = l.getD i 0 := by
 unfold fitL
 simp only [List.getD_eq_getElem?_getD]
 by_cases hl : i < l.length
 ·rw [List.getElem?_append_left (by rw [List.length_take]; omega), List.getElem?_take, if_pos h]
 ·rw [List.getElem?_append_right (by rw [List.length_take]; omega), List.getElem?_replicate, List.getElem?_eq_none (by omega)]
  split <;> rfl
theorem bt_str (l : List UInt8) (i : Nat) : bt (str l) i = l.getD i 0 := by simp [bt, str]
theorem enc_iff (m : Mrk) (s : ByteArray) : str (markL m) = s ↔ s.size = 32 ∧ ∀ i, i < 32 → bt s i = (headL m ++ bodyL m).getD i 0 := by
 constructor
 ·rintro rfl
  refine ⟨by rw [str_size, markL_len], fun i hi => ?_⟩
  rw [bt_str, markL, fitL_getD _ _ hi]
 ·rintro ⟨h1, h2⟩
  have hl : s.data.toList.length = 32 := by simpa using h1
  have : s.data.toList = markL m := by
   refine List.ext_getElem (by rw [hl, markL_len]) fun i h3 h4 => ?_
   have h5 := h2 i (by omega)
   rw [← fitL_getD _ _ (by omega : i < 32)] at h5
   simp only [bt, List.getD_eq_getElem?_getD, List.getElem?_eq_getElem h3] at h5
   unfold markL
   unfold markL at h4
   rw [List.getElem?_eq_getElem h4] at h5
   simpa using h5
  rw [← this, str_toList]
theorem head_len (m : Mrk) : (headL m).length = 9 := rfl
theorem head_body (m : Mrk) (j : Nat) : (headL m ++ bodyL m).getD (9 + j) 0 = (bodyL m).getD j 0 := by
 simp only [List.getD_eq_getElem?_getD]
 rw [List.getElem?_append_right (by rw [head_len]; omega), head_len, Nat.add_sub_cancel_left]
theorem head_head (m : Mrk) (j : Nat) (h : j < 9) : (headL m ++ bodyL m).getD j 0 = (headL m).getD j 0 := by
 simp only [List.getD_eq_getElem?_getD]
 rw [List.getElem?_append_left (by rw [head_len]; omega)]
theorem tagB_getD (tags : List Tag) : ∀ i, (tags.flatMap tagB).getD (2 * i) 0 = (match tags[i]? with | some t => byte t.block | none => 0) ∧ (tags.flatMap tagB).getD (2 * i + 1) 0 = (match tags[i]? with | some t => if t.esc then 1 else 0 | none => 0) := by
 induction tags with
 | nil => intro i; simp
 | cons t ts ih =>
  intro i
  cases i with
  | zero => simp [tagB]
  | succ i =>
   have := ih i
   simp only [List.flatMap_cons, List.getElem?_cons_succ]
   rw [show 2 * (i + 1) = (2 * i) + 2 by omega, show 2 * i + 2 + 1 = (2 * i + 1) + 2 by omega]
   simpa [tagB] using this
end Wb
