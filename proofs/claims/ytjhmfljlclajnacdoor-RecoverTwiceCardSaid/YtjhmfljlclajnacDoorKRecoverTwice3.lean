/- What is left of a log. No program in sight. More on what a log tells. No program in sight. Flush and Crash as plain lists. No program in sight. What a crash leaves, as plain lists. No program in sight. What Commit, Newest and Check compute, as plain lists; steps upon a disk. No program in sight. The walks of disk: at, Good. The walk of the reference's GoodDisk. The walks of the reference's after, ReadDisk. The walk of CopyDisk. The walk of slices.Clone of writes. The walks of SameDisk and sameDisk, of disks that are alike. What a function makes of a transaction's lists: each as it was, or in a row of its own. No program in sight. What a function makes of a disk's two lists: each as it was, or in a row of its own. No program in sight. The walk of disk.Put, its good way. The walk of disk.Put. A reading lies in no known block whose cells are of another kind; disks among what is read. No program in sight. The walk of disk.Flush. -/
import Derived.Test.YtjhmfljlclajnacDoorKRecoverTwice2
import Derived.Test.YtjhmfljlclajnacDoorKRecoverTwice0
import Derived.Test.YtjhmfljlclajnacDoorDecP2
import Derived.Test.YtjhmfljlclajnacDoorRows
import Derived.BigQuiet
import Derived.Deep.RegionWith
import Derived.Test.YtjhmfljlclajnacDoorRegApp
import Derived.Test.YtjhmfljlclajnacDoorRegCall
import Derived.Deep.RegionHeld3
import Derived.Deep.CutBlock
import Derived.Deep.DeepCutAuto
import Derived.Test.YtjhmfljlclajnacDoorKRecoverTwice1
import Derived.Test.YtjhmfljlclajnacDoorPoke
set_option linter.unusedVariables false
set_option linter.unusedSimpArgs false
namespace Wb
open Go Go.RowKit
/-- What is left of the log of a disk. -/
def sfx (d : Dsk) (A : Int) (r : List ByteArray) : Prop := r = (logL d A).drop (24 - r.length) ∧ r.length ≤ 24
theorem sfx_all (d : Dsk) (A : Int) : sfx d A (logL d A) := by
  unfold sfx
  rw [logL_len]
  exact ⟨rfl, Nat.le_refl _⟩
theorem sfx_cons {d : Dsk} {A : Int} {s : ByteArray} {r : List ByteArray} (h : sfx d A (s :: r)) : sfx d A r ∧ readD d (1 + (A + (24 - ((r.length + 1 : Nat) : Int))) % 24) = s ∧ r.length < 24 := by
  obtain ⟨h1, h2⟩ := h
  simp only [List.length_cons] at h1 h2
  have hlt : 24 - (r.length + 1) < (logL d A).length := by rw [logL_len]; omega
  rw [List.drop_eq_getElem_cons hlt] at h1
  simp only [List.cons.injEq] at h1
  refine ⟨⟨?_, by omega⟩, ?_, by omega⟩
  · have := h1.2
    rw [show 24 - (r.length + 1) + 1 = 24 - r.length by omega] at this
    exact this
  · rw [h1.1]
    simp only [logL, List.getElem_map, List.getElem_range]
    congr 3
    omega
/-- A mark that is read has few tags and blocks. -/
theorem dec_bds {s : ByteArray} (h : decE s = 0) : (decM s).tags.length ≤ 10 ∧ (decM s).blocks.length ≤ 20 ∧ 0 ≤ (decM s).at_ ∧ (decM s).at_ < 24 ∧ 1 ≤ (decM s).seq ∧ (decM s).seq ≤ 2147483647 := by
  have hd : decOk s := by
    by_cases hd : decOk s
    · exact hd
    · rw [(dec_no hd).2] at h; cases h
  obtain ⟨e1, _, e2, _⟩ := dec_yes hd
  rw [e1]
  generalize rawM s = m at *
  have k1 : ¬ badKind m := fun hh => by rw [markE_kind hh] at e2; cases e2
  have k2 : ¬ badNum m := fun hh => by rw [markE_num k1 hh] at e2; cases e2
  have k3 : ¬ badForm m := fun hh => by rw [markE_form k1 k2 hh] at e2; cases e2
  have k4 : ¬ badLen m := fun hh => by rw [markE_len k1 k2 k3 hh] at e2; cases e2
  unfold badNum at k2
  unfold badLen at k4
  omega
end Wb

namespace Wb
open Go Go.RowKit
theorem lastT_size (n : Int) : ∀ (ws : List Wr) (s : ByteArray), s.size ≤ 32 → ws.all wrOk = true → (lastT s n ws).size ≤ 32
  | [], s, h, _ => h
  | x :: ws, s, h, hw => by
    simp only [List.all_cons, Bool.and_eq_true] at hw
    have e : lastT s n (x :: ws) = lastT (if x.at_ = n then x.text else s) n ws := rfl
    rw [e]
    refine lastT_size n ws _ ?_ hw.2
    split
    · have := hw.1
      unfold wrOk at this
      simp only [Bool.and_eq_true] at this
      have : x.text.size = 32 := of_decide_eq_true this.2
      omega
    · exact h
theorem readD_size (d : Dsk) (n : Int) : (readD d n).size ≤ 32 := by
  unfold readD
  split
  · rename_i h
    obtain ⟨h1, h2, h3, h4⟩ := (goodD_iff d).1 h.1
    refine lastT_size n _ _ ?_ h4
    unfold safeAt
    rw [List.getD_eq_getElem?_getD]
    cases hk : d.safe[n.toNat]? with
    | none => exact Nat.zero_le _
    | some s =>
      have := List.all_eq_true.1 h3 s (List.mem_of_getElem? hk)
      have : s.size = 32 := of_decide_eq_true this
      simp only [Option.getD_some]
      omega
  · exact Nat.zero_le _
theorem logL_size (d : Dsk) (A : Int) : ∀ s ∈ logL d A, s.size ≤ 9223372036854775807 := by
  intro s hs
  unfold logL at hs
  obtain ⟨i, _, rfl⟩ := List.mem_map.1 hs
  have := readD_size d (1 + (A + (i : Int)) % 24)
  omega
theorem parseT_nil (seq : Int) (n : Nat) (t : Txn) : parseT seq n [] t = none := by cases n <;> rfl
theorem scanGo_fuel {n m : Nat} {r : List ByteArray} {x : Int} (hn : r.length < n) (hm : r.length < m) : scanGo n r x = scanGo m r x := by
  induction n generalizing m r x with
  | zero => omega
  | succ n ih =>
    cases m with
    | zero => omega
    | succ m =>
      unfold scanGo
      split
      · cases hp : parseT x 25 r (txn0 x) with
        | none => rfl
        | some p =>
          obtain ⟨t, r'⟩ := p
          have hl := parseT_len hp
          have e : scanGo n r' (x + 1) = scanGo m r' (x + 1) := ih (by omega) (by omega)
          show (t :: (scanGo n r' (x + 1)).1, (scanGo n r' (x + 1)).2) = (t :: (scanGo m r' (x + 1)).1, (scanGo m r' (x + 1)).2)
          rw [e]
      · rfl
theorem parseT_sfx {d : Dsk} {A : Int} {seq : Int} {n : Nat} {r r' : List ByteArray} {t t' : Txn} (h : parseT seq n r t = some (t', r')) (hs : sfx d A r) : sfx d A r' := by
  induction n generalizing r t with
  | zero => cases h
  | succ n ih =>
    cases r with
    | nil => cases h
    | cons s r =>
      obtain ⟨h1, _, _⟩ := sfx_cons hs
      have key : ∀ (gs : List Tag) (r1 r2 : List ByteArray) (m1 m2 : List Cpy), takeTags gs r1 m1 = some (m2, r2) → sfx d A r1 → sfx d A r2 := by
        intro gs
        induction gs with
        | nil =>
          intro r1 r2 m1 m2 hh h5
          simp only [takeTags, Option.some.injEq, Prod.mk.injEq] at hh
          rw [← hh.2]; exact h5
        | cons g gs ihg =>
          intro r1 r2 m1 m2 hh h5
          cases r1 with
          | nil => cases hh
          | cons s1 r1 => exact ihg _ _ _ _ hh (sfx_cons h5).1
      unfold parseT at h
      split at h
      · split at h
        · simp only [Option.some.injEq, Prod.mk.injEq] at h
          rw [← h.2]; exact h1
        · split at h
          · exact ih h h1
          · split at h
            · cases hm : takeTags (decM s).tags r t.mt with
              | none => rw [hm] at h; cases h
              | some p =>
                obtain ⟨mt, r2⟩ := p
                rw [hm] at h
                exact ih h (key _ _ _ _ _ hm h1)
            · cases h
      · cases h
theorem parseT_sub {seq : Int} {n : Nat} {r r' : List ByteArray} {t t' : Txn} (h : parseT seq n r t = some (t', r')) : ∀ s ∈ r', s ∈ r := by
  induction n generalizing r t with
  | zero => cases h
  | succ n ih =>
    cases r with
    | nil => cases h
    | cons s r =>
      have key : ∀ (gs : List Tag) (r1 r2 : List ByteArray) (m1 m2 : List Cpy), takeTags gs r1 m1 = some (m2, r2) → ∀ s ∈ r2, s ∈ r1 := by
        intro gs
        induction gs with
        | nil =>
          intro r1 r2 m1 m2 hh s hs
          simp only [takeTags, Option.some.injEq, Prod.mk.injEq] at hh
          rw [hh.2]; exact hs
        | cons g gs ihg =>
          intro r1 r2 m1 m2 hh s hs
          cases r1 with
          | nil => cases hh
          | cons s1 r1 => exact List.mem_cons_of_mem _ (ihg _ _ _ _ hh s hs)
      intro x hx
      unfold parseT at h
      split at h
      · split at h
        · simp only [Option.some.injEq, Prod.mk.injEq] at h
          rw [← h.2] at hx; exact List.mem_cons_of_mem _ hx
        · split at h
          · exact List.mem_cons_of_mem _ (ih h x hx)
          · split at h
            · cases hm : takeTags (decM s).tags r t.mt with
              | none => rw [hm] at h; cases h
              | some p =>
                obtain ⟨mt, r2⟩ := p
                rw [hm] at h
                exact List.mem_cons_of_mem _ (key _ _ _ _ _ hm x (ih h x hx))
            · cases h
      · cases h
theorem scanGo_step {r r' : List ByteArray} {x : Int} {t : Txn} (hx : x < 2147483647) (h : parseT x 25 r (txn0 x) = some (t, r')) :
    (scanGo (r.length + 1) r x).1 = t :: (scanGo (r'.length + 1) r' (x + 1)).1 ∧ (scanGo (r.length + 1) r x).2 = (scanGo (r'.length + 1) r' (x + 1)).2 := by
  have hl := parseT_len h
  have e : scanGo (r.length + 1) r x = (t :: (scanGo r.length r' (x + 1)).1, (scanGo r.length r' (x + 1)).2) := by
    show (if x < 2147483647 then _ else _) = _
    rw [if_pos hx, h]
  rw [e, scanGo_fuel (n := r.length) (m := r'.length + 1) (by omega) (by omega)]
  exact ⟨rfl, rfl⟩
theorem scanGo_stop {r : List ByteArray} {x : Int} (h : parseT x 25 r (txn0 x) = none) : scanGo (r.length + 1) r x = ([], x, r) := by
  show (if x < 2147483647 then _ else _) = _
  split
  · rw [h]
  · rfl
theorem scanGo_full {r : List ByteArray} {x : Int} (h : ¬ x < 2147483647) : scanGo (r.length + 1) r x = ([], x, r) := by
  show (if x < 2147483647 then _ else _) = _
  rw [if_neg h]
end Wb

namespace Wb
open Go Go.RowKit
/-- The safe texts with the first k writes laid over. -/
def flushL (s : List ByteArray) (ws : List Wr) : List ByteArray := ws.foldl (fun s x => s.set x.at_.toNat x.text) s
theorem flushL_step (s : List ByteArray) (ws : List Wr) {k : Nat} (hk : k < ws.length) : flushL s (ws.take (k + 1)) = (flushL s (ws.take k)).set ws[k].at_.toNat ws[k].text := by
  unfold flushL; rw [List.take_succ_eq_append_getElem hk, List.foldl_append]; rfl
theorem flushL_len (s : List ByteArray) (ws : List Wr) : (flushL s ws).length = s.length := by
  unfold flushL
  induction ws generalizing s with
  | nil => rfl
  | cons x ws ih => rw [List.foldl_cons, ih]; simp
/-- What stands at each place behind a flush: the last text. -/
theorem flushL_get (s : List ByteArray) (ws : List Wr) (hw : ws.all wrOk = true) (n : Nat) (hn : n < s.length) : (flushL s ws)[n]? = some (lastT s[n] n ws) := by
  induction ws generalizing s with
  | nil => simp [flushL, lastT, hn]
  | cons x ws ih =>
    rw [List.all_cons, Bool.and_eq_true] at hw
    have h0 : 0 ≤ x.at_ := by
      have := hw.1
      simp only [wrOk, Bool.and_eq_true, isAt, decide_eq_true_eq] at this
      exact this.1.1
    have hx := ih (s.set x.at_.toNat x.text) hw.2 (by simpa using hn)
    simp only [flushL, lastT, List.foldl_cons] at hx ⊢
    rw [hx, List.getElem_set]
    by_cases h : x.at_ = n
    · rw [if_pos h, if_pos (by omega)]
    · rw [if_neg h, if_neg (by omega)]
def flushD (d : Dsk) : Dsk := if goodD d = true then ⟨flushL d.safe d.writes, []⟩ else d
def flushE (d : Dsk) : Int := if goodD d = true then 0 else 2
/-- The reference's flush: place by place. -/
theorem flush_ref (s : List ByteArray) (ws : List Wr) (hw : ws.all wrOk = true) : s.mapIdx (fun n x => lastT x n ws) = flushL s ws := by
  refine List.ext_getElem? fun n => ?_
  by_cases hn : n < s.length
  · rw [flushL_get s ws hw n hn]; simp [hn]
  · rw [List.getElem?_eq_none (by simpa using hn), List.getElem?_eq_none (by rw [flushL_len]; omega)]
theorem mapIdx_take {α β : Type} (f : Nat → α → β) (l : List α) {k : Nat} (hk : k < l.length) : (l.mapIdx f).take (k + 1) = (l.mapIdx f).take k ++ [f k l[k]] := by
  rw [List.take_succ_eq_append_getElem (by simpa using hk)]; simp
theorem putE_zero {d : Dsk} {n : Int} {t : ByteArray} (h : putE d n t = 0) : goodD d = true ∧ isAt n = true ∧ t.size = 32 ∧ ¬ 200 ≤ d.writes.length := by
  unfold putE at h
  by_cases h1 : goodD d = true ∧ isAt n = true
  · rw [if_neg (not_not_intro h1)] at h
    by_cases h2 : t.size = 32
    · rw [if_neg (not_not_intro h2)] at h
      by_cases h3 : 200 ≤ d.writes.length
      · rw [if_pos h3] at h; simp at h
      · exact ⟨h1.1, h1.2, h2, h3⟩
    · rw [if_pos h2] at h; simp at h
  · rw [if_pos h1] at h; simp at h
theorem putE_one {d : Dsk} {n : Int} {t : ByteArray} (hg : goodD d = true) (ha : isAt n = true) (h32 : t.size = 32) (h200 : ¬ 200 ≤ d.writes.length) : putE d n t = 0 := by
  unfold putE; rw [if_neg (not_not_intro ⟨hg, ha⟩), if_neg (not_not_intro h32), if_neg h200]
theorem putD_one {d : Dsk} {n : Int} {t : ByteArray} (h : putE d n t = 0) : putD d n t = ⟨d.safe, d.writes ++ [⟨n, t⟩]⟩ := by unfold putD; rw [if_pos h]
theorem putD_same {d : Dsk} {n : Int} {t : ByteArray} (h : putE d n t ≠ 0) : putD d n t = d := by unfold putD; rw [if_neg h]
/-- Behind a write that was taken the disk is good, and the text is read there. -/
theorem put_good {d : Dsk} {n : Int} {t : ByteArray} (h : putE d n t = 0) : goodD (putD d n t) = true := by
  obtain ⟨hg, ha, h32, h200⟩ := putE_zero h
  rw [putD_one h]
  obtain ⟨g1, g2, g3, g4⟩ := (goodD_iff d).1 hg
  refine (goodD_iff _).2 ⟨g1, by simp; omega, g3, ?_⟩
  simp only [List.all_append, g4, List.all_cons, List.all_nil, wrOk, ha, ok32, h32]
  decide
theorem put_read {d : Dsk} {n : Int} {t : ByteArray} (h : putE d n t = 0) : readD (putD d n t) n = t := by
  obtain ⟨hg, ha, h32, h200⟩ := putE_zero h
  unfold readD
  rw [if_pos ⟨put_good h, ha⟩, putD_one h, lastT_step, if_pos rfl]
theorem put_readE {d : Dsk} {n : Int} {t : ByteArray} (h : putE d n t = 0) (m : Int) : readE (putD d n t) m = readE d m := by
  obtain ⟨hg, ha, h32, h200⟩ := putE_zero h
  unfold readE; simp only [put_good h, hg]
theorem put_other {d : Dsk} {n m : Int} {t : ByteArray} (h : putE d n t = 0) (hm : m ≠ n) : readD (putD d n t) m = readD d m := by
  obtain ⟨hg, ha, h32, h200⟩ := putE_zero h
  have hp := put_good h
  unfold readD
  rw [hp, hg, putD_one h]
  simp only [lastT_step, safeAt]
  rw [if_neg (fun hh : n = m => hm hh.symm)]
end Wb

namespace Wb
open Go Go.RowKit
/-- All texts of place k. -/
def textsAt (d : Dsk) (k : Nat) : List ByteArray := afterL (d.safe.getD k ⟨#[]⟩) k d.writes
/-- What is left of the draw at place k. -/
def drawAt (d : Dsk) (x : Nat) : Nat → Nat
  | 0 => x
  | k + 1 => drawAt d x k / (textsAt d k).length
def crashAt (d : Dsk) (x k : Nat) : ByteArray := (textsAt d k).getD (drawAt d x k % (textsAt d k).length) ⟨#[]⟩
def crashL (d : Dsk) (x k : Nat) : List ByteArray := (List.range k).map (crashAt d x)
def mixL (d : Dsk) (x k : Nat) : List ByteArray := crashL d x k ++ d.safe.drop k
def crashE (d : Dsk) (draw : Int) : Int := if goodD d = true ∧ 0 ≤ draw then 0 else 2
def crashD (d : Dsk) (draw : Int) : Dsk := if goodD d = true ∧ 0 ≤ draw then ⟨crashL d draw.toNat d.safe.length, []⟩ else d
theorem textsAt_eq (d : Dsk) {k : Nat} (hk : k < d.safe.length) : textsAt d k = afterL d.safe[k] k d.writes := by
  unfold textsAt; rw [List.getD_eq_getElem?_getD, List.getElem?_eq_getElem hk]; rfl
theorem textsAt_pos (d : Dsk) (k : Nat) : 0 < (textsAt d k).length := by simp [textsAt, afterL]
theorem textsAt_le (d : Dsk) (k : Nat) : (textsAt d k).length ≤ d.writes.length + 1 := afterL_len _ _ _
theorem drawAt_le (d : Dsk) (x k : Nat) : drawAt d x k ≤ x := by
  induction k with
  | zero => exact Nat.le_refl _
  | succ k ih => exact Nat.le_trans (Nat.div_le_self _ _) ih
theorem drawAt_succ (d : Dsk) (x k : Nat) : drawAt d x (k + 1) = drawAt d x k / (textsAt d k).length := rfl
theorem crashL_len (d : Dsk) (x k : Nat) : (crashL d x k).length = k := by simp [crashL]
theorem crashL_succ (d : Dsk) (x k : Nat) : crashL d x (k + 1) = crashL d x k ++ [crashAt d x k] := by simp [crashL, List.range_succ]
theorem mixL_zero (d : Dsk) (x : Nat) : mixL d x 0 = d.safe := by simp [mixL, crashL]
theorem mixL_len (d : Dsk) (x : Nat) {k : Nat} (hk : k ≤ d.safe.length) : (mixL d x k).length = d.safe.length := by simp [mixL, crashL]; omega
theorem mixL_full (d : Dsk) (x : Nat) : mixL d x d.safe.length = crashL d x d.safe.length := by simp [mixL]
theorem mixL_set (d : Dsk) (x : Nat) {k : Nat} (hk : k < d.safe.length) : (mixL d x k).set k (crashAt d x k) = mixL d x (k + 1) := by
  unfold mixL
  rw [List.set_append_right _ _ (by rw [crashL_len]; exact Nat.le_refl _), crashL_len, Nat.sub_self, List.drop_eq_getElem_cons hk, List.set_cons_zero, crashL_succ, List.append_assoc]
  rfl
theorem crashAt_mem (d : Dsk) (x k : Nat) : crashAt d x k ∈ textsAt d k := by
  unfold crashAt
  rw [List.getD_eq_getElem?_getD, List.getElem?_eq_getElem (Nat.mod_lt _ (textsAt_pos d k))]
  exact List.getElem_mem _
theorem crashAt_get (d : Dsk) (x k : Nat) (h : drawAt d x k % (textsAt d k).length < (textsAt d k).length) : (textsAt d k)[drawAt d x k % (textsAt d k).length] = crashAt d x k := by
  unfold crashAt
  rw [List.getD_eq_getElem?_getD, List.getElem?_eq_getElem h]; rfl
/-- Every text of a good disk has 32 bytes. -/
theorem texts_ok {d : Dsk} (hg : goodD d = true) {k : Nat} (hk : k < d.safe.length) : ∀ t ∈ textsAt d k, ok32 t = true := by
  obtain ⟨g1, g2, g3, g4⟩ := (goodD_iff d).1 hg
  intro t ht
  rw [textsAt_eq d hk, afterL] at ht
  rcases List.mem_cons.1 ht with rfl | ht
  · exact List.all_eq_true.1 g3 _ (List.getElem_mem hk)
  · obtain ⟨x, hx, rfl⟩ := List.mem_map.1 ht
    have := List.all_eq_true.1 g4 x (List.mem_filter.1 hx).1
    simp only [wrOk, Bool.and_eq_true] at this
    exact this.2
theorem crash_good {d : Dsk} {draw : Int} (h : crashE d draw = 0) : goodD (crashD d draw) = true := by
  have hc : goodD d = true ∧ 0 ≤ draw := by
    unfold crashE at h
    by_cases hh : goodD d = true ∧ 0 ≤ draw
    · exact hh
    · rw [if_neg hh] at h; cases h
  unfold crashD
  rw [if_pos hc]
  obtain ⟨g1, g2, g3, g4⟩ := (goodD_iff d).1 hc.1
  refine (goodD_iff _).2 ⟨by simpa [crashL] using g1, by simp, ?_, rfl⟩
  rw [List.all_eq_true]
  intro t ht
  obtain ⟨k, hk, rfl⟩ := List.mem_map.1 ht
  exact texts_ok hc.1 (List.mem_range.1 hk) _ (crashAt_mem d _ k)
end Wb

namespace Wb
open Go Go.RowKit
theorem snoc_ind {α : Type} {p : List α → Prop} (h0 : p []) (h1 : ∀ l x, p l → p (l ++ [x])) (l : List α) : p l := by
  rw [← List.reverse_reverse l]
  induction l.reverse with
  | nil => exact h0
  | cons x r ih => rw [List.reverse_cons]; exact h1 _ _ ih
structure Stp where
  kind : Int
  at_ : Int
  text : ByteArray
def stpC (x : Stp) : List Value := [.int .i64 x.kind, .int .i64 x.at_, .string x.text]
theorem stpC_flat : Flat stpC 3 := ⟨fun _ => rfl, fun _ u hu => by simp [stpC] at hu; rcases hu with rfl | rfl | rfl <;> rfl, by decide⟩
def flushS : Stp := ⟨2, 0, ⟨#[]⟩⟩
def wrS (at_ : Int) (s : ByteArray) : Stp := ⟨1, at_, s⟩

/-! ### The blocks of the log of a transaction -/
def tagC' (c : Cpy) : Tag := ⟨c.block, isEsc c.text⟩
def listM (seq : Int) (r : List Int) : Mrk := ⟨3, seq, 0, [], r⟩
def descM (seq : Int) (p : List Cpy) : Mrk := ⟨2, seq, 0, p.map tagC', []⟩
def comM (seq : Int) : Mrk := ⟨4, seq, 0, [], []⟩
def superM (seq a : Int) : Mrk := ⟨1, seq, a, [], []⟩
def partL (seq : Int) (p : List Cpy) : List ByteArray := if p = [] then [] else markS (descM seq p) :: p.map (fun c => escS c.text)
def revL (seq : Int) (r : List Int) : List ByteArray := if r = [] then [] else [markS (listM seq r)]
/-- All blocks but the last. -/
def bodyT (t : Txn) : List ByteArray := revL t.seq t.rev ++ (partL t.seq (t.mt.take 10) ++ partL t.seq (t.mt.drop 10))
def logT (t : Txn) : List ByteArray := bodyT t ++ [markS (comM t.seq)]
def dataS (t : Txn) : List Stp := t.dt.map (fun c => wrS (25 + c.block) c.text) ++ (if t.dt = [] then [] else [flushS])
def comN (t : Txn) : Int := needN t.mt.length t.rev.length
def comE (r : Ring) (t : Txn) : Int := if goodR r = false ∨ goodT t = false ∨ openB t = true then 2 else takeE r (comN t)
def comR (r : Ring) (t : Txn) : Ring := if comE r t = 0 then takeR r (comN t) else r
def atW (p : Int) (s : ByteArray) : Stp := wrS (1 + p) s
def comL (r : Ring) (t : Txn) : List Stp :=
  if comE r t = 0 then
    dataS t ++ (List.zipWith atW (places r.head (bodyT t).length) (bodyT t) ++ ((if bodyT t = [] then [] else [flushS]) ++ [atW ((r.head + (bodyT t).length) % 24) (markS (comM t.seq)), flushS]))
  else []
theorem partL_len (seq : Int) (p : List Cpy) : (partL seq p).length = if p = [] then 0 else p.length + 1 := by
  unfold partL; split <;> simp
theorem bodyT_len {t : Txn} (g : GoodT t) : ((bodyT t).length : Int) + 1 = comN t := by
  obtain ⟨a, _, b⟩ := lens g
  have e : needE t.mt.length t.rev.length = 0 := (need_most g).2
  unfold bodyT comN needN
  rw [if_pos e, List.length_append, List.length_append, partL_len, partL_len]
  unfold revL partsOf
  have h1 : (t.mt.take 10 = []) ↔ t.mt.length = 0 := by rw [← List.length_eq_zero_iff, List.length_take]; omega
  have h2 : (t.mt.drop 10 = []) ↔ t.mt.length ≤ 10 := by rw [← List.length_eq_zero_iff, List.length_drop]; omega
  have h3 : (t.rev = []) ↔ t.rev.length = 0 := List.length_eq_zero_iff.symm
  by_cases c1 : t.mt.length = 0
  · rw [if_pos (h1.2 c1), if_pos (h2.2 (by omega))]
    by_cases c3 : t.rev.length = 0
    · rw [if_pos (h3.2 c3)]; simp; omega
    · rw [if_neg (fun h => c3 (h3.1 h))]; simp; omega
  · rw [if_neg (fun h => c1 (h1.1 h))]
    by_cases c2 : t.mt.length ≤ 10
    · rw [if_pos (h2.2 c2), List.length_take]
      by_cases c3 : t.rev.length = 0
      · rw [if_pos (h3.2 c3)]; simp; omega
      · rw [if_neg (fun h => c3 (h3.1 h))]; simp; omega
    · rw [if_neg (fun h => c2 (h2.1 h)), List.length_take, List.length_drop]
      by_cases c3 : t.rev.length = 0
      · rw [if_pos (h3.2 c3)]; simp; omega
      · rw [if_neg (fun h => c3 (h3.1 h))]; simp; omega

/-! ### What goes home -/
def goS (c : Cpy) : Stp := wrS (25 + c.block) c.text
def homeS (l : List Cpy) : List Stp := l.map (fun c => wrS (25 + c.block) c.text) ++ (if l = [] then [] else [flushS])
def cpyOk (c : Cpy) : Bool := isBlk c.block && ok32 c.text
def checkE (l : List Cpy) (a seq : Int) : Int := if markE (superM seq a) ≠ 0 then markE (superM seq a) else if l.all cpyOk = true then 0 else 1
def checkL (l : List Cpy) (a seq : Int) : List Stp := if checkE l a seq = 0 then homeS l ++ [wrS 0 (markS (superM seq a)), flushS] else []

/-! ### Steps upon a disk -/
def stepD (d : Dsk) (s : Stp) : Dsk := if s.kind = 2 then flushD d else putD d s.at_ s.text
def stepE (d : Dsk) (s : Stp) : Int := if s.kind = 2 then flushE d else putE d s.at_ s.text
def runD (d : Dsk) (l : List Stp) : Dsk := l.foldl stepD d
theorem runD_nil (d : Dsk) : runD d [] = d := rfl
theorem runD_cons (d : Dsk) (s : Stp) (l : List Stp) : runD d (s :: l) = runD (stepD d s) l := rfl
theorem runD_append (d : Dsk) (l m : List Stp) : runD d (l ++ m) = runD (runD d l) m := by simp [runD]

/-! ### The newest copy of a block -/
/-- Going backward: the last transaction to name it says. -/
theorem newestB_back (l : List Txn) (t : Txn) (b : Int) : newestB (l ++ [t]) b = match getC t.mt b with | some s => some s | none => if inI t.rev b then none else newestB l b := newestB_snoc l t b
theorem newest_blk {l : List Txn} (hg : ∀ t ∈ l, goodT t = true) {b : Int} (hb : isBlk b = false) : newestB l b = none := by
  revert hg
  refine snoc_ind (p := fun l => (∀ t ∈ l, goodT t = true) → newestB l b = none) (fun _ => rfl) (fun l t ih hg => ?_) l
  · rw [newestB_back, ih (fun x hx => hg x (by simp [hx]))]
    have g := goodT_of.1 (hg t (by simp))
    have h1 : getC t.mt b = none := by
      cases h : getC t.mt b with
      | none => rfl
      | some s => rw [(getC_blk g.mt h).1] at hb; cases hb
    rw [h1]; simp
theorem newest_size {l : List Txn} (hg : ∀ t ∈ l, goodT t = true) {b : Int} {s : ByteArray} (h : newestB l b = some s) : s.size = 32 := by
  revert hg h
  refine snoc_ind (p := fun l => (∀ t ∈ l, goodT t = true) → newestB l b = some s → s.size = 32) (fun _ h => by cases h) (fun l t ih hg h => ?_) l
  · rw [newestB_back] at h
    have g := goodT_of.1 (hg t (by simp))
    cases h1 : getC t.mt b with
    | some x =>
      rw [h1] at h
      simp only [Option.some.injEq] at h
      subst h
      exact (getC_blk g.mt h1).2
    | none =>
      rw [h1] at h
      simp only at h
      split at h
      · cases h
      · exact ih (fun x hx => hg x (by simp [hx])) h
theorem newestL_copies {l : List Txn} (hg : ∀ t ∈ l, goodT t = true) : copiesB (newestL l) = true :=
  viewL_copies fun _ _ _ ht => newest_size hg ht
theorem newestL_get {l : List Txn} (hg : ∀ t ∈ l, goodT t = true) (b : Int) : getC (newestL l) b = newestB l b := by
  by_cases hb : isBlk b = true
  · have := of_decide_eq_true hb
    exact getC_viewL this.1 this.2
  · have hb : isBlk b = false := by simpa using hb
    rw [newest_blk hg hb]
    cases h : getC (newestL l) b with
    | none => rfl
    | some s => rw [(getC_blk (newestL_copies hg) h).1] at hb; cases hb
end Wb

namespace Go.Proofs.YtjhmfljlclajnacDoor
open Go.RowKit Wb
set_option linter.unusedVariables false
set_option linter.unusedSimpArgs false
set_option maxRecDepth 100000
set_option maxHeartbeats 4000000

theorem disk_at (n : Int) (w : World) : Calls Tryd.prog 29 #[.int .i64 n] w fun e w' => e = .returned (.bool (isAt n)) ∧ w = w' := by
  by_cases h0 : 0 ≤ n
  · by_cases h1 : n < 37
    · have hv : isAt n = true := decide_eq_true ⟨h0, h1⟩
      rw [hv]
      go_enter Tryd.func29, Tryd.ntmps29
      go_wp2
      go_ret
      exact ⟨rfl, rfl⟩
    · have hv : isAt n = false := decide_eq_false fun hh => h1 hh.2
      rw [hv]
      go_enter Tryd.func29, Tryd.ntmps29
      go_wp2
      go_ret
      exact ⟨rfl, rfl⟩
  · have hv : isAt n = false := decide_eq_false fun hh => h0 hh.1
    rw [hv]
    go_enter Tryd.func29, Tryd.ntmps29
    go_wp2
    go_ret
    exact ⟨rfl, rfl⟩

theorem disk_Good1 (s : ByteArray) (w : World) : Calls Tryd.prog 41 #[.string s] w fun e w' => e = .returned (.bool (!ok32 s)) ∧ w = w' := by
  by_cases h0 : s.size = 32
  · have hv : ok32 s = true := decide_eq_true h0
    rw [hv]
    have h1 : ((s.size : Int) != 32) = false := by rw [h0]; rfl
    go_enter Tryd.func41, Tryd.ntmps41
    go_wp2
    go_ret
    exact ⟨rfl, rfl⟩
  · have hv : ok32 s = false := decide_eq_false h0
    rw [hv]
    have h1 : ((s.size : Int) != 32) = true := bne_iff_ne.2 (by omega)
    go_enter Tryd.func41, Tryd.ntmps41
    go_wp2
    go_ret
    exact ⟨rfl, rfl⟩

theorem slices_IndexFunc (v : Value) (xs : List ByteArray) (w : World) (hx : RL strC w v xs) (hn : xs.length ≤ 8796093022208) :
    Calls Tryd.prog 57 #[v, .func (.func 41) #[] #[]] w fun e w' => (∃ r : Int, e = .returned (.int .i64 r) ∧ idxIs (xs.all ok32) r) ∧ w = w' := by
  obtain ⟨a, cap, rfl, c1, c2⟩ := hx.form
  have hno := fun k (hk : k < xs.length) (hp : ok32 xs[k] = false) => all_no hk hp
  have hful := fun k (hk : k ≤ xs.length) (hn : ¬ k < xs.length) (hp : (xs.take k).all ok32 = true) => all_full hk hn hp
  generalize xs.all ok32 = ai at *
  replace hno := hid hno
  replace hful := hid hful
  go_enter Tryd.func57, Tryd.ntmps57
  go_wp2
  go_loop [5, 8] (fun _ i => ∃ k : Nat, k ≤ xs.length ∧ i = .int .i64 k ∧ Hid ((xs.take k).all ok32 = true)) (fun _ i => xs.length - (intOf i).toNat)
  case atStart => exact ⟨0, Nat.zero_le _, rfl, rfl⟩
  case round =>
    obtain ⟨k, hk, rfl, hall⟩ := hrel
    by_cases hlt : k < xs.length
    · obtain ⟨b, off, rfl, d0⟩ := RL.at1 (fun x => .string x) (fun _ => rfl) hx hlt
      have hG := fun w => disk_Good1 xs[k] w
      cases hb : ok32 xs[k]
      · rw [hb] at hG
        obtain rfl := hno.out k hlt hb
        replace hG := hid hG
        clear hall hb
        generalize xs[k] = x at *
        go_wp2_with (go_at_call 41; refine (hG.out _).mono ?_; rintro e w1 ⟨rfl, rfl⟩)
        go_ret
        exact ⟨⟨_, rfl, Int.natCast_nonneg _⟩, rfl⟩
      · rw [hb] at hG
        have hs := hid (all_step hlt hall.out hb)
        replace hG := hid hG
        clear hall hb
        generalize xs[k] = x at *
        go_wp2_with (go_at_call 41; refine (hG.out _).mono ?_; rintro e w1 ⟨rfl, rfl⟩)
        go_round
        case rel => exact ⟨k + 1, by omega, by go_num, hs.out⟩
        case measure => simp [intOf]; omega
    · obtain rfl := hful.out k hk hlt hall.out
      clear hall
      go_wp2
      go_ret
      exact ⟨⟨_, rfl, rfl⟩, rfl⟩

theorem slices_ContainsFunc (v : Value) (xs : List ByteArray) (w : World) (hx : RL strC w v xs) (hn : xs.length ≤ 8796093022208) :
    Calls Tryd.prog 40 #[v, .func (.func 41) #[] #[]] w fun e w' => e = .returned (.bool (!xs.all ok32)) ∧ w = w' := by
  have hI := slices_IndexFunc v xs w hx hn
  obtain ⟨a, cap, rfl, c1, c2⟩ := hx.form
  clear hx
  cases hb : xs.all ok32
  · rw [hb] at hI
    replace hI := hid hI
    go_enter Tryd.func40, Tryd.ntmps40
    go_wp2_with (go_at_call 57; refine hI.out.mono ?_; rintro e w1 ⟨⟨r, rfl, hr⟩, rfl⟩; replace hr : 0 ≤ r := hr)
    go_ret
    exact ⟨rfl, rfl⟩
  · rw [hb] at hI
    replace hI := hid hI
    go_enter Tryd.func40, Tryd.ntmps40
    go_wp2_with (go_at_call 57; refine hI.out.mono ?_; rintro e w1 ⟨⟨r, rfl, hr⟩, rfl⟩; obtain rfl : r = -1 := hr)
    go_ret
    exact ⟨rfl, rfl⟩

theorem disk_Good (d : Dsk) (v : Value) (w : World) (hd : RDisk w v d) :
    Calls Tryd.prog 20 #[v] w fun e w' => e = .returned (.bool (goodD d)) ∧ Below w.heap.size w w' := by
  obtain ⟨vs, vw, rfl, hs, hw, n1, n2⟩ := hd
  obtain ⟨safe, writes⟩ := d
  dsimp only at *
  have hC := fun v w (hx : RL strC w v safe) => slices_ContainsFunc v safe w hx n1
  have hgi := goodD_iff ⟨safe, writes⟩
  dsimp only at hgi
  have hno : (¬ (safe.length = 37 ∧ writes.length ≤ 200 ∧ safe.all ok32 = true ∧ writes.all wrOk = true)) → goodD ⟨safe, writes⟩ = false := fun hh => by
    rw [← Bool.not_eq_true]; exact fun h2 => hh (hgi.1 h2)
  have hyes := hgi.2
  clear hgi
  generalize goodD ⟨safe, writes⟩ = g at *
  replace hno := hid hno
  replace hyes := hid hyes
  obtain ⟨a, cap, rfl, _⟩ := hs.form
  obtain ⟨b, bcap, rfl, _⟩ := hw.form
  replace hs := hid hs
  replace hw := hid hw
  have hC0 := fun (hb : safe.all ok32 = true) => hC
  by_cases h37 : safe.length ≠ 37
  · obtain rfl := hno.out (fun hh => h37 hh.1)
    have e1 : ((safe.length : Int) != 37) = true := bne_iff_ne.2 (by omega)
    clear hC hC0
    go_enter Tryd.func20, Tryd.ntmps20
    go_wp2
    go_ret
    exact ⟨rfl, by repeat (first | exact Below.refl _ _ | with_reducible assumption | (refine allocB ?_ (by first | omega | (simp; done) | (simp; omega)) _) | (refine Below.setCell ?_ (by first | omega | (simp; done) | (simp; omega)) _) | refine Below.drew ?_ | (refine Below.trans ?_ (Below.mono (by with_reducible assumption) (by first | omega | (simp; done) | (simp; omega)))))⟩
  replace h37 := Decidable.not_not.1 h37
  have e1 : ((safe.length : Int) != 37) = false := by rw [h37]; rfl
  by_cases h200 : ¬ writes.length ≤ 200
  · obtain rfl := hno.out (fun hh => h200 hh.2.1)
    clear hC hC0
    go_enter Tryd.func20, Tryd.ntmps20
    go_wp2
    go_ret
    exact ⟨rfl, by repeat (first | exact Below.refl _ _ | with_reducible assumption | (refine allocB ?_ (by first | omega | (simp; done) | (simp; omega)) _) | (refine Below.setCell ?_ (by first | omega | (simp; done) | (simp; omega)) _) | refine Below.drew ?_ | (refine Below.trans ?_ (Below.mono (by with_reducible assumption) (by first | omega | (simp; done) | (simp; omega)))))⟩
  replace h200 := Decidable.not_not.1 h200
  clear hC0
  replace hC := hid hC
  replace h37 := hid h37
  have kb : Blk (w.alloc (.cells #[.slice a safe.length cap, .slice b writes.length bcap] 25)) w.heap.size #[.slice a safe.length cap, .slice b writes.length bcap] 25 := Blk.new w _ _
  have nf : 0 < w.heap.size + 1 := by omega
  go_enter Tryd.func20, Tryd.ntmps20
  go_wp2
  go_loopw [4, 18] (fun _ i wr => ∃ k : Nat, k ≤ writes.length ∧ i = .int .i64 k ∧ Hid ((writes.take k).all wrOk = true) ∧ Blk wr w.heap.size #[.slice a safe.length cap, .slice b writes.length bcap] 25 ∧ Below w.heap.size w wr) (fun _ i _ => writes.length - (intOf i).toNat)
  case atStart => exact ⟨0, Nat.zero_le _, rfl, rfl, kb, by repeat (first | exact Below.refl _ _ | with_reducible assumption | (refine allocB ?_ (by first | omega | (simp; done) | (simp; omega)) _) | (refine Below.setCell ?_ (by first | omega | (simp; done) | (simp; omega)) _) | refine Below.drew ?_ | (refine Below.trans ?_ (Below.mono (by with_reducible assumption) (by first | omega | (simp; done) | (simp; omega)))))⟩
  case round =>
    obtain ⟨k, hk, rfl, hall, kb, hnx⟩ := hrel
    have lt0 := kb.lt
    by_cases hlt : k < writes.length
    · obtain ⟨b, off, rfl, d0, d1⟩ := RL.at2 (fun x => .int .i64 x.at_) (fun x => .string x.text) (fun _ => rfl) (hw.out.below hnx) hlt
      have lt1 := World.block_lt_of_cell? _ _ d0
      dsimp only at lt1
      have hA := fun w => disk_at writes[k].at_ w
      by_cases ha : isAt writes[k].at_ = true
      · rw [ha] at hA
        replace hA := hid hA
        by_cases ht : ok32 writes[k].text = true
        · have hst := hid (all_step hlt hall.out (by unfold wrOk; rw [ha, ht]; rfl))
          have e2 : ((writes[k].text.size : Int) != 32) = false := by rw [of_decide_eq_true ht]; rfl
          clear ha ht hall hno hyes
          generalize writes[k] = x at *
          go_wp2_with (go_at_call 29; refine (hA.out _).mono ?_; rintro e w1 ⟨rfl, rfl⟩)
          go_roundw
          case rel => exact ⟨k + 1, by omega, by go_num, hst, kb.alloc _, allocB hnx (by omega) _⟩
          case measure => simp [intOf]; omega
        · obtain rfl := hno.out (fun hh => by
            have := all_no hlt (p := wrOk) (by unfold wrOk; rw [ha, Bool.not_eq_true _ |>.mp ht]; rfl)
            rw [this] at hh; exact Bool.noConfusion hh.2.2.2)
          have e2 : ((writes[k].text.size : Int) != 32) = true := bne_iff_ne.2 (fun hh => ht (decide_eq_true (by omega)))
          clear ha ht hall hno hyes
          generalize writes[k] = x at *
          go_wp2_with (go_at_call 29; refine (hA.out _).mono ?_; rintro e w1 ⟨rfl, rfl⟩)
          go_ret
          exact ⟨rfl, allocB hnx (by omega) _⟩
      · obtain rfl := hno.out (fun hh => by
          have := all_no hlt (p := wrOk) (by unfold wrOk; rw [Bool.not_eq_true _ |>.mp ha]; rfl)
          rw [this] at hh; exact Bool.noConfusion hh.2.2.2)
        rw [Bool.not_eq_true _ |>.mp ha] at hA
        replace hA := hid hA
        clear ha hall hno hyes
        generalize writes[k] = x at *
        go_wp2_with (go_at_call 29; refine (hA.out _).mono ?_; rintro e w1 ⟨rfl, rfl⟩)
        go_ret
        exact ⟨rfl, allocB hnx (by omega) _⟩
    · have hf := hid (all_full hk hlt hall.out)
      have c0 := kb.cell 0
      simp only [List.getElem?_toArray, List.getElem?_cons_zero, List.getElem?_cons_succ] at c0
      clear hall
      cases hb : safe.all ok32
      · obtain rfl := hno.out (fun hh => by rw [hb] at hh; exact Bool.noConfusion hh.2.2.1)
        rw [hb] at hC
        clear hno hyes hb
        go_wp2_with (go_at_call 40; refine (hC.out _ _ (hs.out.below hnx)).mono ?_; rintro e w1 ⟨rfl, rfl⟩)
        go_ret
        exact ⟨rfl, hnx⟩
      · obtain rfl := hyes.out ⟨h37.out, h200, hb, hf.out⟩
        rw [hb] at hC
        clear hno hyes hb
        go_wp2_with (go_at_call 40; refine (hC.out _ _ (hs.out.below hnx)).mono ?_; rintro e w1 ⟨rfl, rfl⟩)
        go_ret
        exact ⟨rfl, hnx⟩
end Go.Proofs.YtjhmfljlclajnacDoor

namespace Go.Proofs.YtjhmfljlclajnacDoor
open Go.RowKit Wb
set_option linter.unusedVariables false
set_option linter.unusedSimpArgs false
set_option maxRecDepth 100000
set_option maxHeartbeats 4000000

end Go.Proofs.YtjhmfljlclajnacDoor

namespace Go.Proofs.YtjhmfljlclajnacDoor
open Go.RowKit Wb
set_option linter.unusedVariables false
set_option linter.unusedSimpArgs false
set_option maxRecDepth 100000
set_option maxHeartbeats 4000000

theorem elemStr : Elem Tryd.prog 22 9 1 16 := Elem.mk' (z := .string ⟨#[]⟩) Tryd.underlying22 (by kernel_rfl) rfl
theorem elemWr : Elem Tryd.prog 23 66 2 24 := Elem.mk' (z := .agg #[.int .i64 0, .string ⟨#[]⟩]) Tryd.underlying23 (by kernel_rfl) rfl

end Go.Proofs.YtjhmfljlclajnacDoor

namespace Go.Proofs.YtjhmfljlclajnacDoor
open Go.RowKit Wb
set_option linter.unusedVariables false
set_option linter.unusedSimpArgs false
set_option maxRecDepth 100000
set_option maxHeartbeats 4000000

end Go.Proofs.YtjhmfljlclajnacDoor

namespace Go.Proofs.YtjhmfljlclajnacDoor
open Go.RowKit Wb
set_option linter.unusedVariables false
set_option linter.unusedSimpArgs false
set_option maxRecDepth 100000
set_option maxHeartbeats 4000000

theorem clone_Writes (l : List Wr) (v : Value) (w : World) (hl : RL wrC w v l) (hn : l.length ≤ 5864062014805) :
    Calls Tryd.prog 49 #[v] w fun e w' => ∃ v', e = .returned v' ∧ Wb.Own wrC w.heap.size 66 2 w' v' l ∧ Below w.heap.size w w' := by
  obtain ⟨a, cap, rfl, c1, c2⟩ := hl.form
  have q24 : ∀ (w : World) (a : Option Addr) (n c n' c' : Nat), (binOp .eql 23 (.slice a n c) (.slice none n' c')).run Tryd.prog w = .ok (.bool a.isNone) w := fun w a n c n' c' => Lib.run_eql_slice_nil w _ _ a n c n' c' Tryd.underlying23
  cases a with
  | none =>
    have h0 : l = [] := by
      obtain ⟨a', cap', hv, _, _, h3⟩ := hl
      rcases h3 with h3 | ⟨b, off, ha, _⟩
      · cases l with
        | nil => rfl
        | cons x l => simp [wrC] at h3
      · simp only [Value.slice.injEq] at hv
        rw [ha] at hv
        exact absurd hv.1 (by simp)
    subst h0
    go_enter Tryd.func49, Tryd.ntmps49
    go_wp2
    go_ret
    exact ⟨_, rfl, Own.nil _ _ _ _ _, by repeat (first | exact Below.refl _ _ | with_reducible assumption | (refine allocB ?_ (by first | omega | (simp; done) | (simp; omega)) _) | (refine Below.setCell ?_ (by first | omega | (simp; done) | (simp; omega)) _) | refine Below.drew ?_ | (refine Below.trans ?_ (Below.mono (by with_reducible assumption) (by first | omega | (simp; done) | (simp; omega)))))⟩
  | some a =>
    replace hl := hid hl
    go_enter Tryd.func49, Tryd.ntmps49
    go_wp2_with (at_builtin; go_loud (refine wpList_app rfl _ _ _ rfl w.heap.size _ 2 24 wrC_flat elemWr (Own.lit wrC_flat w.heap.size _ w [] (Nat.le_refl _) (Nat.zero_le _) rfl rfl rfl) rfl l (hl.out.below (by repeat (first | exact Below.refl _ _ | with_reducible assumption | (refine allocB ?_ (by first | omega | (simp; done) | (simp; omega)) _) | (refine Below.setCell ?_ (by first | omega | (simp; done) | (simp; omega)) _) | refine Below.drew ?_ | (refine Below.trans ?_ (Below.mono (by with_reducible assumption) (by first | omega | (simp; done) | (simp; omega))))))) rfl ?k1 ?k2 ?k3 ?k4))
    all_goals try (case k1 => simp; omega)
    all_goals try (case k2 => simp; omega)
    all_goals try (case k3 => simp)
    case k4 =>
      intro v7 w7 hown7 hgrow
      have hb : Below w.heap.size w w7 := (allocB (Below.refl _ _) (Nat.le_refl _) _).grown hgrow (by simp) (fun k hk => by simp [Value.ownBlock] at hk; omega)
      go_wp2
      go_ret
      exact ⟨_, rfl, hown7, hb⟩
theorem clone_Strings (l : List ByteArray) (v : Value) (w : World) (hl : RL strC w v l) (hn : l.length ≤ 8796093022208) :
    Calls Tryd.prog 21 #[v] w fun e w' => ∃ v', e = .returned v' ∧ Wb.Own strC w.heap.size 9 1 w' v' l ∧ Below w.heap.size w w' := by
  obtain ⟨a, cap, rfl, c1, c2⟩ := hl.form
  have q24 : ∀ (w : World) (a : Option Addr) (n c n' c' : Nat), (binOp .eql 22 (.slice a n c) (.slice none n' c')).run Tryd.prog w = .ok (.bool a.isNone) w := fun w a n c n' c' => Lib.run_eql_slice_nil w _ _ a n c n' c' Tryd.underlying22
  cases a with
  | none =>
    have h0 : l = [] := by
      obtain ⟨a', cap', hv, _, _, h3⟩ := hl
      rcases h3 with h3 | ⟨b, off, ha, _⟩
      · cases l with
        | nil => rfl
        | cons x l => simp [strC] at h3
      · simp only [Value.slice.injEq] at hv
        rw [ha] at hv
        exact absurd hv.1 (by simp)
    subst h0
    go_enter Tryd.func21, Tryd.ntmps21
    go_wp2
    go_ret
    exact ⟨_, rfl, Own.nil _ _ _ _ _, by repeat (first | exact Below.refl _ _ | with_reducible assumption | (refine allocB ?_ (by first | omega | (simp; done) | (simp; omega)) _) | (refine Below.setCell ?_ (by first | omega | (simp; done) | (simp; omega)) _) | refine Below.drew ?_ | (refine Below.trans ?_ (Below.mono (by with_reducible assumption) (by first | omega | (simp; done) | (simp; omega)))))⟩
  | some a =>
    replace hl := hid hl
    go_enter Tryd.func21, Tryd.ntmps21
    go_wp2_with (at_builtin; go_loud (refine wpList_app rfl _ _ _ rfl w.heap.size _ 1 16 strC_flat elemStr (Own.lit strC_flat w.heap.size _ w [] (Nat.le_refl _) (Nat.zero_le _) rfl rfl rfl) rfl l (hl.out.below (by repeat (first | exact Below.refl _ _ | with_reducible assumption | (refine allocB ?_ (by first | omega | (simp; done) | (simp; omega)) _) | (refine Below.setCell ?_ (by first | omega | (simp; done) | (simp; omega)) _) | refine Below.drew ?_ | (refine Below.trans ?_ (Below.mono (by with_reducible assumption) (by first | omega | (simp; done) | (simp; omega))))))) rfl ?k1 ?k2 ?k3 ?k4))
    all_goals try (case k1 => simp; omega)
    all_goals try (case k2 => simp; omega)
    all_goals try (case k3 => simp)
    case k4 =>
      intro v7 w7 hown7 hgrow
      have hb : Below w.heap.size w w7 := (allocB (Below.refl _ _) (Nat.le_refl _) _).grown hgrow (by simp) (fun k hk => by simp [Value.ownBlock] at hk; omega)
      go_wp2
      go_ret
      exact ⟨_, rfl, hown7, hb⟩
end Go.Proofs.YtjhmfljlclajnacDoor

namespace Go.Proofs.YtjhmfljlclajnacDoor
open Go.RowKit Wb
set_option linter.unusedVariables false
set_option linter.unusedSimpArgs false
set_option maxRecDepth 100000
set_option maxHeartbeats 4000000

end Go.Proofs.YtjhmfljlclajnacDoor

namespace Wb
open Go Go.RowKit
theorem Own.fresh {α : Type} {f : α → List Value} {base B : Nat} {e : TypeId} {c : Nat} {w : World} {v : Value} {l : List α} (h : Own f base e c w v l) (hB : B ≤ base) : ∀ b, vblk v = some b → B ≤ b := fun b hb => by
  obtain ⟨_, h2⟩ := h
  rcases h2 with ⟨rfl, _⟩ | ⟨g, cap, cur, rfl, hbg, _⟩
  · cases hb
  · cases hb; exact Nat.le_trans hB hbg
/-- The slice v, that read l, is still v and l, or a new one, of a block from B on. -/
def Slot {α : Type} (f : α → List Value) (B : Nat) (w' : World) (v v' : Value) (l l' : List α) : Prop := (v' = v ∧ l' = l) ∨ (RL f w' v' l' ∧ ∀ b, vblk v' = some b → B ≤ b)
theorem Slot.same {α : Type} (f : α → List Value) (B : Nat) (w' : World) (v : Value) (l : List α) : Slot f B w' v v l l := .inl ⟨rfl, rfl⟩
theorem Slot.read {α : Type} {f : α → List Value} {B : Nat} {w' : World} {v v' : Value} {l l' : List α} (h : Slot f B w' v v' l l') (hr : RL f w' v l) : RL f w' v' l' := by
  rcases h with ⟨rfl, rfl⟩ | ⟨h, _⟩
  · exact hr
  · exact h
structure NewT (B : Nat) (w' : World) (vm vd vr vm' vd' vr' : Value) (t t' : Txn) : Prop where
  m : Slot cpyC B w' vm vm' t.mt t'.mt
  d : Slot cpyC B w' vd vd' t.dt t'.dt
  r : Slot intC B w' vr vr' t.rev t'.rev
theorem NewT.same (B : Nat) (w' : World) (vm vd vr : Value) (t : Txn) : NewT B w' vm vd vr vm vd vr t t := ⟨.same _ _ _ _ _, .same _ _ _ _ _, .same _ _ _ _ _⟩
section
variable {S : List Nat} {w0 w w' : World} {L : List Ent} {R : List Rd}
theorem St.addSlot (X : St S w0 w L R) {α : Type} {f : α → List Value} {B : Nat} {v v' : Value} {l l' : List α} (hB : ∀ e ∈ L, e.g < B) (hs : Slot f B w v v' l l') (hv : Rd.of f v l ∈ R) : St S w0 w L (Rd.of f v' l' :: R) := by
  rcases hs with ⟨rfl, rfl⟩ | ⟨h1, h2⟩
  · exact X.addR (X.rd _ hv).1 (X.rd _ hv).2
  · exact X.addR h1 (.inr fun b hb e he heq => by
      have := h2 b hb
      have := hB e he
      omega)
theorem St.lts (X : St S w0 w L R) : ∀ e ∈ L, e.g < w.heap.size := fun e he => (X.blk e he).lt
/-- Behind a call that hands a transaction back. -/
theorem St.addT (X : St S w0 w L R) (hb : Below w.heap.size w w') {vm vd vr vm' vd' vr' : Value} {t t' : Txn} (hN : NewT w.heap.size w' vm vd vr vm' vd' vr' t t') (hm : Rd.of cpyC vm t.mt ∈ R) (hd : Rd.of cpyC vd t.dt ∈ R) (hr : Rd.of intC vr t.rev ∈ R) :
    St S w0 w' L (Rd.of cpyC vm' t'.mt :: Rd.of cpyC vd' t'.dt :: Rd.of intC vr' t'.rev :: R) := by
  have X1 := X.call hb
  have X2 := X1.addSlot X.lts hN.r hr
  have X3 := X2.addSlot X.lts hN.d (List.mem_cons_of_mem _ hd)
  exact X3.addSlot X.lts hN.m (List.mem_cons_of_mem _ (List.mem_cons_of_mem _ hm))
theorem St.rtxn (X : St S w0 w L R) {vm vd vr : Value} {t : Txn} (hm : Rd.of cpyC vm t.mt ∈ R) (hd : Rd.of cpyC vd t.dt ∈ R) (hr : Rd.of intC vr t.rev ∈ R) (h1 : t.mt.length ≤ 5864062014805) (h2 : t.dt.length ≤ 5864062014805) (h3 : t.rev.length ≤ 17592186044160) : RTxn w (txnV t vm vd vr) t :=
  ⟨vm, vd, vr, rfl, X.read hm, X.read hd, X.read hr, h1, h2, h3⟩
theorem St.rt0 {vm vd vr : Value} {t : Txn} (X : St S w0 w L (Rd.of cpyC vm t.mt :: Rd.of cpyC vd t.dt :: Rd.of intC vr t.rev :: R)) (h1 : t.mt.length ≤ 5864062014805) (h2 : t.dt.length ≤ 5864062014805) (h3 : t.rev.length ≤ 17592186044160) : RTxn w (txnV t vm vd vr) t :=
  X.rtxn (.head _) (.tail _ (.head _)) (.tail _ (.tail _ (.head _))) h1 h2 h3
theorem St.rt1 {r0 r1 r2 : Rd} {vm vd vr : Value} {t : Txn} (X : St S w0 w L (r0 :: r1 :: r2 :: Rd.of cpyC vm t.mt :: Rd.of cpyC vd t.dt :: Rd.of intC vr t.rev :: R)) (h1 : t.mt.length ≤ 5864062014805) (h2 : t.dt.length ≤ 5864062014805) (h3 : t.rev.length ≤ 17592186044160) : RTxn w (txnV t vm vd vr) t :=
  X.rtxn (.tail _ (.tail _ (.tail _ (.head _)))) (.tail _ (.tail _ (.tail _ (.tail _ (.head _))))) (.tail _ (.tail _ (.tail _ (.tail _ (.tail _ (.head _)))))) h1 h2 h3
/-- A transaction of the start. -/
theorem St.startT {vm vd vr : Value} {t : Txn} (ht : RTxn w0 (txnV t vm vd vr) t) : St [] w0 w0 [] [Rd.of cpyC vm t.mt, Rd.of cpyC vd t.dt, Rd.of intC vr t.rev] := by
  obtain ⟨vm', vd', vr', hv, h1, h2, h3, _⟩ := ht
  simp only [txnV, Value.agg.injEq, Array.mk.injEq, List.cons.injEq, and_true, true_and] at hv
  obtain ⟨rfl, rfl, rfl⟩ := hv
  exact (((St.start [] w0).addR0 h3).addR0 h2).addR0 h1
end
theorem NewT.rtxn {B : Nat} {w' : World} {vm vd vr vm' vd' vr' : Value} {t t' : Txn} (h : NewT B w' vm vd vr vm' vd' vr' t t') (ht : RTxn w' (txnV t vm vd vr) t) (h1 : t'.mt.length ≤ 5864062014805) (h2 : t'.dt.length ≤ 5864062014805) (h3 : t'.rev.length ≤ 17592186044160) : RTxn w' (txnV t' vm' vd' vr') t' := by
  obtain ⟨um, ud, ur, hv, r1, r2, r3, _⟩ := ht
  simp only [txnV, Value.agg.injEq, Array.mk.injEq, List.cons.injEq, and_true, true_and] at hv
  obtain ⟨rfl, rfl, rfl⟩ := hv
  exact ⟨_, _, _, rfl, h.m.read r1, h.d.read r2, h.r.read r3, h1, h2, h3⟩
end Wb

set_option linter.unusedVariables false
set_option linter.unusedSimpArgs false
namespace Wb
open Go Go.RowKit
def NewD (B : Nat) (w' : World) (v v' : Value) (d d' : Dsk) : Prop :=
  ∃ vs vw vs' vw', v = .agg #[vs, vw] ∧ v' = .agg #[vs', vw'] ∧ Slot strC B w' vs vs' d.safe d'.safe ∧ Slot wrC B w' vw vw' d.writes d'.writes
theorem Own.slot {α : Type} {f : α → List Value} {base B : Nat} {e : TypeId} {c : Nat} {w : World} {v v0 : Value} {l l0 : List α} (h : Own f base e c w v l) (hB : B ≤ base) : Slot f B w v0 v l0 l := .inr ⟨h.reads, h.fresh hB⟩
theorem Slot.nil {α : Type} {f : α → List Value} {B : Nat} {w : World} {v0 : Value} {l0 : List α} : Slot f B w v0 (.slice none 0 0) l0 [] := .inr ⟨RL.nil _ _, fun b hb => by cases hb⟩
theorem RDisk.same {w w' : World} {v : Value} {d : Dsk} (h : RDisk w v d) (B : Nat) : NewD B w' v v d d := by
  obtain ⟨vs, vw, hv, _⟩ := h
  exact ⟨vs, vw, vs, vw, hv, hv, .same _ _ _ _ _, .same _ _ _ _ _⟩
end Wb

namespace Go.Proofs.YtjhmfljlclajnacDoor
open Go.RowKit Wb
set_option linter.unusedVariables false
set_option linter.unusedSimpArgs false
set_option maxRecDepth 100000
set_option maxHeartbeats 1000000

theorem disk_Put_good (d : Dsk) (n : Int) (t : ByteArray) (v : Value) (w : World) (hd : RDisk w v d) (hg : goodD d = true) (ha : isAt n = true) (h32 : t.size = 32) (h200 : ¬ 200 ≤ d.writes.length) :
    Calls Tryd.prog 28 #[v, .int .i64 n, .string t] w fun e w' => ∃ v', e = .returned (.tuple #[v', .int .i64 0]) ∧ RDisk w' v' ⟨d.safe, d.writes ++ [⟨n, t⟩]⟩ ∧ NewD w.heap.size w' v v' d ⟨d.safe, d.writes ++ [⟨n, t⟩]⟩ ∧ Below w.heap.size w w' := by
  have hG := fun w (hh : RDisk w v d) => disk_Good d v w hh
  have hA := fun w => disk_at n w
  rw [hg] at hG
  rw [ha] at hA
  have e1 : ((t.size : Int) != 32) = false := by rw [h32]; rfl
  have hd2 := hd
  obtain ⟨vs, vw, rfl, hs, hw, n1, n2⟩ := hd
  obtain ⟨a, cap, rfl, ca1, ca2⟩ := hs.form
  obtain ⟨b, bcap, rfl, cb1, cb2⟩ := hw.form
  replace hd2 := hid hd2
  clear hg ha h32
  obtain ⟨safe, writes⟩ := d
  dsimp only at *
  have hC := fun v w (hh : RL wrC w v writes) => clone_Writes writes v w hh n2
  replace hG := hid hG
  replace hA := hid hA
  replace hC := hid hC
  replace hs := hid hs
  replace hw := hid hw
  go_enter Tryd.func28, Tryd.ntmps28
  go_wp2_with (first
    | (go_at_call 20; refine (hG.out _ (hd2.out.below (by repeat (first | exact Below.refl _ _ | with_reducible assumption | (refine allocB ?_ (by first | omega | (simp; done) | (simp; omega)) _) | (refine Below.setCell ?_ (by first | omega | (simp; done) | (simp; omega)) _) | refine Below.drew ?_ | (refine Below.trans ?_ (Below.mono (by with_reducible assumption) (by first | omega | (simp; done) | (simp; omega)))))))).mono ?_; rintro e w1 ⟨rfl, hb1⟩; obtain ⟨hbc, hbf⟩ := bcell hb1; have hbz := hb1.size; try simp only [World.size_alloc, World.size_setCell, World.size_drew] at hbz; have hz0 := Nat.lt_of_lt_of_le (n := w.heap.size) (by omega) hbz; have hz1 := Nat.lt_of_lt_of_le (n := w.heap.size + 1) (by omega) hbz)
    | (go_at_call 29; refine (hA.out _).mono ?_; rintro e w2 ⟨rfl, rfl⟩))
  have hnx : Below w.heap.size w w1 := by repeat (first | exact Below.refl _ _ | with_reducible assumption | (refine allocB ?_ (by first | omega | (simp; done) | (simp; omega)) _) | (refine Below.setCell ?_ (by first | omega | (simp; done) | (simp; omega)) _) | refine Below.drew ?_ | (refine Below.trans ?_ (Below.mono (by with_reducible assumption) (by first | omega | (simp; done) | (simp; omega)))))
  have k0 : Blk w1 w.heap.size #[.slice a safe.length cap, .slice b writes.length bcap] 25 := ((Blk.new w _ _).alloc _).step hb1
  have k1 : Blk w1 (w.heap.size + 1) #[.slice none 0 0, .slice none 0 0] 25 := (Blk.newAt (w := w.alloc _) (by simp)).step hb1
  have c0 := k0.cell 0
  have c1 := k0.cell 1
  simp only [List.getElem?_toArray, List.getElem?_cons_zero, List.getElem?_cons_succ] at c0 c1
  have hw1 := hid (hw.out.below hnx)
  clear hb1 hbc hbf hw hd2
  go_region_held3 (fun w' => w'.cell? ⟨w.heap.size, 0, none⟩ = some (.slice a safe.length cap) ∧ w'.cell? ⟨w.heap.size, 1, none⟩ = some (.slice b writes.length bcap)) (first | exact ⟨by with_reducible assumption, by with_reducible assumption⟩ | go_keep) (first
    | (refine step_call 49 _ _ (by rfl) (by rfl) #[.slice b writes.length bcap] (by rfl) ⟨_, _, Tryd.func49, by kernel_rfl, rfl⟩ (hC.out _ _ (hw1.out.below (by repeat (first | exact Below.refl _ _ | with_reducible assumption | (refine allocB ?_ (by first | omega | (simp; done) | (simp; omega)) _) | (refine Below.setCell ?_ (by first | omega | (simp; done) | (simp; omega)) _) | refine Below.drew ?_ | (refine Below.trans ?_ (Below.mono (by with_reducible assumption) (by first | omega | (simp; done) | (simp; omega)))))))) ?_; rintro e w3 ⟨v3, rfl, hown3, hb3⟩; obtain ⟨a3, cap3, rfl⟩ := hown3.form; have hz3 : w1.heap.size ≤ w3.heap.size := (by have h := hb3.size; simp at h; omega); have k3 : Blk w3 (w.heap.size + 1) #[.slice none 0 0, .slice none 0 0] 25 := (by with_reducible (first | exact k1.drew.step hb3 | exact (k1.alloc _).drew.step hb3)); replace hown3 := hown3.mono (base' := w1.heap.size) (by simp); have hb13 : Below w.heap.size w w3 := (by with_reducible (first | exact hnx.drew.trans (hb3.mono (by simp; omega)) | exact (allocB hnx (by omega) _).drew.trans (hb3.mono (by simp; omega)))); have k03 : Blk w3 w.heap.size #[.slice a safe.length cap, .slice b writes.length bcap] 25 := (by with_reducible (first | exact k0.drew.step hb3 | exact (k0.alloc _).drew.step hb3)); have p0 := k03.cell 0; have p1 := k03.cell 1; simp only [List.getElem?_toArray, List.getElem?_cons_zero, List.getElem?_cons_succ] at p0 p1; refine ⟨_, rfl, ?_⟩)
    | go_loud (refine step_app (by rfl) _ _ 23 (by rfl) w1.heap.size _ 2 24 wrC_flat elemWr (hown3.alloc _) (by rfl) [⟨n, t⟩] (RL.newN (f := wrC) _ _ _ [⟨n, t⟩] (by show 1 ≤ maxLen; decide)) (by rfl) (by (try simp); omega) (by (try simp); unfold maxLen; omega) (by (try simp); omega) ?_; intro v4 w4 hown4 hb4 _; obtain ⟨a4, cap4, rfl⟩ := hown4.form; have k4 := (k3.alloc _).below hb4 (by omega); have hb14 := (allocB hb13 (by omega) _).trans (hb4.mono (by omega)); have k04 := (k03.alloc _).below hb4 (by omega); have p2 := k04.cell 0; have p3 := k04.cell 1; simp only [List.getElem?_toArray, List.getElem?_cons_zero, List.getElem?_cons_succ] at p2 p3; have f0 := k4.cell 0; have f1 := k4.cell 1; simp only [List.getElem?_toArray, List.getElem?_cons_zero, List.getElem?_cons_succ] at f0 f1; have f2 := k4.free 0; have f3 := k4.free 1)
    | go_loud (refine step_app (by rfl) _ _ 23 (by rfl) w1.heap.size _ 2 24 wrC_flat elemWr hown3 (by rfl) [⟨n, t⟩] (RL.ofBlk (f := wrC) (g := w1.heap.size) [⟨n, t⟩] ((Blk.newAt (w := w1) (by simp)).drew.step hb3) (by show 1 ≤ maxLen; decide)) (by rfl) (by (try simp); omega) (by (try simp); unfold maxLen; omega) (by (try simp); omega) ?_; intro v4 w4 hown4 hb4 _; obtain ⟨a4, cap4, rfl⟩ := hown4.form; have k4 := k3.below hb4 (by omega); have hb14 := hb13.trans (hb4.mono (by omega)); have k04 := k03.below hb4 (by omega); have p2 := k04.cell 0; have p3 := k04.cell 1; simp only [List.getElem?_toArray, List.getElem?_cons_zero, List.getElem?_cons_succ] at p2 p3; have f0 := k4.cell 0; have f1 := k4.cell 1; simp only [List.getElem?_toArray, List.getElem?_cons_zero, List.getElem?_cons_succ] at f0 f1; have f2 := k4.free 0; have f3 := k4.free 1))
  all_goals
    go_wp2
    have e4 : (writes ++ [(⟨n, t⟩ : Wr)]).length = writes.length + 1 := by simp
    rw [e4] at hown4
    have l1 := k1.lt
    have hF : Below w.heap.size w ((w4.setCell ⟨w.heap.size + 1, 0, none⟩ (.slice a safe.length cap)).setCell ⟨w.heap.size + 1, 1, none⟩ (.slice a4 (writes.length + 1) cap4)) := (hb14.setCell (by simp) _).setCell (by simp) _
    refine bodyPost_ret (v := .tuple #[.agg #[.slice a safe.length cap, .slice a4 (writes.length + 1) cap4], .int .i64 0]) (by simp [results, Tryd.results28, go_sem, f0, f1]) rfl ⟨_, rfl, ⟨_, _, rfl, hs.out.below hF, ?_, n1, by simp; omega⟩, ⟨_, _, _, _, rfl, rfl, .same _ _ _ _ _, ?_⟩, hF⟩
    · exact ((hown4.setCell (by simp; omega) _).setCell (by simp; omega) _).reads
    · exact ((hown4.setCell (by simp; omega) _).setCell (by simp; omega) _).slot (by omega)
end Go.Proofs.YtjhmfljlclajnacDoor

namespace Go.Proofs.YtjhmfljlclajnacDoor
open Go.RowKit Wb
set_option linter.unusedVariables false
set_option linter.unusedSimpArgs false
set_option maxRecDepth 100000
set_option maxHeartbeats 1000000

theorem disk_PutN (d : Dsk) (n : Int) (t : ByteArray) (v : Value) (w : World) (hd : RDisk w v d) :
    Calls Tryd.prog 28 #[v, .int .i64 n, .string t] w fun e w' => ∃ v', e = .returned (.tuple #[v', .int .i64 (putE d n t)]) ∧ RDisk w' v' (putD d n t) ∧ NewD w.heap.size w' v v' d (putD d n t) ∧ Below w.heap.size w w' := by
  have hG := fun w (hh : RDisk w v d) => disk_Good d v w hh
  have hA := fun w => disk_at n w
  have hd2 := hd
  obtain ⟨vs, vw, rfl, hs, hw, n1, n2⟩ := hd
  obtain ⟨a, cap, rfl, _⟩ := hs.form
  obtain ⟨b, bcap, rfl, _⟩ := hw.form
  replace hd2 := hid hd2
  by_cases hg : goodD d = true
  · rw [hg] at hG
    by_cases ha : isAt n = true
    · have hg0 := hg
      have ha0 := ha
      rw [ha] at hA
      have hgood : goodD d = true ∧ isAt n = true := ⟨hg, ha⟩
      by_cases h32 : t.size = 32
      · have e1 : ((t.size : Int) != 32) = false := by rw [h32]; rfl
        by_cases h200 : 200 ≤ d.writes.length
        · have he : putE d n t = 11 := by unfold putE; rw [if_neg (not_not_intro hgood), if_neg (not_not_intro h32), if_pos h200]
          have hv : putD d n t = d := by unfold putD; rw [he, if_neg (by decide)]
          rw [hv, he]
          clear ha hg hv he hs hw hgood h32
          replace hG := hid hG
          replace hA := hid hA
          go_enter Tryd.func28, Tryd.ntmps28
          go_wp2_with (first
            | (go_at_call 20; refine (hG.out _ (hd2.out.below (by repeat (first | exact Below.refl _ _ | with_reducible assumption | (refine allocB ?_ (by first | omega | (simp; done) | (simp; omega)) _) | (refine Below.setCell ?_ (by first | omega | (simp; done) | (simp; omega)) _) | refine Below.drew ?_ | (refine Below.trans ?_ (Below.mono (by with_reducible assumption) (by first | omega | (simp; done) | (simp; omega)))))))).mono ?_; rintro e w1 ⟨rfl, hb1⟩; obtain ⟨hbc, hbf⟩ := bcell hb1; have hbz := hb1.size; try simp only [World.size_alloc, World.size_setCell, World.size_drew] at hbz; have hz0 := Nat.lt_of_lt_of_le (n := w.heap.size) (by omega) hbz; have hz1 := Nat.lt_of_lt_of_le (n := w.heap.size + 1) (by omega) hbz)
            | (go_at_call 29; refine (hA.out _).mono ?_; rintro e w2 ⟨rfl, rfl⟩))
          exact bodyPost_ret (v := .tuple #[.agg #[.slice a d.safe.length cap, .slice b d.writes.length bcap], .int .i64 11]) (by simp [results, Tryd.results28, go_sem, hbc]) rfl ⟨_, rfl, hd2.out.below (by repeat (first | exact Below.refl _ _ | with_reducible assumption | (refine allocB ?_ (by first | omega | (simp; done) | (simp; omega)) _) | (refine Below.setCell ?_ (by first | omega | (simp; done) | (simp; omega)) _) | refine Below.drew ?_ | (refine Below.trans ?_ (Below.mono (by with_reducible assumption) (by first | omega | (simp; done) | (simp; omega)))))), hd2.out.same _, by repeat (first | exact Below.refl _ _ | with_reducible assumption | (refine allocB ?_ (by first | omega | (simp; done) | (simp; omega)) _) | (refine Below.setCell ?_ (by first | omega | (simp; done) | (simp; omega)) _) | refine Below.drew ?_ | (refine Below.trans ?_ (Below.mono (by with_reducible assumption) (by first | omega | (simp; done) | (simp; omega)))))⟩
        · have he : putE d n t = 0 := by unfold putE; rw [if_neg (not_not_intro hgood), if_neg (not_not_intro h32), if_neg h200]
          have hv : putD d n t = ⟨d.safe, d.writes ++ [⟨n, t⟩]⟩ := by unfold putD; rw [if_pos he]
          rw [hv, he]
          clear ha hg hv he hgood
          exact disk_Put_good d n t _ w hd2.out hg0 ha0 h32 h200
      · have e1 : ((t.size : Int) != 32) = true := bne_iff_ne.2 (by omega)
        have he : putE d n t = 1 := by unfold putE; rw [if_neg (not_not_intro hgood), if_pos h32]
        have hv : putD d n t = d := by unfold putD; rw [he, if_neg (by decide)]
        rw [hv, he]
        clear ha hg hv he hs hw hgood h32
        replace hG := hid hG
        replace hA := hid hA
        go_enter Tryd.func28, Tryd.ntmps28
        go_wp2_with (first
          | (go_at_call 20; refine (hG.out _ (hd2.out.below (by repeat (first | exact Below.refl _ _ | with_reducible assumption | (refine allocB ?_ (by first | omega | (simp; done) | (simp; omega)) _) | (refine Below.setCell ?_ (by first | omega | (simp; done) | (simp; omega)) _) | refine Below.drew ?_ | (refine Below.trans ?_ (Below.mono (by with_reducible assumption) (by first | omega | (simp; done) | (simp; omega)))))))).mono ?_; rintro e w1 ⟨rfl, hb1⟩; obtain ⟨hbc, hbf⟩ := bcell hb1; have hbz := hb1.size; try simp only [World.size_alloc, World.size_setCell, World.size_drew] at hbz; have hz0 := Nat.lt_of_lt_of_le (n := w.heap.size) (by omega) hbz; have hz1 := Nat.lt_of_lt_of_le (n := w.heap.size + 1) (by omega) hbz)
          | (go_at_call 29; refine (hA.out _).mono ?_; rintro e w2 ⟨rfl, rfl⟩))
        exact bodyPost_ret (v := .tuple #[.agg #[.slice a d.safe.length cap, .slice b d.writes.length bcap], .int .i64 1]) (by simp [results, Tryd.results28, go_sem, hbc]) rfl ⟨_, rfl, hd2.out.below (by repeat (first | exact Below.refl _ _ | with_reducible assumption | (refine allocB ?_ (by first | omega | (simp; done) | (simp; omega)) _) | (refine Below.setCell ?_ (by first | omega | (simp; done) | (simp; omega)) _) | refine Below.drew ?_ | (refine Below.trans ?_ (Below.mono (by with_reducible assumption) (by first | omega | (simp; done) | (simp; omega)))))), hd2.out.same _, by repeat (first | exact Below.refl _ _ | with_reducible assumption | (refine allocB ?_ (by first | omega | (simp; done) | (simp; omega)) _) | (refine Below.setCell ?_ (by first | omega | (simp; done) | (simp; omega)) _) | refine Below.drew ?_ | (refine Below.trans ?_ (Below.mono (by with_reducible assumption) (by first | omega | (simp; done) | (simp; omega)))))⟩
    · have he : putE d n t = 2 := by unfold putE; rw [if_pos (fun hh => ha hh.2)]
      have hv : putD d n t = d := by unfold putD; rw [he, if_neg (by decide)]
      rw [hv, he]
      rw [Bool.not_eq_true _ |>.mp ha] at hA
      clear ha hg hv he
      replace hG := hid hG
      replace hA := hid hA
      replace hs := hid hs
      replace hw := hid hw
      go_enter Tryd.func28, Tryd.ntmps28
      go_wp2_with (first
        | (go_at_call 20; refine (hG.out _ (hd2.out.below (by repeat (first | exact Below.refl _ _ | with_reducible assumption | (refine allocB ?_ (by first | omega | (simp; done) | (simp; omega)) _) | (refine Below.setCell ?_ (by first | omega | (simp; done) | (simp; omega)) _) | refine Below.drew ?_ | (refine Below.trans ?_ (Below.mono (by with_reducible assumption) (by first | omega | (simp; done) | (simp; omega)))))))).mono ?_; rintro e w1 ⟨rfl, hb1⟩; obtain ⟨hbc, hbf⟩ := bcell hb1; have hbz := hb1.size; try simp only [World.size_alloc, World.size_setCell, World.size_drew] at hbz; have hz0 := Nat.lt_of_lt_of_le (n := w.heap.size) (by omega) hbz; have hz1 := Nat.lt_of_lt_of_le (n := w.heap.size + 1) (by omega) hbz)
        | (go_at_call 29; refine (hA.out _).mono ?_; rintro e w2 ⟨rfl, rfl⟩))
      exact bodyPost_ret (v := .tuple #[.agg #[.slice a d.safe.length cap, .slice b d.writes.length bcap], .int .i64 2]) (by simp [results, Tryd.results28, go_sem, hbc]) rfl ⟨_, rfl, hd2.out.below (by repeat (first | exact Below.refl _ _ | with_reducible assumption | (refine allocB ?_ (by first | omega | (simp; done) | (simp; omega)) _) | (refine Below.setCell ?_ (by first | omega | (simp; done) | (simp; omega)) _) | refine Below.drew ?_ | (refine Below.trans ?_ (Below.mono (by with_reducible assumption) (by first | omega | (simp; done) | (simp; omega)))))), hd2.out.same _, by repeat (first | exact Below.refl _ _ | with_reducible assumption | (refine allocB ?_ (by first | omega | (simp; done) | (simp; omega)) _) | (refine Below.setCell ?_ (by first | omega | (simp; done) | (simp; omega)) _) | refine Below.drew ?_ | (refine Below.trans ?_ (Below.mono (by with_reducible assumption) (by first | omega | (simp; done) | (simp; omega)))))⟩
  · have he : putE d n t = 2 := by unfold putE; rw [if_pos (fun hh => hg hh.1)]
    have hv : putD d n t = d := by unfold putD; rw [he, if_neg (by decide)]
    rw [hv, he]
    rw [Bool.not_eq_true _ |>.mp hg] at hG
    clear hg hv he hs hw
    replace hG := hid hG
    go_enter Tryd.func28, Tryd.ntmps28
    go_wp2_with (go_at_call 20; refine (hG.out _ (hd2.out.below (by repeat (first | exact Below.refl _ _ | with_reducible assumption | (refine allocB ?_ (by first | omega | (simp; done) | (simp; omega)) _) | (refine Below.setCell ?_ (by first | omega | (simp; done) | (simp; omega)) _) | refine Below.drew ?_ | (refine Below.trans ?_ (Below.mono (by with_reducible assumption) (by first | omega | (simp; done) | (simp; omega)))))))).mono ?_; rintro e w1 ⟨rfl, hb1⟩; obtain ⟨hbc, hbf⟩ := bcell hb1; have hbz := hb1.size; try simp only [World.size_alloc, World.size_setCell, World.size_drew] at hbz; have hz0 := Nat.lt_of_lt_of_le (n := w.heap.size) (by omega) hbz; have hz1 := Nat.lt_of_lt_of_le (n := w.heap.size + 1) (by omega) hbz)
    exact bodyPost_ret (v := .tuple #[.agg #[.slice a d.safe.length cap, .slice b d.writes.length bcap], .int .i64 2]) (by simp [results, Tryd.results28, go_sem, hbc]) rfl ⟨_, rfl, hd2.out.below (by repeat (first | exact Below.refl _ _ | with_reducible assumption | (refine allocB ?_ (by first | omega | (simp; done) | (simp; omega)) _) | (refine Below.setCell ?_ (by first | omega | (simp; done) | (simp; omega)) _) | refine Below.drew ?_ | (refine Below.trans ?_ (Below.mono (by with_reducible assumption) (by first | omega | (simp; done) | (simp; omega)))))), hd2.out.same _, by repeat (first | exact Below.refl _ _ | with_reducible assumption | (refine allocB ?_ (by first | omega | (simp; done) | (simp; omega)) _) | (refine Below.setCell ?_ (by first | omega | (simp; done) | (simp; omega)) _) | refine Below.drew ?_ | (refine Below.trans ?_ (Below.mono (by with_reducible assumption) (by first | omega | (simp; done) | (simp; omega)))))⟩
theorem disk_Put (d : Dsk) (n : Int) (t : ByteArray) (v : Value) (w : World) (hd : RDisk w v d) :
    Calls Tryd.prog 28 #[v, .int .i64 n, .string t] w fun e w' => ∃ v', e = .returned (.tuple #[v', .int .i64 (putE d n t)]) ∧ RDisk w' v' (putD d n t) ∧ Below w.heap.size w w' :=
  (disk_PutN d n t v w hd).mono fun e w' ⟨v', h1, h2, _, h3⟩ => ⟨v', h1, h2, h3⟩
end Go.Proofs.YtjhmfljlclajnacDoor

set_option linter.unusedVariables false
set_option linter.unusedSimpArgs false
namespace Wb
open Go Go.RowKit
theorem St.addRx {S : List Nat} {w0 w : World} {L : List Ent} {R : List Rd} (X : St S w0 w L R) {v : Value} {n : Nat} {cs : List Value} (hv : Sl w v n cs) (hn : ∀ e ∈ L, ∀ u ∈ cs, u ∉ e.cs) : St S w0 w L (⟨v, n, cs⟩ :: R) := by
  refine X.addR hv ?_
  obtain ⟨a, cap, hvv, _, _, h3⟩ := hv
  rcases h3 with h3 | ⟨b, off, ha, hc⟩
  · exact .inl h3
  · cases cs with
    | nil => exact .inl rfl
    | cons u r =>
      refine .inr fun b' hb e he heq => ?_
      rw [hvv, ha] at hb
      cases hb
      have h4 := hc 0 u rfl
      have h5 := X.cell (g := e.g) (cs := e.cs) (t := e.t) he off
      rw [Nat.add_zero] at h4
      have h6 : w.cell? ⟨e.g, off, none⟩ = some u := by rw [heq]; exact h4
      rw [h6] at h5
      exact hn e he u (by simp) (List.mem_of_getElem? h5.symm)
/-- Of what kind cells are: no slices. -/
def noSl : Value → Bool
  | .slice _ _ _ => false
  | _ => true
theorem strC_noSl (l : List ByteArray) : ∀ u ∈ l.flatMap strC, noSl u = true := by
  intro u hu
  obtain ⟨x, _, hx⟩ := List.mem_flatMap.1 hu
  simp only [strC, List.mem_singleton] at hx
  subst hx; rfl
theorem wrC_noSl (l : List Wr) : ∀ u ∈ l.flatMap wrC, noSl u = true := by
  intro u hu
  obtain ⟨x, _, hx⟩ := List.mem_flatMap.1 hu
  simp only [wrC, List.mem_cons, List.not_mem_nil, or_false] at hx
  rcases hx with rfl | rfl <;> rfl
/-- The readings of a disk: two slices. -/
abbrev dskR (as_ : Option Addr) (cs : Nat) (aw : Option Addr) (cw : Nat) (d : Dsk) : List Rd := [Rd.of strC (.slice as_ d.safe.length cs) d.safe, Rd.of wrC (.slice aw d.writes.length cw) d.writes]
theorem RDisk.form {w : World} {v : Value} {d : Dsk} (h : RDisk w v d) : ∃ as_ cs aw cw, v = .agg #[.slice as_ d.safe.length cs, .slice aw d.writes.length cw] ∧ RL strC w (.slice as_ d.safe.length cs) d.safe ∧ RL wrC w (.slice aw d.writes.length cw) d.writes ∧ d.safe.length ≤ 8796093022208 ∧ d.writes.length ≤ 5864062014805 := by
  obtain ⟨vs, vw, rfl, h1, h2, h3, h4⟩ := h
  obtain ⟨as_, cs, rfl, _⟩ := h1.form
  obtain ⟨aw, cw, rfl, _⟩ := h2.form
  exact ⟨as_, cs, aw, cw, rfl, h1, h2, h3, h4⟩
theorem St.addDsk {S : List Nat} {w0 w : World} {L : List Ent} {R : List Rd} (X : St S w0 w L R) {as_ aw : Option Addr} {cs cw : Nat} {d : Dsk} (h1 : RL strC w (.slice as_ d.safe.length cs) d.safe) (h2 : RL wrC w (.slice aw d.writes.length cw) d.writes) (hn : ∀ e ∈ L, ∀ u ∈ e.cs, noSl u = false) :
    St S w0 w L (Rd.of strC (.slice as_ d.safe.length cs) d.safe :: Rd.of wrC (.slice aw d.writes.length cw) d.writes :: R) := by
  have X1 := X.addRx (v := .slice aw d.writes.length cw) (n := d.writes.length) (cs := d.writes.flatMap wrC) h2 (fun e he u hu hm => by
    have := hn e he u hm
    rw [wrC_noSl _ u hu] at this; cases this)
  exact X1.addRx (v := .slice as_ d.safe.length cs) (n := d.safe.length) (cs := d.safe.flatMap strC) h1 (fun e he u hu hm => by
    have := hn e he u hm
    rw [strC_noSl _ u hu] at this; cases this)
theorem St.dsk {S : List Nat} {w0 w : World} {L : List Ent} {R : List Rd} {as_ aw : Option Addr} {cs cw : Nat} {d : Dsk} (X : St S w0 w L (Rd.of strC (.slice as_ d.safe.length cs) d.safe :: Rd.of wrC (.slice aw d.writes.length cw) d.writes :: R)) (h3 : d.safe.length ≤ 8796093022208) (h4 : d.writes.length ≤ 5864062014805) :
    RDisk w (.agg #[.slice as_ d.safe.length cs, .slice aw d.writes.length cw]) d := ⟨_, _, rfl, X.r0, X.r1, h3, h4⟩
/-- A cell that is no string. -/
def noStr : Value → Bool
  | .string _ => false
  | _ => true
theorem St.addRy {S : List Nat} {w0 w : World} {L : List Ent} {R : List Rd} (X : St S w0 w L R) {v : Value} {n : Nat} {cs : List Value} (hv : Sl w v n cs) (k : Nat) (hk : cs = [] ∨ ∃ s, cs[k]? = some (.string s)) (hn : ∀ e ∈ L, ∀ u ∈ e.cs, noStr u = true) : St S w0 w L (⟨v, n, cs⟩ :: R) := by
  refine X.addR hv ?_
  obtain ⟨a, cap, hvv, _, _, h3⟩ := hv
  rcases h3 with h3 | ⟨b, off, ha, hc⟩
  · exact .inl h3
  rcases hk with hk | ⟨s, hk⟩
  · exact .inl hk
  · refine .inr fun b' hb e he heq => ?_
    rw [hvv, ha] at hb
    cases hb
    have h4 := hc k _ hk
    have h5 := X.cell (g := e.g) (cs := e.cs) (t := e.t) he (off + k)
    have h6 : w.cell? ⟨e.g, off + k, none⟩ = some (.string s) := by rw [heq]; exact h4
    rw [h6] at h5
    have := hn e he _ (List.mem_of_getElem? h5.symm)
    cases this
/-- A disk that is read: its slices lie in no block without strings. -/
theorem St.addDskS {S : List Nat} {w0 w : World} {L : List Ent} {R : List Rd} (X : St S w0 w L R) {as_ aw : Option Addr} {cs cw : Nat} {d : Dsk} (h1 : RL strC w (.slice as_ d.safe.length cs) d.safe) (h2 : RL wrC w (.slice aw d.writes.length cw) d.writes) (hn : ∀ e ∈ L, ∀ u ∈ e.cs, noStr u = true) :
    St S w0 w L (Rd.of strC (.slice as_ d.safe.length cs) d.safe :: Rd.of wrC (.slice aw d.writes.length cw) d.writes :: R) := by
  have X1 := X.addRy (v := .slice aw d.writes.length cw) (n := d.writes.length) (cs := d.writes.flatMap wrC) h2 1 (by
    cases d.writes with
    | nil => exact .inl rfl
    | cons x r => exact .inr ⟨x.text, rfl⟩) hn
  exact X1.addRy (v := .slice as_ d.safe.length cs) (n := d.safe.length) (cs := d.safe.flatMap strC) h1 0 (by
    cases d.safe with
    | nil => exact .inl rfl
    | cons x r => exact .inr ⟨x, rfl⟩) hn
end Wb

namespace Go.Proofs.YtjhmfljlclajnacDoor
open Go.RowKit Wb
set_option linter.unusedVariables false
set_option linter.unusedSimpArgs false
set_option maxRecDepth 100000
set_option maxHeartbeats 1000000

theorem disk_FlushN (d : Dsk) (v : Value) (w : World) (hd : RDisk w v d) :
    Calls Tryd.prog 5 #[v] w fun e w' => ∃ v', e = .returned (.tuple #[v', .int .i64 (flushE d)]) ∧ RDisk w' v' (flushD d) ∧ NewD w.heap.size w' v v' d (flushD d) ∧ Below w.heap.size w w' := by
  have hG := fun w (hh : RDisk w v d) => disk_Good d v w hh
  have hd2 := hd
  obtain ⟨vs, vw, rfl, hs, hw, n1, n2⟩ := hd
  obtain ⟨a, cap, rfl, ca1, ca2⟩ := hs.form
  obtain ⟨b, bcap, rfl, cb1, cb2⟩ := hw.form
  replace hd2 := hid hd2
  by_cases hg : goodD d = true
  · have he : flushE d = 0 := by unfold flushE; rw [if_pos hg]
    have hv : flushD d = ⟨flushL d.safe d.writes, []⟩ := by unfold flushD; rw [if_pos hg]
    rw [hv, he]
    rw [hg] at hG
    obtain ⟨g1, g2, _, g3⟩ := (goodD_iff d).1 hg
    clear he hv hg
    obtain ⟨safe, writes⟩ := d
    dsimp only at *
    have hC := fun v w (hh : RL strC w v safe) => clone_Strings safe v w hh n1
    have hstep := fun (k : Nat) (hk : k < writes.length) => flushL_step safe writes hk
    have hlen := fun k => flushL_len safe (writes.take k)
    have hwr := fun (k : Nat) (hk : k < writes.length) => List.all_eq_true.1 g3 writes[k] (List.getElem_mem hk)
    replace hG := hid hG
    replace hC := hid hC
    replace hs := hid hs
    replace hw := hid hw
    replace hstep := hid hstep
    replace hlen := hid hlen
    replace hwr := hid hwr
    replace g1 := hid g1
    clear g3
    go_enter Tryd.func5, Tryd.ntmps5
    go_wp2_with (first
      | (go_at_call 20; refine (hG.out _ (hd2.out.below (by repeat (first | exact Below.refl _ _ | with_reducible assumption | (refine allocB ?_ (by first | omega | (simp; done) | (simp; omega)) _) | (refine Below.setCell ?_ (by first | omega | (simp; done) | (simp; omega)) _) | refine Below.drew ?_ | (refine Below.trans ?_ (Below.mono (by with_reducible assumption) (by first | omega | (simp; done) | (simp; omega)))))))).mono ?_; rintro e w1 ⟨rfl, hb1⟩; obtain ⟨hbc, hbf⟩ := bcell hb1; have hbz := hb1.size; try simp only [World.size_alloc, World.size_setCell, World.size_drew] at hbz; have hz0 := Nat.lt_of_lt_of_le (n := w.heap.size) (by omega) hbz; have hz1 := Nat.lt_of_lt_of_le (n := w.heap.size + 1) (by omega) hbz)
      | (go_at_call 21; go_loud (refine (hC.out _ _ (hs.out.below (by repeat (first | exact Below.refl _ _ | with_reducible assumption | (refine allocB ?_ (by first | omega | (simp; done) | (simp; omega)) _) | (refine Below.setCell ?_ (by first | omega | (simp; done) | (simp; omega)) _) | refine Below.drew ?_ | (refine Below.trans ?_ (Below.mono (by with_reducible assumption) (by first | omega | (simp; done) | (simp; omega)))))))).mono ?_; rintro e w3 ⟨v3, rfl, hown3, hb3⟩; obtain ⟨a3, cap3, rfl⟩ := hown3.form; have k0 : Blk w3 w.heap.size #[.slice a safe.length cap, .slice b writes.length bcap] 25 := (((Blk.new w _ _).alloc _).step hb1).step hb3; have k1 : Blk w3 (w.heap.size + 1) #[.slice none 0 0, .slice none 0 0] 25 := ((Blk.newAt (w := w.alloc _) (by simp)).step hb1).step hb3; have hnx3 : Below w.heap.size w w3 := (by repeat (first | exact Below.refl _ _ | with_reducible assumption | (refine allocB ?_ (by first | omega | (simp; done) | (simp; omega)) _) | (refine Below.setCell ?_ (by first | omega | (simp; done) | (simp; omega)) _) | refine Below.drew ?_ | (refine Below.trans ?_ (Below.mono (by with_reducible assumption) (by first | omega | (simp; done) | (simp; omega)))))); have lt1 := k1.lt; have lt0 := k0.lt; have c0 := k0.cell 0; have c1 := k0.cell 1; simp only [List.getElem?_toArray, List.getElem?_cons_zero, List.getElem?_cons_succ] at c0 c1; have og := fun g (hg : (Value.slice a3 safe.length cap3).ownBlock = some g) => World.ownsRow.lt hown3 g hg; replace og := hid og; have lz := hb1.size; clear hb1 hb3 hbc hbf)))
    have hz1w : w.heap.size + 1 < w1.heap.size := by (try simp at lz); omega
    have o0 := hown3
    go_loopw [6, 18] (fun _ i wr => ∃ k : Nat, k ≤ writes.length ∧ i = .int .i64 k ∧ Wb.Own strC w1.heap.size 9 1 wr (.slice a3 safe.length cap3) (flushL safe (writes.take k)) ∧ Blk wr w.heap.size #[.slice a safe.length cap, .slice b writes.length bcap] 25 ∧ Blk wr (w.heap.size + 1) #[.slice none 0 0, .slice none 0 0] 25 ∧ Blk wr w3.heap.size #[.slice a3 safe.length cap3, .slice none 0 0] 25 ∧ Below w.heap.size w wr) (fun _ i _ => writes.length - (intOf i).toNat)
    case atStart => exact ⟨0, Nat.zero_le _, rfl, o0.alloc _, k0.alloc _, k1.alloc _, Blk.new _ _ _, allocB hnx3 (by omega) _⟩
    case round =>
      obtain ⟨k, hk, rfl, hown, k0, k1, k2, hnx⟩ := hrel
      have lt0 := k0.lt
      have lt1 := k1.lt
      have lt2 := k2.lt
      have c0 := k0.cell 0
      have c1 := k0.cell 1
      have c2 := k1.cell 0
      have c3 := k1.cell 1
      have c4 := k2.cell 0
      have c5 := k2.cell 1
      simp only [List.getElem?_toArray, List.getElem?_cons_zero, List.getElem?_cons_succ] at c0 c1 c2 c3 c4 c5
      by_cases hlt : k < writes.length
      · obtain ⟨b2, off, rfl, d0, d1⟩ := RL.at2 (fun x => .int .i64 x.at_) (fun x => .string x.text) (fun _ => rfl) (hw.out.below hnx) hlt
        have lt3 := World.block_lt_of_cell? _ _ d0
        dsimp only at lt3
        have hst := hstep.out k hlt
        have hwk := hwr.out k hlt
        have hl := hlen.out k
        obtain ⟨⟨p, t⟩, hx⟩ : ∃ x, writes[k] = x := ⟨_, rfl⟩
        rw [hx] at d0 d1 hst hwk
        obtain ⟨m, rfl⟩ : ∃ m : Nat, p = m := ⟨p.toNat, by simp only [wrOk, Bool.and_eq_true, isAt, decide_eq_true_eq] at hwk; omega⟩
        have hm : m < safe.length := by simp only [wrOk, Bool.and_eq_true, isAt, decide_eq_true_eq] at hwk; have := g1.out; omega
        dsimp only at d0 d1
        simp only [Int.toNat_natCast] at hst
        generalize flushL safe (writes.take k) = fl at *
        obtain ⟨g, cap4, hv, hgb, hgl, hgc, hset⟩ := hown.poke strC_flat (k := m) (by omega)
        simp only [Value.slice.injEq] at hv
        obtain ⟨rfl, _, rfl⟩ := hv
        obtain ⟨z0, z1⟩ := hgc 0 (by decide)
        replace hset := hset 0 t (.string t) (by decide) rfl
        rw [← hst, Nat.mul_one, Nat.add_zero] at hset
        simp only [Nat.mul_one, Nat.add_zero, strC, List.getElem?_cons_zero] at z0 z1
        replace hset := hid hset
        have hne := og.out g rfl
        have hm3 : m < fl.length := by omega
        obtain ⟨old, hold⟩ : ∃ y, fl[m] = y := ⟨_, rfl⟩
        rw [hold] at z1
        clear hold hwk hst hx hown hgc hl hm3
        have hm2 : (m : Int) < safe.length := by omega
        go_wp2
        go_roundw
        case rel => exact ⟨k + 1, by omega, by go_num, hset.out.alloc _, (k0.set_other _ _ (by simp; omega)).alloc _, (k1.set_other _ _ (by simp; omega)).alloc _, (k2.set_other _ _ (by simp; omega)).alloc _, allocB (hnx.setCell (by simp; omega) _) (by omega) _⟩
        case measure => simp [intOf]; omega
      · rw [List.take_of_length_le (by omega)] at hown
        have f1 := k1.free 0
        have f2 := k1.free 1
        go_wp2
        have hF : Below w.heap.size w ((wr.setCell ⟨w.heap.size + 1, 0, none⟩ (.slice a3 safe.length cap3)).setCell ⟨w.heap.size + 1, 1, none⟩ (.slice none 0 0)) := (hnx.setCell (by simp) _).setCell (by simp) _
        have hfl := flushL_len safe writes
        obtain ⟨a9, cap9, hv9, _, _⟩ := hown.reads.form
        have ho := (hown.setCell (p := ⟨w.heap.size + 1, 0, none⟩) (by simp; omega) (.slice a3 safe.length cap3)).setCell (p := ⟨w.heap.size + 1, 1, none⟩) (by simp; omega) (.slice none 0 0)
        refine bodyPost_ret (v := .tuple #[.agg #[.slice a3 safe.length cap3, .slice none 0 0], .int .i64 0]) (by simp [results, Tryd.results5, go_sem, c2, c3]) rfl ⟨_, rfl, ⟨_, _, rfl, ho.reads, RL.nil _ _, by rw [hfl]; exact n1, by simp⟩, ⟨_, _, _, _, rfl, rfl, ho.slot (by omega), .nil⟩, hF⟩
  · have he : flushE d = 2 := by unfold flushE; rw [if_neg hg]
    have hv : flushD d = d := by unfold flushD; rw [if_neg hg]
    rw [hv, he]
    rw [Bool.not_eq_true _ |>.mp hg] at hG
    clear hg hv he hs hw
    replace hG := hid hG
    go_enter Tryd.func5, Tryd.ntmps5
    go_wp2_with (go_at_call 20; refine (hG.out _ (hd2.out.below (by repeat (first | exact Below.refl _ _ | with_reducible assumption | (refine allocB ?_ (by first | omega | (simp; done) | (simp; omega)) _) | (refine Below.setCell ?_ (by first | omega | (simp; done) | (simp; omega)) _) | refine Below.drew ?_ | (refine Below.trans ?_ (Below.mono (by with_reducible assumption) (by first | omega | (simp; done) | (simp; omega)))))))).mono ?_; rintro e w1 ⟨rfl, hb1⟩; obtain ⟨hbc, hbf⟩ := bcell hb1; have hbz := hb1.size; try simp only [World.size_alloc, World.size_setCell, World.size_drew] at hbz; have hz0 := Nat.lt_of_lt_of_le (n := w.heap.size) (by omega) hbz; have hz1 := Nat.lt_of_lt_of_le (n := w.heap.size + 1) (by omega) hbz)
    exact bodyPost_ret (v := .tuple #[.agg #[.slice a d.safe.length cap, .slice b d.writes.length bcap], .int .i64 2]) (by simp [results, Tryd.results5, go_sem, hbc]) rfl ⟨_, rfl, hd2.out.below (by repeat (first | exact Below.refl _ _ | with_reducible assumption | (refine allocB ?_ (by first | omega | (simp; done) | (simp; omega)) _) | (refine Below.setCell ?_ (by first | omega | (simp; done) | (simp; omega)) _) | refine Below.drew ?_ | (refine Below.trans ?_ (Below.mono (by with_reducible assumption) (by first | omega | (simp; done) | (simp; omega)))))), hd2.out.same _, by repeat (first | exact Below.refl _ _ | with_reducible assumption | (refine allocB ?_ (by first | omega | (simp; done) | (simp; omega)) _) | (refine Below.setCell ?_ (by first | omega | (simp; done) | (simp; omega)) _) | refine Below.drew ?_ | (refine Below.trans ?_ (Below.mono (by with_reducible assumption) (by first | omega | (simp; done) | (simp; omega)))))⟩
theorem disk_Flush (d : Dsk) (v : Value) (w : World) (hd : RDisk w v d) :
    Calls Tryd.prog 5 #[v] w fun e w' => ∃ v', e = .returned (.tuple #[v', .int .i64 (flushE d)]) ∧ RDisk w' v' (flushD d) ∧ Below w.heap.size w w' :=
  (disk_FlushN d v w hd).mono fun e w' ⟨v', h1, h2, _, h3⟩ => ⟨v', h1, h2, h3⟩
end Go.Proofs.YtjhmfljlclajnacDoor
