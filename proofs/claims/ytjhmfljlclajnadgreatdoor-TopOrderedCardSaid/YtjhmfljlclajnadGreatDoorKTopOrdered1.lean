/- Parts of the proof: ScanP ScanA ScanB DiskP2 CrashP SealP LogP LogD ComD ComS. -/
import Derived.Test.YtjhmfljlclajnadGreatDoorKTopOrdered0
import Derived.Test.YtjhmfljlclajnadGreatDoorUDecP2
set_option linter.unusedVariables false
set_option linter.unusedSimpArgs false
set_option maxRecDepth 100000
set_option maxHeartbeats 40000000
namespace Wb
open Go Go.RowKit
def takeTags : List Tag -> List ByteArray -> List Cpy -> Option (List Cpy × List ByteArray)
 | [], r, mt => some (mt, r)
 | _ :: _, [], _ => none
 | g :: gs, s :: r, mt => takeTags gs r (mt ++ [⟨g.block, unescS s g.esc⟩])
def parseT (seq : Int) : Nat -> List ByteArray -> Txn -> Option (Txn × List ByteArray)
 | 0, _, _ => none
 | _ + 1, [], _ => none
 | n + 1, s :: r, t =>
  if decE s = 0 /\ (decM s).seq = seq then
   if (decM s).kind = 4 then some (t, r)
   else if (decM s).kind = 3 then parseT seq n r { t with rev := t.rev ++ (decM s).blocks }
   else if (decM s).kind = 2 then
    match takeTags (decM s).tags r t.mt with
    | some (mt, r') => parseT seq n r' { t with mt := mt }
    | none => none
   else none
  else none
theorem takeTags_len {gs : List Tag} {r r' : List ByteArray} {mt mt' : List Cpy} (h : takeTags gs r mt = some (mt', r')) : r'.length + gs.length = r.length /\ mt'.length = mt.length + gs.length := by
 induction gs generalizing r mt with
 | nil =>
  simp only [takeTags, Option.some.injEq, Prod.mk.injEq] at h
  obtain ⟨rfl, rfl⟩ := h
  exact ⟨rfl, rfl⟩
 | cons g gs ih =>
  cases r with
  | nil => cases h
  | cons s r =>
   have := ih h
   simp only [List.length_cons, List.length_append, List.length_nil] at this ⊢
   omega
theorem parseT_len {seq : Int} {n : Nat} {r r' : List ByteArray} {t t' : Txn} (h : parseT seq n r t = some (t', r')) : r'.length < r.length := by
 induction n generalizing r t with
 | zero => cases h
 | succ n ih =>
  cases r with
  | nil => cases h
  | cons s r =>
   unfold parseT at h
   by_cases h1 : decE s = 0 /\ (decM s).seq = seq
   ·rw [if_pos h1] at h
    by_cases h2 : (decM s).kind = 4
    ·rw [if_pos h2] at h
     simp only [Option.some.injEq, Prod.mk.injEq] at h
     rw [<- h.2]
     exact Nat.lt_succ_self _
    ·rw [if_neg h2] at h
     by_cases h3 : (decM s).kind = 3
     ·rw [if_pos h3] at h
      have := ih h
      simp only [List.length_cons]; omega
     ·rw [if_neg h3] at h
      by_cases h4 : (decM s).kind = 2
      ·rw [if_pos h4] at h
       cases hm : takeTags (decM s).tags r t.mt with
       | none => rw [hm] at h; cases h
       | some p =>
        obtain ⟨mt, r2⟩ := p
        rw [hm] at h
        have h5 := takeTags_len hm
        have := ih h
        simp only [List.length_cons]; omega
      ·rw [if_neg h4] at h; cases h
   ·rw [if_neg h1] at h; cases h
theorem parseT_fuel {seq : Int} {n m : Nat} {r : List ByteArray} {t : Txn} (hn : r.length < n) (hm : r.length < m) : parseT seq n r t = parseT seq m r t := by
 induction n generalizing m r t with
 | zero => omega
 | succ n ih =>
  cases m with
  | zero => omega
  | succ m =>
   cases r with
   | nil => rfl
   | cons s r =>
    simp only [List.length_cons] at hn hm
    unfold parseT
    split
    ·split
     ·rfl
     ·split
      ·exact ih (by omega) (by omega)
      ·split
       ·cases hk : takeTags (decM s).tags r t.mt with
        | none => rfl
        | some p =>
         have h5 := takeTags_len hk
         exact ih (by omega) (by omega)
       ·rfl
    ·rfl
structure Fnd where
 txns : List Txn
 next : Int
 at_ : Int
def scanGo : Nat -> List ByteArray -> Int -> List Txn × Int × List ByteArray
 | 0, r, n => ([], n, r)
 | k + 1, r, n =>
  if n < 2147483647 then
   match parseT n 25 r (txn0 n) with
   | some (t, r') => (t :: (scanGo k r' (n + 1)).1, (scanGo k r' (n + 1)).2)
   | none => ([], n, r)
  else ([], n, r)
def logL (d : Dsk) (a : Int) : List ByteArray := (List.range 24).map fun (i : Nat) => readD d (1 + (a + (i : Int)) % 24)
theorem logL_len (d : Dsk) (a : Int) : (logL d a).length = 24 := by simp [logL]
def scanE (d : Dsk) : Int := if readE d 0 = 0 then (if decE (readD d 0) = 0 /\ (decM (readD d 0)).kind = 1 then 0 else 1) else 2
def scanF (d : Dsk) : Fnd :=
 if scanE d = 0 then
  ⟨(scanGo 25 (logL d (decM (readD d 0)).at_) (decM (readD d 0)).seq).1, (scanGo 25 (logL d (decM (readD d 0)).at_) (decM (readD d 0)).seq).2.1, ((decM (readD d 0)).at_ + (24 - ((scanGo 25 (logL d (decM (readD d 0)).at_) (decM (readD d 0)).seq).2.2.length : Int))) % 24⟩
 else ⟨[], 0, 0⟩
def sfx (d : Dsk) (A : Int) (r : List ByteArray) : Prop := r = (logL d A).drop (24 - r.length) /\ r.length <= 24
theorem sfx_all (d : Dsk) (A : Int) : sfx d A (logL d A) := by
 unfold sfx
 rw [logL_len]
 exact ⟨rfl, Nat.le_refl _⟩
theorem sfx_cons {d : Dsk} {A : Int} {s : ByteArray} {r : List ByteArray} (h : sfx d A (s :: r)) : sfx d A r /\ readD d (1 + (A + (24 - ((r.length + 1 : Nat) : Int))) % 24) = s /\ r.length < 24 := by
 obtain ⟨h1, h2⟩ := h
 simp only [List.length_cons] at h1 h2
 have hlt : 24 - (r.length + 1) < (logL d A).length := by rw [logL_len]; omega
 rw [List.drop_eq_getElem_cons hlt] at h1
 simp only [List.cons.injEq] at h1
 refine ⟨⟨?_, by omega⟩, ?_, by omega⟩
 ·have := h1.2
  rw [show 24 - (r.length + 1) + 1 = 24 - r.length by omega] at this
  exact this
 ·rw [h1.1]
  simp only [logL, List.getElem_map, List.getElem_range]
  congr 3
  omega
theorem dec_bds {s : ByteArray} (h : decE s = 0) : (decM s).tags.length <= 10 /\ (decM s).blocks.length <= 20 /\ 0 <= (decM s).at_ /\ (decM s).at_ < 24 /\ 1 <= (decM s).seq /\ (decM s).seq <= 2147483647 := by
 have hd : decOk s := by
  by_cases hd : decOk s
  ·exact hd
  ·rw [(dec_no hd).2] at h; cases h
 obtain ⟨e1, _, e2, _⟩ := dec_yes hd
 rw [e1]
 generalize rawM s = m at *
 have k1 : ¬ badKind m := fun hh => by rw [markE_kind hh] at e2; cases e2
 have k2 : ¬ badNum m := fun hh => by rw [markE_num k1 hh] at e2; cases e2
 have k3 : ¬ badForm m := fun hh => by rw [markE_form k1 k2 hh] at e2; cases e2
 have k4 : ¬ badLen m := fun hh => by rw [markE_len k1 k2 k3 hh] at e2; cases e2
 unfold badNum at k2
 unfold badLen at k4
 omega
theorem lastT_size (n : Int) : ∀ (ws : List Wr) (s : ByteArray), s.size <= 32 -> ws.all wrOk = true -> (lastT s n ws).size <= 32
 | [], s, h, _ => h
 | x :: ws, s, h, hw => by
  simp only [List.all_cons, Bool.and_eq_true] at hw
  have e : lastT s n (x :: ws) = lastT (if x.at_ = n then x.text else s) n ws := rfl
  rw [e]
  refine lastT_size n ws _ ?_ hw.2
  split
  ·have := hw.1
   unfold wrOk at this
   simp only [Bool.and_eq_true] at this
   have : x.text.size = 32 := of_decide_eq_true this.2
   omega
  ·exact h
theorem readD_size (d : Dsk) (n : Int) : (readD d n).size <= 32 := by
 unfold readD
 split
 ·rename_i h
  obtain ⟨h1, h2, h3, h4⟩ := (goodD_iff d).1 h.1
  refine lastT_size n _ _ ?_ h4
  unfold safeAt
  rw [List.getD_eq_getElem?_getD]
  cases hk : d.safe[n.toNat]? with
  | none => exact Nat.zero_le _
  | some s =>
   have := List.all_eq_true.1 h3 s (List.mem_of_getElem? hk)
   have : s.size = 32 := of_decide_eq_true this
   simp only [Option.getD_some]
   omega
 ·exact Nat.zero_le _
theorem logL_size (d : Dsk) (A : Int) : ∀ s ∈ logL d A, s.size <= 9223372036854775807 := by
 intro s hs
 unfold logL at hs
 obtain ⟨i, _, rfl⟩ := List.mem_map.1 hs
 have := readD_size d (1 + (A + (i : Int)) % 24)
 omega
theorem parseT_nil (seq : Int) (n : Nat) (t : Txn) : parseT seq n [] t = none := by cases n <;> rfl
theorem scanGo_fuel {n m : Nat} {r : List ByteArray} {x : Int} (hn : r.length < n) (hm : r.length < m) : scanGo n r x = scanGo m r x := by
 induction n generalizing m r x with
 | zero => omega
 | succ n ih =>
  cases m with
  | zero => omega
  | succ m =>
   unfold scanGo
   split
   ·cases hp : parseT x 25 r (txn0 x) with
    | none => rfl
    | some p =>
     obtain ⟨t, r'⟩ := p
     have hl := parseT_len hp
     have e : scanGo n r' (x + 1) = scanGo m r' (x + 1) := ih (by omega) (by omega)
     show (t :: (scanGo n r' (x + 1)).1, (scanGo n r' (x + 1)).2) = (t :: (scanGo m r' (x + 1)).1, (scanGo m r' (x + 1)).2)
     rw [e]
   ·rfl
theorem parseT_sfx {d : Dsk} {A : Int} {seq : Int} {n : Nat} {r r' : List ByteArray} {t t' : Txn} (h : parseT seq n r t = some (t', r')) (hs : sfx d A r) : sfx d A r' := by
 induction n generalizing r t with
 | zero => cases h
 | succ n ih =>
  cases r with
  | nil => cases h
  | cons s r =>
   obtain ⟨h1, _, _⟩ := sfx_cons hs
   have key : ∀ (gs : List Tag) (r1 r2 : List ByteArray) (m1 m2 : List Cpy), takeTags gs r1 m1 = some (m2, r2) -> sfx d A r1 -> sfx d A r2 := by
    intro gs
    induction gs with
    | nil =>
     intro r1 r2 m1 m2 hh h5
     simp only [takeTags, Option.some.injEq, Prod.mk.injEq] at hh
     rw [<- hh.2]; exact h5
    | cons g gs ihg =>
     intro r1 r2 m1 m2 hh h5
     cases r1 with
     | nil => cases hh
     | cons s1 r1 => exact ihg _ _ _ _ hh (sfx_cons h5).1
   unfold parseT at h
   split at h
   ·split at h
    ·simp only [Option.some.injEq, Prod.mk.injEq] at h
     rw [<- h.2]; exact h1
    ·split at h
     ·exact ih h h1
     ·split at h
      ·cases hm : takeTags (decM s).tags r t.mt with
       | none => rw [hm] at h; cases h
       | some p =>
        obtain ⟨mt, r2⟩ := p
        rw [hm] at h
        exact ih h (key _ _ _ _ _ hm h1)
      ·cases h
   ·cases h
theorem parseT_sub {seq : Int} {n : Nat} {r r' : List ByteArray} {t t' : Txn} (h : parseT seq n r t = some (t', r')) : ∀ s ∈ r', s ∈ r := by
 induction n generalizing r t with
 | zero => cases h
 | succ n ih =>
  cases r with
  | nil => cases h
  | cons s r =>
   have key : ∀ (gs : List Tag) (r1 r2 : List ByteArray) (m1 m2 : List Cpy), takeTags gs r1 m1 = some (m2, r2) -> ∀ s ∈ r2, s ∈ r1 := by
    intro gs
    induction gs with
    | nil =>
     intro r1 r2 m1 m2 hh s hs
     simp only [takeTags, Option.some.injEq, Prod.mk.injEq] at hh
     rw [hh.2]; exact hs
    | cons g gs ihg =>
     intro r1 r2 m1 m2 hh s hs
     cases r1 with
     | nil => cases hh
     | cons s1 r1 => exact List.mem_cons_of_mem _ (ihg _ _ _ _ hh s hs)
   intro x hx
   unfold parseT at h
   split at h
   ·split at h
    ·simp only [Option.some.injEq, Prod.mk.injEq] at h
     rw [<- h.2] at hx; exact List.mem_cons_of_mem _ hx
    ·split at h
     ·exact List.mem_cons_of_mem _ (ih h x hx)
     ·split at h
      ·cases hm : takeTags (decM s).tags r t.mt with
       | none => rw [hm] at h; cases h
       | some p =>
        obtain ⟨mt, r2⟩ := p
        rw [hm] at h
        exact List.mem_cons_of_mem _ (key _ _ _ _ _ hm x (ih h x hx))
      ·cases h
   ·cases h
theorem scanGo_step {r r' : List ByteArray} {x : Int} {t : Txn} (hx : x < 2147483647) (h : parseT x 25 r (txn0 x) = some (t, r')) :
    (scanGo (r.length + 1) r x).1 = t :: (scanGo (r'.length + 1) r' (x + 1)).1 /\ (scanGo (r.length + 1) r x).2 = (scanGo (r'.length + 1) r' (x + 1)).2 := by
 have hl := parseT_len h
 have e : scanGo (r.length + 1) r x = (t :: (scanGo r.length r' (x + 1)).1, (scanGo r.length r' (x + 1)).2) := by
  show (if x < 2147483647 then _ else _) = _
  rw [if_pos hx, h]
 rw [e, scanGo_fuel (n := r.length) (m := r'.length + 1) (by omega) (by omega)]
 exact ⟨rfl, rfl⟩
theorem scanGo_stop {r : List ByteArray} {x : Int} (h : parseT x 25 r (txn0 x) = none) : scanGo (r.length + 1) r x = ([], x, r) := by
 show (if x < 2147483647 then _ else _) = _
 split
 ·rw [h]
 ·rfl
theorem scanGo_full {r : List ByteArray} {x : Int} (h : ¬ x < 2147483647) : scanGo (r.length + 1) r x = ([], x, r) := by
 show (if x < 2147483647 then _ else _) = _
 rw [if_neg h]
def flushL (s : List ByteArray) (ws : List Wr) : List ByteArray := ws.foldl (fun s x => s.set x.at_.toNat x.text) s
theorem flushL_step (s : List ByteArray) (ws : List Wr) {k : Nat} (hk : k < ws.length) : flushL s (ws.take (k + 1)) = (flushL s (ws.take k)).set ws[k].at_.toNat ws[k].text := by
 unfold flushL; rw [List.take_succ_eq_append_getElem hk, List.foldl_append]; rfl
theorem flushL_len (s : List ByteArray) (ws : List Wr) : (flushL s ws).length = s.length := by
 unfold flushL
 induction ws generalizing s with
 | nil => rfl
 | cons x ws ih => rw [List.foldl_cons, ih]; simp
theorem flushL_get (s : List ByteArray) (ws : List Wr) (hw : ws.all wrOk = true) (n : Nat) (hn : n < s.length) : (flushL s ws)[n]? = some (lastT s[n] n ws) := by
 induction ws generalizing s with
 | nil => simp [flushL, lastT, hn]
 | cons x ws ih =>
  rw [List.all_cons, Bool.and_eq_true] at hw
  have h0 : 0 <= x.at_ := by
   have := hw.1
   simp only [wrOk, Bool.and_eq_true, isAt, decide_eq_true_eq] at this
   exact this.1.1
  have hx := ih (s.set x.at_.toNat x.text) hw.2 (by simpa using hn)
  simp only [flushL, lastT, List.foldl_cons] at hx ⊢
  rw [hx, List.getElem_set]
  by_cases h : x.at_ = n
  ·rw [if_pos h, if_pos (by omega)]
  ·rw [if_neg h, if_neg (by omega)]
def flushD (d : Dsk) : Dsk := if goodD d = true then ⟨flushL d.safe d.writes, []⟩ else d
def flushE (d : Dsk) : Int := if goodD d = true then 0 else 2
theorem putE_zero {d : Dsk} {n : Int} {t : ByteArray} (h : putE d n t = 0) : goodD d = true /\ isAt n = true /\ t.size = 32 /\ ¬ 200 <= d.writes.length := by
 unfold putE at h
 by_cases h1 : goodD d = true /\ isAt n = true
 ·rw [if_neg (not_not_intro h1)] at h
  by_cases h2 : t.size = 32
  ·rw [if_neg (not_not_intro h2)] at h
   by_cases h3 : 200 <= d.writes.length
   ·rw [if_pos h3] at h; simp at h
   ·exact ⟨h1.1, h1.2, h2, h3⟩
  ·rw [if_pos h2] at h; simp at h
 ·rw [if_pos h1] at h; simp at h
theorem putE_one {d : Dsk} {n : Int} {t : ByteArray} (hg : goodD d = true) (ha : isAt n = true) (h32 : t.size = 32) (h200 : ¬ 200 <= d.writes.length) : putE d n t = 0 := by
 unfold putE; rw [if_neg (not_not_intro ⟨hg, ha⟩), if_neg (not_not_intro h32), if_neg h200]
theorem putD_one {d : Dsk} {n : Int} {t : ByteArray} (h : putE d n t = 0) : putD d n t = ⟨d.safe, d.writes ++ [⟨n, t⟩]⟩ := by unfold putD; rw [if_pos h]
theorem put_good {d : Dsk} {n : Int} {t : ByteArray} (h : putE d n t = 0) : goodD (putD d n t) = true := by
 obtain ⟨hg, ha, h32, h200⟩ := putE_zero h
 rw [putD_one h]
 obtain ⟨g1, g2, g3, g4⟩ := (goodD_iff d).1 hg
 refine (goodD_iff _).2 ⟨g1, by simp; omega, g3, ?_⟩
 simp only [List.all_append, g4, List.all_cons, List.all_nil, wrOk, ha, ok32, h32]
 decide
theorem put_read {d : Dsk} {n : Int} {t : ByteArray} (h : putE d n t = 0) : readD (putD d n t) n = t := by
 obtain ⟨hg, ha, h32, h200⟩ := putE_zero h
 unfold readD
 rw [if_pos ⟨put_good h, ha⟩, putD_one h, lastT_step, if_pos rfl]
theorem put_other {d : Dsk} {n m : Int} {t : ByteArray} (h : putE d n t = 0) (hm : m ≠ n) : readD (putD d n t) m = readD d m := by
 obtain ⟨hg, ha, h32, h200⟩ := putE_zero h
 have hp := put_good h
 unfold readD
 rw [hp, hg, putD_one h]
 simp only [lastT_step, safeAt]
 rw [if_neg (fun hh : n = m => hm hh.symm)]
def textsAt (d : Dsk) (k : Nat) : List ByteArray := afterL (d.safe.getD k ⟨#[]⟩) k d.writes
def drawAt (d : Dsk) (x : Nat) : Nat -> Nat
 | 0 => x
 | k + 1 => drawAt d x k / (textsAt d k).length
def crashAt (d : Dsk) (x k : Nat) : ByteArray := (textsAt d k).getD (drawAt d x k % (textsAt d k).length) ⟨#[]⟩
def crashL (d : Dsk) (x k : Nat) : List ByteArray := (List.range k).map (crashAt d x)
def mixL (d : Dsk) (x k : Nat) : List ByteArray := crashL d x k ++ d.safe.drop k
def crashE (d : Dsk) (draw : Int) : Int := if goodD d = true /\ 0 <= draw then 0 else 2
def crashD (d : Dsk) (draw : Int) : Dsk := if goodD d = true /\ 0 <= draw then ⟨crashL d draw.toNat d.safe.length, []⟩ else d
theorem textsAt_eq (d : Dsk) {k : Nat} (hk : k < d.safe.length) : textsAt d k = afterL d.safe[k] k d.writes := by
 unfold textsAt; rw [List.getD_eq_getElem?_getD, List.getElem?_eq_getElem hk]; rfl
theorem textsAt_pos (d : Dsk) (k : Nat) : 0 < (textsAt d k).length := by simp [textsAt, afterL]
theorem textsAt_le (d : Dsk) (k : Nat) : (textsAt d k).length <= d.writes.length + 1 := afterL_len _ _ _
theorem drawAt_le (d : Dsk) (x k : Nat) : drawAt d x k <= x := by
 induction k with
 | zero => exact Nat.le_refl _
 | succ k ih => exact Nat.le_trans (Nat.div_le_self _ _) ih
theorem drawAt_succ (d : Dsk) (x k : Nat) : drawAt d x (k + 1) = drawAt d x k / (textsAt d k).length := rfl
theorem crashL_len (d : Dsk) (x k : Nat) : (crashL d x k).length = k := by simp [crashL]
theorem crashL_succ (d : Dsk) (x k : Nat) : crashL d x (k + 1) = crashL d x k ++ [crashAt d x k] := by simp [crashL, List.range_succ]
theorem mixL_zero (d : Dsk) (x : Nat) : mixL d x 0 = d.safe := by simp [mixL, crashL]
theorem mixL_len (d : Dsk) (x : Nat) {k : Nat} (hk : k <= d.safe.length) : (mixL d x k).length = d.safe.length := by simp [mixL, crashL]; omega
theorem mixL_full (d : Dsk) (x : Nat) : mixL d x d.safe.length = crashL d x d.safe.length := by simp [mixL]
theorem mixL_set (d : Dsk) (x : Nat) {k : Nat} (hk : k < d.safe.length) : (mixL d x k).set k (crashAt d x k) = mixL d x (k + 1) := by
 unfold mixL
 rw [List.set_append_right _ _ (by rw [crashL_len]; exact Nat.le_refl _), crashL_len, Nat.sub_self, List.drop_eq_getElem_cons hk, List.set_cons_zero, crashL_succ, List.append_assoc]
 rfl
theorem crashAt_mem (d : Dsk) (x k : Nat) : crashAt d x k ∈ textsAt d k := by
 unfold crashAt
 rw [List.getD_eq_getElem?_getD, List.getElem?_eq_getElem (Nat.mod_lt _ (textsAt_pos d k))]
 exact List.getElem_mem _
theorem crashAt_get (d : Dsk) (x k : Nat) (h : drawAt d x k % (textsAt d k).length < (textsAt d k).length) : (textsAt d k)[drawAt d x k % (textsAt d k).length] = crashAt d x k := by
 unfold crashAt
 rw [List.getD_eq_getElem?_getD, List.getElem?_eq_getElem h]; rfl
theorem texts_ok {d : Dsk} (hg : goodD d = true) {k : Nat} (hk : k < d.safe.length) : ∀ t ∈ textsAt d k, ok32 t = true := by
 obtain ⟨g1, g2, g3, g4⟩ := (goodD_iff d).1 hg
 intro t ht
 rw [textsAt_eq d hk, afterL] at ht
 rcases List.mem_cons.1 ht with rfl | ht
 ·exact List.all_eq_true.1 g3 _ (List.getElem_mem hk)
 ·obtain ⟨x, hx, rfl⟩ := List.mem_map.1 ht
  have := List.all_eq_true.1 g4 x (List.mem_filter.1 hx).1
  simp only [wrOk, Bool.and_eq_true] at this
  exact this.2
theorem crash_good {d : Dsk} {draw : Int} (h : crashE d draw = 0) : goodD (crashD d draw) = true := by
 have hc : goodD d = true /\ 0 <= draw := by
  unfold crashE at h
  by_cases hh : goodD d = true /\ 0 <= draw
  ·exact hh
  ·rw [if_neg hh] at h; cases h
 unfold crashD
 rw [if_pos hc]
 obtain ⟨g1, g2, g3, g4⟩ := (goodD_iff d).1 hc.1
 refine (goodD_iff _).2 ⟨by simpa [crashL] using g1, by simp, ?_, rfl⟩
 rw [List.all_eq_true]
 intro t ht
 obtain ⟨k, hk, rfl⟩ := List.mem_map.1 ht
 exact texts_ok hc.1 (List.mem_range.1 hk) _ (crashAt_mem d _ k)
theorem snoc_ind {α : Type} {p : List α -> Prop} (h0 : p []) (h1 : ∀ l x, p l -> p (l ++ [x])) (l : List α) : p l := by
 rw [<- List.reverse_reverse l]
 induction l.reverse with
 | nil => exact h0
 | cons x r ih => rw [List.reverse_cons]; exact h1 _ _ ih
structure Stp where
 kind : Int
 at_ : Int
 text : ByteArray
def stpC (x : Stp) : List Value := [.int .i64 x.kind, .int .i64 x.at_, .string x.text]
theorem stpC_flat : Flat stpC 3 := ⟨fun _ => rfl, fun _ u hu => by simp [stpC] at hu; rcases hu with rfl | rfl | rfl <;> rfl, by decide⟩
def flushS : Stp := ⟨2, 0, ⟨#[]⟩⟩
def wrS (at_ : Int) (s : ByteArray) : Stp := ⟨1, at_, s⟩
def tagC' (c : Cpy) : Tag := ⟨c.block, isEsc c.text⟩
def listM (seq : Int) (r : List Int) : Mrk := ⟨3, seq, 0, [], r⟩
def descM (seq : Int) (p : List Cpy) : Mrk := ⟨2, seq, 0, p.map tagC', []⟩
def comM (seq : Int) : Mrk := ⟨4, seq, 0, [], []⟩
def superM (seq a : Int) : Mrk := ⟨1, seq, a, [], []⟩
def partL (seq : Int) (p : List Cpy) : List ByteArray := if p = [] then [] else markS (descM seq p) :: p.map (fun c => escS c.text)
def revL (seq : Int) (r : List Int) : List ByteArray := if r = [] then [] else [markS (listM seq r)]
def bodyT (t : Txn) : List ByteArray := revL t.seq t.rev ++ (partL t.seq (t.mt.take 10) ++ partL t.seq (t.mt.drop 10))
def logT (t : Txn) : List ByteArray := bodyT t ++ [markS (comM t.seq)]
def dataS (t : Txn) : List Stp := t.dt.map (fun c => wrS (25 + c.block) c.text) ++ (if t.dt = [] then [] else [flushS])
def comN (t : Txn) : Int := needN t.mt.length t.rev.length
def comE (r : Ring) (t : Txn) : Int := if goodR r = false \/ goodT t = false \/ openB t = true then 2 else takeE r (comN t)
def comR (r : Ring) (t : Txn) : Ring := if comE r t = 0 then takeR r (comN t) else r
def atW (p : Int) (s : ByteArray) : Stp := wrS (1 + p) s
def comL (r : Ring) (t : Txn) : List Stp :=
 if comE r t = 0 then
  dataS t ++ (List.zipWith atW (places r.head (bodyT t).length) (bodyT t) ++ ((if bodyT t = [] then [] else [flushS]) ++ [atW ((r.head + (bodyT t).length) % 24) (markS (comM t.seq)), flushS]))
 else []
theorem partL_len (seq : Int) (p : List Cpy) : (partL seq p).length = if p = [] then 0 else p.length + 1 := by
 unfold partL; split <;> simp
theorem bodyT_len {t : Txn} (g : GoodT t) : ((bodyT t).length : Int) + 1 = comN t := by
 obtain ⟨a, _, b⟩ := lens g
 have e : needE t.mt.length t.rev.length = 0 := (need_most g).2
 unfold bodyT comN needN
 rw [if_pos e, List.length_append, List.length_append, partL_len, partL_len]
 unfold revL partsOf
 have h1 : (t.mt.take 10 = []) ↔ t.mt.length = 0 := by rw [<- List.length_eq_zero_iff, List.length_take]; omega
 have h2 : (t.mt.drop 10 = []) ↔ t.mt.length <= 10 := by rw [<- List.length_eq_zero_iff, List.length_drop]; omega
 have h3 : (t.rev = []) ↔ t.rev.length = 0 := List.length_eq_zero_iff.symm
 by_cases c1 : t.mt.length = 0
 ·rw [if_pos (h1.2 c1), if_pos (h2.2 (by omega))]
  by_cases c3 : t.rev.length = 0
  ·rw [if_pos (h3.2 c3)]; simp; omega
  ·rw [if_neg (fun h => c3 (h3.1 h))]; simp; omega
 ·rw [if_neg (fun h => c1 (h1.1 h))]
  by_cases c2 : t.mt.length <= 10
  ·rw [if_pos (h2.2 c2), List.length_take]
   by_cases c3 : t.rev.length = 0
   ·rw [if_pos (h3.2 c3)]; simp; omega
   ·rw [if_neg (fun h => c3 (h3.1 h))]; simp; omega
  ·rw [if_neg (fun h => c2 (h2.1 h)), List.length_take, List.length_drop]
   by_cases c3 : t.rev.length = 0
   ·rw [if_pos (h3.2 c3)]; simp; omega
   ·rw [if_neg (fun h => c3 (h3.1 h))]; simp; omega
def goS (c : Cpy) : Stp := wrS (25 + c.block) c.text
def homeS (l : List Cpy) : List Stp := l.map (fun c => wrS (25 + c.block) c.text) ++ (if l = [] then [] else [flushS])
def cpyOk (c : Cpy) : Bool := isBlk c.block && ok32 c.text
def checkE (l : List Cpy) (a seq : Int) : Int := if markE (superM seq a) ≠ 0 then markE (superM seq a) else if l.all cpyOk = true then 0 else 1
def checkL (l : List Cpy) (a seq : Int) : List Stp := if checkE l a seq = 0 then homeS l ++ [wrS 0 (markS (superM seq a)), flushS] else []
def stepD (d : Dsk) (s : Stp) : Dsk := if s.kind = 2 then flushD d else putD d s.at_ s.text
def stepE (d : Dsk) (s : Stp) : Int := if s.kind = 2 then flushE d else putE d s.at_ s.text
def runD (d : Dsk) (l : List Stp) : Dsk := l.foldl stepD d
theorem runD_nil (d : Dsk) : runD d [] = d := rfl
theorem runD_cons (d : Dsk) (s : Stp) (l : List Stp) : runD d (s :: l) = runD (stepD d s) l := rfl
theorem runD_append (d : Dsk) (l m : List Stp) : runD d (l ++ m) = runD (runD d l) m := by simp [runD]
theorem newestB_back (l : List Txn) (t : Txn) (b : Int) : newestB (l ++ [t]) b = match getC t.mt b with | some s => some s | none => if inI t.rev b then none else newestB l b := newestB_snoc l t b
theorem newest_blk {l : List Txn} (hg : ∀ t ∈ l, goodT t = true) {b : Int} (hb : isBlk b = false) : newestB l b = none := by
 revert hg
 refine snoc_ind (p := fun l => (∀ t ∈ l, goodT t = true) -> newestB l b = none) (fun _ => rfl) (fun l t ih hg => ?_) l
 ·rw [newestB_back, ih (fun x hx => hg x (by simp [hx]))]
  have g := goodT_of.1 (hg t (by simp))
  have h1 : getC t.mt b = none := by
   cases h : getC t.mt b with
   | none => rfl
   | some s => rw [(getC_blk g.mt h).1] at hb; cases hb
  rw [h1]; simp
theorem newest_size {l : List Txn} (hg : ∀ t ∈ l, goodT t = true) {b : Int} {s : ByteArray} (h : newestB l b = some s) : s.size = 32 := by
 revert hg h
 refine snoc_ind (p := fun l => (∀ t ∈ l, goodT t = true) -> newestB l b = some s -> s.size = 32) (fun _ h => by cases h) (fun l t ih hg h => ?_) l
 ·rw [newestB_back] at h
  have g := goodT_of.1 (hg t (by simp))
  cases h1 : getC t.mt b with
  | some x =>
   rw [h1] at h
   simp only [Option.some.injEq] at h
   subst h
   exact (getC_blk g.mt h1).2
  | none =>
   rw [h1] at h
   simp only at h
   split at h
   ·cases h
   ·exact ih (fun x hx => hg x (by simp [hx])) h
theorem newestL_copies {l : List Txn} (hg : ∀ t ∈ l, goodT t = true) : copiesB (newestL l) = true :=
 viewL_copies fun _ _ _ ht => newest_size hg ht
theorem newestL_get {l : List Txn} (hg : ∀ t ∈ l, goodT t = true) (b : Int) : getC (newestL l) b = newestB l b := by
 by_cases hb : isBlk b = true
 ·have := of_decide_eq_true hb
  exact getC_viewL this.1 this.2
 ·have hb : isBlk b = false := by simpa using hb
  rw [newest_blk hg hb]
  cases h : getC (newestL l) b with
  | none => rfl
  | some s => rw [(getC_blk (newestL_copies hg) h).1] at hb; cases hb
theorem escS_size {s : ByteArray} (h : s.size = 32) : (escS s).size = 32 := by
 unfold escS
 by_cases hc : isEsc s = true
 ·rw [if_pos hc, str_size]
  simp only [List.length_append, List.length_drop, ba_len, h]
  rfl
 ·rw [if_neg hc]; exact h
theorem escS_dec (s : ByteArray) : decE (escS s) = 1 := by
 refine (dec_no ?_).2
 rintro ⟨⟨_, h⟩, _⟩
 unfold escS at h
 by_cases hc : isEsc s = true
 ·rw [if_pos hc] at h
  have : ([0, 0, 0, 0] : List UInt8) = magic := by simpa [str] using h
  exact absurd this (by decide)
 ·rw [if_neg hc] at h
  exact hc (decide_eq_true h)
theorem escS_back (s : ByteArray) : unescS (escS s) (isEsc s) = s := by
 unfold unescS escS
 by_cases hc : isEsc s = true
 ·have hx : 4 <= (str ([0, 0, 0, 0] ++ s.data.toList.drop 4)).size := by rw [str_size]; simp
  rw [hc, if_pos rfl, if_pos ⟨rfl, hx⟩]
  have h4 : s.data.toList.take 4 = magic := of_decide_eq_true hc
  have e : s = str s.data.toList := (str_toList s).symm
  conv => rhs; rw [e, <- List.take_append_drop 4 s.data.toList, h4]
  simp [str]
 ·rw [if_neg (fun hh => hc hh.1), if_neg hc]
theorem dec_mark {m : Mrk} (h : markE m = 0) : decE (markS m) = 0 /\ decM (markS m) = m /\ (markS m).size = 32 := by
 unfold markS
 rw [if_pos h]
 exact ⟨(dec_enc h).2.2, (dec_enc h).2.1, by rw [str_size, markL_len]⟩
theorem rise_take {l : List Int} (k : Nat) (h : rise l = true) : rise (l.take k) = true := by
 rw [rise_pw] at h ⊢
 exact ⟨h.1.sublist (List.take_sublist _ _), fun x hx => h.2 x (List.mem_of_mem_take hx)⟩
theorem rise_drop {l : List Int} (k : Nat) (h : rise l = true) : rise (l.drop k) = true := by
 rw [rise_pw] at h ⊢
 exact ⟨h.1.sublist (List.drop_sublist _ _), fun x hx => h.2 x (List.mem_of_mem_drop hx)⟩
theorem blks_take (l : List Cpy) (k : Nat) : blks (l.take k) = (blks l).take k := by simp [blks]
theorem blks_drop (l : List Cpy) (k : Nat) : blks (l.drop k) = (blks l).drop k := by simp [blks]
theorem list_kind (q : Int) (r : List Int) : (listM q r).kind = 3 := rfl
theorem com_kind (q : Int) : (comM q).kind = 4 := rfl
theorem desc_kind (q : Int) (p : List Cpy) : (descM q p).kind = 2 := rfl
theorem list_good {q : Int} {r : List Int} (hq : 1 <= q /\ q <= 2147483647) (hr : rise r = true) (hn : r ≠ []) : markE (listM q r) = 0 := by
 have h1 := hq
 have h2 := rise_len hr
 have h3 : r.length ≠ 0 := fun h => hn (List.length_eq_zero_iff.1 h)
 refine markE_ok ?_ ?_ ?_ ?_ ?_ <;> simp only [badKind, badNum, badForm, badLen, badRise, listM, List.map_nil, List.length_nil] <;> (try omega)
 rw [hr]
 rintro (h | h)
 ·exact absurd h (by decide)
 ·exact absurd h (by decide)
theorem desc_good {q : Int} {p : List Cpy} (hq : 1 <= q /\ q <= 2147483647) (hr : rise (blks p) = true) (hn : p ≠ []) (h10 : p.length <= 10) : markE (descM q p) = 0 := by
 have h1 := hq
 have h3 : p.length ≠ 0 := fun h => hn (List.length_eq_zero_iff.1 h)
 have e : (p.map tagC').map (·.block) = blks p := by simp [blks, tagC', Function.comp_def]
 refine markE_ok ?_ ?_ ?_ ?_ ?_ <;> simp only [badKind, badNum, badForm, badLen, badRise, descM, List.length_map, List.length_nil] <;> (try omega)
 rw [e, hr]
 rintro (h | h)
 ·exact absurd h (by decide)
 ·exact absurd h (by decide)
theorem com_good {q : Int} (hq : 1 <= q /\ q <= 2147483647) : markE (comM q) = 0 := by
 have h1 := hq
 refine markE_ok ?_ ?_ ?_ ?_ ?_ <;> simp only [badKind, badNum, badForm, badLen, badRise, comM, List.map_nil, List.length_nil] <;> (try omega)
 rintro (h | h)
 ·exact absurd h (by decide)
 ·exact absurd h (by decide)
theorem super_good {q a : Int} (hq : 1 <= q /\ q <= 2147483647) (ha : 0 <= a /\ a < 24) : markE (superM q a) = 0 := by
 have h1 := hq
 refine markE_ok ?_ ?_ ?_ ?_ ?_ <;> simp only [badKind, badNum, badForm, badLen, badRise, superM, List.map_nil, List.length_nil] <;> (try omega)
 rintro (h | h)
 ·exact absurd h (by decide)
 ·exact absurd h (by decide)
def comAt (q : Int) (s : ByteArray) : Prop := decE s = 0 /\ (decM s).seq = q /\ (decM s).kind = 4
theorem takeTags_split {gs : List Tag} {r r' : List ByteArray} {m m' : List Cpy} (h : takeTags gs r m = some (m', r')) : ∃ pre, r = pre ++ r' /\ ∀ r2, takeTags gs (pre ++ r2) m = some (m', r2) := by
 induction gs generalizing r m with
 | nil =>
  simp only [takeTags, Option.some.injEq, Prod.mk.injEq] at h
  obtain ⟨rfl, rfl⟩ := h
  exact ⟨[], rfl, fun _ => rfl⟩
 | cons g gs ih =>
  cases r with
  | nil => cases h
  | cons s r =>
   obtain ⟨pre, rfl, h2⟩ := ih h
   exact ⟨s :: pre, rfl, fun r2 => h2 r2⟩
theorem parseT_unfold (q : Int) (n : Nat) (s : ByteArray) (r : List ByteArray) (t : Txn) : parseT q (n + 1) (s :: r) t =
    if decE s = 0 /\ (decM s).seq = q then
      if (decM s).kind = 4 then some (t, r)
      else if (decM s).kind = 3 then parseT q n r { t with rev := t.rev ++ (decM s).blocks }
      else if (decM s).kind = 2 then
        match takeTags (decM s).tags r t.mt with
        | some (mt, r') => parseT q n r' { t with mt := mt }
        | none => none
      else none
    else none := rfl
theorem parseT_none {q : Int} {n : Nat} {r : List ByteArray} {t : Txn} (h : ∀ s ∈ r, ¬ comAt q s) : parseT q n r t = none := by
 induction n generalizing r t with
 | zero => rfl
 | succ n ih =>
  cases r with
  | nil => rfl
  | cons s r =>
   have hr : ∀ x ∈ r, ¬ comAt q x := fun x hx => h x (List.mem_cons_of_mem _ hx)
   rw [parseT_unfold]
   split
   ·rename_i h1
    rw [if_neg (fun h4 => h s (by simp) ⟨h1.1, h1.2, h4⟩)]
    split
    ·exact ih hr
    ·split
     ·cases hk : takeTags (decM s).tags r t.mt with
      | none => rfl
      | some p =>
       obtain ⟨mt, r'⟩ := p
       obtain ⟨pre, rfl, _⟩ := takeTags_split hk
       exact ih fun x hx => hr x (by simp [hx])
     ·rfl
   ·rfl
theorem parseT_split {q : Int} {n : Nat} {r r' : List ByteArray} {t t' : Txn} (h : parseT q n r t = some (t', r')) : ∃ pre, r = pre ++ r' /\ ∀ r2, parseT q n (pre ++ r2) t = some (t', r2) := by
 induction n generalizing r t with
 | zero => cases h
 | succ n ih =>
  cases r with
  | nil => cases h
  | cons s r =>
   rw [parseT_unfold] at h
   split at h
   ·rename_i h1
    split at h
    ·rename_i h4
     simp only [Option.some.injEq, Prod.mk.injEq] at h
     obtain ⟨rfl, rfl⟩ := h
     refine ⟨[s], rfl, fun r2 => ?_⟩
     show parseT q (n + 1) (s :: r2) t = _
     rw [parseT_unfold, if_pos h1, if_pos h4]
    ·rename_i h4
     split at h
     ·rename_i h3
      obtain ⟨pre, rfl, h2⟩ := ih h
      refine ⟨s :: pre, rfl, fun r2 => ?_⟩
      show parseT q (n + 1) (s :: (pre ++ r2)) t = _
      rw [parseT_unfold, if_pos h1, if_neg h4, if_pos h3, h2]
     ·rename_i h3
      split at h
      ·rename_i h2
       cases hk : takeTags (decM s).tags r t.mt with
       | none => rw [hk] at h; cases h
       | some p =>
        obtain ⟨mt, r1⟩ := p
        rw [hk] at h
        obtain ⟨p1, rfl, k2⟩ := takeTags_split hk
        obtain ⟨p2, rfl, k3⟩ := ih h
        refine ⟨s :: (p1 ++ p2), by simp, fun r2 => ?_⟩
        show parseT q (n + 1) (s :: (p1 ++ p2 ++ r2)) t = _
        rw [parseT_unfold, if_pos h1, if_neg h4, if_neg h3, if_pos h2, List.append_assoc, k2]
        exact k3 r2
      ·cases h
   ·cases h
def scanA (r : List ByteArray) (q : Int) : List Txn × Int × List ByteArray := scanGo (r.length + 1) r q
theorem scanA_stop {r : List ByteArray} {q : Int} (h : parseT q 25 r (txn0 q) = none) : scanA r q = ([], q, r) := scanGo_stop h
theorem scanA_none {r : List ByteArray} {q : Int} (h : ∀ s ∈ r, ¬ comAt q s) : scanA r q = ([], q, r) := scanA_stop (parseT_none h)
theorem scanA_split : ∀ (n : Nat) (r : List ByteArray) (q : Int), r.length <= n -> ∃ pre, r = pre ++ (scanA r q).2.2 /\ (scanA r q).2.1 = q + (scanA r q).1.length /\
    (q <= 2147483647 -> (scanA r q).2.1 <= 2147483647) /\ ((scanA r q).1 = [] ↔ pre = []) /\
    ∀ r2, (scanA (pre ++ r2) q).1 = (scanA r q).1 ++ (scanA r2 (scanA r q).2.1).1 /\ (scanA (pre ++ r2) q).2 = (scanA r2 (scanA r q).2.1).2 := by
 intro n
 induction n with
 | zero =>
  intro r q hr
  have : r = [] := List.length_eq_zero_iff.1 (by omega)
  subst this
  rw [scanA_stop (parseT_nil q 25 _)]
  exact ⟨[], rfl, by simp, id, by simp, fun r2 => ⟨rfl, rfl⟩⟩
 | succ n ih =>
  intro r q hr
  have hstop : scanA r q = ([], q, r) -> _ := fun e => (show ∃ pre, r = pre ++ (scanA r q).2.2 /\ (scanA r q).2.1 = q + (scanA r q).1.length /\
   (q <= 2147483647 -> (scanA r q).2.1 <= 2147483647) /\ ((scanA r q).1 = [] ↔ pre = []) /\
   ∀ r2, (scanA (pre ++ r2) q).1 = (scanA r q).1 ++ (scanA r2 (scanA r q).2.1).1 /\ (scanA (pre ++ r2) q).2 = (scanA r2 (scanA r q).2.1).2 from by
    rw [e]; exact ⟨[], rfl, by simp, id, by simp, fun r2 => ⟨rfl, rfl⟩⟩)
  by_cases hq : q < 2147483647
  ·cases hp : parseT q 25 r (txn0 q) with
   | none => exact hstop (scanA_stop hp)
   | some p =>
    obtain ⟨t, r1⟩ := p
    have hl := parseT_len hp
    obtain ⟨p1, rfl, hp2⟩ := parseT_split hp
    obtain ⟨e1, e2⟩ := scanGo_step hq hp
    obtain ⟨p2, f1, f2, f3, f4, f5⟩ := ih r1 (q + 1) (by omega)
    have e1' : (scanA (p1 ++ r1) q).1 = t :: (scanA r1 (q + 1)).1 := e1
    have e2' : (scanA (p1 ++ r1) q).2 = (scanA r1 (q + 1)).2 := e2
    rw [e1', e2']
    have hp1 : p1 ≠ [] := fun e => by subst e; simp at hl
    refine ⟨p1 ++ p2, by rw [List.append_assoc, <- f1], by rw [f2, List.length_cons]; omega, fun _ => f3 (by omega), by simp [hp1], fun r2 => ?_⟩
    obtain ⟨g1, g2⟩ := f5 r2
    obtain ⟨k1, k2⟩ := scanGo_step (r := p1 ++ (p2 ++ r2)) hq (hp2 _)
    have k1' : (scanA (p1 ++ (p2 ++ r2)) q).1 = t :: (scanA (p2 ++ r2) (q + 1)).1 := k1
    have k2' : (scanA (p1 ++ (p2 ++ r2)) q).2 = (scanA (p2 ++ r2) (q + 1)).2 := k2
    rw [List.append_assoc, k1', k2', g1, g2]
    exact ⟨rfl, rfl⟩
  ·exact hstop (scanGo_full hq)
def logOf (t : Txn) : Txn := ⟨t.seq, t.mt, [], t.rev, hnd0, hnd0, hnd0⟩
theorem takeTags_copies {p : List Cpy} (r : List ByteArray) (m : List Cpy) : takeTags (p.map tagC') (p.map (fun c => escS c.text) ++ r) m = some (m ++ p, r) := by
 induction p generalizing m with
 | nil => simp [takeTags]
 | cons c p ih =>
  show takeTags (p.map tagC') (p.map (fun c => escS c.text) ++ r) (m ++ [⟨c.block, unescS (escS c.text) (isEsc c.text)⟩]) = _
  rw [ih, escS_back]
  simp
theorem parse_rev {q : Int} {r : List Int} (hq : 1 <= q /\ q <= 2147483647) (hr : rise r = true) (l : List ByteArray) (t : Txn) {n : Nat} (hn : (revL q r ++ l).length < n) : parseT q n (revL q r ++ l) t = parseT q n l { t with rev := t.rev ++ r } := by
 unfold revL at hn ⊢
 by_cases h : r = []
 ·subst h
  simp
 ·rw [if_neg h] at hn ⊢
  obtain ⟨d1, d2, _⟩ := dec_mark (list_good hq hr h)
  cases n with
  | zero => omega
  | succ n =>
   show parseT q (n + 1) (markS (listM q r) :: l) t = _
   simp only [List.length_append, List.length_cons, List.length_nil] at hn
   rw [parseT_unfold, d2, if_pos ⟨d1, rfl⟩, if_neg (by rw [list_kind]; decide), if_pos (list_kind _ _)]
   exact parseT_fuel (by omega) (by omega)
theorem parse_part {q : Int} {p : List Cpy} (hq : 1 <= q /\ q <= 2147483647) (hr : rise (blks p) = true) (h10 : p.length <= 10) (l : List ByteArray) (t : Txn) {n : Nat} (hn : (partL q p ++ l).length < n) : parseT q n (partL q p ++ l) t = parseT q n l { t with mt := t.mt ++ p } := by
 unfold partL at hn ⊢
 by_cases h : p = []
 ·subst h
  simp
 ·rw [if_neg h] at hn ⊢
  obtain ⟨d1, d2, _⟩ := dec_mark (desc_good hq hr h h10)
  cases n with
  | zero => omega
  | succ n =>
   show parseT q (n + 1) (markS (descM q p) :: (p.map (fun c => escS c.text) ++ l)) t = _
   simp only [List.length_append, List.length_cons, List.length_map] at hn
   rw [parseT_unfold, d2, if_pos ⟨d1, rfl⟩, if_neg (by rw [desc_kind]; decide), if_neg (by rw [desc_kind]; decide), if_pos (desc_kind _ _)]
   rw [show (descM q p).tags = p.map tagC' from rfl, takeTags_copies]
   exact parseT_fuel (by omega) (by omega)
theorem parse_log {t : Txn} (g : GoodT t) (l : List ByteArray) {n : Nat} (hn : (logT t ++ l).length < n) : parseT t.seq n (logT t ++ l) (txn0 t.seq) = some (logOf t, l) := by
 have hb := copies_rise g.mt
 have hl := copies_len g.mt
 have e : logT t ++ l = revL t.seq t.rev ++ (partL t.seq (t.mt.take 10) ++ (partL t.seq (t.mt.drop 10) ++ (markS (comM t.seq) :: l))) := by
  unfold logT bodyT; simp
 rw [e] at hn ⊢
 rw [parse_rev g.seq g.rev _ _ hn]
 rw [List.length_append] at hn
 rw [parse_part g.seq (by rw [blks_take]; exact rise_take _ hb) (by rw [List.length_take]; omega) _ _ (by omega)]
 rw [List.length_append] at hn
 rw [parse_part g.seq (by rw [blks_drop]; exact rise_drop _ hb) (by rw [List.length_drop]; omega) _ _ (by omega)]
 rw [List.length_append, List.length_cons] at hn
 obtain ⟨d1, d2, _⟩ := dec_mark (com_good g.seq)
 cases n with
 | zero => omega
 | succ n =>
  rw [parseT_unfold, d2, if_pos ⟨d1, rfl⟩, if_pos (com_kind _)]
  simp [txn0, logOf]
theorem body_com {t : Txn} (g : GoodT t) {s : ByteArray} (hs : s ∈ bodyT t) (q : Int) : ¬ comAt q s := by
 have hb := copies_rise g.mt
 have hl := copies_len g.mt
 have hpart : ∀ p : List Cpy, rise (blks p) = true -> p.length <= 10 -> s ∈ partL t.seq p -> ¬ comAt q s := fun p h1 h2 h3 => by
  unfold partL at h3
  split at h3
  ·cases h3
  ·rename_i hn
   rcases List.mem_cons.1 h3 with rfl | h3
   ·obtain ⟨d1, d2, _⟩ := dec_mark (desc_good g.seq h1 hn h2)
    rintro ⟨_, _, h⟩
    rw [d2, desc_kind] at h
    exact absurd h (by decide)
   ·obtain ⟨c, _, rfl⟩ := List.mem_map.1 h3
    rintro ⟨h, _, _⟩
    rw [escS_dec] at h
    exact absurd h (by decide)
 unfold bodyT at hs
 rcases List.mem_append.1 hs with hs | hs
 ·unfold revL at hs
  split at hs
  ·cases hs
  ·rename_i hn
   obtain rfl := List.mem_singleton.1 hs
   obtain ⟨d1, d2, _⟩ := dec_mark (list_good g.seq g.rev hn)
   rintro ⟨_, _, h⟩
   rw [d2, list_kind] at h
   exact absurd h (by decide)
 ·rcases List.mem_append.1 hs with hs | hs
  ·exact hpart _ (by rw [blks_take]; exact rise_take _ hb) (by rw [List.length_take]; omega) hs
  ·exact hpart _ (by rw [blks_drop]; exact rise_drop _ hb) (by rw [List.length_drop]; omega) hs
theorem log_size {t : Txn} (g : GoodT t) {s : ByteArray} (hs : s ∈ logT t) : s.size = 32 := by
 have hb := copies_rise g.mt
 have hl := copies_len g.mt
 have hc : ∀ c ∈ t.mt, c.text.size = 32 := fun c hc => ((copies_pw _).1 g.mt).2 c hc |>.2
 have hpart : ∀ p : List Cpy, rise (blks p) = true -> p.length <= 10 -> (∀ c ∈ p, c ∈ t.mt) -> s ∈ partL t.seq p -> s.size = 32 := fun p h1 h2 h4 h3 => by
  unfold partL at h3
  split at h3
  ·cases h3
  ·rename_i hn
   rcases List.mem_cons.1 h3 with rfl | h3
   ·exact (dec_mark (desc_good g.seq h1 hn h2)).2.2
   ·obtain ⟨c, hcm, rfl⟩ := List.mem_map.1 h3
    exact escS_size (hc c (h4 c hcm))
 unfold logT at hs
 rcases List.mem_append.1 hs with hs | hs
 ·unfold bodyT at hs
  rcases List.mem_append.1 hs with hs | hs
  ·unfold revL at hs
   split at hs
   ·cases hs
   ·rename_i hn
    obtain rfl := List.mem_singleton.1 hs
    exact (dec_mark (list_good g.seq g.rev hn)).2.2
  ·rcases List.mem_append.1 hs with hs | hs
   ·exact hpart _ (by rw [blks_take]; exact rise_take _ hb) (by rw [List.length_take]; omega) (fun c h => List.mem_of_mem_take h) hs
   ·exact hpart _ (by rw [blks_drop]; exact rise_drop _ hb) (by rw [List.length_drop]; omega) (fun c h => List.mem_of_mem_drop h) hs
 ·obtain rfl := List.mem_singleton.1 hs
  exact (dec_mark (com_good g.seq)).2.2
theorem isAt_nat {k : Nat} (h : k < 37) : isAt (k : Int) = true := by unfold isAt; simp; omega
theorem read_good {d : Dsk} (hg : goodD d = true) {k : Nat} (hk : k < 37) : readD d k = lastT (d.safe.getD k ⟨#[]⟩) k d.writes := by
 unfold readD safeAt
 rw [if_pos ⟨hg, isAt_nat hk⟩, Int.toNat_natCast]
theorem texts_last {d : Dsk} (hg : goodD d = true) {k : Nat} (hk : k < 37) : readD d k ∈ textsAt d k := by
 have h := after_last (d.safe.getD k ⟨#[]⟩) k d.writes
 rw [<- read_good hg hk] at h
 exact List.mem_of_getLast? h
theorem texts_clean {d : Dsk} (hg : goodD d = true) (hc : d.writes = []) {k : Nat} (hk : k < 37) : textsAt d k = [readD d k] := by
 rw [read_good hg hk]
 unfold textsAt
 rw [hc]; rfl
theorem texts_put {d : Dsk} {n : Int} {t : ByteArray} (h : putE d n t = 0) (k : Nat) : textsAt (putD d n t) k = if n = k then textsAt d k ++ [t] else textsAt d k := by
 rw [putD_one h]
 unfold textsAt
 exact afterL_step _ _ _ ⟨n, t⟩
theorem flush_good {d : Dsk} (hg : goodD d = true) : goodD (flushD d) = true := by
 obtain ⟨g1, g2, g3, g4⟩ := (goodD_iff d).1 hg
 unfold flushD
 rw [if_pos hg]
 refine (goodD_iff _).2 ⟨by rw [flushL_len]; exact g1, by simp, ?_, rfl⟩
 rw [List.all_eq_true]
 intro s hs
 obtain ⟨n, hn, rfl⟩ := List.mem_iff_getElem.1 hs
 rw [flushL_len] at hn
 have h1 := flushL_get d.safe d.writes g4 n hn
 rw [List.getElem?_eq_getElem (by rw [flushL_len]; exact hn), Option.some.injEq] at h1
 rw [h1]
 have h2 := texts_last hg (k := n) (by omega)
 rw [read_good hg (by omega), List.getD_eq_getElem?_getD, List.getElem?_eq_getElem hn, Option.getD_some] at h2
 exact texts_ok hg hn _ h2
theorem flush_clean {d : Dsk} (hg : goodD d = true) : (flushD d).writes = [] := by unfold flushD; rw [if_pos hg]
theorem flush_read {d : Dsk} (hg : goodD d = true) {k : Nat} (hk : k < 37) : readD (flushD d) k = readD d k := by
 have hg1 := (goodD_iff d).1 hg
 rw [read_good (flush_good hg) hk, flush_clean hg, read_good hg hk]
 unfold flushD
 rw [if_pos hg]
 have h1 := flushL_get d.safe d.writes hg1.2.2.2 k (by omega)
 show lastT ((flushL d.safe d.writes).getD k ⟨#[]⟩) k [] = _
 rw [lastT_nil, List.getD_eq_getElem?_getD, h1, List.getD_eq_getElem?_getD, List.getElem?_eq_getElem (by omega)]
 rfl
theorem flush_texts {d : Dsk} (hg : goodD d = true) {k : Nat} (hk : k < 37) : textsAt (flushD d) k = [readD d k] := by
 rw [texts_clean (flush_good hg) (flush_clean hg) hk, flush_read hg hk]
structure Left (d c : Dsk) : Prop where
 good : goodD c = true
 clean : c.writes = []
 read : ∀ k : Nat, k < 37 -> readD c k ∈ textsAt d k
theorem Left.crash {d : Dsk} {x : Int} (h : crashE d x = 0) : Left d (crashD d x) := by
 have hc : goodD d = true /\ 0 <= x := by
  unfold crashE at h
  by_cases hh : goodD d = true /\ 0 <= x
  ·exact hh
  ·rw [if_neg hh] at h; cases h
 have hg := (goodD_iff d).1 hc.1
 have e : crashD d x = ⟨crashL d x.toNat d.safe.length, []⟩ := by unfold crashD; rw [if_pos hc]
 refine ⟨crash_good h, by rw [e], fun k hk => ?_⟩
 rw [read_good (crash_good h) hk, e]
 show lastT ((crashL d x.toNat d.safe.length).getD k ⟨#[]⟩) k [] ∈ _
 rw [lastT_nil]
 unfold crashL
 rw [List.getD_eq_getElem?_getD, List.getElem?_map, List.getElem?_range (by omega)]
 exact crashAt_mem d _ k
theorem Left.flush {d : Dsk} (hg : goodD d = true) : Left d (flushD d) :=
 ⟨flush_good hg, flush_clean hg, fun k hk => by rw [flush_read hg hk]; exact texts_last hg hk⟩
theorem Left.self {d : Dsk} (hg : goodD d = true) (hc : d.writes = []) : Left d d := ⟨hg, hc, fun k hk => texts_last hg hk⟩
theorem Left.same {d c : Dsk} (h : Left d c) (hg : goodD d = true) (hc : d.writes = []) {k : Nat} (hk : k < 37) : readD c k = readD d k := by
 have := h.read k hk
 rw [texts_clean hg hc hk] at this
 exact List.mem_singleton.1 this
def stpOk (s : Stp) : Prop := s.kind ≠ 2 -> isAt s.at_ = true /\ s.text.size = 32
theorem step_one {d : Dsk} {s : Stp} (hg : goodD d = true) (ho : stpOk s) (hn : d.writes.length < 200) : stepE d s = 0 /\ goodD (stepD d s) = true /\ (stepD d s).writes.length <= d.writes.length + 1 := by
 unfold stepE stepD
 by_cases h : s.kind = 2
 ·rw [if_pos h, if_pos h]
  exact ⟨by unfold flushE; rw [if_pos hg], flush_good hg, by rw [flush_clean hg]; simp⟩
 ·rw [if_neg h, if_neg h]
  have hp := putE_one hg (ho h).1 (ho h).2 (by omega)
  refine ⟨hp, put_good hp, ?_⟩
  rw [putD_one hp]; simp
theorem run_good : ∀ (l : List Stp) {d : Dsk}, goodD d = true -> (∀ s ∈ l, stpOk s) -> d.writes.length + l.length <= 200 -> goodD (runD d l) = true /\ (runD d l).writes.length <= d.writes.length + l.length
 | [], d, hg, _, _ => ⟨hg, Nat.le_refl _⟩
 | s :: l, d, hg, ho, hn => by
  simp only [List.length_cons] at hn
  obtain ⟨h1, h2, h3⟩ := step_one hg (ho s (by simp)) (by omega)
  rw [runD_cons]
  obtain ⟨h4, h5⟩ := run_good l h2 (fun x hx => ho x (by simp [hx])) (by omega)
  exact ⟨h4, by simp only [List.length_cons]; omega⟩
theorem run_step {l r : List Stp} {s : Stp} {d : Dsk} (hg : goodD d = true) (ho : ∀ x ∈ l ++ s :: r, stpOk x) (hn : d.writes.length + (l ++ s :: r).length <= 200) : stepE (runD d l) s = 0 := by
 simp only [List.length_append, List.length_cons] at hn
 obtain ⟨h1, h2⟩ := run_good l hg (fun x hx => ho x (by simp [hx])) (by omega)
 exact (step_one h1 (ho s (by simp)) (by omega)).1
theorem run_texts : ∀ (l : List Stp) {d : Dsk}, goodD d = true -> (∀ s ∈ l, stpOk s) -> d.writes.length + l.length <= 200 -> ∀ {k : Nat}, k < 37 -> ∀ s ∈ textsAt (runD d l) k, s ∈ textsAt d k \/ ∃ x ∈ l, x.kind ≠ 2 /\ x.at_ = k /\ x.text = s
 | [], d, _, _, _, k, _, s, hs => .inl hs
 | x :: l, d, hg, ho, hn, k, hk, s, hs => by
  simp only [List.length_cons] at hn
  obtain ⟨h1, h2, h3⟩ := step_one hg (ho x (by simp)) (by omega)
  rw [runD_cons] at hs
  rcases run_texts l h2 (fun x hx => ho x (by simp [hx])) (by omega) hk s hs with h | ⟨y, hy, h⟩
  ·unfold stepE at h1
   unfold stepD at h
   by_cases hf : x.kind = 2
   ·rw [if_pos hf, flush_texts hg hk] at h
    obtain rfl := List.mem_singleton.1 h
    exact .inl (texts_last hg hk)
   ·rw [if_neg hf] at h h1
    rw [texts_put h1] at h
    split at h
    ·rename_i he
     rcases List.mem_append.1 h with h | h
     ·exact .inl h
     ·exact .inr ⟨x, by simp, hf, he, (List.mem_singleton.1 h).symm⟩
    ·exact .inl h
  ·exact .inr ⟨y, by simp [hy], h⟩
theorem step_read_none {d : Dsk} {x : Stp} (hg : goodD d = true) (ho : stpOk x) (hn : d.writes.length < 200) {k : Nat} (hk : k < 37) (h : x.kind ≠ 2 -> x.at_ ≠ k) : readD (stepD d x) k = readD d k := by
 have h1 := (step_one hg ho hn).1
 unfold stepE at h1
 unfold stepD
 by_cases hf : x.kind = 2
 ·rw [if_pos hf]; exact flush_read hg hk
 ·rw [if_neg hf] at h1 ⊢
  exact put_other h1 (fun e => h hf e.symm)
theorem step_read_one {d : Dsk} {x : Stp} (hg : goodD d = true) (ho : stpOk x) (hn : d.writes.length < 200) {k : Nat} (hf : x.kind ≠ 2) (h : x.at_ = k) : readD (stepD d x) k = x.text := by
 have h1 := (step_one hg ho hn).1
 unfold stepE at h1
 unfold stepD
 rw [if_neg hf] at h1 ⊢
 rw [<- h]
 exact put_read h1
theorem run_read : ∀ (l : List Stp) {d : Dsk}, goodD d = true -> (∀ s ∈ l, stpOk s) -> d.writes.length + l.length <= 200 -> ∀ {k : Nat}, k < 37 -> ∀ {s : ByteArray}, (∀ x ∈ l, x.kind ≠ 2 -> x.at_ = k -> x.text = s) -> ((∃ x ∈ l, x.kind ≠ 2 /\ x.at_ = k) \/ readD d k = s) -> readD (runD d l) k = s
 | [], d, _, _, _, k, _, s, _, h => by
  rcases h with ⟨x, hx, _⟩ | h
  ·cases hx
  ·exact h
 | x :: l, d, hg, ho, hn, k, hk, s, ha, h => by
  simp only [List.length_cons] at hn
  obtain ⟨h1, h2, h3⟩ := step_one hg (ho x (by simp)) (by omega)
  rw [runD_cons]
  refine run_read l h2 (fun x hx => ho x (by simp [hx])) (by omega) hk (fun y hy => ha y (by simp [hy])) ?_
  by_cases hw : x.kind ≠ 2 /\ x.at_ = k
  ·exact .inr ((step_read_one hg (ho x (by simp)) (by omega) hw.1 hw.2).trans (ha x (by simp) hw.1 hw.2))
  ·rcases h with ⟨y, hy, hy2⟩ | h
   ·rcases List.mem_cons.1 hy with rfl | hy
    ·exact absurd hy2 hw
    ·exact .inl ⟨y, hy, hy2⟩
   ·exact .inr ((step_read_none hg (ho x (by simp)) (by omega) hk fun hf he => hw ⟨hf, he⟩).trans h)
theorem run_read_none {l : List Stp} {d : Dsk} (hg : goodD d = true) (ho : ∀ s ∈ l, stpOk s) (hn : d.writes.length + l.length <= 200) {k : Nat} (hk : k < 37) (h : ∀ x ∈ l, x.kind ≠ 2 -> x.at_ ≠ k) : readD (runD d l) k = readD d k :=
 run_read l hg ho hn hk (fun x hx hf he => absurd he (h x hx hf)) (.inr rfl)
theorem run_flush {l : List Stp} {d : Dsk} (hg : goodD d = true) (ho : ∀ s ∈ l, stpOk s) (hn : d.writes.length + l.length <= 200) {k : Nat} (hk : k < 37) : textsAt (runD d (l ++ [flushS])) k = [readD (runD d l) k] := by
 rw [runD_append, runD_cons, runD_nil]
 unfold stepD
 rw [if_pos (show flushS.kind = 2 from rfl)]
 exact flush_texts (run_good l hg ho hn).1 hk
theorem scanE_congr {d c : Dsk} (hd : goodD d = true) (hc : goodD c = true) (h : readD c 0 = readD d 0) : scanE c = scanE d := by
 unfold scanE readE
 rw [hd, hc, h]
def supA (d : Dsk) : Int := (decM (readD d 0)).at_
def supQ (d : Dsk) : Int := (decM (readD d 0)).seq
theorem scanF_eq {d : Dsk} (h : scanE d = 0) : scanF d = ⟨(scanA (logL d (supA d)) (supQ d)).1, (scanA (logL d (supA d)) (supQ d)).2.1, (supA d + (24 - ((scanA (logL d (supA d)) (supQ d)).2.2.length : Int))) % 24⟩ := by
 unfold scanF scanA
 rw [if_pos h, logL_len]
 rfl
def usedN (d : Dsk) : Nat := 24 - (scanA (logL d (supA d)) (supQ d)).2.2.length
theorem scanE_zero {d : Dsk} (h : scanE d = 0) : goodD d = true /\ decE (readD d 0) = 0 /\ (decM (readD d 0)).kind = 1 /\ (0 <= supA d /\ supA d < 24) /\ (1 <= supQ d /\ supQ d <= 2147483647) := by
 unfold scanE at h
 by_cases h1 : readE d 0 = 0
 ·rw [if_pos h1] at h
  by_cases h2 : decE (readD d 0) = 0 /\ (decM (readD d 0)).kind = 1
  ·have hb := dec_bds h2.1
   refine ⟨?_, h2.1, h2.2, ⟨hb.2.2.1, hb.2.2.2.1⟩, hb.2.2.2.2⟩
   unfold readE at h1
   by_cases h3 : goodD d = true /\ isAt 0 = true
   ·exact h3.1
   ·rw [if_neg h3] at h1; cases h1
  ·rw [if_neg h2] at h; cases h
 ·rw [if_neg h1] at h; cases h
def noCom (d : Dsk) (q : Int) : Prop := ∀ i : Nat, i < 24 -> ∀ x, q <= x -> ¬ comAt x (readD d (1 + (i : Int)))
theorem noCom.log {d : Dsk} {q : Int} (h : noCom d q) (a : Int) {x : Int} (hx : q <= x) : ∀ s ∈ logL d a, ¬ comAt x s := by
 intro s hs
 unfold logL at hs
 obtain ⟨i, _, rfl⟩ := List.mem_map.1 hs
 have := h ((a + (i : Int)) % 24).toNat (by omega) x hx
 rw [Int.toNat_of_nonneg (by omega)] at this
 exact this
theorem logL_get (d : Dsk) (a : Int) {i : Nat} (hi : i < 24) : (logL d a)[i]? = some (readD d (1 + (a + (i : Int)) % 24)) := by
 unfold logL
 rw [List.getElem?_map, List.getElem?_range hi]; rfl
theorem scan_parts {d : Dsk} (h : scanE d = 0) : ∃ pre, logL d (supA d) = pre ++ (scanA (logL d (supA d)) (supQ d)).2.2 /\ pre.length = usedN d /\ usedN d <= 24 /\ (scanF d).next = supQ d + (scanF d).txns.length /\ (scanF d).next <= 2147483647 /\ (scanF d).at_ = (supA d + usedN d) % 24 /\ ((scanF d).txns = [] ↔ usedN d = 0) /\
    ∀ r2, (scanA (pre ++ r2) (supQ d)).1 = (scanF d).txns ++ (scanA r2 (scanF d).next).1 /\ (scanA (pre ++ r2) (supQ d)).2 = (scanA r2 (scanF d).next).2 := by
 obtain ⟨pre, h1, h2, h3, h4, h5⟩ := scanA_split 24 (logL d (supA d)) (supQ d) (by rw [logL_len]; exact Nat.le_refl _)
 have hb := scanE_zero h
 have hl : 24 = pre.length + (scanA (logL d (supA d)) (supQ d)).2.2.length := by
  have := congrArg List.length h1
  rw [logL_len, List.length_append] at this
  exact this
 have hu : pre.length = usedN d := by unfold usedN; omega
 rw [scanF_eq h]
 refine ⟨pre, h1, hu, by unfold usedN; omega, h2, h3 hb.2.2.2.2.2, ?_, ?_, h5⟩
 ·show (supA d + (24 - _)) % 24 = _
  congr 1
  rw [<- hu]; omega
 ·show (scanA _ _).1 = [] ↔ _
  rw [h4, <- hu, List.length_eq_zero_iff]
def comA (r : Ring) (t : Txn) : List Stp := dataS t ++ (List.zipWith atW (places r.head (bodyT t).length) (bodyT t) ++ (if bodyT t = [] then [] else [flushS]))
theorem comL_split {r : Ring} {t : Txn} (h : comE r t = 0) : comL r t = comA r t ++ [atW ((r.head + (bodyT t).length) % 24) (markS (comM t.seq)), flushS] := by
 unfold comL comA
 rw [if_pos h]; simp
theorem comE_zero {r : Ring} {t : Txn} (h : comE r t = 0) : goodR r = true /\ GoodT t /\ openB t = false /\ ((bodyT t).length : Int) + 1 <= 24 - r.used /\ (0 <= r.head /\ r.head < 24) /\ (0 <= r.used /\ r.used <= 24) := by
 unfold comE at h
 split at h
 ·cases h
 ·rename_i hc
  simp only [not_or, Bool.not_eq_false, Bool.not_eq_true] at hc
  obtain ⟨h1, h2, h3⟩ := hc
  have g := goodT_of.1 h2
  have hb := bodyT_len g
  have hr := (goodR_iff r).1 h1
  refine ⟨h1, g, h3, ?_, ⟨hr.1, hr.2.1⟩, hr.2.2⟩
  rw [hb]
  unfold takeE at h
  split at h
  ·cases h
  ·split at h
   ·cases h
   ·omega
theorem wr_kind (p : Int) (s : ByteArray) : (wrS p s).kind ≠ 2 := (show (1 : Int) ≠ 2 by decide)
theorem log_last (t : Txn) (h : (bodyT t).length < (logT t).length) : (logT t)[(bodyT t).length] = markS (comM t.seq) := by simp [logT]
theorem log_body (t : Txn) {j : Nat} (h : j < (bodyT t).length) (h2 : j < (logT t).length) : (logT t)[j] = (bodyT t)[j] := by simp only [logT]; rw [List.getElem_append_left h]
theorem mem_data {t : Txn} {x : Stp} (hx : x ∈ dataS t) : x = flushS \/ ∃ c ∈ t.dt, x = wrS (25 + c.block) c.text := by
 unfold dataS at hx
 rcases List.mem_append.1 hx with hx | hx
 ·obtain ⟨c, hc, rfl⟩ := List.mem_map.1 hx
  exact .inr ⟨c, hc, rfl⟩
 ·split at hx
  ·cases hx
  ·exact .inl (List.mem_singleton.1 hx)
theorem mem_zip {a : Int} {l : List ByteArray} {x : Stp} (hx : x ∈ List.zipWith atW (places a l.length) l) : ∃ (j : Nat) (hj : j < l.length), x = atW ((a + (j : Int)) % 24) l[j] := by
 obtain ⟨j, hj, rfl⟩ := List.mem_iff_getElem.1 hx
 rw [List.length_zipWith, places_len] at hj
 refine ⟨j, by omega, ?_⟩
 rw [List.getElem_zipWith]
 congr 1
 have := places_get a l.length j (by omega)
 rw [List.getElem?_eq_getElem (by rw [places_len]; omega), Option.some.injEq] at this
 exact this
theorem zip_mem (a : Int) (l : List ByteArray) {j : Nat} (hj : j < l.length) : atW ((a + (j : Int)) % 24) l[j] ∈ List.zipWith atW (places a l.length) l := by
 have h : j < (List.zipWith atW (places a l.length) l).length := by rw [List.length_zipWith, places_len]; omega
 have := List.getElem_mem h
 rw [List.getElem_zipWith] at this
 have h2 := places_get a l.length j (by omega)
 rw [List.getElem?_eq_getElem (by rw [places_len]; omega), Option.some.injEq] at h2
 rw [h2] at this
 exact this
theorem mem_comA {r : Ring} {t : Txn} {x : Stp} (hx : x ∈ comA r t) : x = flushS \/ (∃ c ∈ t.dt, x = wrS (25 + c.block) c.text) \/ ∃ (j : Nat) (hj : j < (bodyT t).length), x = atW ((r.head + (j : Int)) % 24) (bodyT t)[j] := by
 unfold comA at hx
 rcases List.mem_append.1 hx with hx | hx
 ·exact (mem_data hx).imp id .inl
 ·rcases List.mem_append.1 hx with hx | hx
  ·exact .inr (.inr (mem_zip hx))
  ·split at hx
   ·cases hx
   ·exact .inl (List.mem_singleton.1 hx)
theorem data_ok {t : Txn} (g : GoodT t) {c : Cpy} (hc : c ∈ t.dt) : (0 <= c.block /\ c.block < 12) /\ c.text.size = 32 := by
 have := ((copies_pw _).1 g.dt).2 c hc
 exact ⟨of_decide_eq_true this.1, this.2⟩
theorem com_ok {r : Ring} {t : Txn} (h : comE r t = 0) : (∀ x ∈ comL r t, stpOk x) /\ (comL r t).length <= 100 := by
 obtain ⟨h1, g, h3, h4, h5, h6⟩ := comE_zero h
 constructor
 ·intro x hx hk
  rw [comL_split h] at hx
  have hlog : ∀ (p : Int) (s : ByteArray), 0 <= p /\ p < 24 -> s ∈ logT t -> isAt (atW p s).at_ = true /\ (atW p s).text.size = 32 := fun p s hp hs =>
   ⟨by unfold isAt atW wrS; simp; omega, log_size g hs⟩
  rcases List.mem_append.1 hx with hx | hx
  ·rcases mem_comA hx with rfl | ⟨c, hc, rfl⟩ | ⟨j, hj, rfl⟩
   ·exact absurd rfl hk
   ·have := data_ok g hc
    exact ⟨by unfold isAt wrS; simp; omega, this.2⟩
   ·exact hlog _ _ ⟨Int.emod_nonneg _ (by decide), Int.emod_lt_of_pos _ (by decide)⟩ (by unfold logT; exact List.mem_append_left _ (List.getElem_mem hj))
  ·rcases List.mem_cons.1 hx with rfl | hx
   ·exact hlog _ _ ⟨Int.emod_nonneg _ (by decide), Int.emod_lt_of_pos _ (by decide)⟩ (by unfold logT; simp)
   ·obtain rfl := List.mem_singleton.1 hx
    exact absurd rfl hk
 ·rw [comL_split h]
  unfold comA dataS
  have := (lens g).2.1
  simp only [List.length_append, List.length_map, List.length_zipWith, places_len, List.length_cons, List.length_nil]
  have e1 : (if t.dt = [] then ([] : List Stp) else [flushS]).length <= 1 := by split <;> simp
  have e2 : (if bodyT t = [] then ([] : List Stp) else [flushS]).length <= 1 := by split <;> simp
  omega
structure ComLeft (r : Ring) (t : Txn) (d c : Dsk) (k : Nat) : Prop where
 good : goodD c = true
 clean : c.writes = []
 zero : readD c 0 = readD d 0
 home : ∀ b : Nat, b < 12 -> readD c (25 + (b : Int)) = readD d (25 + (b : Int)) \/ ∃ x ∈ t.dt, x.block = b /\ readD c (25 + (b : Int)) = x.text
 data : (dataS t).length <= k -> ∀ x ∈ t.dt, readD c (25 + x.block) = x.text
 log : (k <= (comA r t).length + 1 /\ ∀ i : Nat, i < 24 -> readD c (1 + (i : Int)) = readD d (1 + (i : Int)) \/ ∃ (j : Nat) (hj : j < (bodyT t).length), (i : Int) = (r.head + (j : Int)) % 24 /\ readD c (1 + (i : Int)) = (bodyT t)[j]) \/
  ((comA r t).length < k /\ (∀ (j : Nat) (hj : j < (logT t).length), readD c (1 + (r.head + (j : Int)) % 24) = (logT t)[j]) /\ ∀ i : Nat, i < 24 -> (∀ j : Nat, j < (logT t).length -> (i : Int) ≠ (r.head + (j : Int)) % 24) -> readD c (1 + (i : Int)) = readD d (1 + (i : Int)))
theorem places_ne {a : Int} {i j : Nat} (hi : i < 24) (hj : j < 24) (h : (a + (i : Int)) % 24 = (a + (j : Int)) % 24) : i = j := by omega
theorem dt_one {t : Txn} (g : GoodT t) {x y : Cpy} (hx : x ∈ t.dt) (hy : y ∈ t.dt) (h : x.block = y.block) : x.text = y.text := by
 have hp := ((copies_pw _).1 g.dt).1
 have h1 := getC_of_mem hp hx
 have h2 := getC_of_mem hp hy
 rw [h, h2, Option.some.injEq] at h1
 exact h1.symm
theorem com_left {r : Ring} {t : Txn} {d c : Dsk} {k : Nat} (h : comE r t = 0) (hg : goodD d = true) (hw : d.writes = []) (hk : k <= (comL r t).length) (hl : Left (runD d ((comL r t).take k)) c) : ComLeft r t d c k := by
 obtain ⟨h1, g, h3, h4, h5, h6⟩ := comE_zero h
 obtain ⟨ho, hlen⟩ := com_ok h
 have hok : ∀ n, (∀ x ∈ (comL r t).take n, stpOk x) := fun n x hx => ho x (List.mem_of_mem_take hx)
 have hln : ∀ n, d.writes.length + ((comL r t).take n).length <= 200 := fun n => by rw [hw, List.length_nil, List.length_take]; omega
 have hsp := comL_split h
 have hL : (comL r t).length = (comA r t).length + 2 := by rw [hsp]; simp
 have hnl : (logT t).length = (bodyT t).length + 1 := by unfold logT; simp
 have hwr : ∀ x ∈ comL r t, x.kind ≠ 2 -> (∃ y ∈ t.dt, x = wrS (25 + y.block) y.text) \/ ∃ (j : Nat) (hj : j < (logT t).length), x = atW ((r.head + (j : Int)) % 24) (logT t)[j] := fun x hx hk2 => by
  rw [hsp] at hx
  rcases List.mem_append.1 hx with hx | hx
  ·rcases mem_comA hx with rfl | hx | ⟨j, hj, rfl⟩
   ·exact absurd rfl hk2
   ·exact .inl hx
   ·refine .inr ⟨j, by omega, ?_⟩
    rw [log_body t hj]
  ·rcases List.mem_cons.1 hx with rfl | hx
   ·refine .inr ⟨(bodyT t).length, by omega, ?_⟩
    rw [log_last]
   ·obtain rfl := List.mem_singleton.1 hx
    exact absurd rfl hk2
 have htx : ∀ n : Nat, n < 37 -> readD c n = readD d n \/ ∃ x ∈ (comL r t).take k, x.kind ≠ 2 /\ x.at_ = n /\ x.text = readD c n := fun n hn => by
  rcases run_texts _ hg (hok k) (hln k) hn _ (hl.read n hn) with hh | hh
  ·rw [texts_clean hg hw hn] at hh
   exact .inl (List.mem_singleton.1 hh)
  ·exact .inr hh
 have hz : readD c 0 = readD d 0 := by
  rcases htx 0 (by decide) with hh | ⟨x, hx, hk2, ha, _⟩
  ·exact hh
  ·exfalso
   rcases hwr x (List.mem_of_mem_take hx) hk2 with ⟨y, hy, rfl⟩ | ⟨j, hj, rfl⟩
   ·have := (data_ok g hy).1
    have ha2 : 25 + y.block = ((0 : Nat) : Int) := ha
    omega
   ·have ha2 : 1 + (r.head + (j : Int)) % 24 = ((0 : Nat) : Int) := ha
    omega
 have hh : ∀ b : Nat, b < 12 -> readD c (25 + (b : Int)) = readD d (25 + (b : Int)) \/ ∃ x ∈ t.dt, x.block = b /\ readD c (25 + (b : Int)) = x.text := fun b hb => by
  rcases htx (25 + b) (by omega) with hh | ⟨x, hx, hk2, ha, he⟩
  ·exact .inl (by simpa using hh)
  ·rcases hwr x (List.mem_of_mem_take hx) hk2 with ⟨y, hy, rfl⟩ | ⟨j, hj, rfl⟩
   ·have ha2 : 25 + y.block = ((25 + b : Nat) : Int) := ha
    exact .inr ⟨y, hy, by omega, by have he2 := he.symm; simpa [atW, wrS] using he2⟩
   ·exfalso
    have ha2 : 1 + (r.head + (j : Int)) % 24 = ((25 + b : Nat) : Int) := ha
    omega
 refine ⟨hl.good, hl.clean, hz, hh, fun hd x hx => ?_, ?_⟩
 ·
  have hb := data_ok g hx
  have hn0 : t.dt ≠ [] := fun e => by rw [e] at hx; cases hx
  have hds : dataS t = t.dt.map (fun c => wrS (25 + c.block) c.text) ++ [flushS] := by unfold dataS; rw [if_neg hn0]
  obtain ⟨b, hbb, hb12⟩ : ∃ b : Nat, x.block = b /\ b < 12 := ⟨x.block.toNat, by omega, by omega⟩
  have htk : (comL r t).take k = dataS t ++ ((comL r t).take k).drop (dataS t).length := by
   have e : ((comL r t).take k).take (dataS t).length = dataS t := by
    rw [List.take_take, Nat.min_eq_left hd, hsp]
    unfold comA
    rw [List.append_assoc, List.take_left]
   conv => lhs; rw [<- List.take_append_drop (dataS t).length ((comL r t).take k), e]
  have hrest : ∀ y ∈ ((comL r t).take k).drop (dataS t).length, y.kind ≠ 2 -> y.at_ ≠ ((25 + b : Nat) : Int) := fun y hy hk2 => by
   have hy2 : y ∈ (List.zipWith atW (places r.head (bodyT t).length) (bodyT t) ++ (if bodyT t = [] then [] else [flushS])) ++ [atW ((r.head + (bodyT t).length) % 24) (markS (comM t.seq)), flushS] := by
    rw [hsp] at hy
    unfold comA at hy
    rw [List.append_assoc, List.take_append, List.drop_append, List.drop_eq_nil_of_le (by rw [List.length_take]; omega), List.nil_append] at hy
    exact List.mem_of_mem_take (List.mem_of_mem_drop hy)
   have key : ∀ (p : Int) (s : ByteArray), 0 <= p /\ p < 24 -> (atW p s).at_ ≠ ((25 + b : Nat) : Int) := fun p s hp e => by
    have e2 : 1 + p = ((25 + b : Nat) : Int) := e
    omega
   rcases List.mem_append.1 hy2 with hy2 | hy2
   ·rcases List.mem_append.1 hy2 with hy2 | hy2
    ·obtain ⟨j, hj, rfl⟩ := mem_zip hy2
     exact key _ _ ⟨Int.emod_nonneg _ (by decide), Int.emod_lt_of_pos _ (by decide)⟩
    ·split at hy2
     ·cases hy2
     ·obtain rfl := List.mem_singleton.1 hy2
      exact absurd rfl hk2
   ·rcases List.mem_cons.1 hy2 with rfl | hy2
    ·exact key _ _ ⟨Int.emod_nonneg _ (by decide), Int.emod_lt_of_pos _ (by decide)⟩
    ·obtain rfl := List.mem_singleton.1 hy2
     exact absurd rfl hk2
  have hokd : ∀ y ∈ t.dt.map (fun c => wrS (25 + c.block) c.text), stpOk y := fun y hy hk2 => by
   obtain ⟨z, hz2, rfl⟩ := List.mem_map.1 hy
   have := data_ok g hz2
   exact ⟨by unfold isAt wrS; simp; omega, this.2⟩
  have hokD : ∀ y ∈ dataS t, stpOk y := fun y hy => ho y (by rw [hsp]; unfold comA; simp [hy])
  have hlD : (dataS t).length <= 100 := by
   have := congrArg List.length hsp
   unfold comA at this
   simp only [List.length_append] at this
   omega
  have hlenD := (lens g).2.1
  have hdisk : textsAt (runD d (dataS t)) (25 + b) = [x.text] := by
   have e : readD (runD d (t.dt.map (fun c => wrS (25 + c.block) c.text))) ((25 + b : Nat) : Int) = x.text :=
    run_read _ hg hokd (by rw [hw, List.length_map, List.length_nil]; omega) (by omega) (fun y hy _ ha => by
     obtain ⟨z, hz2, rfl⟩ := List.mem_map.1 hy
     have ha2 : 25 + z.block = ((25 + b : Nat) : Int) := ha
     exact dt_one g hz2 hx (by omega)) (.inl ⟨wrS (25 + x.block) x.text, List.mem_map.2 ⟨x, hx, rfl⟩, wr_kind _ _, by show 25 + x.block = _; omega⟩)
   rw [hds, run_flush hg hokd (by rw [hw, List.length_map, List.length_nil]; omega) (by omega), e]
  have hgD := run_good (dataS t) hg hokD (by rw [hw, List.length_nil]; omega)
  have hlt : (((comL r t).take k).drop (dataS t).length).length <= 100 := by rw [List.length_drop, List.length_take]; omega
  have hfin := hl.read (25 + b) (by omega)
  rw [htk, runD_append] at hfin
  rcases run_texts _ hgD.1 (fun y hy => hok k y (List.mem_of_mem_drop hy)) (by have := hgD.2; rw [hw, List.length_nil] at this; omega) (k := 25 + b) (by omega) _ hfin with hh2 | ⟨y, hy, hk2, ha, _⟩
  ·rw [hdisk] at hh2
   rw [hbb]
   simpa using List.mem_singleton.1 hh2
  ·exact absurd ha (hrest y hy hk2)
 ·by_cases hkA : k <= (comA r t).length
  ·
   refine .inl ⟨by omega, fun i hi => ?_⟩
   rcases htx (1 + i) (by omega) with hh | ⟨x, hx, hk2, ha, he⟩
   ·exact .inl (by simpa using hh)
   ·have hx2 : x ∈ comA r t := by
      rw [hsp, List.take_append_of_le_length hkA] at hx
      exact List.mem_of_mem_take hx
    rcases mem_comA hx2 with rfl | ⟨y, hy, rfl⟩ | ⟨j, hj, rfl⟩
    ·exact absurd rfl hk2
    ·exfalso
     have ha2 : 25 + y.block = ((1 + i : Nat) : Int) := ha
     have := (data_ok g hy).1
     omega
    ·have ha2 : 1 + (r.head + (j : Int)) % 24 = ((1 + i : Nat) : Int) := ha
     exact .inr ⟨j, hj, by omega, by have he2 := he.symm; simpa [atW, wrS] using he2⟩
  ·
   have hA : (comL r t).take (comA r t).length = comA r t := by rw [hsp, List.take_left]
   have hgA := run_good (comA r t) hg (fun x hx => ho x (by rw [hsp]; simp [hx])) (by rw [hw, List.length_nil]; omega)
   have hbody : ∀ (j : Nat) (hj : j < (bodyT t).length), textsAt (runD d (comA r t)) (1 + ((r.head + (j : Int)) % 24).toNat) = [(bodyT t)[j]] := fun j hj => by
    have hne : bodyT t ≠ [] := fun e => by rw [e] at hj; cases hj
    have hAe : comA r t = (dataS t ++ List.zipWith atW (places r.head (bodyT t).length) (bodyT t)) ++ [flushS] := by unfold comA; rw [if_neg hne]; simp
    have hok2 : ∀ x ∈ dataS t ++ List.zipWith atW (places r.head (bodyT t).length) (bodyT t), stpOk x := fun x hx => ho x (by rw [hsp, hAe]; simp only [List.append_assoc]; rw [<- List.append_assoc]; exact List.mem_append_left _ hx)
    have hln2 : d.writes.length + (dataS t ++ List.zipWith atW (places r.head (bodyT t).length) (bodyT t)).length <= 200 := by
     have := congrArg List.length hAe
     rw [List.length_append] at this
     rw [hw, List.length_nil]
     omega
    have hlt : 1 + ((r.head + (j : Int)) % 24).toNat < 37 := by omega
    rw [hAe, run_flush hg hok2 hln2 hlt]
    congr 1
    refine run_read _ hg hok2 hln2 hlt (fun x hx hk2 ha => ?_) (.inl ⟨_, List.mem_append_right _ (zip_mem r.head (bodyT t) hj), wr_kind _ _, ?_⟩)
    ·rcases List.mem_append.1 hx with hx | hx
     ·exfalso
      rcases mem_data hx with rfl | ⟨y, hy, rfl⟩
      ·exact absurd rfl hk2
      ·have ha2 : 25 + y.block = ((1 + ((r.head + (j : Int)) % 24).toNat : Nat) : Int) := ha
       have := (data_ok g hy).1
       omega
     ·obtain ⟨i, hi, rfl⟩ := mem_zip hx
      have ha2 : 1 + (r.head + (i : Int)) % 24 = ((1 + ((r.head + (j : Int)) % 24).toNat : Nat) : Int) := ha
      obtain rfl : i = j := places_ne (a := r.head) (by omega) (by omega) (by omega)
      rfl
    ·show 1 + (r.head + (j : Int)) % 24 = _
     omega
   have hrestA : ∀ n : Nat, n < 37 -> ∀ s ∈ textsAt (runD d (comA r t)) n, s = readD d n \/ ∃ x ∈ comA r t, x.kind ≠ 2 /\ x.at_ = n /\ x.text = s := fun n hn s hs => by
    rcases run_texts _ hg (fun x hx => ho x (by rw [hsp]; simp [hx])) (by rw [hw, List.length_nil]; omega) hn s hs with hh | hh
    ·rw [texts_clean hg hw hn] at hh
     exact .inl (List.mem_singleton.1 hh)
    ·exact .inr hh
   have hpc : putE (runD d (comA r t)) (1 + (r.head + (bodyT t).length) % 24) (markS (comM t.seq)) = 0 := by
    have := (step_one hgA.1 (ho (atW ((r.head + (bodyT t).length) % 24) (markS (comM t.seq))) (by rw [hsp]; simp)) (by have := hgA.2; rw [hw, List.length_nil] at this; omega)).1
    exact this
   have hput : textsAt (putD (runD d (comA r t)) (1 + (r.head + (bodyT t).length) % 24) (markS (comM t.seq))) = fun n : Nat => if 1 + (r.head + (bodyT t).length) % 24 = (n : Int) then textsAt (runD d (comA r t)) n ++ [markS (comM t.seq)] else textsAt (runD d (comA r t)) n := funext fun n => texts_put hpc n
   have hgP := put_good hpc
   have htk : ∀ n : Nat, n < 37 -> readD c n ∈ textsAt (putD (runD d (comA r t)) (1 + (r.head + (bodyT t).length) % 24) (markS (comM t.seq))) n /\ (k = (comL r t).length -> readD c n = readD (putD (runD d (comA r t)) (1 + (r.head + (bodyT t).length) % 24) (markS (comM t.seq))) n) := fun n hn => by
    have hrd := hl.read n hn
    obtain rfl | rfl : k = (comA r t).length + 1 \/ k = (comA r t).length + 2 := by omega
    ·rw [hsp, List.take_append, List.take_of_length_le (by omega), Nat.add_sub_cancel_left, runD_append] at hrd
     exact ⟨hrd, fun e => by omega⟩
    ·rw [List.take_of_length_le (by omega), hsp, runD_append] at hrd
     have e : runD (runD d (comA r t)) [atW ((r.head + (bodyT t).length) % 24) (markS (comM t.seq)), flushS] = flushD (putD (runD d (comA r t)) (1 + (r.head + (bodyT t).length) % 24) (markS (comM t.seq))) := rfl
     rw [e, flush_texts hgP hn] at hrd
     have hrd := List.mem_singleton.1 hrd
     exact ⟨by rw [hrd]; exact texts_last hgP hn, fun _ => hrd⟩
   have hcomq : ((1 + ((r.head + ((bodyT t).length : Int)) % 24).toNat : Nat) : Int) = 1 + (r.head + ((bodyT t).length : Int)) % 24 := by omega
   have hc24 : 1 + ((r.head + ((bodyT t).length : Int)) % 24).toNat < 37 := by omega
   by_cases hmk : readD c (1 + (r.head + ((bodyT t).length : Int)) % 24) = markS (comM t.seq)
   ·refine .inr ⟨by omega, fun j hj => ?_, fun i hi hij => ?_⟩
    ·by_cases hjb : j < (bodyT t).length
     ·have hne : ¬ (1 + (r.head + ((bodyT t).length : Int)) % 24 = ((1 + ((r.head + (j : Int)) % 24).toNat : Nat) : Int)) := fun e => by
        have := places_ne (a := r.head) (i := (bodyT t).length) (j := j) (by omega) (by omega) (by omega)
        omega
      have h7 := (htk (1 + ((r.head + (j : Int)) % 24).toNat) (by omega)).1
      rw [hput] at h7
      simp only [if_neg hne] at h7
      rw [hbody j hjb] at h7
      have h8 := List.mem_singleton.1 h7
      have e : ((1 + ((r.head + (j : Int)) % 24).toNat : Nat) : Int) = 1 + (r.head + (j : Int)) % 24 := by omega
      rw [e] at h8
      rw [h8, log_body t hjb]
     ·obtain rfl : j = (bodyT t).length := by omega
      rw [hmk, log_last]
    ·have hne : ¬ (1 + (r.head + ((bodyT t).length : Int)) % 24 = ((1 + i : Nat) : Int)) := fun e => hij (bodyT t).length (by omega) (by omega)
     have h7 := (htk (1 + i) (by omega)).1
     rw [hput] at h7
     simp only [if_neg hne] at h7
     rcases hrestA (1 + i) (by omega) _ h7 with hh | ⟨x, hx, hk2, ha, _⟩
     ·simpa using hh
     ·exfalso
      rcases mem_comA hx with rfl | ⟨y, hy, rfl⟩ | ⟨j, hj, rfl⟩
      ·exact absurd rfl hk2
      ·have ha2 : 25 + y.block = ((1 + i : Nat) : Int) := ha
       have := (data_ok g hy).1
       omega
      ·have ha2 : 1 + (r.head + (j : Int)) % 24 = ((1 + i : Nat) : Int) := ha
       exact hij j (by omega) (by omega)
   ·refine .inl ⟨?_, fun i hi => ?_⟩
    ·
     by_cases hkl : k = (comL r t).length
     ·exfalso
      have h9 := (htk _ hc24).2 hkl
      rw [hcomq] at h9
      exact hmk (h9.trans (put_read hpc))
     ·omega
    ·by_cases hne : 1 + (r.head + ((bodyT t).length : Int)) % 24 = ((1 + i : Nat) : Int)
     ·have h7 := (htk (1 + i) (by omega)).1
      rw [hput] at h7
      simp only [if_pos hne] at h7
      rcases List.mem_append.1 h7 with h7 | h7
      ·rcases hrestA (1 + i) (by omega) _ h7 with hh | ⟨x, hx, hk2, ha, he⟩
       ·exact .inl (by simpa using hh)
       ·exfalso
        rcases mem_comA hx with rfl | ⟨y, hy, rfl⟩ | ⟨j, hj, rfl⟩
        ·exact absurd rfl hk2
        ·have ha2 : 25 + y.block = ((1 + i : Nat) : Int) := ha
         have := (data_ok g hy).1
         omega
        ·have ha2 : 1 + (r.head + (j : Int)) % 24 = ((1 + i : Nat) : Int) := ha
         have := places_ne (a := r.head) (i := (bodyT t).length) (j := j) (by omega) (by omega) (by omega)
         omega
      ·exfalso
       refine hmk ?_
       rw [hne]
       exact List.mem_singleton.1 h7
     ·have h7 := (htk (1 + i) (by omega)).1
      rw [hput] at h7
      simp only [if_neg hne] at h7
      rcases hrestA (1 + i) (by omega) _ h7 with hh | ⟨x, hx, hk2, ha, he⟩
      ·exact .inl (by simpa using hh)
      ·rcases mem_comA hx with rfl | ⟨y, hy, rfl⟩ | ⟨j, hj, rfl⟩
       ·exact absurd rfl hk2
       ·exfalso
        have ha2 : 25 + y.block = ((1 + i : Nat) : Int) := ha
        have := (data_ok g hy).1
        omega
       ·have ha2 : 1 + (r.head + (j : Int)) % 24 = ((1 + i : Nat) : Int) := ha
        exact .inr ⟨j, hj, by omega, by have he2 := he.symm; simpa [atW, wrS] using he2⟩
theorem log_split {d c : Dsk} (a : Int) {u : Nat} (hu : u <= 24) (h : ∀ i : Nat, i < u -> readD c (1 + (a + (i : Int)) % 24) = readD d (1 + (a + (i : Int)) % 24)) : logL c a = (logL d a).take u ++ (logL c a).drop u := by
 conv => lhs; rw [<- List.take_append_drop u (logL c a)]
 congr 1
 refine List.ext_getElem? fun i => ?_
 by_cases hi : i < u
 ·rw [List.getElem?_take, List.getElem?_take, if_pos hi, if_pos hi, logL_get _ _ (by omega), logL_get _ _ (by omega), h i hi]
 ·rw [List.getElem?_take, List.getElem?_take, if_neg hi, if_neg hi]
theorem fnd_eta (f : Fnd) {x : List Txn} {y z : Int} (h1 : f.txns = x) (h2 : f.next = y) (h3 : f.at_ = z) : f = ⟨x, y, z⟩ := by cases f; simp_all
theorem scan_more {d c : Dsk} (hd : scanE d = 0) (hc : goodD c = true) (hz : readD c 0 = readD d 0) (h : ∀ i : Nat, i < usedN d -> readD c (1 + (supA d + (i : Int)) % 24) = readD d (1 + (supA d + (i : Int)) % 24)) :
    scanE c = 0 /\ supA c = supA d /\ supQ c = supQ d /\ (scanF c).txns = (scanF d).txns ++ (scanA ((logL c (supA d)).drop (usedN d)) (scanF d).next).1 /\ (scanF c).next = (scanA ((logL c (supA d)).drop (usedN d)) (scanF d).next).2.1 /\
      (scanA (logL c (supA c)) (supQ c)).2.2 = (scanA ((logL c (supA d)).drop (usedN d)) (scanF d).next).2.2 := by
 have hg := (scanE_zero hd).1
 have hE : scanE c = 0 := by rw [scanE_congr hg hc hz]; exact hd
 have hA : supA c = supA d := by unfold supA; rw [hz]
 have hQ : supQ c = supQ d := by unfold supQ; rw [hz]
 obtain ⟨pre, p1, p2, p3, p4, p5, p6, p7, p8⟩ := scan_parts hd
 have hpre : (logL d (supA d)).take (usedN d) = pre := by rw [p1, <- p2, List.take_left]
 have hsp := log_split (d := d) (c := c) (supA d) p3 h
 rw [hpre] at hsp
 obtain ⟨q1, q2⟩ := p8 ((logL c (supA d)).drop (usedN d))
 rw [<- hsp] at q1 q2
 refine ⟨hE, hA, hQ, ?_, ?_, ?_⟩
 ·rw [scanF_eq hE, hA, hQ]; exact q1
 ·rw [scanF_eq hE, hA, hQ]; exact congrArg Prod.fst q2
 ·rw [hA, hQ]; exact congrArg Prod.snd q2
theorem scan_same {d c : Dsk} (hd : scanE d = 0) (hc : goodD c = true) (hz : readD c 0 = readD d 0) (h : ∀ i : Nat, i < usedN d -> readD c (1 + (supA d + (i : Int)) % 24) = readD d (1 + (supA d + (i : Int)) % 24)) (hn : noCom c (scanF d).next) :
    scanE c = 0 /\ scanF c = scanF d /\ usedN c = usedN d := by
 obtain ⟨hE, hA, hQ, s1, s2, s3⟩ := scan_more hd hc hz h
 have h0 := scanA_none (q := (scanF d).next) (r := (logL c (supA d)).drop (usedN d)) (fun s hs => hn.log (supA d) (Int.le_refl _) s (List.mem_of_mem_drop hs))
 rw [h0] at s1 s2 s3
 obtain ⟨pre, p1, p2, p3, p4, p5, p6, p7, p8⟩ := scan_parts hd
 have hu : usedN c = usedN d := by
  unfold usedN at p3 ⊢
  rw [s3, List.length_drop, logL_len]
  unfold usedN
  omega
 obtain ⟨_, _, _, _, _, _, r6, _⟩ := scan_parts hE
 refine ⟨hE, ?_, hu⟩
 rw [fnd_eta (scanF d) rfl rfl rfl]
 exact fnd_eta _ (by rw [s1, List.append_nil]) s2 (by rw [r6, hA, hu, <- p6])
theorem com_scan {r : Ring} {t : Txn} {d c : Dsk} {k : Nat} (hd : scanE d = 0) (hn : noCom d (scanF d).next) (h : comE r t = 0) (hh : r.head = (scanF d).at_) (hu : r.used = usedN d) (hq : t.seq = (scanF d).next) (hq2 : t.seq < 2147483647) (hl : ComLeft r t d c k) :
    scanE c = 0 /\ ((k <= (comA r t).length + 1 /\ scanF c = scanF d /\ usedN c = usedN d /\ noCom c (scanF d).next) \/
      ((comA r t).length < k /\ scanF c = ⟨(scanF d).txns ++ [logOf t], (scanF d).next + 1, ((scanF d).at_ + ((bodyT t).length + 1 : Nat)) % 24⟩ /\ usedN c = usedN d + ((bodyT t).length + 1) /\ noCom c ((scanF d).next + 1))) := by
 obtain ⟨h1, g, h3, h4, h5, h6⟩ := comE_zero h
 obtain ⟨hb1, hb2, hb3, hb4, hb5⟩ := scanE_zero hd
 obtain ⟨pre, p1, p2, p3, p4, p5, p6, p7, p8⟩ := scan_parts hd
 have hnl : (logT t).length = (bodyT t).length + 1 := by unfold logT; simp
 have hold : ∀ i : Nat, i < usedN d -> ∀ j : Nat, j < (bodyT t).length + 1 -> ((supA d + (i : Int)) % 24) ≠ (r.head + (j : Int)) % 24 := fun i hi j hj e => by
  rw [hh, p6] at e
  omega
 rcases hl.log with ⟨hk, hA⟩ | ⟨hk, hB1, hB2⟩
 ·have hn2 : noCom c (scanF d).next := fun i hi x hx hc => by
    rcases hA i hi with e | ⟨j, hj, _, e⟩
    · rw [e] at hc; exact hn i hi x hx hc
    · rw [e] at hc; exact body_com g (List.getElem_mem hj) x hc
  obtain ⟨e1, e2, e3⟩ := scan_same hd hl.good hl.zero (fun i hi => by
   have hi24 : ((supA d + (i : Int)) % 24).toNat < 24 := by omega
   have e0 : (((supA d + (i : Int)) % 24).toNat : Int) = (supA d + (i : Int)) % 24 := by omega
   rcases hA _ hi24 with e | ⟨j, hj, e, _⟩
   ·rw [e0] at e; exact e
   ·rw [e0] at e; exact absurd e (hold i hi j (by omega))) hn2
  exact ⟨e1, .inl ⟨hk, e2, e3, hn2⟩⟩
 ·have hn2 : noCom c ((scanF d).next + 1) := fun i hi x hx hc => by
    by_cases hex : ∃ j : Nat, j < (logT t).length /\ (i : Int) = (r.head + (j : Int)) % 24
    · obtain ⟨j, hj, e⟩ := hex
      have e2 := hB1 j hj
      rw [<- e] at e2
      rw [e2] at hc
      by_cases hjb : j < (bodyT t).length
      · rw [log_body t hjb] at hc
        exact body_com g (List.getElem_mem hjb) x hc
      · obtain rfl : j = (bodyT t).length := by omega
        rw [log_last] at hc
        obtain ⟨_, d2, _⟩ := dec_mark (com_good g.seq)
        have h7 := hc.2.1
        rw [d2] at h7
        have h8 : t.seq = x := h7
        omega
    · rw [hB2 i hi (fun j hj e => hex ⟨j, hj, e⟩)] at hc
      exact hn i hi x (by omega) hc
  obtain ⟨hE, hA, hQ, s1, s2, s3⟩ := scan_more hd hl.good hl.zero (fun i hi => by
   have hi24 : ((supA d + (i : Int)) % 24).toNat < 24 := by omega
   have e0 : (((supA d + (i : Int)) % 24).toNat : Int) = (supA d + (i : Int)) % 24 := by omega
   have := hB2 _ hi24 (fun j hj e => by rw [e0] at e; exact hold i hi j (by omega) e)
   rw [e0] at this; exact this)
  have hr2 : (logL c (supA d)).drop (usedN d) = logT t ++ (logL c (supA d)).drop (usedN d + ((bodyT t).length + 1)) := by
   rw [<- List.drop_drop]
   conv => lhs; rw [<- List.take_append_drop ((bodyT t).length + 1) ((logL c (supA d)).drop (usedN d))]
   congr 1
   refine List.ext_getElem? fun j => ?_
   rw [List.getElem?_take]
   by_cases hj : j < (bodyT t).length + 1
   ·rw [if_pos hj, List.getElem?_drop, logL_get _ _ (by omega), List.getElem?_eq_getElem (by omega), <- hB1 j (by omega), hh, p6]
    congr 3
    omega
   ·rw [if_neg hj, List.getElem?_eq_none (by omega)]
  have hlen : ((logL c (supA d)).drop (usedN d)).length = 24 - usedN d := by rw [List.length_drop, logL_len]
  have hp := parse_log g ((logL c (supA d)).drop (usedN d + ((bodyT t).length + 1))) (n := 25) (by rw [<- hr2, hlen]; omega)
  rw [<- hr2, hq] at hp
  have hst := scanGo_step (by omega) hp
  have h0 := scanA_none (q := (scanF d).next + 1) (r := (logL c (supA d)).drop (usedN d + ((bodyT t).length + 1))) (fun s hs => hn2.log (supA d) (Int.le_refl _) s (List.mem_of_mem_drop hs))
  have t1 : (scanA ((logL c (supA d)).drop (usedN d)) (scanF d).next).1 = [logOf t] := by
   show (scanGo _ _ _).1 = _
   rw [hst.1]
   show logOf t :: (scanA _ _).1 = _
   rw [h0]
  have t2 : (scanA ((logL c (supA d)).drop (usedN d)) (scanF d).next).2 = ((scanF d).next + 1, (logL c (supA d)).drop (usedN d + ((bodyT t).length + 1))) := by
   show (scanGo _ _ _).2 = _
   rw [hst.2]
   show (scanA _ _).2 = _
   rw [h0]
  rw [t1] at s1
  rw [t2] at s2 s3
  have huc : usedN c = usedN d + ((bodyT t).length + 1) := by
   show 24 - _ = _
   rw [s3]
   show 24 - (List.drop _ _).length = _
   rw [List.length_drop, logL_len]
   omega
  obtain ⟨_, _, _, _, _, _, r6, _⟩ := scan_parts hE
  refine ⟨hE, .inr ⟨hk, fnd_eta _ s1 s2 ?_, huc, hn2⟩⟩
  rw [r6, hA, huc, p6]
  omega
end Wb
