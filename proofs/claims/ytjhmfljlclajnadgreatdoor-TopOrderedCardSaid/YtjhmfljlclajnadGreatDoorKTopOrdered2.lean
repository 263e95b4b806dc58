/- Parts of the proof: ChkD KeepP JnP ReadsA JnI JnK RowK Mem. -/
import Derived.Test.YtjhmfljlclajnadGreatDoorKTopOrdered1
import Derived.Test.YtjhmfljlclajnadGreatDoorURegCall
import Derived.Test.YtjhmfljlclajnadGreatDoorUPoke
import Derived.Lib.AppendZerosOnto
import Derived.Lib.Overlaps
import Derived.Deep.MidRow
set_option linter.unusedVariables false
set_option linter.unusedSimpArgs false
set_option maxRecDepth 100000
set_option maxHeartbeats 40000000
namespace Wb
open Go Go.RowKit
theorem flushed_read {d c : Dsk} {m l2 : List Stp} {k n : Nat} {s : ByteArray} (hg : goodD d = true) (ho : ∀ x ∈ (m ++ [flushS]) ++ l2, stpOk x) (hln : d.writes.length + ((m ++ [flushS]) ++ l2).length <= 100) (hn : n < 37) (hr : readD (runD d m) n = s)
    (h2 : ∀ x ∈ l2, x.kind ≠ 2 -> x.at_ ≠ n) (hk : m.length + 1 <= k) (hl : Left (runD d (((m ++ [flushS]) ++ l2).take k)) c) : readD c n = s := by
 simp only [List.length_append, List.length_cons, List.length_nil] at hln
 have htk : ((m ++ [flushS]) ++ l2).take k = (m ++ [flushS]) ++ l2.take (k - (m.length + 1)) := by
  rw [List.take_append, List.take_of_length_le (by simp; omega)]
  simp
 have h := hl.read n hn
 rw [htk, runD_append] at h
 have hgm := run_good (m ++ [flushS]) hg (fun x hx => ho x (List.mem_append_left _ hx)) (by simp; omega)
 have hgl : (runD d (m ++ [flushS])).writes.length + (l2.take (k - (m.length + 1))).length <= 200 := by
  have := hgm.2
  simp only [List.length_append, List.length_cons, List.length_nil] at this
  rw [List.length_take]; omega
 rcases run_texts _ hgm.1 (fun x hx => ho x (List.mem_append_right _ (List.mem_of_mem_take hx))) hgl hn _ h with hh | ⟨x, hx, hk2, ha, _⟩
 ·rw [run_flush hg (fun x hx => ho x (by simp [hx])) (by omega) hn, hr] at hh
  exact List.mem_singleton.1 hh
 ·exact absurd ha (h2 x (List.mem_of_mem_take hx) hk2)
theorem mem_home {l : List Cpy} {x : Stp} (hx : x ∈ homeS l) : x = flushS \/ ∃ c ∈ l, x = wrS (25 + c.block) c.text := by
 unfold homeS at hx
 rcases List.mem_append.1 hx with hx | hx
 ·obtain ⟨c, hc, rfl⟩ := List.mem_map.1 hx
  exact .inr ⟨c, hc, rfl⟩
 ·split at hx
  ·cases hx
  ·exact .inl (List.mem_singleton.1 hx)
theorem cpy_ok {l : List Cpy} (g : copiesB l = true) {c : Cpy} (hc : c ∈ l) : (0 <= c.block /\ c.block < 12) /\ c.text.size = 32 := by
 have := ((copies_pw _).1 g).2 c hc
 exact ⟨of_decide_eq_true this.1, this.2⟩
theorem cpy_one {l : List Cpy} (g : copiesB l = true) {x y : Cpy} (hx : x ∈ l) (hy : y ∈ l) (h : x.block = y.block) : x.text = y.text := by
 have hp := ((copies_pw _).1 g).1
 have h1 := getC_of_mem hp hx
 have h2 := getC_of_mem hp hy
 rw [h, h2, Option.some.injEq] at h1
 exact h1.symm
theorem check_zero {l : List Cpy} {a q : Int} (g : copiesB l = true) (ha : 0 <= a /\ a < 24) (hq : 1 <= q /\ q <= 2147483647) : checkE l a q = 0 /\ checkL l a q = homeS l ++ [wrS 0 (markS (superM q a)), flushS] := by
 have e : checkE l a q = 0 := by
  unfold checkE
  rw [if_neg (fun h => h (super_good hq ha)), if_pos]
  rw [List.all_eq_true]
  intro c hc
  have := cpy_ok g hc
  unfold cpyOk isBlk ok32
  simp [this]
 exact ⟨e, by unfold checkL; rw [if_pos e]⟩
theorem chk_ok {l : List Cpy} {a q : Int} (g : copiesB l = true) (ha : 0 <= a /\ a < 24) (hq : 1 <= q /\ q <= 2147483647) : (∀ x ∈ checkL l a q, stpOk x) /\ (checkL l a q).length <= 15 := by
 rw [(check_zero g ha hq).2]
 constructor
 ·intro x hx hk2
  rcases List.mem_append.1 hx with hx | hx
  ·rcases mem_home hx with rfl | ⟨c, hc, rfl⟩
   ·exact absurd rfl hk2
   ·have := cpy_ok g hc
    exact ⟨by unfold isAt wrS; simp; omega, this.2⟩
  ·rcases List.mem_cons.1 hx with rfl | hx
   ·exact ⟨rfl, (dec_mark (super_good hq ha)).2.2⟩
   ·obtain rfl := List.mem_singleton.1 hx
    exact absurd rfl hk2
 ·unfold homeS
  have := copies_len g
  have e1 : (if l = [] then ([] : List Stp) else [flushS]).length <= 1 := by split <;> simp
  simp only [List.length_append, List.length_map, List.length_cons, List.length_nil]
  omega
structure ChkLeft (l : List Cpy) (a q : Int) (d c : Dsk) (k : Nat) : Prop where
 good : goodD c = true
 clean : c.writes = []
 log : ∀ i : Nat, i < 24 -> readD c (1 + (i : Int)) = readD d (1 + (i : Int))
 home : ∀ b : Nat, b < 12 -> readD c (25 + (b : Int)) = readD d (25 + (b : Int)) \/ ∃ x ∈ l, x.block = b /\ readD c (25 + (b : Int)) = x.text
 done : (homeS l).length <= k -> ∀ x ∈ l, readD c (25 + x.block) = x.text
 zero : (k <= (homeS l).length + 1 /\ readD c 0 = readD d 0) \/ ((homeS l).length < k /\ readD c 0 = markS (superM q a))
theorem chk_left {l : List Cpy} {a q : Int} {d c : Dsk} {k : Nat} (g : copiesB l = true) (ha : 0 <= a /\ a < 24) (hq : 1 <= q /\ q <= 2147483647) (hg : goodD d = true) (hw : d.writes = []) (hk : k <= (checkL l a q).length) (hl : Left (runD d ((checkL l a q).take k)) c) : ChkLeft l a q d c k := by
 obtain ⟨ho, hlen⟩ := chk_ok g ha hq
 have hsp := (check_zero g ha hq).2
 have hL : (checkL l a q).length = (homeS l).length + 2 := by rw [hsp]; simp
 have hwr : ∀ x ∈ checkL l a q, x.kind ≠ 2 -> (∃ y ∈ l, x = wrS (25 + y.block) y.text) \/ x = wrS 0 (markS (superM q a)) := fun x hx hk2 => by
  rw [hsp] at hx
  rcases List.mem_append.1 hx with hx | hx
  ·rcases mem_home hx with rfl | hx
   ·exact absurd rfl hk2
   ·exact .inl hx
  ·rcases List.mem_cons.1 hx with rfl | hx
   ·exact .inr rfl
   ·obtain rfl := List.mem_singleton.1 hx
    exact absurd rfl hk2
 have htx : ∀ n : Nat, n < 37 -> readD c n = readD d n \/ ∃ x ∈ (checkL l a q).take k, x.kind ≠ 2 /\ x.at_ = n /\ x.text = readD c n := fun n hn => by
  rcases run_texts _ hg (fun x hx => ho x (List.mem_of_mem_take hx)) (by rw [hw, List.length_nil, List.length_take]; omega) hn _ (hl.read n hn) with hh | hh
  ·rw [texts_clean hg hw hn] at hh
   exact .inl (List.mem_singleton.1 hh)
  ·exact .inr hh
 refine ⟨hl.good, hl.clean, fun i hi => ?_, fun b hb => ?_, fun hd x hx => ?_, ?_⟩
 ·rcases htx (1 + i) (by omega) with hh | ⟨x, hx, hk2, ha2, _⟩
  ·simpa using hh
  ·exfalso
   rcases hwr x (List.mem_of_mem_take hx) hk2 with ⟨y, hy, rfl⟩ | rfl
   ·have := (cpy_ok g hy).1
    have ha3 : 25 + y.block = ((1 + i : Nat) : Int) := ha2
    omega
   ·have ha3 : (0 : Int) = ((1 + i : Nat) : Int) := ha2
    omega
 ·rcases htx (25 + b) (by omega) with hh | ⟨x, hx, hk2, ha2, he⟩
  ·exact .inl (by simpa using hh)
  ·rcases hwr x (List.mem_of_mem_take hx) hk2 with ⟨y, hy, rfl⟩ | rfl
   ·have ha3 : 25 + y.block = ((25 + b : Nat) : Int) := ha2
    exact .inr ⟨y, hy, by omega, by have he2 := he.symm; simpa [wrS] using he2⟩
   ·exfalso
    have ha3 : (0 : Int) = ((25 + b : Nat) : Int) := ha2
    omega
 ·have hn0 : l ≠ [] := fun e => by rw [e] at hx; cases hx
  have hds : homeS l = l.map (fun c => wrS (25 + c.block) c.text) ++ [flushS] := by unfold homeS; rw [if_neg hn0]
  have hb := cpy_ok g hx
  obtain ⟨b, hbb, hb12⟩ : ∃ b : Nat, x.block = b /\ b < 12 := ⟨x.block.toNat, by omega, by omega⟩
  have hlm := copies_len g
  have e : readD (runD d (l.map (fun c => wrS (25 + c.block) c.text))) ((25 + b : Nat) : Int) = x.text :=
   run_read _ hg (fun y hy => ho y (by rw [hsp, hds]; simp [hy])) (by rw [hw, List.length_map, List.length_nil]; omega) (by omega) (fun y hy _ ha2 => by
    obtain ⟨z, hz2, rfl⟩ := List.mem_map.1 hy
    have ha3 : 25 + z.block = ((25 + b : Nat) : Int) := ha2
    exact cpy_one g hz2 hx (by omega)) (.inl ⟨wrS (25 + x.block) x.text, List.mem_map.2 ⟨x, hx, rfl⟩, wr_kind _ _, by show 25 + x.block = _; omega⟩)
  rw [hsp, hds] at hl
  have := flushed_read (n := 25 + b) hg (by rw [hsp, hds] at ho; exact ho) (by rw [hsp, hds] at hlen; rw [hw, List.length_nil]; omega) (by omega) e (fun y hy hk2 ha2 => by
   rcases List.mem_cons.1 hy with rfl | hy
   ·have ha3 : (0 : Int) = ((25 + b : Nat) : Int) := ha2
    omega
   ·obtain rfl := List.mem_singleton.1 hy
    exact absurd rfl hk2) (by rw [hds] at hd; simpa using hd) hl
  rw [hbb]
  simpa using this
 ·have hno : ∀ x ∈ homeS l, x.kind ≠ 2 -> x.at_ ≠ ((0 : Nat) : Int) := fun x hx hk2 ha2 => by
    rcases mem_home hx with rfl | ⟨y, hy, rfl⟩
    · exact absurd rfl hk2
    · have := (cpy_ok g hy).1
      have ha3 : 25 + y.block = ((0 : Nat) : Int) := ha2
      omega
  by_cases hkA : k <= (homeS l).length
  ·refine .inl ⟨by omega, ?_⟩
   rcases htx 0 (by decide) with hh | ⟨x, hx, hk2, ha2, _⟩
   ·exact hh
   ·rw [hsp, List.take_append_of_le_length hkA] at hx
    exact absurd ha2 (hno x (List.mem_of_mem_take hx) hk2)
  ·by_cases hk1 : k = (homeS l).length + 1
   ·rcases htx 0 (by decide) with hh | ⟨x, hx, hk2, ha2, he⟩
    ·exact .inl ⟨by omega, hh⟩
    ·refine .inr ⟨by omega, ?_⟩
     rcases hwr x (List.mem_of_mem_take hx) hk2 with ⟨y, hy, rfl⟩ | rfl
     ·exfalso
      have := (cpy_ok g hy).1
      have ha3 : 25 + y.block = ((0 : Nat) : Int) := ha2
      omega
     ·exact he.symm
   ·refine .inr ⟨by omega, ?_⟩
    have e : (checkL l a q).take k = (homeS l ++ [wrS 0 (markS (superM q a))]) ++ [flushS] := by
     rw [List.take_of_length_le (by omega), hsp]; simp
    have hh := hl.read 0 (by decide)
    rw [e, run_flush hg (fun x hx => ho x (by rw [hsp]; rcases List.mem_append.1 hx with hx | hx <;> simp at hx ⊢ <;> simp [hx])) (by rw [hw, List.length_nil]; simp; omega) (by decide)] at hh
    refine (List.mem_singleton.1 hh).trans ?_
    refine run_read _ hg (fun x hx => ho x (by rw [hsp]; rcases List.mem_append.1 hx with hx | hx <;> simp at hx ⊢ <;> simp [hx])) (by rw [hw, List.length_nil]; simp; omega) (by decide) (fun x hx hk2 ha2 => ?_) (.inl ⟨wrS 0 (markS (superM q a)), by simp, wr_kind _ _, rfl⟩)
    rcases List.mem_append.1 hx with hx | hx
    ·exact absurd ha2 (hno x hx hk2)
    ·obtain rfl := List.mem_singleton.1 hx
     rfl
theorem scan_anew {c : Dsk} {a q : Int} (hg : goodD c = true) (ha : 0 <= a /\ a < 24) (hq : 1 <= q /\ q <= 2147483647) (hz : readD c 0 = markS (superM q a)) (hn : noCom c q) : scanE c = 0 /\ scanF c = ⟨[], q, a⟩ /\ usedN c = 0 := by
 obtain ⟨d1, d2, _⟩ := dec_mark (super_good hq ha)
 have hE : scanE c = 0 := by
  unfold scanE readE
  rw [hz, hg, d1, d2]; rfl
 have hA : supA c = a := by unfold supA; rw [hz, d2]; rfl
 have hQ : supQ c = q := by unfold supQ; rw [hz, d2]; rfl
 have h0 := scanA_none (q := q) (r := logL c a) (fun s hs => hn.log a (Int.le_refl _) s hs)
 have hu : usedN c = 0 := by unfold usedN; rw [hA, hQ, h0]; simp [logL_len]
 obtain ⟨_, _, _, _, _, _, r6, _⟩ := scan_parts hE
 refine ⟨hE, fnd_eta _ ?_ ?_ ?_, hu⟩
 ·rw [scanF_eq hE, hA, hQ, h0]
 ·rw [scanF_eq hE, hA, hQ, h0]
 ·rw [r6, hu, hA]; omega
theorem chk_scan {l : List Cpy} {d c : Dsk} {k : Nat} (hd : scanE d = 0) (hn : noCom d (scanF d).next) (hl : ChkLeft l (scanF d).at_ (scanF d).next d c k) :
    scanE c = 0 /\ noCom c (scanF d).next /\ ((k <= (homeS l).length + 1 /\ scanF c = scanF d /\ usedN c = usedN d) \/ ((homeS l).length < k /\ scanF c = ⟨[], (scanF d).next, (scanF d).at_⟩ /\ usedN c = 0)) := by
 obtain ⟨hb1, hb2, hb3, hb4, hb5⟩ := scanE_zero hd
 obtain ⟨pre, p1, p2, p3, p4, p5, p6, p7, p8⟩ := scan_parts hd
 have hn2 : noCom c (scanF d).next := fun i hi x hx hc => by
  rw [hl.log i hi] at hc
  exact hn i hi x hx hc
 rcases hl.zero with ⟨hk, hz⟩ | ⟨hk, hz⟩
 ·obtain ⟨e1, e2, e3⟩ := scan_same hd hl.good hz (fun i hi => by
    have e0 : (((supA d + (i : Int)) % 24).toNat : Int) = (supA d + (i : Int)) % 24 := by omega
    have := hl.log ((supA d + (i : Int)) % 24).toNat (by omega)
    rw [e0] at this; exact this) hn2
  exact ⟨e1, hn2, .inl ⟨hk, e2, e3⟩⟩
 ·obtain ⟨e1, e2, e3⟩ := scan_anew hl.good (a := (scanF d).at_) (q := (scanF d).next) (by rw [p6]; omega) (by omega) hz hn2
  exact ⟨e1, hn2, .inr ⟨hk, e2, e3⟩⟩
theorem scan_bounds {d : Dsk} (h : scanE d = 0) : (0 <= (scanF d).at_ /\ (scanF d).at_ < 24) /\ (1 <= (scanF d).next /\ (scanF d).next <= 2147483647) := by
 obtain ⟨hb1, hb2, hb3, hb4, hb5⟩ := scanE_zero h
 obtain ⟨pre, p1, p2, p3, p4, p5, p6, p7, p8⟩ := scan_parts h
 exact ⟨by rw [p6]; omega, by omega⟩
theorem scanGo_len2 : ∀ (k : Nat) (r : List ByteArray) (n : Int), (scanGo k r n).1.length <= k
 | 0, r, n => Nat.le_refl _
 | k + 1, r, n => by
  unfold scanGo
  split
  ·split
   ·simp only [List.length_cons]
    have := scanGo_len2 k ‹_› (n + 1)
    omega
   ·exact Nat.zero_le _
  ·exact Nat.zero_le _
theorem scanF_len2 (d : Dsk) : (scanF d).txns.length <= 25 := by
 unfold scanF
 split
 ·exact scanGo_len2 _ _ _
 ·exact Nat.zero_le _
structure Aj where
 kind : Int
 h : Int
 b : Int
 n : Int
 text : ByteArray
def ajC (a : Aj) : List Value := [.int .i64 a.kind, .int .i64 a.h, .int .i64 a.b, .int .i64 a.n, .string a.text]
structure Rep where
 code : Int
 n : Int
 text : ByteArray
def Rep.val (r : Rep) : Value := .agg #[.int .i64 r.code, .int .i64 r.n, .string r.text]
def noR (e : Int) : Rep := ⟨e, 0, ⟨#[]⟩⟩
def setF (f : Int -> Int) (b v : Int) : Int -> Int := fun x => if x = b then v else f x
def fnd0 : Fnd := ⟨[], 0, 0⟩
structure Jn where
 disk : Dsk
 down : Bool
 ring : Ring
 now : Txn
 sealed : Txn
 done : List Txn
 used : List Int
 roles : Int -> Int
 freed : Int -> Int
 work : Int
 steps : List Stp
 after : Ring
 pending : Int
 found : Fnd
 last : Int
 acts : Int
def zeroJ (d : Dsk) (last acts : Int) : Jn := ⟨d, false, ⟨0, 0⟩, txn0 0, txn0 0, [], [], fun _ => 0, fun _ => 0, 0, [], ⟨0, 0⟩, 0, fnd0, last, acts⟩
def newDsk0 : Dsk := ⟨List.replicate 37 (fit ⟨#[]⟩), []⟩
def newDsk : Dsk := flushD (putD newDsk0 0 (markS (superM 1 0)))
def newJ : Jn := { zeroJ newDsk 0 0 with now := txn0 1 }
def roleJ (j : Jn) (b : Int) : Int := if isBlk b = true then j.roles b else 0
def frJ (j : Jn) : Int := 24 - j.ring.used
def orE (e : Int) (c : Prop) [Decidable c] (f : Int) : Int := if e = 0 /\ c then f else e
def altE (j : Jn) (a : Aj) : Int :=
 if a.kind = 1 then begE j.now a.h a.n (frJ j) else if a.kind = 5 then stopE j.now a.h
 else if a.kind = 2 then orE (chgE j.now a.h a.b (fit a.text)) (roleJ j a.b = 2) 8
 else if a.kind = 3 then orE (orE (filE j.now a.h a.b (fit a.text)) (roleJ j a.b = 1) 8) (j.last < j.freed a.b) 9
 else if a.kind = 4 then orE (rvkE j.now a.h a.b) (roleJ j a.b = 0) 8 else 0
def altT (j : Jn) (a : Aj) : Txn :=
 if a.kind = 1 then begT j.now a.h a.n (frJ j) else if a.kind = 5 then stopT j.now a.h
 else if a.kind = 2 then chgT j.now a.h a.b (fit a.text) else if a.kind = 3 then filT j.now a.h a.b (fit a.text) else rvkT j.now a.h a.b
def altTo (j : Jn) (a : Aj) : Int := if a.kind = 2 then 1 else if a.kind = 3 then 2 else if a.kind = 4 then 0 else roleJ j a.b
def changeJ (j : Jn) (a : Aj) : Jn × Int :=
 if altE j a = 0 then
  ({ j with now := altT j a, roles := if isBlk a.b = true /\ altTo j a ≠ roleJ j a.b then setF j.roles a.b (altTo j a) else j.roles, freed := if a.kind = 4 then setF j.freed a.b (altT j a).seq else j.freed }, 0)
 else (j, altE j a)
def firstC (j : Jn) (b : Int) : Option ByteArray := (getC j.now.mt b).or ((getC j.now.dt b).or ((getC j.sealed.mt b).or ((getC j.sealed.dt b).or (getC (newestL j.done) b))))
def readJ (j : Jn) (b : Int) : Rep := if isBlk b = true then ⟨0, j.roles b, (firstC j b).getD (readD j.disk (25 + b))⟩ else noR 4
def commitJ (j : Jn) : Jn × Rep :=
 if j.work ≠ 0 \/ openB j.now = true then (j, noR 9) else if j.now.mt.length + j.now.dt.length + j.now.rev.length = 0 then (j, noR 4) else if 2147483646 <= j.now.seq then (j, noR 11)
 else if comE j.ring j.now ≠ 0 then (j, noR (comE j.ring j.now))
 else ({ j with used := j.used ++ [(comR j.ring j.now).used - j.ring.used], ring := comR j.ring j.now, sealed := j.now, steps := comL j.ring j.now, work := 1, now := txn0 (j.now.seq + 1) }, ⟨0, j.now.seq, ⟨#[]⟩⟩)
def checkJ (j : Jn) : Jn × Int :=
 if j.work ≠ 0 then (j, 9) else if j.done.length = 0 then (j, 4)
 else ({ j with after := giveR j.ring j.used.sum, steps := checkL (newestL j.done) j.ring.head (j.last + 1), pending := j.done.length, work := 2 }, 0)
def crashJ (j : Jn) (x : Int) : Jn × Int := if crashE j.disk x = 0 then ({ zeroJ (crashD j.disk x) j.last j.acts with down := true }, 0) else (j, crashE j.disk x)
def beginJ (j : Jn) : Jn × Int :=
 if j.down = false \/ j.work ≠ 0 then (j, 9) else if scanE j.disk ≠ 0 then (j, scanE j.disk)
 else if checkE (newestL (scanF j.disk).txns) (scanF j.disk).at_ (scanF j.disk).next ≠ 0 then ({ j with found := scanF j.disk, steps := checkL (newestL (scanF j.disk).txns) (scanF j.disk).at_ (scanF j.disk).next }, checkE (newestL (scanF j.disk).txns) (scanF j.disk).at_ (scanF j.disk).next)
 else ({ j with found := scanF j.disk, steps := checkL (newestL (scanF j.disk).txns) (scanF j.disk).at_ (scanF j.disk).next, work := 3 }, 0)
def riseT (f : Int -> Int) (t : Txn) : Int -> Int := t.mt.foldl (fun f c => setF f c.block 1) (t.rev.foldl (fun f b => setF f b 0) f)
def riseR (l : List Txn) : Int -> Int := l.foldl riseT (fun _ => 1)
def riseJ (j : Jn) : Jn := { zeroJ j.disk (j.found.next - 1) j.acts with ring := ⟨j.found.at_, 0⟩, now := txn0 j.found.next, roles := riseR j.found.txns }
def endJ (j : Jn) : Jn × Rep :=
 if j.work = 1 then ({ j with work := 0, last := j.sealed.seq, done := j.done ++ [j.sealed], sealed := txn0 0 }, ⟨0, j.sealed.seq, ⟨#[]⟩⟩)
 else if j.work = 2 then ({ j with work := 0, ring := j.after, done := j.done.drop j.pending.toNat, used := j.used.drop j.pending.toNat }, noR 0)
 else if j.work = 3 then (riseJ { j with work := 0 }, noR 0) else ({ j with work := 0 }, noR 0)
def stepJ (j : Jn) : Jn × Rep :=
 if j.work = 0 then (j, noR 4) else
 match j.steps with
 | [] => (j, noR 4)
 | s :: r =>
  if stepE j.disk s ≠ 0 then ({ j with disk := stepD j.disk s }, noR (stepE j.disk s))
  else if r = [] then endJ { j with disk := stepD j.disk s, steps := [] } else ({ j with disk := stepD j.disk s, steps := r }, noR 0)
def noJ (x : Jn × Int) : Jn × Rep := (x.1, noR x.2)
def doJ (j : Jn) (a : Aj) : Jn × Rep :=
 if 400 <= j.acts then (j, noR 11)
 else if a.kind < 1 \/ 11 < a.kind then ({ j with acts := j.acts + 1 }, noR 3)
 else if a.kind = 10 then noJ (crashJ { j with acts := j.acts + 1 } a.n)
 else if a.kind = 11 then noJ (beginJ { j with acts := j.acts + 1 })
 else if a.kind = 8 then stepJ { j with acts := j.acts + 1 }
 else if j.down = true then ({ j with acts := j.acts + 1 }, noR 10)
 else if a.kind = 6 then commitJ { j with acts := j.acts + 1 }
 else if a.kind = 7 then noJ (checkJ { j with acts := j.acts + 1 })
 else if a.kind = 9 then ({ j with acts := j.acts + 1 }, readJ { j with acts := j.acts + 1 } a.b)
 else noJ (changeJ { j with acts := j.acts + 1 } a)
end Wb
namespace Go.Proofs.YtjhmfljlclajnadGreatDoor
open Go.ChangeShapes Go.WideShapes Go.ChangeAt Go.RowKit Go.Joins Wb
instance : Inhabited Aj := ⟨⟨0, 0, 0, 0, ⟨#[]⟩⟩⟩
section
variable {H : Type} {enc : TypeId × Value -> H} {W : World} {base : Nat}
def ajOk (a : Aj) : Prop := a.text.size <= 9223372036854775807 /\ a.n <= 9223372036854775807
theorem read_ajCells {n : Nat} {cs : List Value} {x : DataW H × List MemPlace} (hlen : cs.length = 5) (h : DataW.trod enc Tryz.prog W 0 (fun _ => true) true n 29 cs = some x) : ∃ a : Aj, cs = ajC a /\ ajOk a := by
 obtain ⟨xs, m, _, hx, hl, hln, hg⟩ := DataW.trod_struct Tryz.underlying29 h
 match cs, hlen, xs, hln with
 | [u0, u1, u2, u3, u4], _, [y0, y1, y2, y3, y4], _ =>
  have h0 : DataW.trod enc Tryz.prog W 0 (fun _ => true) true m 3 [u0] = some y0 := hg 0 _ rfl
  have h1 : DataW.trod enc Tryz.prog W 0 (fun _ => true) true m 3 [u1] = some y1 := hg 1 _ rfl
  have h2 : DataW.trod enc Tryz.prog W 0 (fun _ => true) true m 3 [u2] = some y2 := hg 2 _ rfl
  have h3 : DataW.trod enc Tryz.prog W 0 (fun _ => true) true m 3 [u3] = some y3 := hg 3 _ rfl
  have h4 : DataW.trod enc Tryz.prog W 0 (fun _ => true) true m 9 [u4] = some y4 := hg 4 _ rfl
  obtain ⟨a0, e0, _⟩ := DataW.trod_int Tryz.underlying3 h0
  obtain ⟨a1, e1, _⟩ := DataW.trod_int Tryz.underlying3 h1
  obtain ⟨a2, e2, _⟩ := DataW.trod_int Tryz.underlying3 h2
  obtain ⟨a3, e3, _, w3⟩ := DataW.trod_int Tryz.underlying3 h3
  obtain ⟨a4, e4, _, w4⟩ := DataW.trod_string Tryz.underlying9 h4
  simp at e0 e1 e2 e3 e4
  subst e0 e1 e2 e3 e4
  refine ⟨⟨a0, a1, a2, a3, a4⟩, rfl, ?_, ?_⟩
  ·simpa only [maxLen] using w4
  ·unfold Lit.wf at w3
   have w5 : decide (a3 <= IntKind.i64.max) = true := (Bool.and_eq_true _ _ ▸ w3).2
   exact of_decide_eq_true w5
theorem open_acts {v : Value} {d : DataW H} {p : List MemPlace} (hv : Value.okWide Tryz.prog W .any base 22 v)
    (h : DataW.Trod enc Tryz.prog W 0 (fun _ => true) true 22 v d p) : ∃ (a : Option Addr) (c : Nat) (l : List Aj), v = .slice a l.length c /\ RL ajC W (.slice a l.length c) l /\ ∀ o ∈ l, ajOk o := by
 obtain ⟨a, n, c, rfl⟩ := okWide_slice Tryz.underlying22 hv
 obtain ⟨fuel, hf⟩ := h
 obtain ⟨v', l, hc, hr, hd⟩ := read_RLq (f := ajC) (c := 5) (Q := fun z _ => ajOk z) (fun _ => rfl) (by decide) Tryz.underlying22 (by kernel_rfl) (fun n cs' y hy hlen => read_ajCells hlen hy) (cs := [.slice a n c]) hf
 simp only [List.cons.injEq, and_true] at hc
 subst hc
 obtain ⟨a', c', he, _⟩ := hr.form
 cases he
 refine ⟨_, _, l, rfl, hr, fun o ho => ?_⟩
 rcases hd with ⟨_, rfl⟩ | ⟨el, sp, hy, hel, hq⟩
 ·cases ho
 ·obtain ⟨i, hi, rfl⟩ := List.getElem_of_mem ho
  obtain ⟨y, hy2, hq2⟩ := hq i _ (List.getElem?_eq_getElem hi)
  exact hq2
end
end Go.Proofs.YtjhmfljlclajnadGreatDoor
namespace Wb
open Go Go.RowKit
structure LogI (d : Dsk) (txs : List Txn) (q a : Int) (u : Nat) : Prop where
 good : goodD d = true
 clean : d.writes = []
 scan : scanE d = 0
 found : scanF d = ⟨txs.map logOf, q, a⟩
 used : usedN d = u
 noc : noCom d q
 goods : ∀ t ∈ txs, goodT t = true
theorem logOf_good {t : Txn} (h : goodT t = true) : goodT (logOf t) = true := by
 have g := goodT_of.1 h
 refine goodT_of.2 ⟨g.seq, g.mt, (show copiesB [] = true from rfl), g.rev, ⟨fun b hb => ⟨(g.ap.1 b hb).1, rfl⟩, fun b _ => rfl⟩, (show hOk hnd0 = true by decide), (show hOk hnd0 = true by decide), (show hOk hnd0 = true by decide)⟩
theorem newestB_log (l : List Txn) (b : Int) : newestB (l.map logOf) b = newestB l b := by
 unfold newestB
 rw [List.foldl_map]
 rfl
theorem newestL_log (l : List Txn) : newestL (l.map logOf) = newestL l := by
 unfold newestL
 rw [funext (newestB_log l)]
section
variable {d c : Dsk} {txs : List Txn} {q a : Int} {u : Nat}
theorem LogI.goods2 (h : LogI d txs q a u) : ∀ t ∈ (scanF d).txns, goodT t = true := by
 rw [h.found]
 intro t ht
 obtain ⟨x, hx, rfl⟩ := List.mem_map.1 ht
 exact logOf_good (h.goods x hx)
theorem LogI.bounds (h : LogI d txs q a u) : (0 <= a /\ a < 24) /\ (1 <= q /\ q <= 2147483647) /\ u <= 24 /\ txs.length <= 25 := by
 obtain ⟨h1, h2⟩ := scan_bounds h.scan
 obtain ⟨pre, p1, p2, p3, _⟩ := scan_parts h.scan
 have h3 := scanF_len2 d
 rw [h.found] at h1 h2 h3
 rw [h.used] at p3
 simp only [List.length_map] at h3
 exact ⟨h1, h2, p3, h3⟩
theorem LogI.com (h : LogI d txs q a u) {r : Ring} {t : Txn} {k : Nat} (he : comE r t = 0) (ha : r.head = a) (hu : r.used = u) (hq : t.seq = q) (hq2 : q < 2147483647) (hk : k <= (comL r t).length) (hl : Left (runD d ((comL r t).take k)) c) :
    (LogI c txs q a u /\ k <= (comA r t).length + 1) \/ (LogI c (txs ++ [t]) (q + 1) (comR r t).head (comR r t).used.toNat /\ (comA r t).length < k) := by
 have hcl := com_left he h.good h.clean hk hl
 have hf := h.found
 have hn : (scanF d).next = q := by rw [hf]
 have hat : (scanF d).at_ = a := by rw [hf]
 have htx : (scanF d).txns = txs.map logOf := by rw [hf]
 obtain ⟨e1, e2⟩ := com_scan h.scan (by rw [hn]; exact h.noc) he (by rw [hat]; exact ha) (by rw [h.used]; exact hu) (by rw [hn]; exact hq) (by omega) hcl
 rw [hn, hat, htx, h.used] at e2
 obtain ⟨g1, g, g3, g4, g5, g6⟩ := comE_zero he
 rcases e2 with ⟨f1, f2, f3, f4⟩ | ⟨f1, f2, f3, f4⟩
 ·exact .inl ⟨⟨hcl.good, hcl.clean, e1, by rw [f2, hf], f3, f4, h.goods⟩, f1⟩
 ·have hb := bodyT_len g
  have hR : comR r t = ⟨(r.head + comN t) % 24, r.used + comN t⟩ := by
   unfold comR
   rw [if_pos he]
   unfold takeR
   rw [if_pos]
   unfold comE at he
   split at he
   ·cases he
   ·exact he
  rw [hR]
  refine .inr ⟨⟨hcl.good, hcl.clean, e1, ?_, ?_, f4, fun x hx => ?_⟩, f1⟩
  ·rw [f2, List.map_append, <- hb, ha]; simp
  ·rw [f3, <- hb, hu]
   show _ = ((u : Int) + (((bodyT t).length : Int) + 1)).toNat
   omega
  ·rcases List.mem_append.1 hx with hx | hx
   ·exact h.goods x hx
   ·obtain rfl := List.mem_singleton.1 hx; exact goodT_of.2 g
theorem LogI.chk (h : LogI d txs q a u) {k : Nat} (hk : k <= (checkL (newestL txs) a q).length) (hl : Left (runD d ((checkL (newestL txs) a q).take k)) c) :
    (LogI c txs q a u /\ k <= (homeS (newestL txs)).length + 1) \/ (LogI c [] q a 0 /\ (homeS (newestL txs)).length < k) := by
 obtain ⟨b1, b2, _⟩ := h.bounds
 have hf := h.found
 have hn : (scanF d).next = q := by rw [hf]
 have hat : (scanF d).at_ = a := by rw [hf]
 have hcl := chk_left (newestL_copies h.goods) b1 b2 h.good h.clean hk hl
 obtain ⟨e1, e2, e3⟩ := chk_scan h.scan (by rw [hn]; exact h.noc) (by rw [hn, hat]; exact hcl)
 rw [hn, hat] at e3
 rw [hn] at e2
 rcases e3 with ⟨f1, f2, f3⟩ | ⟨f1, f2, f3⟩
 ·exact .inl ⟨⟨hcl.good, hcl.clean, e1, by rw [f2, hf], by rw [f3, h.used], e2, h.goods⟩, f1⟩
 ·exact .inr ⟨⟨hcl.good, hcl.clean, e1, f2, f3, e2, fun t ht => by cases ht⟩, f1⟩
theorem LogI.keep (h : LogI d txs q a u) (hl : Left d c) : LogI c txs q a u := by
 have hr := fun (k : Nat) hk => hl.same h.good h.clean (k := k) hk
 have e0 : readD c 0 = readD d 0 := by simpa using hr 0 (by decide)
 have hlog : ∀ i : Nat, i < 24 -> readD c (1 + (i : Int)) = readD d (1 + (i : Int)) := fun i hi => by
  have := hr (1 + i) (by omega)
  simpa using this
 have hn2 : noCom c q := fun i hi x hx hc => by
  rw [hlog i hi] at hc
  exact h.noc i hi x hx hc
 obtain ⟨e1, e2, e3⟩ := scan_same h.scan hl.good e0 (fun i hi => by
  have e0 : (((supA d + (i : Int)) % 24).toNat : Int) = (supA d + (i : Int)) % 24 := by omega
  have := hlog ((supA d + (i : Int)) % 24).toNat (by omega)
  rw [e0] at this; exact this) (by rw [h.found]; exact hn2)
 exact ⟨hl.good, hl.clean, e1, by rw [e2, h.found], by rw [e3, h.used], hn2, h.goods⟩
theorem run_clean {l : List Stp} (hg : goodD d = true) (hw : d.writes = []) (ho : ∀ x ∈ l ++ [flushS], stpOk x) (hn : l.length <= 150) : goodD (runD d (l ++ [flushS])) = true /\ (runD d (l ++ [flushS])).writes = [] := by
 have h1 := run_good l hg (fun x hx => ho x (by simp [hx])) (by rw [hw, List.length_nil]; omega)
 rw [runD_append, runD_cons, runD_nil]
 unfold stepD
 rw [if_pos (show flushS.kind = 2 from rfl)]
 exact ⟨flush_good h1.1, flush_clean h1.1⟩
theorem LogI.com_end (h : LogI d txs q a u) {r : Ring} {t : Txn} (he : comE r t = 0) (ha : r.head = a) (hu : r.used = u) (hq : t.seq = q) (hq2 : q < 2147483647) : LogI (runD d (comL r t)) (txs ++ [t]) (q + 1) (comR r t).head (comR r t).used.toNat := by
 obtain ⟨ho, hlen⟩ := com_ok he
 have hsp := comL_split he
 have hL : (comL r t).length = (comA r t).length + 2 := by rw [hsp]; simp
 have e : comL r t = (comA r t ++ [atW ((r.head + (bodyT t).length) % 24) (markS (comM t.seq))]) ++ [flushS] := by rw [hsp]; simp
 have hc := run_clean (l := comA r t ++ [atW ((r.head + (bodyT t).length) % 24) (markS (comM t.seq))]) h.good h.clean (by rw [<- e]; exact ho) (by simp; omega)
 rw [<- e] at hc
 rcases h.com he ha hu hq hq2 (Nat.le_refl _) (by rw [List.take_length]; exact Left.self hc.1 hc.2) with ⟨_, h2⟩ | ⟨h1, _⟩
 ·omega
 ·exact h1
theorem LogI.chk_end (h : LogI d txs q a u) : LogI (runD d (checkL (newestL txs) a q)) [] q a 0 := by
 obtain ⟨b1, b2, _⟩ := h.bounds
 have g := newestL_copies h.goods
 obtain ⟨ho, hlen⟩ := chk_ok g b1 b2
 have hsp := (check_zero g b1 b2).2
 have hL : (checkL (newestL txs) a q).length = (homeS (newestL txs)).length + 2 := by rw [hsp]; simp
 have e : checkL (newestL txs) a q = (homeS (newestL txs) ++ [wrS 0 (markS (superM q a))]) ++ [flushS] := by rw [hsp]; simp
 have hc := run_clean (l := homeS (newestL txs) ++ [wrS 0 (markS (superM q a))]) h.good h.clean (by rw [<- e]; exact ho) (by simp; omega)
 rw [<- e] at hc
 rcases h.chk (Nat.le_refl _) (by rw [List.take_length]; exact Left.self hc.1 hc.2) with ⟨_, h2⟩ | ⟨h1, _⟩
 ·omega
 ·exact h1
end
structure UpI (j : Jn) (d : Dsk) (r : Ring) (us : List Int) : Prop where
 log : LogI d j.done (j.last + 1) r.head r.used.toNat
 ring : goodR r = true
 sum : us.sum = r.used
 pos : ∀ x ∈ us, 0 <= x
 len : us.length = j.done.length
 last : 0 <= j.last /\ j.last + 1 <= 2147483646
structure NowI (j : Jn) (q : Int) : Prop where
 good : goodT j.now = true
 seq : j.now.seq = q
structure DnI (d : Dsk) (last : Int) : Prop where
 log : ∃ txs q a u, LogI d txs q a u /\ last + 1 <= q /\ q <= 2147483646
 last : 0 <= last
inductive InvJ (j : Jn) : Prop
 | idle (hd : j.down = false) (hw : j.work = 0) (hu : UpI j j.disk j.ring j.used) (hn : NowI j (j.last + 1)) (hs : j.sealed = txn0 0)
 | sealing (d : Dsk) (r : Ring) (us : List Int) (k : Nat) (hd : j.down = false) (hw : j.work = 1) (hu : UpI j d r us) (hn : NowI j (j.last + 2)) (he : comE r j.sealed = 0) (hq : j.sealed.seq = j.last + 1) (hq2 : j.sealed.seq < 2147483646)
     (hr : j.ring = comR r j.sealed) (hus : j.used = us ++ [j.ring.used - r.used]) (hk : k < (comL r j.sealed).length) (hdk : j.disk = runD d ((comL r j.sealed).take k)) (hst : j.steps = (comL r j.sealed).drop k)
 | homing (d : Dsk) (k : Nat) (hd : j.down = false) (hw : j.work = 2) (hu : UpI j d j.ring j.used) (hn : NowI j (j.last + 1)) (hs : j.sealed = txn0 0) (hp : j.pending = j.done.length) (ha : j.after = ⟨j.ring.head, 0⟩)
     (hk : k < (checkL (newestL j.done) j.ring.head (j.last + 1)).length) (hdk : j.disk = runD d ((checkL (newestL j.done) j.ring.head (j.last + 1)).take k)) (hst : j.steps = (checkL (newestL j.done) j.ring.head (j.last + 1)).drop k) (hne : j.done.length ≠ 0)
 | off (hj : j = { zeroJ j.disk j.last j.acts with down := true }) (hu : DnI j.disk j.last)
 | rising (d : Dsk) (k : Nat) (hj : j = { zeroJ j.disk j.last j.acts with down := true, found := scanF d, work := 3, steps := (checkL (newestL (scanF d).txns) (scanF d).at_ (scanF d).next).drop k }) (hu : DnI d j.last)
     (hk : k < (checkL (newestL (scanF d).txns) (scanF d).at_ (scanF d).next).length) (hdk : j.disk = runD d ((checkL (newestL (scanF d).txns) (scanF d).at_ (scanF d).next).take k))
theorem UpI.congr {j j' : Jn} {d : Dsk} {r : Ring} {us : List Int} (h : UpI j d r us) (e1 : j'.done = j.done) (e2 : j'.last = j.last) : UpI j' d r us := by
 obtain ⟨a, b, c, d, e, f⟩ := h
 exact ⟨by rw [e1, e2]; exact a, b, c, d, by rw [e1]; exact e, by rw [e2]; exact f⟩
theorem InvJ.acts {j : Jn} (h : InvJ j) (n : Int) : InvJ { j with acts := n } := by
 cases h with
 | idle hd hw hu hn hs => exact .idle hd hw (hu.congr rfl rfl) ⟨hn.1, hn.2⟩ hs
 | sealing d r us k hd hw hu hn he hq hq2 hr hus hk hdk hst => exact .sealing d r us k hd hw (hu.congr rfl rfl) ⟨hn.1, hn.2⟩ he hq hq2 hr hus hk hdk hst
 | homing d k hd hw hu hn hs hp ha hk hdk hst hne => exact .homing d k hd hw (hu.congr rfl rfl) ⟨hn.1, hn.2⟩ hs hp ha hk hdk hst hne
 | off hj hu => exact .off (by dsimp only; rw [hj]; rfl) hu
 | rising d k hj hu hk hdk => exact .rising d k (by dsimp only; rw [hj]; rfl) hu hk hdk
theorem txn0_good {q : Int} (h : 1 <= q /\ q <= 2147483647) : goodT (txn0 q) = true :=
 goodT_of.2 ⟨h, rfl, rfl, rfl, ⟨(fun b hb => ⟨rfl, rfl⟩), (fun b hb => rfl)⟩, (show hOk hnd0 = true by decide), (show hOk hnd0 = true by decide), (show hOk hnd0 = true by decide)⟩
theorem altT_good {j : Jn} (a : Aj) (hg : goodT j.now = true) : goodT (altT j a) = true := by
 unfold altT
 split
 ·exact beg_good hg
 split
 ·exact stop_good hg
 split
 ·exact chg_good hg
 split
 ·exact fil_good hg
 ·exact rvk_good hg
theorem altT_seq (j : Jn) (a : Aj) : (altT j a).seq = j.now.seq := by
 unfold altT
 split
 ·unfold begT; split
  ·exact (setH_same _ _ _).1
  ·rfl
 split
 ·unfold stopT; split
  ·exact (setH_same _ _ _).1
  ·rfl
 split
 ·unfold chgT; split
  ·exact (payT_same _ _ _).1
  ·rfl
 split
 ·unfold filT; split <;> rfl
 ·unfold rvkT; split
  ·exact (payT_same _ _ _).1
  ·rfl
theorem NowI.alt {j : Jn} {q : Int} (h : NowI j q) (a : Aj) {j' : Jn} (e : j'.now = altT j a) : NowI j' q := ⟨by rw [e]; exact altT_good a h.good, by rw [e, altT_seq]; exact h.seq⟩
theorem inv_change {j : Jn} (a : Aj) (hd : j.down = false) (h : InvJ j) : InvJ (changeJ j a).1 := by
 unfold changeJ
 split
 ·cases h with
  | idle hd hw hu hn hs => exact .idle hd hw (hu.congr rfl rfl) (hn.alt a rfl) hs
  | sealing d r us k hd hw hu hn he hq hq2 hr hus hk hdk hst => exact .sealing d r us k hd hw (hu.congr rfl rfl) (hn.alt a rfl) he hq hq2 hr hus hk hdk hst
  | homing d k hd hw hu hn hs hp ha hk hdk hst hne => exact .homing d k hd hw (hu.congr rfl rfl) (hn.alt a rfl) hs hp ha hk hdk hst hne
  | off hj hu => rw [hj] at hd; cases hd
  | rising d k hj hu hk hdk => rw [hj] at hd; cases hd
 ·exact h
theorem com_pos {r : Ring} {t : Txn} (he : comE r t = 0) : 0 < (comL r t).length := by rw [comL_split he]; simp
theorem inv_commit {j : Jn} (hd : j.down = false) (h : InvJ j) : InvJ (commitJ j).1 := by
 unfold commitJ
 split
 ·exact h
 rename_i h1
 split
 ·exact h
 split
 ·exact h
 rename_i h2
 split
 ·exact h
 rename_i h3
 have hw0 : j.work = 0 := Decidable.byContradiction fun hh => h1 (.inl hh)
 have h3' : comE j.ring j.now = 0 := Decidable.byContradiction h3
 cases h with
 | idle hd hw hu hn hs =>
  refine .sealing j.disk j.ring j.used 0 hd rfl (hu.congr rfl rfl) ⟨?_, ?_⟩ h3' hn.seq (by show j.now.seq < _; omega) rfl rfl (com_pos h3') rfl rfl
  ·have g := (goodT_of.1 hn.good).seq
   exact txn0_good (q := j.now.seq + 1) (by omega)
  ·show j.now.seq + 1 = j.last + 2
   rw [hn.seq]; omega
 | sealing d r us k hd hw => rw [hw] at hw0; cases hw0
 | homing d k hd hw => rw [hw] at hw0; cases hw0
 | off hj hu => rw [hj] at hd; cases hd
 | rising d k hj hu hk hdk => rw [hj] at hd; cases hd
theorem give_all {r : Ring} (hg : goodR r = true) : giveR r r.used = ⟨r.head, 0⟩ := by
 have h := (goodR_iff r).1 hg
 have e : giveE r r.used = 0 := by unfold giveE; rw [if_neg (by rw [hg]; simp; omega)]
 unfold giveR
 rw [if_pos e, Int.sub_self]
theorem inv_check {j : Jn} (hd : j.down = false) (h : InvJ j) : InvJ (checkJ j).1 := by
 unfold checkJ
 split
 ·exact h
 rename_i h1
 split
 ·exact h
 rename_i hne
 have hw0 : j.work = 0 := Decidable.byContradiction h1
 cases h with
 | idle hd hw hu hn hs =>
  have hb := hu.log.bounds
  have g := newestL_copies hu.log.goods
  refine .homing j.disk 0 hd rfl (hu.congr rfl rfl) ⟨hn.1, hn.2⟩ hs rfl ?_ ?_ rfl rfl hne
  ·show giveR j.ring j.used.sum = _
   rw [hu.sum]
   exact give_all hu.ring
  ·show 0 < (checkL (newestL j.done) j.ring.head (j.last + 1)).length
   rw [(check_zero g hb.1 hb.2.1).2]; simp
 | sealing d r us k hd hw => rw [hw] at hw0; cases hw0
 | homing d k hd hw => rw [hw] at hw0; cases hw0
 | off hj hu => rw [hj] at hd; cases hd
 | rising d k hj hu hk hdk => rw [hj] at hd; cases hd
theorem DnI.scan {d : Dsk} {n : Int} (h : DnI d n) : scanE d = 0 /\ (∀ t ∈ (scanF d).txns, goodT t = true) /\ checkE (newestL (scanF d).txns) (scanF d).at_ (scanF d).next = 0 /\ 0 < (checkL (newestL (scanF d).txns) (scanF d).at_ (scanF d).next).length /\ (scanF d).txns.length <= 25 := by
 obtain ⟨⟨txs, q, a, u, hl, _⟩, _⟩ := h
 obtain ⟨b1, b2⟩ := scan_bounds hl.scan
 have g := newestL_copies hl.goods2
 obtain ⟨e1, e2⟩ := check_zero g b1 b2
 exact ⟨hl.scan, hl.goods2, e1, by rw [e2]; simp, scanF_len2 d⟩
theorem inv_begin {j : Jn} (h : InvJ j) : InvJ (beginJ j).1 := by
 unfold beginJ
 split
 ·exact h
 rename_i h1
 have hdn : j.down = true := by
  cases hh : j.down with
  | true => rfl
  | false => exact absurd (.inl hh) h1
 have hw0 : j.work = 0 := Decidable.byContradiction fun hh => h1 (.inr hh)
 cases h with
 | idle hd => rw [hd] at hdn; cases hdn
 | sealing d r us k hd => rw [hd] at hdn; cases hdn
 | homing d k hd => rw [hd] at hdn; cases hdn
 | off hj hu =>
  obtain ⟨e1, e2, e3, e4, _⟩ := hu.scan
  rw [if_neg (by rw [e1]; decide), if_neg (by rw [e3]; decide)]
  refine .rising j.disk 0 ?_ hu e4 rfl
  dsimp only
  conv => lhs; rw [hj]
  rfl
 | rising d k hj hu hk hdk => rw [hj] at hw0; cases hw0
theorem DnI.crash {d : Dsk} {n x : Int} (h : DnI d n) (hc : crashE d x = 0) : DnI (crashD d x) n := by
 obtain ⟨⟨txs, q, a, u, hl, h2⟩, h3⟩ := h
 exact ⟨⟨txs, q, a, u, hl.keep (Left.crash hc), h2⟩, h3⟩
theorem DnI.chk {d c : Dsk} {n : Int} {k : Nat} (h : DnI d n) (hk : k <= (checkL (newestL (scanF d).txns) (scanF d).at_ (scanF d).next).length) (hl : Left (runD d ((checkL (newestL (scanF d).txns) (scanF d).at_ (scanF d).next).take k)) c) : DnI c n := by
 obtain ⟨⟨txs, q, a, u, hL, h2⟩, h3⟩ := h
 rw [hL.found] at hk hl
 dsimp only at hk hl
 rw [newestL_log] at hk hl
 rcases hL.chk hk hl with ⟨h1, _⟩ | ⟨h1, _⟩
 ·exact ⟨⟨_, _, _, _, h1, h2⟩, h3⟩
 ·exact ⟨⟨_, _, _, _, h1, h2⟩, h3⟩
theorem inv_crash {j : Jn} (x : Int) (h : InvJ j) : InvJ (crashJ j x).1 := by
 unfold crashJ
 split
 ·rename_i hc
  have key : DnI (crashD j.disk x) j.last := by
   cases h with
   | idle hd hw hu hn hs => exact ⟨⟨_, _, _, _, hu.log.keep (Left.crash hc), by omega, by have := hu.last; omega⟩, hu.last.1⟩
   | sealing d r us k hd hw hu hn he hq hq2 hr hus hk hdk hst =>
    have hl := Left.crash hc
    rw [hdk] at hl
    have hg := (goodR_iff r).1 hu.ring
    rcases hu.log.com he rfl (by omega) hq (by omega) (Nat.le_of_lt hk) hl with ⟨h1, _⟩ | ⟨h1, _⟩
    ·rw [<- hdk] at h1
     exact ⟨⟨_, _, _, _, h1, by omega, by omega⟩, hu.last.1⟩
    ·rw [<- hdk] at h1
     exact ⟨⟨_, _, _, _, h1, by omega, by omega⟩, hu.last.1⟩
   | homing d k hd hw hu hn hs hp ha hk hdk hst hne =>
    have hl := Left.crash hc
    rw [hdk] at hl
    rcases hu.log.chk (Nat.le_of_lt hk) hl with ⟨h1, _⟩ | ⟨h1, _⟩
    ·rw [<- hdk] at h1
     exact ⟨⟨_, _, _, _, h1, by omega, by have := hu.last; omega⟩, hu.last.1⟩
    ·rw [<- hdk] at h1
     exact ⟨⟨_, _, _, _, h1, by omega, by have := hu.last; omega⟩, hu.last.1⟩
   | off hj hu => exact hu.crash hc
   | rising d k hj hu hk hdk =>
    have hl := Left.crash hc
    rw [hdk] at hl
    rw [hdk]
    exact hu.chk (Nat.le_of_lt hk) hl
  exact .off rfl key
 ·exact h
theorem step_of {d D : Dsk} {L r : List Stp} {s : Stp} {k : Nat} (hg : goodD d = true) (hw : d.writes = []) (ho : ∀ x ∈ L, stpOk x) (hlen : L.length <= 150) (hk : k < L.length) (hD : D = runD d (L.take k)) (hst : s :: r = L.drop k) :
    stepE D s = 0 /\ stepD D s = runD d (L.take (k + 1)) /\ r = L.drop (k + 1) := by
 rw [List.drop_eq_getElem_cons hk] at hst
 obtain ⟨rfl, rfl⟩ := List.cons.inj hst
 subst hD
 refine ⟨?_, ?_, rfl⟩
 ·have hx : L.take k ++ L[k] :: L.drop (k + 1) = L := by rw [<- List.drop_eq_getElem_cons hk, List.take_append_drop]
  exact run_step (r := L.drop (k + 1)) hg (by rw [hx]; exact ho) (by rw [hx, hw, List.length_nil]; omega)
 ·rw [List.take_succ_eq_append_getElem hk, runD_append]; rfl
theorem drop_pos {α : Type} {L : List α} {k : Nat} (hk : k < L.length) : ∃ s r, L.drop k = s :: r := ⟨_, _, List.drop_eq_getElem_cons hk⟩
theorem inv_steps {j : Jn} (h : InvJ j) (hw : j.work ≠ 0) : ∃ s r, j.steps = s :: r /\ stepE j.disk s = 0 := by
 cases h with
 | idle hd hw0 => exact absurd hw0 hw
 | sealing d r us k hd hw hu hn he hq hq2 hr hus hk hdk hst =>
  obtain ⟨s, rr, e⟩ := drop_pos hk
  obtain ⟨ho, hlen⟩ := com_ok he
  exact ⟨s, rr, hst.trans e, (step_of (r := rr) hu.log.good hu.log.clean ho (by omega) hk hdk e.symm).1⟩
 | homing d k hd hw hu hn hs hp ha hk hdk hst hne =>
  obtain ⟨s, rr, e⟩ := drop_pos hk
  have hb := hu.log.bounds
  obtain ⟨ho, hlen⟩ := chk_ok (newestL_copies hu.log.goods) hb.1 hb.2.1
  exact ⟨s, rr, hst.trans e, (step_of (r := rr) hu.log.good hu.log.clean ho (by omega) hk hdk e.symm).1⟩
 | off hj hu => rw [hj] at hw; exact absurd rfl hw
 | rising d k hj hu hk hdk =>
  obtain ⟨s, rr, e⟩ := drop_pos hk
  obtain ⟨⟨txs, q, a, u, hL, h2⟩, h3⟩ := hu
  obtain ⟨b1, b2⟩ := scan_bounds hL.scan
  obtain ⟨ho, hlen⟩ := chk_ok (newestL_copies hL.goods2) b1 b2
  exact ⟨s, rr, by rw [hj]; exact e, (step_of (r := rr) hL.good hL.clean ho (by omega) hk hdk e.symm).1⟩
theorem comR_used {r : Ring} {t : Txn} (he : comE r t = 0) : goodR (comR r t) = true /\ r.used <= (comR r t).used := by
 obtain ⟨g1, g, g3, g4, g5, g6⟩ := comE_zero he
 have hb := bodyT_len g
 have hR : comR r t = ⟨(r.head + comN t) % 24, r.used + comN t⟩ := by
  unfold comR
  rw [if_pos he]
  unfold takeR
  rw [if_pos]
  unfold comE at he
  split at he
  ·cases he
  ·exact he
 rw [hR]
 refine ⟨(goodR_iff _).2 ?_, ?_⟩
 ·dsimp only; omega
 ·dsimp only; omega
theorem inv_step {j : Jn} (h : InvJ j) : InvJ (stepJ j).1 := by
 by_cases hw0 : j.work = 0
 ·unfold stepJ; rw [if_pos hw0]; exact h
 obtain ⟨s, r, hs, he⟩ := inv_steps h hw0
 unfold stepJ
 rw [if_neg hw0, hs]
 dsimp only
 rw [if_neg (by rw [he]; decide)]
 cases h with
 | idle hd hw => exact absurd hw hw0
 | off hj hu => rw [hj] at hw0; exact absurd rfl hw0
 | sealing d rg us k hd hw hu hn hc hq hq2 hr hus hk hdk hst =>
  obtain ⟨ho, hlen⟩ := com_ok hc
  obtain ⟨_, e2, e3⟩ := step_of hu.log.good hu.log.clean ho (by omega) hk hdk (hs.symm.trans hst)
  by_cases hr0 : r = []
  ·rw [if_pos hr0]
   have hk1 : k + 1 = (comL rg j.sealed).length := by
    rw [hr0] at e3
    have := congrArg List.length e3
    rw [List.length_drop, List.length_nil] at this
    omega
   unfold endJ
   dsimp only
   rw [if_pos hw]
   dsimp only
   have hg := (goodR_iff rg).1 hu.ring
   have hl := hu.log.com_end hc rfl (by omega) hq (by omega)
   obtain ⟨c1, c2⟩ := comR_used hc
   rw [hk1, List.take_length] at e2
   refine .idle hd rfl ⟨?_, ?_, ?_, ?_, ?_, ?_⟩ ⟨hn.1, ?_⟩ rfl
   ·dsimp only
    rw [e2, hr, hq]
    exact hl
   ·dsimp only; rw [hr]; exact c1
   ·dsimp only; rw [hus, List.sum_append]; simp [hu.sum]; omega
   ·dsimp only
    rw [hus, hr]
    intro x hx
    rcases List.mem_append.1 hx with hx | hx
    ·exact hu.pos x hx
    ·obtain rfl := List.mem_singleton.1 hx; omega
   ·dsimp only; rw [hus, List.length_append, List.length_append, hu.len]; rfl
   ·dsimp only; have := hu.last; omega
   ·dsimp only; have := hn.seq; omega
  ·rw [if_neg hr0]
   have hk1 : k + 1 < (comL rg j.sealed).length := by
    rcases Nat.lt_or_ge (k + 1) (comL rg j.sealed).length with h | h
    ·exact h
    ·rw [List.drop_of_length_le h] at e3; exact absurd e3 hr0
   exact .sealing d rg us (k + 1) hd hw (hu.congr rfl rfl) ⟨hn.1, hn.2⟩ hc hq hq2 hr hus hk1 e2 e3
 | homing d k hd hw hu hn hse hp ha hk hdk hst hne =>
  have hb := hu.log.bounds
  obtain ⟨ho, hlen⟩ := chk_ok (newestL_copies hu.log.goods) hb.1 hb.2.1
  obtain ⟨_, e2, e3⟩ := step_of hu.log.good hu.log.clean ho (by omega) hk hdk (hs.symm.trans hst)
  by_cases hr0 : r = []
  ·rw [if_pos hr0]
   have hk1 : k + 1 = (checkL (newestL j.done) j.ring.head (j.last + 1)).length := by
    rw [hr0] at e3
    have := congrArg List.length e3
    rw [List.length_drop, List.length_nil] at this
    omega
   unfold endJ
   dsimp only
   rw [if_neg (by rw [hw]; decide), if_pos hw]
   dsimp only
   rw [hk1, List.take_length] at e2
   have hdr : j.done.drop j.pending.toNat = [] := by rw [hp, Int.toNat_natCast, List.drop_length]
   have hur : j.used.drop j.pending.toNat = [] := by rw [hp, Int.toNat_natCast, <- hu.len, List.drop_length]
   refine .idle hd rfl ⟨?_, ?_, ?_, ?_, ?_, hu.last⟩ ⟨hn.1, hn.2⟩ hse
   ·dsimp only
    rw [e2, hdr, ha]
    exact hu.log.chk_end
   ·dsimp only; rw [ha]; exact (goodR_iff _).2 ⟨hb.1.1, hb.1.2, Int.le_refl 0, (show (0 : Int) <= 24 by decide)⟩
   ·dsimp only; rw [hur, ha]; rfl
   ·dsimp only; rw [hur]; intro x hx; cases hx
   ·dsimp only; rw [hur, hdr]; rfl
  ·rw [if_neg hr0]
   have hk1 : k + 1 < (checkL (newestL j.done) j.ring.head (j.last + 1)).length := by
    rcases Nat.lt_or_ge (k + 1) (checkL (newestL j.done) j.ring.head (j.last + 1)).length with h | h
    ·exact h
    ·rw [List.drop_of_length_le h] at e3; exact absurd e3 hr0
   exact .homing d (k + 1) hd hw (hu.congr rfl rfl) ⟨hn.1, hn.2⟩ hse hp ha hk1 e2 e3 hne
 | rising d k hj hu hk hdk =>
  obtain ⟨⟨txs, q, a, u, hL, h2⟩, h3⟩ := hu
  obtain ⟨b1, b2⟩ := scan_bounds hL.scan
  obtain ⟨ho, hlen⟩ := chk_ok (newestL_copies hL.goods2) b1 b2
  have hst : j.steps = (checkL (newestL (scanF d).txns) (scanF d).at_ (scanF d).next).drop k := by rw [hj]
  obtain ⟨_, e2, e3⟩ := step_of hL.good hL.clean ho (by omega) hk hdk (hs.symm.trans hst)
  by_cases hr0 : r = []
  ·rw [if_pos hr0]
   have hk1 : k + 1 = (checkL (newestL (scanF d).txns) (scanF d).at_ (scanF d).next).length := by
    rw [hr0] at e3
    have := congrArg List.length e3
    rw [List.length_drop, List.length_nil] at this
    omega
   have hwk : j.work = 3 := by rw [hj]
   have hfd : j.found = scanF d := by rw [hj]
   unfold endJ
   dsimp only
   rw [if_neg (by rw [hwk]; decide), if_neg (by rw [hwk]; decide), if_pos hwk]
   dsimp only
   rw [hk1, List.take_length] at e2
   unfold riseJ
   dsimp only
   rw [hfd, e2]
   have hf := hL.found
   rw [hf]
   dsimp only
   rw [newestL_log]
   rw [hf] at b1 b2
   refine .idle rfl rfl ⟨?_, ?_, rfl, (fun x hx => by cases hx), rfl, ?_⟩ ⟨txn0_good b2, ?_⟩ rfl
   ·show LogI _ [] (q - 1 + 1) a 0
    rw [show q - 1 + 1 = q by omega]
    exact hL.chk_end
   ·exact (goodR_iff _).2 ⟨b1.1, b1.2, Int.le_refl 0, (show (0 : Int) <= 24 by decide)⟩
   ·show 0 <= q - 1 /\ q - 1 + 1 <= 2147483646
    dsimp only at b2
    omega
   ·show q = q - 1 + 1
    omega
  ·rw [if_neg hr0]
   have hk1 : k + 1 < (checkL (newestL (scanF d).txns) (scanF d).at_ (scanF d).next).length := by
    rcases Nat.lt_or_ge (k + 1) (checkL (newestL (scanF d).txns) (scanF d).at_ (scanF d).next).length with h | h
    ·exact h
    ·rw [List.drop_of_length_le h] at e3; exact absurd e3 hr0
   refine .rising d (k + 1) ?_ ⟨⟨txs, q, a, u, hL, h2⟩, h3⟩ hk1 e2
   dsimp only
   rw [e3]
   conv => lhs; rw [hj]
   rfl
theorem inv_new : InvJ newJ := by
 have hz : ∀ s ∈ List.replicate 37 (fit ⟨#[]⟩), ok32 s = true := fun s hs => by
  rw [List.eq_of_mem_replicate hs]
  unfold ok32
  rw [fit_size]; rfl
 have hg0 : goodD newDsk0 = true := (goodD_iff _).2 ⟨by simp [newDsk0], by decide, by rw [List.all_eq_true]; exact hz, rfl⟩
 have hm := dec_mark (super_good (q := 1) (a := 0) (by decide) (by decide))
 have hp : putE newDsk0 0 (markS (superM 1 0)) = 0 := putE_one hg0 (by decide) hm.2.2 (by decide)
 have hg1 := put_good hp
 have hg := flush_good hg1
 have hr0 : readD newDsk 0 = markS (superM 1 0) := by
  have := flush_read hg1 (k := 0) (by decide)
  rw [Int.natCast_zero] at this
  exact this.trans (put_read hp)
 have hr : ∀ i : Nat, i < 24 -> readD newDsk (1 + (i : Int)) = fit ⟨#[]⟩ := fun i hi => by
  have := flush_read hg1 (k := 1 + i) (by omega)
  have e : ((1 + i : Nat) : Int) = 1 + (i : Int) := by omega
  rw [e] at this
  refine this.trans ?_
  rw [put_other hp (by omega), <- e, read_good hg0 (by omega)]
  show lastT ((List.replicate 37 (fit ⟨#[]⟩)).getD (1 + i) ⟨#[]⟩) _ [] = _
  rw [lastT_nil, List.getD_eq_getElem?_getD, List.getElem?_replicate, if_pos (by omega)]; rfl
 have hd0 : ¬ decE (fit ⟨#[]⟩) = 0 := by decide
 have hn : noCom newDsk 1 := fun i hi x hx hc => by
  rw [hr i hi] at hc
  exact hd0 hc.1
 obtain ⟨e1, e2, e3⟩ := scan_anew (q := 1) (a := 0) hg (by decide) (by decide) hr0 hn
 exact .idle rfl rfl ⟨⟨hg, flush_clean hg1, e1, e2, e3, hn, fun t ht => by cases ht⟩, by decide, rfl, (fun x hx => by cases hx), rfl, by decide⟩ ⟨by decide, rfl⟩ rfl
theorem newestL_len (l : List Txn) : (newestL l).length <= 12 := by
 unfold newestL viewL viewN
 exact Nat.le_trans (List.length_filterMap_le _ _) (by simp)
def SzI (j : Jn) : Prop := j.found.txns.length <= 25 /\ j.steps.length <= 100
theorem sum_take_le {l : List Int} (h : ∀ x ∈ l, 0 <= x) (k : Nat) : 0 <= (l.take k).sum /\ (l.take k).sum <= l.sum := by
 induction l generalizing k with
 | nil => simp
 | cons x l ih =>
  have h1 := h x (.head _)
  have h2 := fun k => ih (fun y hy => h y (.tail _ hy)) k
  cases k with
  | zero =>
   have := h2 0
   rw [List.take_zero, List.sum_nil] at this
   rw [List.take_zero, List.sum_nil, List.sum_cons]; omega
  | succ k =>
   have := h2 k
   rw [List.take_succ_cons, List.sum_cons, List.sum_cons]; omega
theorem sum_step {l : List Int} {k : Nat} (hk : k < l.length) : (l.take (k + 1)).sum = (l.take k).sum + l[k] := by rw [List.take_succ_eq_append_getElem hk, List.sum_append]; simp
theorem InvJ.up {j : Jn} (h : InvJ j) (hw : j.work = 0) (hn : j.down = false \/ j.done.length ≠ 0) : UpI j j.disk j.ring j.used /\ NowI j (j.last + 1) /\ j.sealed = txn0 0 /\ j.down = false := by
 cases h with
 | idle hd hw hu hn hs => exact ⟨hu, hn, hs, hd⟩
 | sealing d r us k hd hw0 => rw [hw0] at hw; cases hw
 | homing d k hd hw0 => rw [hw0] at hw; cases hw
 | off hj hu =>
  rcases hn with hn | hn
  ·rw [hj] at hn; cases hn
  ·rw [hj] at hn; exact absurd rfl hn
 | rising d k hj => rw [hj] at hw; cases hw
theorem inv_work {j : Jn} (h : InvJ j) (hw : j.work ≠ 0) : j.work = 1 \/ (j.work = 2 /\ j.pending = j.done.length /\ j.used.length = j.done.length /\ j.done.length ≠ 0) \/ (j.work = 3 /\ (∀ t ∈ j.found.txns, goodT t = true) /\ (1 <= j.found.next /\ j.found.next <= 2147483647)) := by
 cases h with
 | idle hd hw0 => exact absurd hw0 hw
 | sealing d r us k hd hw0 => exact .inl hw0
 | homing d k hd hw0 hu hn hs hp ha hk hdk hst hne => exact .inr (.inl ⟨hw0, hp, hu.len, hne⟩)
 | off hj hu => rw [hj] at hw; exact absurd rfl hw
 | rising d k hj hu hk hdk =>
  obtain ⟨⟨txs, q, a, u, hL, h2⟩, h3⟩ := hu
  have hf : j.found = scanF d := by rw [hj]
  rw [hf]
  exact .inr (.inr ⟨by rw [hj], hL.goods2, (scan_bounds hL.scan).2⟩)
section
variable {P : Program}
theorem run_copy_c (w : World) (dT sT ty elem : TypeId) (c : Nat) (b o dLen dCap : Nat) (a : Addr) (sLen sCap : Nat) (cs : List Value)
    (hu : P.underlying dT = some (.slice elem)) (hs : (P.info? elem).map (·.size) = some c) (hn : cs.length = Nat.min sLen dLen * c)
    (hsrc : ∀ j v, cs[j]? = some v -> w.cell? (a.add j) = some v) (hc : ∀ j, j < cs.length -> (w.cell? ⟨b, o + j, none⟩).isSome = true) (hf : ∀ j, j < cs.length -> w.frozen? ⟨b, o + j, none⟩ = false) (h1 : ∀ v ∈ cs, v.oneCell' = true) :
    (Builtin.copy_ #[dT, sT] ty #[.slice (some ⟨b, o, none⟩) dLen dCap, .slice (some a) sLen sCap]).run P w = .ok (goInt (Nat.min sLen dLen : Nat)) (w.setCells b o cs) := by
 have hl := run_loadCells_list (P := P) w a cs hsrc
 have hst := run_storeCells_cells (P := P) b o cs 0 w (by simpa using hc) (by simpa using hf) h1
 rw [Nat.add_zero] at hst
 cases hq : P.info? elem with
 | none => simp [hq] at hs
 | some i =>
  have hi : i.size = c := by simpa [hq] using hs
  simp [Builtin.copy_, run_underlying hu, Builtin.lenOf, Builtin.firstCells, Go.sizeOf, typeInfo, hq, hi, <- hn, hl, hst]
theorem run_clear_c (w : World) (t e ty : TypeId) (z : Value) (ht : P.underlying t = some (.slice e)) (hv : ∀ w, (zeroValue e).run P w = .ok z w) (h1 : ∀ u ∈ z.cells, u.oneCell' = true) (h0 : 0 < z.cells.size) (b o n c : Nat) (hn : 0 < n)
    (hc : ∀ j, j < n * z.cells.size -> (w.cell? ⟨b, o + j, none⟩).isSome = true) (hf : ∀ j, j < n * z.cells.size -> w.frozen? ⟨b, o + j, none⟩ = false) :
    (Builtin.clear_ #[t] ty #[.slice (some ⟨b, o, none⟩) n c]).run P w = .ok (.tuple #[]) (w.setCells b o (Builtin.zeroCells z.cells n).toList) := by
 have hl : (Builtin.zeroCells z.cells n).toList.length = n * z.cells.size := by rw [Array.length_toList, size_zeroCells]
 have hst := run_storeCells_cells (P := P) b o (Builtin.zeroCells z.cells n).toList 0 w (by rw [hl]; simpa using hc) (by rw [hl]; simpa using hf) (by
  intro v hv'
  simp only [Builtin.zeroCells, Array.toList_map, List.mem_map] at hv'
  obtain ⟨i, _, rfl⟩ := hv'
  have hlt : i % z.cells.size < z.cells.size := Nat.mod_lt _ h0
  rw [getElem!_pos z.cells _ hlt]
  exact h1 _ (Array.getElem_mem hlt))
 simp only [Nat.add_zero] at hst
 obtain ⟨m, rfl⟩ : ∃ m, n = m + 1 := ⟨n - 1, by omega⟩
 simp [Builtin.clear_, run_underlying ht, hv, hst]
end
theorem Blk.sets {t : TypeId} {b : Nat} : ∀ (vs : List Value) (o : Nat) (w : World) (cur : Array Value), Blk w b cur t -> o + vs.length <= cur.size -> Blk (w.setCells b o vs) b (cur.toList.take o ++ vs ++ cur.toList.drop (o + vs.length)).toArray t
 | [], o, w, cur, h, _ => by simpa [World.setCells] using h
 | v :: r, o, w, cur, h, hl => by
  have h2 := Blk.sets r (o + 1) (w.setCell ⟨b, o, none⟩ v) _ (h.set o v) (by simp at hl ⊢; omega)
  have e := list_seg_step cur.toList o v r (by simp at hl ⊢; omega)
  rw [World.setCells]
  rw [Array.toList_setIfInBounds] at h2
  rw [e] at h2
  exact h2
theorem Below.sets {B : Nat} {w : World} (b : Nat) (hb : B <= b) : ∀ (vs : List Value) (o : Nat) (w' : World), Below B w w' -> Below B w (w'.setCells b o vs)
 | [], _, _, h => h
 | v :: r, o, w', h => Below.sets b hb r (o + 1) _ (h.setCell hb v)
theorem Blk.sets_other {t : TypeId} {b g : Nat} {cur : Array Value} (hne : g ≠ b) : ∀ (vs : List Value) (o : Nat) (w : World), Blk w g cur t -> Blk (w.setCells b o vs) g cur t
 | [], _, _, h => h
 | v :: r, o, w, h => Blk.sets_other hne r (o + 1) _ (h.set_other _ v hne)
theorem seg2 {α : Type} (L : List α) (a : Nat) (X D : List α) (h : a + X.length + D.length <= L.length) :
    (L.take (a + X.length) ++ D ++ L.drop (a + X.length + D.length)).take a ++ X ++ (L.take (a + X.length) ++ D ++ L.drop (a + X.length + D.length)).drop (a + X.length) = L.take a ++ X ++ D ++ L.drop (a + X.length + D.length) := by
 have h1 : (L.take (a + X.length)).length = a + X.length := by rw [List.length_take]; omega
 rw [List.append_assoc (L.take (a + X.length)), List.take_append_of_le_length (by omega), List.take_take, Nat.min_eq_left (by omega), List.drop_append_of_le_length (by omega), List.drop_of_length_le (by omega)]
 simp
theorem seg3 {α : Type} (L : List α) (a : Nat) (X D : List α) (h : a + X.length + D.length <= L.length) :
    (L.take a ++ X ++ L.drop (a + X.length)).take (a + X.length) ++ D ++ (L.take a ++ X ++ L.drop (a + X.length)).drop (a + X.length + D.length) = L.take a ++ X ++ D ++ L.drop (a + X.length + D.length) := by
 have h1 : (L.take a ++ X).length = a + X.length := by rw [List.length_append, List.length_take]; omega
 rw [List.take_append_of_le_length (by omega), List.take_of_length_le (by omega)]
 have h2 : (L.take a ++ X ++ L.drop (a + X.length)).drop (a + X.length + D.length) = L.drop (a + X.length + D.length) := by
  rw [List.drop_append, List.drop_of_length_le (by omega), List.nil_append, h1, List.drop_drop]
  congr 1
  omega
 rw [h2]
section
variable {α : Type} {f : α -> List Value} {base : Nat} {e : TypeId} {c : Nat} {w w' : World} {v : Value} {l : List α}
theorem Own.ofRow {g cap : Nat} {cur : Array Value} (hF : Flat f c) (hb : base <= g) (hk : Blk w g cur e) (hn : l.length <= cap) (hc : cap <= maxLen) (hs : cur.size = cap * c) (ht : cur.toList.take (l.length * c) = l.flatMap f) : Own f base e c w (.slice (some ⟨g, 0, none⟩) l.length cap) l :=
 ⟨flat_len hF.len l, .inr ⟨g, cap, cur, rfl, hb, hk, hn, hc, hs, ht⟩⟩
theorem Own.row (h : Own f base e c w v l) (h0 : 0 < l.length) : ∃ g cap cur, v = .slice (some ⟨g, 0, none⟩) l.length cap /\ base <= g /\ Blk w g cur e /\ l.length <= cap /\ cap <= maxLen /\ cur.size = cap * c /\ cur.toList.take (l.length * c) = l.flatMap f := by
 obtain ⟨h1, h2⟩ := h
 rcases h2 with ⟨rfl, h3⟩ | ⟨g, cap, cur, rfl, hb, hg, hn, hc, hs, ht⟩
 ·omega
 ·exact ⟨g, cap, cur, rfl, hb, hg, hn, hc, hs, ht⟩
theorem Own.belowGrown {v : Value} (h : Own f base e c w v l) (hbase : base <= w.heap.size) (hg : w.grownBy w' v.ownBlock) : Below base w w' :=
 (Below.refl base w).grown hg hbase (fun k hk => (World.ownsRow.lt h k hk).1)
end
structure Mv (S : List Nat) (w w' : World) : Prop where
 os : w'.os = w.os
 tape : w'.tape = w.tape
 output : w'.output = w.output
 size : w.heap.size <= w'.heap.size
 block : ∀ k, k < w.heap.size -> k ∉ S -> w'.heap[k]? = w.heap[k]?
theorem Mv.refl (S : List Nat) (w : World) : Mv S w w := ⟨rfl, rfl, rfl, Nat.le_refl _, fun _ _ _ => rfl⟩
theorem Mv.below {w w' : World} (h : Mv [] w w') : Below w.heap.size w w' := ⟨h.os, h.tape, h.output, h.size, fun k hk => h.block k hk (by simp)⟩
theorem Mv.ofBelow {S : List Nat} {w w' : World} (h : Below w.heap.size w w') : Mv S w w' := ⟨h.os, h.tape, h.output, h.size, fun k hk _ => h.block k hk⟩
theorem Mv.ofGrown {g : Nat} {w w' : World} (h : w.grownBy w' (some g)) : Mv [g] w w' := ⟨h.os, h.tape, h.output, h.size, fun k hk hn => h.block k hk (by simpa using hn)⟩
theorem Mv.then {S S' : List Nat} {a b c : World} (h : Mv S a b) (h2 : Mv S' b c) (hs : ∀ k, k ∈ S' -> k ∈ S \/ a.heap.size <= k) : Mv S a c :=
 ⟨h2.os.trans h.os, h2.tape.trans h.tape, h2.output.trans h.output, Nat.le_trans h.size h2.size, fun k hk hn =>
  (h2.block k (Nat.lt_of_lt_of_le hk h.size) fun hh => (hs k hh).elim hn (fun hh => by omega)).trans (h.block k hk hn)⟩
theorem Mv.trans {S : List Nat} {a b c : World} (h : Mv S a b) (h2 : Mv S b c) : Mv S a c := h.then h2 fun _ h => .inl h
theorem Mv.drew {S : List Nat} {a b : World} (h : Mv S a b) : Mv S a b.drew := ⟨h.os, h.tape, h.output, h.size, h.block⟩
theorem Mv.alloc (S : List Nat) (w : World) (o : Obj) : Mv S w (w.alloc o) := Mv.ofBelow (bal (b0 w) o)
theorem Mv.set (w : World) (p : Addr) (v : Value) : Mv [p.block] w (w.setCell p v) :=
 ⟨rfl, rfl, rfl, by simp, fun k _ hn => Below.heap_setCell w p v k (by simpa using hn)⟩
theorem Mv.sets (g : Nat) : ∀ (vs : List Value) (o : Nat) (w : World), Mv [g] w (w.setCells g o vs)
 | [], _, w => Mv.refl _ w
 | v :: r, o, w => (Mv.set w ⟨g, o, none⟩ v).trans (Mv.sets g r (o + 1) _)
def vblk : Value -> Option Nat
 | .slice (some a) _ _ => some a.block
 | _ => none
theorem Sl.mv {S : List Nat} {w w' : World} {v : Value} {n : Nat} {cs : List Value} (h : Sl w v n cs) (hm : Mv S w w') (hn : cs = [] \/ ∀ b, vblk v = some b -> b ∉ S) : Sl w' v n cs := by
 obtain ⟨a, cap, hv, h1, h2, h3⟩ := h
 refine ⟨a, cap, hv, h1, h2, ?_⟩
 rcases hn with hn | hn
 ·exact .inl hn
 rcases h3 with h3 | ⟨b, off, ha, hc⟩
 ·exact .inl h3
 ·refine .inr ⟨b, off, ha, fun j u hj => ?_⟩
  have h4 := hc j u hj
  have h5 := World.block_lt_of_cell? w _ h4
  rw [<- h4]
  refine World.cell?_of_block (hm.block b h5 (hn b ?_))
  rw [hv, ha]; rfl
theorem Sl.lt {w : World} {v : Value} {n : Nat} {cs : List Value} (h : Sl w v n cs) : cs = [] \/ ∀ b, vblk v = some b -> b < w.heap.size := by
 obtain ⟨a, cap, hv, h1, h2, h3⟩ := h
 rcases h3 with h3 | ⟨b, off, ha, hc⟩
 ·exact .inl h3
 ·cases cs with
  | nil => exact .inl rfl
  | cons u r =>
   refine .inr fun b' hb => ?_
   rw [hv, ha] at hb
   cases hb
   exact World.block_lt_of_cell? w _ (hc 0 u rfl)
structure Ent where
 g : Nat
 cs : List Value
 t : TypeId
structure Rd where
 v : Value
 n : Nat
 cs : List Value
def Rd.of {α : Type} (f : α -> List Value) (v : Value) (l : List α) : Rd := ⟨v, l.length, l.flatMap f⟩
structure St (S : List Nat) (w0 w : World) (L : List Ent) (R : List Rd) : Prop where
 mv : Mv S w0 w
 nd : (L.map Ent.g).Nodup
 blk : ∀ e ∈ L, Blk w e.g e.cs.toArray e.t
 own : ∀ e ∈ L, e.g ∈ S \/ w0.heap.size <= e.g
 rd : ∀ r ∈ R, Sl w r.v r.n r.cs /\ (r.cs = [] \/ ∀ b, vblk r.v = some b -> ∀ e ∈ L, e.g ≠ b)
section
variable {S : List Nat} {w0 w w' : World} {L : List Ent} {R : List Rd}
theorem St.start (S : List Nat) (w0 : World) : St S w0 w0 [] [] := ⟨Mv.refl _ _, List.nodup_nil, (fun _ h => absurd h List.not_mem_nil), (fun _ h => absurd h List.not_mem_nil), (fun _ h => absurd h List.not_mem_nil)⟩
theorem St.drew (h : St S w0 w L R) : St S w0 w.drew L R := ⟨h.mv.drew, h.nd, h.blk, h.own, h.rd⟩
theorem St.below (h : St [] w0 w L R) : Below w0.heap.size w0 w := h.mv.below
theorem Blk.mv {b : Nat} {cs : Array Value} {t : TypeId} (h : Blk w b cs t) (hm : Mv S w w') (hn : b ∉ S) : Blk w' b cs t := (hm.block b h.lt hn).trans h
theorem St.moved {S' : List Nat} (h : St S w0 w L R) (hm : Mv S' w w') (hs : ∀ k, k ∈ S' -> k ∈ S \/ w0.heap.size <= k) (hL : ∀ e ∈ L, e.g ∉ S') (hR : ∀ r ∈ R, r.cs = [] \/ ∀ b, vblk r.v = some b -> b ∉ S') : St S w0 w' L R :=
 ⟨h.mv.then hm hs, h.nd, fun e he => (h.blk e he).mv hm (hL e he), h.own, fun r hr => ⟨(h.rd r hr).1.mv hm (hR r hr), (h.rd r hr).2⟩⟩
theorem St.call (h : St S w0 w L R) (hb : Below w.heap.size w w') : St S w0 w' L R :=
 h.moved (S' := []) (Mv.ofBelow hb) (fun _ h => absurd h List.not_mem_nil) (fun _ _ => List.not_mem_nil) (fun _ _ => .inr fun _ _ => List.not_mem_nil)
theorem St.addR (h : St S w0 w L R) {v : Value} {n : Nat} {cs : List Value} (hv : Sl w v n cs) (hn : cs = [] \/ ∀ b, vblk v = some b -> ∀ e ∈ L, e.g ≠ b) : St S w0 w L (⟨v, n, cs⟩ :: R) :=
 ⟨h.mv, h.nd, h.blk, h.own, fun r hr => by
  rcases List.mem_cons.1 hr with rfl | hr
  ·exact ⟨hv, hn⟩
  ·exact h.rd r hr⟩
theorem St.addR0 (h : St [] w0 w L R) {v : Value} {n : Nat} {cs : List Value} (hv : Sl w0 v n cs) : St [] w0 w L (⟨v, n, cs⟩ :: R) := by
 refine h.addR (hv.below h.below) ?_
 rcases hv.lt with hl | hl
 ·exact .inl hl
 ·refine .inr fun b hb e he heq => ?_
  have := hl b hb
  rcases h.own e he with ho | ho
  ·cases ho
  ·omega
theorem St.addOwn (h : St S w0 w L R) (hb : Below w.heap.size w w') {α : Type} {f : α -> List Value} {e : TypeId} {c : Nat} {v : Value} {l : List α} (ho : Own f w.heap.size e c w' v l) : St S w0 w' L (Rd.of f v l :: R) := by
 refine (h.call hb).addR ho.reads (.inr fun b hbv x hx heq => ?_)
 have hlt := (h.blk x hx).lt
 obtain ⟨_, h2⟩ := ho
 rcases h2 with ⟨rfl, _⟩ | ⟨g, cap, cur, rfl, hbg, _⟩
 ·cases hbv
 ·cases hbv
  have h3 : x.g = g := heq
  omega
theorem St.read (h : St S w0 w L R) {α : Type} {f : α -> List Value} {v : Value} {l : List α} (hr : Rd.of f v l ∈ R) : RL f w v l := (h.rd _ hr).1
theorem St.at_ (h : St S w0 w L R) {g : Nat} {cs : List Value} {t : TypeId} (he : ⟨g, cs, t⟩ ∈ L) : Blk w g cs.toArray t := h.blk _ he
theorem St.cell (h : St S w0 w L R) {g : Nat} {cs : List Value} {t : TypeId} (he : ⟨g, cs, t⟩ ∈ L) (i : Nat) : w.cell? ⟨g, i, none⟩ = cs[i]? := by
 rw [(h.blk _ he).cell i]; simp
theorem St.free (h : St S w0 w L R) {g : Nat} {cs : List Value} {t : TypeId} (he : ⟨g, cs, t⟩ ∈ L) (i : Nat) : w.frozen? ⟨g, i, none⟩ = false := (h.blk _ he).free i
theorem St.k0 {g : Nat} {cs : List Value} {t : TypeId} (h : St S w0 w (⟨g, cs, t⟩ :: L) R) : Blk w g cs.toArray t := h.blk ⟨g, cs, t⟩ (by simp)
theorem St.k2 {e0 e1 : Ent} {g : Nat} {cs : List Value} {t : TypeId} (h : St S w0 w (e0 :: e1 :: ⟨g, cs, t⟩ :: L) R) : Blk w g cs.toArray t := h.blk ⟨g, cs, t⟩ (by simp)
theorem St.r0 {α : Type} {f : α -> List Value} {v : Value} {l : List α} (h : St S w0 w L (Rd.of f v l :: R)) : RL f w v l := h.read (v := v) (l := l) (f := f) (by simp)
theorem St.r1 {r0 : Rd} {α : Type} {f : α -> List Value} {v : Value} {l : List α} (h : St S w0 w L (r0 :: Rd.of f v l :: R)) : RL f w v l := h.read (v := v) (l := l) (f := f) (by simp)
theorem St.r2 {r0 r1 : Rd} {α : Type} {f : α -> List Value} {v : Value} {l : List α} (h : St S w0 w L (r0 :: r1 :: Rd.of f v l :: R)) : RL f w v l := h.read (v := v) (l := l) (f := f) (by simp)
theorem St.alloc (h : St S w0 w L R) (cs : List Value) (t : TypeId) : St S w0 (w.alloc (.cells cs.toArray t)) (⟨w.heap.size, cs, t⟩ :: L) R := by
 have h1 := h.call (bal (b0 w) (.cells cs.toArray t))
 refine ⟨h1.mv, ?_, fun e he => ?_, fun e he => ?_, fun r hr => ⟨(h1.rd r hr).1, ?_⟩⟩
 ·rw [List.map_cons, List.nodup_cons]
  refine ⟨fun hm => ?_, h.nd⟩
  obtain ⟨e, he, heq⟩ := List.mem_map.1 hm
  have := (h.blk e he).lt
  simp only at heq; omega
 ·rcases List.mem_cons.1 he with rfl | he
  ·exact Blk.new w _ _
  ·exact h1.blk e he
 ·rcases List.mem_cons.1 he with rfl | he
  ·exact .inr h.mv.size
  ·exact h.own e he
 ·rcases (h.rd r hr).1.lt with hl | hl
  ·exact .inl hl
  ·rcases (h.rd r hr).2 with h2 | h2
   ·exact .inl h2
   ·refine .inr fun b hb e he => ?_
    rcases List.mem_cons.1 he with rfl | he
    ·have := hl b hb; show w.heap.size ≠ b; omega
    ·exact h2 b hb e he
def upd : Nat -> List Value -> List Value -> List Value
 | i + 1, vs, c :: cs => c :: upd i vs cs
 | 0, v :: vs, _ :: cs => v :: upd 0 vs cs
 | _, _, cs => cs
theorem upd_seg : ∀ (i : Nat) (vs cs : List Value), i + vs.length <= cs.length -> upd i vs cs = cs.take i ++ vs ++ cs.drop (i + vs.length)
 | i + 1, vs, c :: cs, h => by
  have := upd_seg i vs cs (by simp at h; omega)
  simp only [upd, this, List.take_succ_cons, List.cons_append, List.cons.injEq, true_and]
  rw [show i + 1 + vs.length = (i + vs.length) + 1 by omega, List.drop_succ_cons]
 | 0, [], cs, h => by cases cs <;> simp [upd]
 | 0, v :: vs, c :: cs, h => by
  have := upd_seg 0 vs cs (by simp at h; omega)
  simp only [Nat.zero_add, List.take_zero, List.nil_append] at this
  simp [upd, this]
 | i + 1, vs, [], h => by simp at h
 | 0, v :: vs, [], h => by simp at h
theorem St.wrote (A B : List Ent) {g : Nat} {cs : List Value} {t : TypeId} (h : St S w0 w (A ++ ⟨g, cs, t⟩ :: B) R) (i : Nat) (vs : List Value) (hi : i + vs.length <= cs.length) : St S w0 (w.setCells g i vs) (A ++ ⟨g, upd i vs cs, t⟩ :: B) R := by
 have hm := Mv.sets g vs i w
 have hg : ⟨g, cs, t⟩ ∈ A ++ ⟨g, cs, t⟩ :: B := by simp
 have hnd := h.nd
 rw [List.map_append, List.map_cons, List.nodup_append] at hnd
 obtain ⟨n1, n2, n3⟩ := hnd
 rw [List.nodup_cons] at n2
 have hne : ∀ e, e ∈ A \/ e ∈ B -> e.g ≠ g := fun e he heq => by
  rcases he with he | he
  ·exact n3 _ (List.mem_map_of_mem he) g (by simp) heq
  ·have h5 := List.mem_map_of_mem (f := Ent.g) he
   rw [heq] at h5
   exact n2.1 h5
 have hsame : (A ++ ⟨g, upd i vs cs, t⟩ :: B).map Ent.g = (A ++ ⟨g, cs, t⟩ :: B).map Ent.g := by simp
 have hmem : ∀ e, e ∈ A ++ (⟨g, upd i vs cs, t⟩ : Ent) :: B -> e = ⟨g, upd i vs cs, t⟩ \/ ((e ∈ A \/ e ∈ B) /\ e ∈ A ++ (⟨g, cs, t⟩ : Ent) :: B) := fun e he => by
  simp only [List.mem_append, List.mem_cons] at he ⊢
  rcases he with he | he | he
  ·exact .inr ⟨.inl he, .inl he⟩
  ·exact .inl he
  ·exact .inr ⟨.inr he, .inr (.inr he)⟩
 refine ⟨h.mv.then hm (fun k hk => ?_), by rw [hsame]; exact h.nd, fun e he => ?_, fun e he => ?_, fun r hr => ?_⟩
 ·obtain rfl : k = g := by simpa using hk
  exact h.own _ hg
 ·rcases hmem e he with rfl | ⟨he, he2⟩
  ·have := Blk.sets (t := t) (b := g) vs i w cs.toArray (h.blk _ hg) (by simpa using hi)
   rw [<- upd_seg i vs cs hi] at this
   exact this
  ·exact Blk.sets_other (hne e he) vs i w (h.blk e he2)
 ·rcases hmem e he with rfl | ⟨he, he2⟩
  ·exact h.own ⟨g, cs, t⟩ hg
  ·exact h.own e he2
 ·obtain ⟨h1, h2⟩ := h.rd r hr
  rcases h2 with h2 | h2
  ·exact ⟨h1.mv hm (.inl h2), .inl h2⟩
  ·refine ⟨h1.mv hm (.inr fun b hb hbg => ?_), .inr fun b hb e he => ?_⟩
   ·obtain rfl : b = g := by simpa using hbg
    exact h2 b hb _ hg rfl
   ·rcases hmem e he with rfl | ⟨he, he2⟩
    ·exact h2 b hb ⟨g, cs, t⟩ hg
    ·exact h2 b hb e he2
theorem St.calledOn (A B : List Ent) {g : Nat} {cs cs' : List Value} {t : TypeId} (h : St S w0 w (A ++ ⟨g, cs, t⟩ :: B) R) (hm : Mv [g] w w') (hk : Blk w' g cs'.toArray t) : St S w0 w' (A ++ ⟨g, cs', t⟩ :: B) R := by
 have hg : ⟨g, cs, t⟩ ∈ A ++ ⟨g, cs, t⟩ :: B := by simp
 have hnd := h.nd
 rw [List.map_append, List.map_cons, List.nodup_append] at hnd
 obtain ⟨n1, n2, n3⟩ := hnd
 rw [List.nodup_cons] at n2
 have hne : ∀ e, e ∈ A \/ e ∈ B -> e.g ≠ g := fun e he heq => by
  rcases he with he | he
  ·exact n3 _ (List.mem_map_of_mem he) g (by simp) heq
  ·have h5 := List.mem_map_of_mem (f := Ent.g) he
   rw [heq] at h5
   exact n2.1 h5
 have hsame : (A ++ ⟨g, cs', t⟩ :: B).map Ent.g = (A ++ ⟨g, cs, t⟩ :: B).map Ent.g := by simp
 have hmem : ∀ e, e ∈ A ++ (⟨g, cs', t⟩ : Ent) :: B -> e = ⟨g, cs', t⟩ \/ ((e ∈ A \/ e ∈ B) /\ e ∈ A ++ (⟨g, cs, t⟩ : Ent) :: B) := fun e he => by
  simp only [List.mem_append, List.mem_cons] at he ⊢
  rcases he with he | he | he
  ·exact .inr ⟨.inl he, .inl he⟩
  ·exact .inl he
  ·exact .inr ⟨.inr he, .inr (.inr he)⟩
 refine ⟨h.mv.then hm (fun k hk => ?_), by rw [hsame]; exact h.nd, fun e he => ?_, fun e he => ?_, fun r hr => ?_⟩
 ·obtain rfl : k = g := by simpa using hk
  exact h.own _ hg
 ·rcases hmem e he with rfl | ⟨he, he2⟩
  ·exact hk
  ·exact (h.blk e he2).mv hm (by simpa using hne e he)
 ·rcases hmem e he with rfl | ⟨he, he2⟩
  ·exact h.own ⟨g, cs, t⟩ hg
  ·exact h.own e he2
 ·obtain ⟨h1, h2⟩ := h.rd r hr
  rcases h2 with h2 | h2
  ·exact ⟨h1.mv hm (.inl h2), .inl h2⟩
  ·refine ⟨h1.mv hm (.inr fun b hb hbg => ?_), .inr fun b hb e he => ?_⟩
   ·obtain rfl : b = g := by simpa using hbg
    exact h2 b hb _ hg rfl
   ·rcases hmem e he with rfl | ⟨he, he2⟩
    ·exact h2 b hb ⟨g, cs, t⟩ hg
    ·exact h2 b hb e he2
end
class AggT (P : Program) (T : TypeId) (n : outParam Nat) : Prop where
 row : ∃ d, P.underlying T = some d /\ d.isRow = true
 size : (P.info? T).map (·.size) = some n
class OneT (P : Program) (T : TypeId) : Prop where
 row : ∃ d, P.underlying T = some d /\ d.isRow = false
 size : (P.info? T).map (·.size) = some 1
class ZeroT (P : Program) (T : TypeId) (cs : outParam (List Value)) : Prop where
 zero : ((P.info? T).bind (·.zero)).map (·.cells) = some cs.toArray
def nth : List Value -> Nat -> Option Value
 | [], _ => none
 | v :: _, 0 => some v
 | _ :: r, n + 1 => nth r n
theorem nth_get : ∀ (l : List Value) (i : Nat), nth l i = l[i]?
 | [], i => by simp [nth]
 | v :: r, 0 => rfl
 | v :: r, i + 1 => by rw [List.getElem?_cons_succ]; exact nth_get r i
inductive EvR (a : Act) : Operand -> Value -> Prop
 | tmp {l : List Value} {d : List Deferred} {n : Nat} {v : Value} : a = ⟨l.toArray, d⟩ -> nth l n = some v -> EvR a (.tmp n) v
 | const (v : Value) : EvR a (.const v) v
theorem EvR.eval {a : Act} {x : Operand} {v : Value} (h : EvR a x v) : a.eval x = v := by
 cases h with
 | tmp ha hv =>
  subst ha
  rw [nth_get] at hv
  simp [Act.eval, hv]
 | const v => rfl
section
variable {P : Program} {ops : Array Oper} {Q : Exit -> Act -> World -> Prop} {o : Oper} {rest : List Oper} {a : Act} {S : List Nat} {w0 w : World} {L : List Ent} {R : List Rd}
theorem run_loadOne {T : TypeId} [hT : OneT P T] {b i : Nat} {v : Value} (hc : w.cell? ⟨b, i, none⟩ = some v) : (loadVar T ⟨b, i, none⟩).run P w = .ok v w := by
 obtain ⟨⟨d, hu, hd⟩, _⟩ := hT
 have hagg : (isAgg T).run P w = .ok false w := by
  unfold isAgg
  rw [Sem.run_bind, run_underlying hu w]
  cases d <;> simp_all
 have hl : (load ⟨b, i, none⟩).run P w = .ok v w := by
  have := run_loadCells_list (P := P) w ⟨b, i, none⟩ [v] (fun j u hj => by
   cases j with
   | zero => simp at hj; subst hj; rw [Addr.add_mid]; exact hc
   | succ j => simp at hj)
  simp only [loadCells, List.length_cons, List.length_nil, loadCellsFrom, Sem.run_bind, Addr.add_mid, Nat.add_zero] at this
  cases hr : (load ⟨b, i, none⟩).run P w with
  | ok x w' =>
   rw [hr] at this
   simp only [Result.andThen_ok, Sem.run_pure] at this
   simp at this
   obtain ⟨h1, h2⟩ := this
   rw [h1, h2]
  | halt x w' => rw [hr] at this; simp at this
 simp only [loadVar, Sem.run_bind, hagg, Result.andThen_ok]
 exact hl
def isLoad : Op -> Bool
 | .load _ _ => true
 | _ => false
def isStore : Op -> Bool
 | .store _ _ _ => true
 | _ => false
def isMem : Op -> Bool
 | .load _ _ => true
 | .store _ _ _ => true
 | .alloc _ => true
 | .box _ _ => true
 | _ => false
theorem at_mem (_ : isMem o.op = true) (h : wpList P ops Q (o :: rest) a w) : wpList P ops Q (o :: rest) a w := h
theorem at_load (_ : isLoad o.op = true) (h : wpList P ops Q (o :: rest) a w) : wpList P ops Q (o :: rest) a w := h
theorem at_store (_ : isStore o.op = true) (h : wpList P ops Q (o :: rest) a w) : wpList P ops Q (o :: rest) a w := h
theorem m_load1 (hw : Region.wanted o (yielded ops a.tmps) = true) (T : TypeId) (x : Operand) (ho : o.op = .load T x) {g i : Nat} (hx : a.eval x = .pointer (some ⟨g, i, none⟩)) [OneT P T] (X : St S w0 w L R)
    {cs : List Value} {t : TypeId} (he : ⟨g, cs, t⟩ ∈ L) {v : Value} (hv : nth cs i = some v) (h : wpList P ops Q rest (a.put o.dst v) w) : wpList P ops Q (o :: rest) a w :=
 BigFrame.wpList_want hw fun K hK => by
  have hc : w.cell? ⟨g, i, none⟩ = some v := by rw [X.cell he, <- nth_get]; exact hv
  unfold Oper.wp execOp
  simp only [ho, hx, Instr.loadAt, Instr.sureAddr, Sem.run_bind, Sem.run_pure, Result.andThen_ok, run_loadOne (T := T) hc]
  exact hK _ _ h
theorem m_loadN (hw : Region.wanted o (yielded ops a.tmps) = true) (T : TypeId) (x : Operand) (ho : o.op = .load T x) {g i : Nat} (hx : a.eval x = .pointer (some ⟨g, i, none⟩)) {n : Nat} [hT : AggT P T n] (X : St S w0 w L R)
    {cs : List Value} {t : TypeId} (he : ⟨g, cs, t⟩ ∈ L) (hi : i + n <= cs.length) (h : wpList P ops Q rest (a.put o.dst (.agg ((cs.drop i).take n).toArray)) w) : wpList P ops Q (o :: rest) a w := by
 obtain ⟨⟨d, hu, hd⟩, hs⟩ := hT
 refine BigFrame.wpList_want hw fun K hK => wp_load_mid T x ho g i hx ((cs.drop i).take n) d (fun j v hj => ?_) hu hd (by rw [hs, List.length_take, List.length_drop]; congr 1; omega) (hK _ _ h)
 rw [X.cell he]
 rw [List.getElem?_take] at hj
 split at hj
 ·rw [List.getElem?_drop] at hj; exact hj
 ·cases hj
theorem St.there (X : St S w0 w L R) {g : Nat} {cs : List Value} {t : TypeId} (he : ⟨g, cs, t⟩ ∈ L) {i n : Nat} (h : i + n <= cs.length) : w.there g i n := fun j hj => by
 refine ⟨?_, X.free he _⟩
 rw [X.cell he, List.getElem?_eq_getElem (by omega)]; rfl
theorem m_storeN (A B : List Ent) {g : Nat} {cs : List Value} {t : TypeId} (hw : Region.wanted o (yielded ops a.tmps) = true) (T : TypeId) (x y : Operand) (ho : o.op = .store T x y) {i : Nat} (hx : a.eval x = .pointer (some ⟨g, i, none⟩)) {n : Nat} [hT : AggT P T n]
    {vs : List Value} (hy : a.eval y = .agg vs.toArray) (X : St S w0 w (A ++ ⟨g, cs, t⟩ :: B) R) (hn : vs.length = n) (hi : i + vs.length <= cs.length) (h1 : vs.all (·.oneCell') = true)
    (h : ∀ w', St S w0 w' (A ++ ⟨g, upd i vs cs, t⟩ :: B) R -> wpList P ops Q rest (a.put o.dst undef) w') : wpList P ops Q (o :: rest) a w :=
 BigFrame.wpList_want hw fun K hK => wp_store_mid T x y ho g i vs.toArray hx hy (X.there (cs := cs) (t := t) (by simp) (by simpa using hi)) (by rw [hT.size]; simp [hn]) (by simpa using h1) (hK _ _ (h _ (by simpa using X.wrote A B i vs hi)))
theorem run_storeOne {T : TypeId} [hT : OneT P T] {b i : Nat} {v : Value} (ht : w.there b i 1) (h1 : v.oneCell' = true) (hc : v.cells = #[v]) : (storeVar T ⟨b, i, none⟩ v).run P w = .ok () (w.setCells b i [v]) := by
 have := run_storeCells_cells (P := P) b i [v] 0 w (fun j hj => by simpa using (ht j (by simpa using hj)).1) (fun j hj => by simpa using (ht j (by simpa using hj)).2) (fun u hu => by simp at hu; subst hu; exact h1)
 have hi := hT.size
 cases hq : P.info? T with
 | none => simp [hq] at hi
 | some x =>
  have hs : x.size = 1 := by simpa [hq] using hi
  simp only [Nat.add_zero] at this
  simp [storeVar, Go.sizeOf, typeInfo, hq, hc, hs, this]
theorem m_store1 (A B : List Ent) {g : Nat} {cs : List Value} {t : TypeId} (hw : Region.wanted o (yielded ops a.tmps) = true) (T : TypeId) (x y : Operand) (ho : o.op = .store T x y) {i : Nat} (hx : a.eval x = .pointer (some ⟨g, i, none⟩)) [hT : OneT P T]
    {v : Value} (hy0 : EvR a y v) (X : St S w0 w (A ++ ⟨g, cs, t⟩ :: B) R) (hi : i < cs.length) (h1 : v.oneCell' = true) (hc : v.cells = #[v])
    (h : ∀ w', St S w0 w' (A ++ ⟨g, upd i [v] cs, t⟩ :: B) R -> wpList P ops Q rest (a.put o.dst undef) w') : wpList P ops Q (o :: rest) a w :=
 BigFrame.wpList_want hw fun K hK => by
  have hy := hy0.eval
  have ht := X.there (g := g) (cs := cs) (t := t) (i := i) (n := 1) (by simp) (by omega)
  unfold Oper.wp execOp
  simp only [ho, hx, hy, Instr.storeAt, Instr.sureAddr, Sem.run_bind, Sem.run_pure, Result.andThen_ok, run_storeOne (T := T) ht h1 hc]
  exact hK _ _ (h _ (by simpa using X.wrote A B i [v] (show i + 1 <= cs.length from hi)))
theorem m_alloc (hw : Region.wanted o (yielded ops a.tmps) = true) (T : TypeId) (ho : o.op = .alloc T) {cs : List Value} [hT : ZeroT P T cs] (X : St S w0 w L R)
    (h : ∀ g w', St S w0 w' (⟨g, cs, T⟩ :: L) R -> wpList P ops Q rest (a.put o.dst (.pointer (some ⟨g, 0, none⟩))) w') : wpList P ops Q (o :: rest) a w :=
 BigFrame.wpList_want hw fun K hK => by
  have hz := hT.zero
  cases hq : P.info? T with
  | none => simp [hq] at hz
  | some x =>
   cases hs : x.zero with
   | none => simp [hq, hs] at hz
   | some z =>
    have hc : z.cells = cs.toArray := by simpa [hq, hs] using hz
    unfold Oper.wp execOp
    simp only [ho, Instr.alloc, zeroValue, typeInfo, newVar, newRow, newObj, Sem.run_bind, Sem.run_pure, Result.andThen_ok]
    simp [hq, hs, hc]
    exact hK _ _ (h _ _ (X.alloc cs T))
theorem m_box (hw : Region.wanted o (yielded ops a.tmps) = true) (T : TypeId) (x : Operand) (ho : o.op = .box T x) {v : Value} (hx0 : EvR a x v) {cs : List Value} (hc : v.cells = cs.toArray) (X : St S w0 w L R)
    (h : ∀ g w', St S w0 w' (⟨g, cs, T⟩ :: L) R -> wpList P ops Q rest (a.put o.dst (.pointer (some ⟨g, 0, none⟩))) w') : wpList P ops Q (o :: rest) a w :=
 BigFrame.wpList_want hw fun K hK => by
  have hx := hx0.eval
  unfold Oper.wp execOp
  simp only [ho, hx, hc, Instr.box, newVar, newRow, newObj, Sem.run_bind, Sem.run_pure, Result.andThen_ok]
  exact hK _ _ (h _ _ (X.alloc cs T))
theorem St.whole (X : St S w0 w L R) {T : TypeId} {n : Nat} [hT : AggT P T n] {g : Nat} {cs : List Value} {t : TypeId} (he : ⟨g, cs, t⟩ ∈ L) (hn : cs.length = n) : (loadVar T ⟨g, 0, none⟩).run P w = .ok (.agg cs.toArray) w := by
 obtain ⟨⟨d, hu, hd⟩, hs⟩ := hT
 exact run_loadVar_mid w g 0 T cs d (fun j v hj => by rw [Nat.zero_add, X.cell he]; exact hj) hu hd (by rw [hs, hn])
theorem m_ret1 {fn : Func} {F : Ending -> World -> Prop} {p : Tmp} {T : TypeId} (hr : fn.results = #[.cell p T]) {g : Nat} (hp : EvR a (.tmp p) (.pointer (some ⟨g, 0, none⟩))) {n : Nat} [hT : AggT P T n] (X : St S w0 w L R)
    {cs : List Value} {t : TypeId} (he : ⟨g, cs, t⟩ ∈ L) (hn : cs.length = n) (hd : a.defers = []) (h : F (.returned (.agg cs.toArray)) w) : bodyPost P fn F .ret a w := by
 have hp' : a.tmps[p]?.getD undef = .pointer (some ⟨g, 0, none⟩) := by have := hp.eval; simpa [Act.eval] using this
 refine bodyPost_ret (v := .agg cs.toArray) ?_ hd h
 simp [results, hr, hp', asAddr, X.whole (T := T) he hn]
theorem m_ret2 {fn : Func} {F : Ending -> World -> Prop} {p q : Tmp} {T : TypeId} (hr : fn.results = #[.cell p T, .tmp q]) {g : Nat} (hp : EvR a (.tmp p) (.pointer (some ⟨g, 0, none⟩))) {v : Value} (hq : EvR a (.tmp q) v) {n : Nat} [hT : AggT P T n] (X : St S w0 w L R)
    {cs : List Value} {t : TypeId} (he : ⟨g, cs, t⟩ ∈ L) (hn : cs.length = n) (hd : a.defers = []) (h : F (.returned (.tuple #[.agg cs.toArray, v])) w) : bodyPost P fn F .ret a w := by
 have hp' : a.tmps[p]?.getD undef = .pointer (some ⟨g, 0, none⟩) := by have := hp.eval; simpa [Act.eval] using this
 have hq' : a.tmps[q]?.getD undef = v := by have := hq.eval; simpa [Act.eval] using this
 refine bodyPost_ret (v := .tuple #[.agg cs.toArray, v]) ?_ hd h
 simp [results, hr, hp', hq', asAddr, X.whole (T := T) he hn]
theorem m_ret3 {fn : Func} {F : Ending -> World -> Prop} {p q r : Tmp} {T : TypeId} (hr : fn.results = #[.cell p T, .tmp q, .tmp r]) {g : Nat} (hp : EvR a (.tmp p) (.pointer (some ⟨g, 0, none⟩))) {v u : Value} (hq : EvR a (.tmp q) v) (hu : EvR a (.tmp r) u) {n : Nat} [hT : AggT P T n] (X : St S w0 w L R)
    {cs : List Value} {t : TypeId} (he : ⟨g, cs, t⟩ ∈ L) (hn : cs.length = n) (hd : a.defers = []) (h : F (.returned (.tuple #[.agg cs.toArray, v, u])) w) : bodyPost P fn F .ret a w := by
 have hp' : a.tmps[p]?.getD undef = .pointer (some ⟨g, 0, none⟩) := by have := hp.eval; simpa [Act.eval] using this
 have hq' : a.tmps[q]?.getD undef = v := by have := hq.eval; simpa [Act.eval] using this
 have hu' : a.tmps[r]?.getD undef = u := by have := hu.eval; simpa [Act.eval] using this
 refine bodyPost_ret (v := .tuple #[.agg cs.toArray, v, u]) ?_ hd h
 simp [results, hr, hp', hq', hu', asAddr, X.whole (T := T) he hn]
end
theorem zA {α : Type} (l : List α) (i : Nat) (a : α) : l.toArray.setIfInBounds i a = (l.set i a).toArray := by simp
theorem zB {α : Type} (x a : α) (l : List α) (i : Nat) : (x :: l).set (i + 1) a = x :: l.set i a := rfl
theorem zC {α : Type} (x a : α) (l : List α) : (x :: l).set 0 a = a :: l := rfl
theorem zD {α : Type} (x : α) (l : List α) (i : Nat) : (x :: l).drop (i + 1) = l.drop i := rfl
theorem zE {α : Type} (l : List α) : l.drop 0 = l := rfl
theorem zF {α : Type} (x : α) (l : List α) (i : Nat) : (x :: l).take (i + 1) = x :: l.take i := rfl
theorem zG {α : Type} (l : List α) : l.take 0 = [] := rfl
theorem Zfl {A : Prop} (h : A := by repeat (first | exact .head _ | apply List.Mem.tail)) : A := h
theorem Zev {A : Prop} (h : A := by first | exact EvR.const _ | exact EvR.tmp rfl rfl) : A := h
end Wb
