/- The walk of disk.Read. The walk of the reader's next. The walk of the reader's one. What a log tells, by the reference's road. No program in sight. The walk of goods. What a log tells when more is written into it. No program in sight. Steps upon a disk, and what a crash may leave of them. No program in sight. What a crash may leave of a transaction on its way into the log. No program in sight. -/
import Derived.Test.YtjhmfljlclajnacDoorKRecoverTwice3
import Derived.Test.YtjhmfljlclajnacDoorKRecoverTwice2
import Derived.Test.YtjhmfljlclajnacDoorKRecoverTwice4
import Derived.Test.YtjhmfljlclajnacDoorRegCall
import Derived.Deep.QuietTactic
import Derived.Test.YtjhmfljlclajnacDoorDecA
import Derived.Deep.LoopGhost
import Derived.Test.YtjhmfljlclajnacDoorKRecoverTwice1
set_option linter.unusedVariables false
set_option linter.unusedSimpArgs false
namespace Go.Proofs.YtjhmfljlclajnacDoor
open Go.RowKit Wb
set_option linter.unusedVariables false
set_option linter.unusedSimpArgs false
set_option maxRecDepth 100000
set_option maxHeartbeats 4000000

theorem disk_Read (d : Dsk) (n : Int) (v : Value) (w : World) (hd : RDisk w v d) :
    Calls Tryd.prog 15 #[v, .int .i64 n] w fun e w' => e = .returned (.tuple #[.string (readD d n), .int .i64 (readE d n)]) ∧ Below w.heap.size w w' := by
  have hG := fun w (hh : RDisk w v d) => disk_Good d v w hh
  have hA := fun w => disk_at n w
  have hd2 := hd
  obtain ⟨vs, vw, rfl, hs, hw, n1, n2⟩ := hd
  obtain ⟨a, cap, rfl, _⟩ := hs.form
  obtain ⟨b, bcap, rfl, _⟩ := hw.form
  replace hd2 := hid hd2
  by_cases hg : goodD d = true
  · rw [hg] at hG
    by_cases ha : isAt n = true
    · rw [ha] at hA
      have hr : readD d n = lastT (safeAt d n) n (d.writes.take d.writes.length) := by unfold readD; rw [if_pos ⟨hg, ha⟩, List.take_length]
      have he : readE d n = 0 := by unfold readE; rw [if_pos ⟨hg, ha⟩]
      rw [he]
      obtain ⟨g1, g2, _, _⟩ := (goodD_iff d).1 hg
      obtain ⟨h0, h1⟩ : 0 ≤ n ∧ n < 37 := of_decide_eq_true ha
      obtain ⟨m, rfl⟩ : ∃ m : Nat, n = m := ⟨n.toNat, by omega⟩
      have hm : m < d.safe.length := by omega
      have hsf : safeAt d m = d.safe[m] := by simp [safeAt, hm]
      rw [hsf] at hr
      clear hg ha he hsf
      generalize readD d m = r at *
      obtain ⟨safe, writes⟩ := d
      dsimp only at *
      have hlast := fun (k : Nat) (hk : k < writes.length) => lastT_hit safe[m] m hk
      have hmiss := fun (k : Nat) (hk : k < writes.length) => lastT_miss safe[m] m hk
      have hl0 := lastT_nil safe[m] m
      have hm3 : m < safe.length := hm
      replace hs := hid hs
      replace hw := hid hw
      replace hG := hid hG
      replace hA := hid hA
      replace hr := hid hr
      replace g1 := hid g1
      replace hlast := hid hlast
      replace hmiss := hid hmiss
      replace hl0 := hid hl0
      replace hm3 := hid hm3
      go_enter Tryd.func15, Tryd.ntmps15
      go_wp2_with (first
        | (go_at_call 20; refine (hG.out _ (hd2.out.below (by repeat (first | exact Below.refl _ _ | with_reducible assumption | (refine allocB ?_ (by first | omega | (simp; done) | (simp; omega)) _) | (refine Below.setCell ?_ (by first | omega | (simp; done) | (simp; omega)) _) | refine Below.drew ?_ | (refine Below.trans ?_ (Below.mono (by with_reducible assumption) (by first | omega | (simp; done) | (simp; omega)))))))).mono ?_; rintro e w1 ⟨rfl, hb1⟩; obtain ⟨hbc, hbf⟩ := bcell hb1; have hbz := hb1.size; try simp only [World.size_alloc, World.size_setCell, World.size_drew] at hbz; have hz0 := Nat.lt_of_lt_of_le (n := w.heap.size) (by omega) hbz)
        | (go_at_call 29; refine (hA.out _).mono ?_; rintro e w2 ⟨rfl, rfl⟩))
      have kb : Blk w1 w.heap.size #[.slice a safe.length cap, .slice b writes.length bcap] 25 := (Blk.new w _ _).step hb1
      have hnx : Below w.heap.size w w1 := by repeat (first | exact Below.refl _ _ | with_reducible assumption | (refine allocB ?_ (by first | omega | (simp; done) | (simp; omega)) _) | (refine Below.setCell ?_ (by first | omega | (simp; done) | (simp; omega)) _) | refine Below.drew ?_ | (refine Below.trans ?_ (Below.mono (by with_reducible assumption) (by first | omega | (simp; done) | (simp; omega)))))
      clear hb1 hbc hbf
      have lt0 := kb.lt
      have c0 := kb.cell 0
      have c1 := kb.cell 1
      simp only [List.getElem?_toArray, List.getElem?_cons_zero, List.getElem?_cons_succ] at c0 c1
      go_loop [6] (fun i => ∃ k : Nat, k ≤ writes.length ∧ i = .int .i64 ((k : Int) - 1) ∧ Hid (r = lastT safe[m] m (writes.take k))) (fun i => (intOf i + 1).toNat)
      case atStart => exact ⟨writes.length, Nat.le_refl _, rfl, hr.out⟩
      case round =>
        obtain ⟨k, hk, rfl, hrk⟩ := hrel
        rcases Nat.eq_zero_or_pos k with hk0 | hk0
        · subst hk0
          obtain ⟨b2, off, rfl, d0⟩ := RL.at1 (fun x => .string x) (fun _ => rfl) (hs.out.below hnx) hm3.out
          have hrs : r = safe[m] := by rw [hrk.out, List.take_zero]; exact hl0.out
          replace hrs := hid hrs
          clear hrk
          generalize safe[m] = sm at *
          go_wp2
          go_ret2
          exact ⟨ret_st hrs.out.symm, hnx⟩
        · obtain ⟨j, rfl⟩ : ∃ j, k = j + 1 := ⟨k - 1, by omega⟩
          have hj : j < writes.length := by omega
          obtain ⟨b2, off, rfl, d0, d1⟩ := RL.at2 (fun x => .int .i64 x.at_) (fun x => .string x.text) (fun _ => rfl) (hw.out.below hnx) hj
          by_cases heq : writes[j].at_ = m
          · have hrs : r = writes[j].text := by rw [hrk.out]; exact hlast.out j hj heq
            replace hrs := hid hrs
            have e1 : (writes[j].at_ == (m : Int)) = true := beq_iff_eq.2 heq
            clear hrk heq
            generalize writes[j] = x at *
            go_wp2
            go_ret2
            exact ⟨ret_st hrs.out.symm, hnx⟩
          · have hrs : r = lastT safe[m] m (writes.take j) := by rw [hrk.out]; exact hmiss.out j hj heq
            replace hrs := hid hrs
            have e1 : (writes[j].at_ == (m : Int)) = false := beq_eq_false_iff_ne.2 heq
            clear hrk heq
            generalize writes[j] = x at *
            go_wp2
            go_round
            case rel => exact ⟨j, by omega, by go_num, hrs⟩
            case measure => simp [intOf]
    · have hr : readD d n = ⟨#[]⟩ := by unfold readD; rw [if_neg (fun hh => ha hh.2)]
      have he : readE d n = 2 := by unfold readE; rw [if_neg (fun hh => ha hh.2)]
      rw [hr, he]
      rw [Bool.not_eq_true _ |>.mp ha] at hA
      clear hs hw ha hg hr he
      replace hG := hid hG
      replace hA := hid hA
      go_enter Tryd.func15, Tryd.ntmps15
      go_wp2_with (first
        | (go_at_call 20; refine (hG.out _ (hd2.out.below (by repeat (first | exact Below.refl _ _ | with_reducible assumption | (refine allocB ?_ (by first | omega | (simp; done) | (simp; omega)) _) | (refine Below.setCell ?_ (by first | omega | (simp; done) | (simp; omega)) _) | refine Below.drew ?_ | (refine Below.trans ?_ (Below.mono (by with_reducible assumption) (by first | omega | (simp; done) | (simp; omega)))))))).mono ?_; rintro e w1 ⟨rfl, hb1⟩; obtain ⟨hbc, hbf⟩ := bcell hb1; have hbz := hb1.size; try simp only [World.size_alloc, World.size_setCell, World.size_drew] at hbz; have hz0 := Nat.lt_of_lt_of_le (n := w.heap.size) (by omega) hbz)
        | (go_at_call 29; refine (hA.out _).mono ?_; rintro e w2 ⟨rfl, rfl⟩))
      go_ret2
      exact ⟨rfl, by repeat (first | exact Below.refl _ _ | with_reducible assumption | (refine allocB ?_ (by first | omega | (simp; done) | (simp; omega)) _) | (refine Below.setCell ?_ (by first | omega | (simp; done) | (simp; omega)) _) | refine Below.drew ?_ | (refine Below.trans ?_ (Below.mono (by with_reducible assumption) (by first | omega | (simp; done) | (simp; omega)))))⟩
  · have hr : readD d n = ⟨#[]⟩ := by unfold readD; rw [if_neg (fun hh => hg hh.1)]
    have he : readE d n = 2 := by unfold readE; rw [if_neg (fun hh => hg hh.1)]
    rw [hr, he]
    rw [Bool.not_eq_true _ |>.mp hg] at hG
    clear hs hw hg hr he
    replace hG := hid hG
    go_enter Tryd.func15, Tryd.ntmps15
    go_wp2_with (go_at_call 20; refine (hG.out _ (hd2.out.below (by repeat (first | exact Below.refl _ _ | with_reducible assumption | (refine allocB ?_ (by first | omega | (simp; done) | (simp; omega)) _) | (refine Below.setCell ?_ (by first | omega | (simp; done) | (simp; omega)) _) | refine Below.drew ?_ | (refine Below.trans ?_ (Below.mono (by with_reducible assumption) (by first | omega | (simp; done) | (simp; omega)))))))).mono ?_; rintro e w1 ⟨rfl, hb1⟩; obtain ⟨hbc, hbf⟩ := bcell hb1; have hbz := hb1.size; try simp only [World.size_alloc, World.size_setCell, World.size_drew] at hbz; have hz0 := Nat.lt_of_lt_of_le (n := w.heap.size) (by omega) hbz)
    go_ret2
    exact ⟨rfl, by repeat (first | exact Below.refl _ _ | with_reducible assumption | (refine allocB ?_ (by first | omega | (simp; done) | (simp; omega)) _) | (refine Below.setCell ?_ (by first | omega | (simp; done) | (simp; omega)) _) | refine Below.drew ?_ | (refine Below.trans ?_ (Below.mono (by with_reducible assumption) (by first | omega | (simp; done) | (simp; omega)))))⟩
end Go.Proofs.YtjhmfljlclajnacDoor

namespace Wb
open Go Go.RowKit
theorem gB {w w' : World} (h : Below w.heap.size w w') (row : Option Nat) : w.grownBy w' row := ⟨h.os, h.tape, h.output, h.size, fun k hk _ => h.block k hk⟩
theorem gSet {w w' : World} {b : Nat} (h : w.grownBy w' (some b)) (i : Nat) (v : Value) : w.grownBy (w'.setCell ⟨b, i, none⟩ v) (some b) :=
  ⟨h.os, h.tape, h.output, by simpa using h.size, fun k hk hne => by rw [Below.heap_setCell w' ⟨b, i, none⟩ v k (fun hh => hne (by rw [hh]))]; exact h.block k hk hne⟩
theorem gBelow {B b : Nat} {W w w' : World} (h : w.grownBy w' (some b)) (hw : Below B W w) (hs : B ≤ w.heap.size) (hb : B ≤ b) : Below B W w' :=
  hw.grown h hs (fun k hk => by cases hk; exact hb)
theorem gTrans {w w1 w2 : World} {row : Option Nat} (h : w.grownBy w1 row) (h2 : w1.grownBy w2 row) : w.grownBy w2 row :=
  ⟨h2.os.trans h.os, h2.tape.trans h.tape, h2.output.trans h.output, Nat.le_trans h.size h2.size, fun k hk hne => (h2.block k (Nat.lt_of_lt_of_le hk h.size) hne).trans (h.block k hk hne)⟩
end Wb
namespace Go.Proofs.YtjhmfljlclajnacDoor
open Go.RowKit Wb
set_option linter.unusedVariables false
set_option linter.unusedSimpArgs false
set_option maxRecDepth 100000
set_option maxHeartbeats 2000000

theorem scan_next0 (br : Nat) (vs vw : Value) (a : Int) (w : World) (k : Blk w br #[vs, vw, .int .i64 a, .int .i64 0] 74) :
    Calls Tryd.prog 42 #[.pointer (some ⟨br, 0, none⟩)] w fun e w' => e = .returned (.tuple #[.string ⟨#[]⟩, .bool false]) ∧ w = w' := by
  have c3 := k.cell 3
  simp only [List.getElem?_toArray, List.getElem?_cons_zero, List.getElem?_cons_succ] at c3
  go_enter Tryd.func42, Tryd.ntmps42
  go_wp2
  go_ret2
  exact ⟨rfl, rfl⟩

theorem scan_next1 (d : Dsk) (br : Nat) (vs vw : Value) (a lf : Int) (w : World) (hd : RDisk w (.agg #[vs, vw]) d) (k : Blk w br #[vs, vw, .int .i64 a, .int .i64 lf] 74)
    (a0 : 0 ≤ a) (a1 : a < 24) (l0 : 0 < lf) (l1 : lf ≤ 24) :
    Calls Tryd.prog 42 #[.pointer (some ⟨br, 0, none⟩)] w fun e w' => e = .returned (.tuple #[.string (readD d (1 + a)), .bool true]) ∧ Blk w' br #[vs, vw, .int .i64 ((a + 1) % 24), .int .i64 (lf - 1)] 74 ∧ w.grownBy w' (some br) := by
  have hR := fun w (hh : RDisk w (.agg #[vs, vw]) d) => disk_Read d (1 + a) _ w hh
  have c0 := k.cell 0; have c1 := k.cell 1; have c2 := k.cell 2; have c3 := k.cell 3
  simp only [List.getElem?_toArray, List.getElem?_cons_zero, List.getElem?_cons_succ] at c0 c1 c2 c3
  have hlf : (lf == 0) = false := beq_eq_false_iff_ne.2 (by omega)
  have lt := k.lt
  obtain ⟨vs', vw', hv, hs, hw, n1, n2⟩ := hd
  have hd : RDisk w (.agg #[vs, vw]) d := ⟨vs', vw', hv, hs, hw, n1, n2⟩
  simp only [Value.agg.injEq, Array.mk.injEq, List.cons.injEq, and_true] at hv
  obtain ⟨rfl, rfl⟩ := hv
  obtain ⟨as_, cs, rfl, _⟩ := hs.form
  obtain ⟨aw, cw, rfl, _⟩ := hw.form
  clear hs hw
  generalize readD d (1 + a) = s at *
  generalize readE d (1 + a) = e at *
  have ha : IntKind.i64.wrap (1 + a) = 1 + a := IntWalk.i64_in _ (by omega)
  replace hR := hid hR; replace hd := hid hd
  go_enter Tryd.func42, Tryd.ntmps42
  go_wp2
  (refine wp_region_below (by kernel_rfl) (by kernel_rfl) ?_); (repeat (go_big_quiet_step ((first | (go_at_call 15; exact BW.call (hR.out _ (hd.out.below (BW.below _)))))) )); refine wpQuiet_nil ?_; intro wq hw'; obtain ⟨⟨_, hb1⟩, rfl⟩ := hw'
  have k' := k.step hb1
  have c2' := k'.cell 2; have c3' := k'.cell 3
  have f2 := k'.free 2; have f3 := k'.free 3
  have lt' := k'.lt
  simp only [List.getElem?_toArray, List.getElem?_cons_zero, List.getElem?_cons_succ] at c2' c3'
  have g := gSet (gSet (gB hb1 (some br)) 2 (.int .i64 ((a + 1) % 24))) 3 (.int .i64 (lf - 1))
  have k2 := (k'.set 2 (.int .i64 ((a + 1) % 24))).set 3 (.int .i64 (lf - 1))
  replace g := hid g; replace k2 := hid k2
  clear c0 c1 c2 c3 k
  go_wp2
  go_ret2
  exact ⟨rfl, k2.out, g.out⟩
end Go.Proofs.YtjhmfljlclajnacDoor

namespace Wb
open Go Go.RowKit
/-- The reader's cells, n blocks ahead of the end. -/
def rdrC (vs vw : Value) (A : Int) (n : Nat) : Array Value := #[vs, vw, .int .i64 ((A + (24 - (n : Int))) % 24), .int .i64 (n : Int)]
theorem Own.grownBlk {α : Type} {f : α → List Value} {base : Nat} {e : TypeId} {c : Nat} {w w' : World} {v : Value} {l : List α} (h : Own f base e c w v l) {b : Nat} {cs : Array Value} {t : TypeId} (hb : Blk w b cs t) (hne : e ≠ t) (hg : w.grownBy w' (some b)) : Own f base e c w' v l := by
  refine h.grown hg ?_
  cases hv : v.ownBlock with
  | none => exact .inl rfl
  | some g =>
    refine .inr fun hh => ?_
    obtain ⟨c1, h1⟩ := h.cellsOf hv
    cases hh
    unfold Blk at hb
    rw [h1] at hb
    simp only [Option.some.injEq, Obj.cells.injEq] at hb
    exact hne hb.2.1
end Wb
namespace Go.Proofs.YtjhmfljlclajnacDoor
open Go.RowKit Wb
set_option linter.unusedVariables false
set_option linter.unusedSimpArgs false
set_option maxRecDepth 100000
set_option maxHeartbeats 8000000

theorem next_nil (br : Nat) (vs vw : Value) (A : Int) (w : World) (k : Blk w br (rdrC vs vw A 0) 74) :
    Calls Tryd.prog 42 #[.pointer (some ⟨br, 0, none⟩)] w fun e w' => e = .returned (.tuple #[.string ⟨#[]⟩, .bool false]) ∧ w = w' := scan_next0 br vs vw _ w k
theorem next_cons (d : Dsk) (br : Nat) (vs vw : Value) (A : Int) (s : ByteArray) (r : List ByteArray) (w : World) (hd : RDisk w (.agg #[vs, vw]) d) (k : Blk w br (rdrC vs vw A (r.length + 1)) 74) (hs : sfx d A (s :: r)) :
    Calls Tryd.prog 42 #[.pointer (some ⟨br, 0, none⟩)] w fun e w' => e = .returned (.tuple #[.string s, .bool true]) ∧ Blk w' br (rdrC vs vw A r.length) 74 ∧ w.grownBy w' (some br) := by
  obtain ⟨h1, h2, h3⟩ := sfx_cons hs
  have := scan_next1 d br vs vw ((A + (24 - ((r.length + 1 : Nat) : Int))) % 24) ((r.length + 1 : Nat) : Int) w hd k (Int.emod_nonneg _ (by decide)) (Int.emod_lt_of_pos _ (by decide)) (by omega) (by omega)
  rw [h2] at this
  have e1 : ((A + (24 - ((r.length + 1 : Nat) : Int))) % 24 + 1) % 24 = (A + (24 - (r.length : Int))) % 24 := by omega
  have e2 : ((r.length + 1 : Nat) : Int) - 1 = (r.length : Int) := by omega
  rw [e1, e2] at this
  exact this
end Go.Proofs.YtjhmfljlclajnacDoor

namespace Wb
open Go Go.RowKit
theorem dec_kinds {s : ByteArray} (h : decE s = 0) : 1 ≤ (decM s).kind ∧ (decM s).kind ≤ 4 ∧ ((decM s).kind ≠ 2 → (decM s).tags = []) ∧ ((decM s).kind ≠ 3 → (decM s).blocks = []) := by
  have hd : decOk s := by
    by_cases hd : decOk s
    · exact hd
    · rw [(dec_no hd).2] at h; cases h
  obtain ⟨e1, _, e2, _⟩ := dec_yes hd
  rw [e1]
  generalize rawM s = m at *
  have k1 : ¬ badKind m := fun hh => by rw [markE_kind hh] at e2; cases e2
  have k2 : ¬ badNum m := fun hh => by rw [markE_num k1 hh] at e2; cases e2
  have k3 : ¬ badForm m := fun hh => by rw [markE_form k1 k2 hh] at e2; cases e2
  unfold badKind at k1
  unfold badForm at k3
  refine ⟨by omega, by omega, fun hh => List.length_eq_zero_iff.1 (by omega), fun hh => List.length_eq_zero_iff.1 (by omega)⟩
theorem parse_ref {seq : Int} {n : Nat} {s : ByteArray} {r : List ByteArray} {t : Txn} (h : decE s = 0) (hq : (decM s).seq = seq) (h1 : (decM s).kind ≠ 1) (h4 : (decM s).kind ≠ 4) :
    parseT seq (n + 1) (s :: r) t = match takeTags (decM s).tags r t.mt with
      | some (mt, r') => parseT seq n r' { t with rev := t.rev ++ (decM s).blocks, mt := mt }
      | none => none := by
  obtain ⟨k1, k2, k3, k5⟩ := dec_kinds h
  have e : parseT seq (n + 1) (s :: r) t = if decE s = 0 ∧ (decM s).seq = seq then
      if (decM s).kind = 4 then some (t, r)
      else if (decM s).kind = 3 then parseT seq n r { t with rev := t.rev ++ (decM s).blocks }
      else if (decM s).kind = 2 then
        match takeTags (decM s).tags r t.mt with
        | some (mt, r') => parseT seq n r' { t with mt := mt }
        | none => none
      else none
    else none := rfl
  rw [e, if_pos ⟨h, hq⟩, if_neg h4]
  by_cases h3 : (decM s).kind = 3
  · rw [if_pos h3, k3 (by omega)]
    rfl
  · have h2 : (decM s).kind = 2 := by omega
    rw [if_neg h3, if_pos h2, k5 h3]
    simp only [List.append_nil]
theorem parse_end {seq : Int} {n : Nat} {s : ByteArray} {r : List ByteArray} {t : Txn} (h : decE s = 0) (hq : (decM s).seq = seq) (h4 : (decM s).kind = 4) : parseT seq (n + 1) (s :: r) t = some (t, r) := by
  have e : parseT seq (n + 1) (s :: r) t = if decE s = 0 ∧ (decM s).seq = seq then
      if (decM s).kind = 4 then some (t, r)
      else if (decM s).kind = 3 then parseT seq n r { t with rev := t.rev ++ (decM s).blocks }
      else if (decM s).kind = 2 then
        match takeTags (decM s).tags r t.mt with
        | some (mt, r') => parseT seq n r' { t with mt := mt }
        | none => none
      else none
    else none := rfl
  rw [e, if_pos ⟨h, hq⟩, if_pos h4]
theorem parse_bad {seq : Int} {n : Nat} {s : ByteArray} {r : List ByteArray} {t : Txn} (h : ¬ (decE s = 0 ∧ (decM s).seq = seq ∧ (decM s).kind ≠ 1)) : parseT seq (n + 1) (s :: r) t = none := by
  have e : parseT seq (n + 1) (s :: r) t = if decE s = 0 ∧ (decM s).seq = seq then
      if (decM s).kind = 4 then some (t, r)
      else if (decM s).kind = 3 then parseT seq n r { t with rev := t.rev ++ (decM s).blocks }
      else if (decM s).kind = 2 then
        match takeTags (decM s).tags r t.mt with
        | some (mt, r') => parseT seq n r' { t with mt := mt }
        | none => none
      else none
    else none := rfl
  rw [e]
  by_cases hc : decE s = 0 ∧ (decM s).seq = seq
  · have h1 : (decM s).kind = 1 := by
      by_cases h1 : (decM s).kind = 1
      · exact h1
      · exact absurd ⟨hc.1, hc.2, h1⟩ h
    rw [if_pos hc, if_neg (by omega), if_neg (by omega), if_neg (by omega)]
  · rw [if_neg hc]
/-- What is found, as it is read. -/
def RFnd (w : World) (v : Value) (F : Fnd) : Prop := ∃ vt, v = .agg #[vt, .int .i64 F.next, .int .i64 F.at_] ∧ RTxns w vt F.txns
theorem RFnd.below {w w' : World} {v : Value} {F : Fnd} (h : RFnd w v F) (hb : Below w.heap.size w w') : RFnd w' v F := by
  obtain ⟨vt, hv, hr⟩ := h
  exact ⟨vt, hv, hr.below hb⟩
/-- A part of a slice from an element on. -/
theorem RL.drop {α : Type} {f : α → List Value} {c : Nat} (hf : ∀ x, (f x).length = c) {w : World} {b off n cap : Nat} {l : List α} (h : RL f w (.slice (some ⟨b, off, none⟩) n cap) l) {k : Nat} (hk : k ≤ l.length) :
    RL f w (.slice (some ⟨b, off + k * c, none⟩) (n - k) (cap - k)) (l.drop k) := by
  obtain ⟨a, cap', hv, h1, h2, h3⟩ := h
  simp only [Value.slice.injEq] at hv
  obtain ⟨rfl, rfl, rfl⟩ := hv
  refine ⟨some ⟨b, off + k * c, none⟩, cap - k, by rw [List.length_drop], by rw [List.length_drop]; omega, by omega, ?_⟩
  rcases h3 with h3 | ⟨b', off', ha, hc⟩
  · left
    cases hl : l.drop k with
    | nil => rfl
    | cons x r =>
      have : l.flatMap f = (l.take k).flatMap f ++ (l.drop k).flatMap f := by rw [← List.flatMap_append, List.take_append_drop]
      rw [h3, hl] at this
      simp only [List.nil_eq, List.append_eq_nil_iff] at this
      exact this.2
  · right
    simp only [Option.some.injEq, Addr.mk.injEq, and_true] at ha
    obtain ⟨rfl, rfl⟩ := ha
    refine ⟨b, off + k * c, rfl, fun j u hj => ?_⟩
    have : l.flatMap f = (l.take k).flatMap f ++ (l.drop k).flatMap f := by rw [← List.flatMap_append, List.take_append_drop]
    have hl := flat_len hf (l.take k)
    rw [List.length_take, Nat.min_eq_left hk] at hl
    have h5 := hc (k * c + j) u (by rw [this, List.getElem?_append_right (by omega), hl, Nat.add_sub_cancel_left]; exact hj)
    rw [← Nat.add_assoc] at h5
    exact h5
end Wb

namespace Go.Proofs.YtjhmfljlclajnacDoor
open Go.RowKit Wb
set_option linter.unusedVariables false
set_option linter.unusedSimpArgs false
set_option maxRecDepth 100000
set_option maxHeartbeats 8000000
theorem _root_.Wb.St.gsB {S : List Nat} {w0 w : World} {a : Nat} {ca : List Value} {ta : TypeId} {L : List Ent} {R : List Rd} (_ : St S w0 w (⟨a, ca, ta⟩ :: L) R) : ∃ x, x = a := ⟨_, rfl⟩
theorem keep_goods (F : Fnd) (v : Value) (w0 : World) (hF : RFnd w0 v F) :
    Calls Tryd.prog 8 #[v] w0 fun e w' => e = .returned (.bool (F.txns.all goodT)) ∧ Below w0.heap.size w0 w' := by
  obtain ⟨vt, rfl, hT⟩ := hF
  obtain ⟨l, nx, at_⟩ := F
  dsimp only at *
  obtain ⟨a, cap, rfl, hl⟩ := hT.form
  have hG := fun t v w' (hh : RTxn w' v t) => txn_Good t v w' hh
  have hall : (∀ t ∈ l, goodT t = true) → l.all goodT = true := fun h => List.all_eq_true.2 h
  have hnot : ∀ k (hk : k < l.length), goodT l[k] = false → l.all goodT = false := fun k hk h => by
    rw [List.all_eq_false]; exact ⟨l[k], List.getElem_mem hk, by simp [h]⟩
  generalize l.all goodT = ans at *
  have X : St [] w0 w0 [] [] := St.start [] w0
  replace hG := hid hG; replace hT := hid hT; replace hall := hid hall; replace hnot := hid hnot
  go_enter Tryd.func8, Tryd.ntmps8
  go_wp2_with (first
    | (refine at_mem rfl ?_; (first | (refine at_load rfl ?_; (first | (refine c_load1 rfl _ _ rfl rfl X (by repeat (first | exact ReadA.here rfl | apply ReadA.there)) ?_) | (refine c_loadN rfl _ _ rfl rfl X (by repeat (first | exact ReadB.here (Nat.le_of_ble_eq_true rfl) | apply ReadB.there)) ?_))) | (refine at_store rfl ?_; (first | (refine c_store1 rfl _ _ _ rfl rfl (by first | exact EvR.const _ | exact EvR.tmp rfl rfl) X rfl rfl (by repeat (first | exact PutA.here (Nat.le_of_ble_eq_true rfl) | apply PutA.there)) ?_; intro w X2; (try simp only [upd] at X2); replace X := X2; clear X2) | (refine c_storeN rfl _ _ _ rfl rfl rfl X rfl rfl (by repeat (first | exact PutA.here (Nat.le_of_ble_eq_true rfl) | apply PutA.there)) ?_; intro w X2; (try simp only [upd] at X2); replace X := X2; clear X2))) | (refine m_alloc rfl _ rfl X ?_; intro g w X2; (replace X := X2; clear X2)) | (refine m_box rfl _ _ rfl (by first | exact EvR.const _ | exact EvR.tmp rfl rfl) rfl X ?_; intro g w X2; (replace X := X2; clear X2))); (simp only [Act.put, List.setIfInBounds_toArray, List.set_cons_succ, List.set_cons_zero, List.drop_succ_cons, List.drop_zero, List.take_succ_cons, List.take_zero, Nat.reduceAdd])))
  obtain ⟨g1, rfl⟩ := X.gsB
  go_loopw [8] (fun i wr => ∃ k : Nat, k ≤ l.length ∧ i = .int .i64 k ∧ Hid (∀ t ∈ l.take k, goodT t = true) ∧ St [] w0 wr [⟨g1, [.slice a l.length cap, .int .i64 nx, .int .i64 at_], 31⟩] []) (fun i _ => l.length - (intOf i).toNat)
  case atStart => exact ⟨0, Nat.zero_le _, rfl, hid (by simp), X⟩
  case round =>
    clear X
    obtain ⟨k, hk, rfl, hgk, X⟩ := hrel
    by_cases hlt : k < l.length
    · obtain ⟨bb, off, vm, vd, vr, hbb, hrt, c0, c1, c2, c3, c4, c5, c6, c7, c8, c9⟩ := (hT.out.below X.below).at hlt
      cases hbb
      have hcg := fun w' (hb : RTxn w' (txnV l[k] vm vd vr) l[k]) => hG.out l[k] _ w' hb
      have hrb := fun w' (hb : Below wr.heap.size wr w') => hrt.below hb
      obtain ⟨vm2, vd2, vr2, hvv, f1, f2, f3, _⟩ := hrt
      simp only [txnV, Value.agg.injEq, Array.mk.injEq, List.cons.injEq, and_true, true_and] at hvv
      obtain ⟨rfl, rfl, rfl⟩ := hvv
      obtain ⟨am, cm, rfl, _⟩ := f1.form
      obtain ⟨ad, cd, rfl, _⟩ := f2.form
      obtain ⟨ar, cr, rfl, _⟩ := f3.form
      have hgn : goodT l[k] = true → ∀ t ∈ l.take (k + 1), goodT t = true := fun h t ht => by
        rw [List.take_succ_eq_append_getElem hlt] at ht
        rcases List.mem_append.1 ht with ht | ht
        · exact hgk.out t ht
        · rw [List.mem_singleton.1 ht]; exact h
      have hnk := hnot.out k hlt
      have Y : St [] wr wr [] [] := St.start [] wr
      have hXY : ∀ w', Below wr.heap.size wr w' → St [] w0 w' [⟨g1, [.slice (some ⟨bb, off, none⟩) l.length cap, .int .i64 nx, .int .i64 at_], 31⟩] [] := fun w' hb => X.call hb
      clear X f1 f2 f3
      generalize goodT l[k] = gk at *
      simp only [txnV] at hcg hrb
      generalize l[k] = t at *
      have X := Y
      clear Y
      replace hcg := hid hcg; replace hrb := hid hrb; replace hgn := hid hgn; replace hXY := hid hXY
      cases gk with
      | false =>
        obtain rfl := hnk rfl
        go_wp2_with (first
          | (refine at_mem rfl ?_; (first | (refine at_load rfl ?_; (first | (refine c_load1 rfl _ _ rfl rfl X (by first | exact ReadA.here rfl | exact ReadA.there (ReadA.here rfl)) ?_) | (refine c_loadN rfl _ _ rfl rfl X (by first | exact ReadB.here (Nat.le_of_ble_eq_true rfl) | exact ReadB.there (ReadB.here (Nat.le_of_ble_eq_true rfl))) ?_))) | (refine at_store rfl ?_; (first | (refine c_store1 rfl _ _ _ rfl rfl (by first | exact EvR.const _ | exact EvR.tmp rfl rfl) X rfl rfl (by first | exact PutA.here (Nat.le_of_ble_eq_true rfl) | exact PutA.there (PutA.here (Nat.le_of_ble_eq_true rfl))) ?_; intro w X2; (try simp only [upd] at X2); replace X := X2; clear X2) | (refine c_storeN rfl _ _ _ rfl rfl rfl X rfl rfl (by first | exact PutA.here (Nat.le_of_ble_eq_true rfl) | exact PutA.there (PutA.here (Nat.le_of_ble_eq_true rfl))) ?_; intro w X2; (try simp only [upd] at X2); replace X := X2; clear X2))) | (refine m_alloc rfl _ rfl X ?_; intro g w X2; (replace X := X2; clear X2))); (simp only [Act.put, List.setIfInBounds_toArray, List.set_cons_succ, List.set_cons_zero, List.drop_succ_cons, List.drop_zero, List.take_succ_cons, List.take_zero, Nat.reduceAdd]))
          | (go_at_call 26; go_loud ((with_reducible refine (hcg.out _ (hrb.out _ X.below)).mono ?_); rintro e w1 ⟨rfl, hb1⟩; replace X := X.call hb1; clear hb1)))
        go_ret
        exact ⟨rfl, (hXY.out _ X.below).below⟩
      | true =>
        go_wp2_with (first
          | (refine at_mem rfl ?_; (first | (refine at_load rfl ?_; (first | (refine c_load1 rfl _ _ rfl rfl X (by first | exact ReadA.here rfl | exact ReadA.there (ReadA.here rfl)) ?_) | (refine c_loadN rfl _ _ rfl rfl X (by first | exact ReadB.here (Nat.le_of_ble_eq_true rfl) | exact ReadB.there (ReadB.here (Nat.le_of_ble_eq_true rfl))) ?_))) | (refine at_store rfl ?_; (first | (refine c_store1 rfl _ _ _ rfl rfl (by first | exact EvR.const _ | exact EvR.tmp rfl rfl) X rfl rfl (by first | exact PutA.here (Nat.le_of_ble_eq_true rfl) | exact PutA.there (PutA.here (Nat.le_of_ble_eq_true rfl))) ?_; intro w X2; (try simp only [upd] at X2); replace X := X2; clear X2) | (refine c_storeN rfl _ _ _ rfl rfl rfl X rfl rfl (by first | exact PutA.here (Nat.le_of_ble_eq_true rfl) | exact PutA.there (PutA.here (Nat.le_of_ble_eq_true rfl))) ?_; intro w X2; (try simp only [upd] at X2); replace X := X2; clear X2))) | (refine m_alloc rfl _ rfl X ?_; intro g w X2; (replace X := X2; clear X2))); (simp only [Act.put, List.setIfInBounds_toArray, List.set_cons_succ, List.set_cons_zero, List.drop_succ_cons, List.drop_zero, List.take_succ_cons, List.take_zero, Nat.reduceAdd]))
          | (go_at_call 26; go_loud ((with_reducible refine (hcg.out _ (hrb.out _ X.below)).mono ?_); rintro e w1 ⟨rfl, hb1⟩; replace X := X.call hb1; clear hb1)))
        go_roundw
        case rel => exact ⟨k + 1, by omega, by go_num, hid (hgn.out trivial), hXY.out _ X.below⟩
        case measure => simp [intOf]; omega
    · obtain rfl : k = l.length := by omega
      have hga : ∀ t ∈ l, goodT t = true := by have := hgk.out; rwa [List.take_length] at this
      obtain rfl := hall.out hga
      go_wp2
      go_ret
      exact ⟨rfl, X.below⟩
end Go.Proofs.YtjhmfljlclajnacDoor

set_option linter.unusedVariables false
set_option linter.unusedSimpArgs false
namespace Wb
open Go Go.RowKit
/-! ### Copies in the log -/
theorem escS_size {s : ByteArray} (h : s.size = 32) : (escS s).size = 32 := by
  unfold escS
  by_cases hc : isEsc s = true
  · rw [if_pos hc, str_size]
    simp only [List.length_append, List.length_drop, ba_len, h]
    rfl
  · rw [if_neg hc]; exact h
theorem escS_dec (s : ByteArray) : decE (escS s) = 1 := by
  refine (dec_no ?_).2
  rintro ⟨⟨_, h⟩, _⟩
  unfold escS at h
  by_cases hc : isEsc s = true
  · rw [if_pos hc] at h
    have : ([0, 0, 0, 0] : List UInt8) = magic := by simpa [str] using h
    exact absurd this (by decide)
  · rw [if_neg hc] at h
    exact hc (decide_eq_true h)
theorem escS_back (s : ByteArray) : unescS (escS s) (isEsc s) = s := by
  unfold unescS escS
  by_cases hc : isEsc s = true
  · have hx : 4 ≤ (str ([0, 0, 0, 0] ++ s.data.toList.drop 4)).size := by rw [str_size]; simp
    rw [hc, if_pos rfl, if_pos ⟨rfl, hx⟩]
    have h4 : s.data.toList.take 4 = magic := of_decide_eq_true hc
    have e : s = str s.data.toList := (str_toList s).symm
    conv => rhs; rw [e, ← List.take_append_drop 4 s.data.toList, h4]
    simp [str]
  · rw [if_neg (fun hh => hc hh.1), if_neg hc]
/-! ### Marks -/
theorem dec_mark {m : Mrk} (h : markE m = 0) : decE (markS m) = 0 ∧ decM (markS m) = m ∧ (markS m).size = 32 := by
  unfold markS
  rw [if_pos h]
  exact ⟨(dec_enc h).2.2, (dec_enc h).2.1, by rw [str_size, markL_len]⟩
theorem rise_take {l : List Int} (k : Nat) (h : rise l = true) : rise (l.take k) = true := by
  rw [rise_pw] at h ⊢
  exact ⟨h.1.sublist (List.take_sublist _ _), fun x hx => h.2 x (List.mem_of_mem_take hx)⟩
theorem rise_drop {l : List Int} (k : Nat) (h : rise l = true) : rise (l.drop k) = true := by
  rw [rise_pw] at h ⊢
  exact ⟨h.1.sublist (List.drop_sublist _ _), fun x hx => h.2 x (List.mem_of_mem_drop hx)⟩
theorem blks_take (l : List Cpy) (k : Nat) : blks (l.take k) = (blks l).take k := by simp [blks]
theorem blks_drop (l : List Cpy) (k : Nat) : blks (l.drop k) = (blks l).drop k := by simp [blks]
theorem list_kind (q : Int) (r : List Int) : (listM q r).kind = 3 := rfl
theorem com_kind (q : Int) : (comM q).kind = 4 := rfl
theorem desc_kind (q : Int) (p : List Cpy) : (descM q p).kind = 2 := rfl
theorem list_good {q : Int} {r : List Int} (hq : 1 ≤ q ∧ q ≤ 2147483647) (hr : rise r = true) (hn : r ≠ []) : markE (listM q r) = 0 := by
  have h1 := hq
  have h2 := rise_len hr
  have h3 : r.length ≠ 0 := fun h => hn (List.length_eq_zero_iff.1 h)
  refine markE_ok ?_ ?_ ?_ ?_ ?_ <;> simp only [badKind, badNum, badForm, badLen, badRise, listM, List.map_nil, List.length_nil] <;> (try omega)
  rw [hr]
  rintro (h | h)
  · exact absurd h (by decide)
  · exact absurd h (by decide)
theorem desc_good {q : Int} {p : List Cpy} (hq : 1 ≤ q ∧ q ≤ 2147483647) (hr : rise (blks p) = true) (hn : p ≠ []) (h10 : p.length ≤ 10) : markE (descM q p) = 0 := by
  have h1 := hq
  have h3 : p.length ≠ 0 := fun h => hn (List.length_eq_zero_iff.1 h)
  have e : (p.map tagC').map (·.block) = blks p := by simp [blks, tagC', Function.comp_def]
  refine markE_ok ?_ ?_ ?_ ?_ ?_ <;> simp only [badKind, badNum, badForm, badLen, badRise, descM, List.length_map, List.length_nil] <;> (try omega)
  rw [e, hr]
  rintro (h | h)
  · exact absurd h (by decide)
  · exact absurd h (by decide)
theorem com_good {q : Int} (hq : 1 ≤ q ∧ q ≤ 2147483647) : markE (comM q) = 0 := by
  have h1 := hq
  refine markE_ok ?_ ?_ ?_ ?_ ?_ <;> simp only [badKind, badNum, badForm, badLen, badRise, comM, List.map_nil, List.length_nil] <;> (try omega)
  rintro (h | h)
  · exact absurd h (by decide)
  · exact absurd h (by decide)
theorem super_good {q a : Int} (hq : 1 ≤ q ∧ q ≤ 2147483647) (ha : 0 ≤ a ∧ a < 24) : markE (superM q a) = 0 := by
  have h1 := hq
  refine markE_ok ?_ ?_ ?_ ?_ ?_ <;> simp only [badKind, badNum, badForm, badLen, badRise, superM, List.map_nil, List.length_nil] <;> (try omega)
  rintro (h | h)
  · exact absurd h (by decide)
  · exact absurd h (by decide)
/-! ### Reading a transaction -/
/-- The mark that ends transaction q. -/
def comAt (q : Int) (s : ByteArray) : Prop := decE s = 0 ∧ (decM s).seq = q ∧ (decM s).kind = 4
theorem takeTags_split {gs : List Tag} {r r' : List ByteArray} {m m' : List Cpy} (h : takeTags gs r m = some (m', r')) : ∃ pre, r = pre ++ r' ∧ ∀ r2, takeTags gs (pre ++ r2) m = some (m', r2) := by
  induction gs generalizing r m with
  | nil =>
    simp only [takeTags, Option.some.injEq, Prod.mk.injEq] at h
    obtain ⟨rfl, rfl⟩ := h
    exact ⟨[], rfl, fun _ => rfl⟩
  | cons g gs ih =>
    cases r with
    | nil => cases h
    | cons s r =>
      obtain ⟨pre, rfl, h2⟩ := ih h
      exact ⟨s :: pre, rfl, fun r2 => h2 r2⟩
theorem parseT_unfold (q : Int) (n : Nat) (s : ByteArray) (r : List ByteArray) (t : Txn) : parseT q (n + 1) (s :: r) t =
    if decE s = 0 ∧ (decM s).seq = q then
      if (decM s).kind = 4 then some (t, r)
      else if (decM s).kind = 3 then parseT q n r { t with rev := t.rev ++ (decM s).blocks }
      else if (decM s).kind = 2 then
        match takeTags (decM s).tags r t.mt with
        | some (mt, r') => parseT q n r' { t with mt := mt }
        | none => none
      else none
    else none := rfl
theorem parseT_none {q : Int} {n : Nat} {r : List ByteArray} {t : Txn} (h : ∀ s ∈ r, ¬ comAt q s) : parseT q n r t = none := by
  induction n generalizing r t with
  | zero => rfl
  | succ n ih =>
    cases r with
    | nil => rfl
    | cons s r =>
      have hr : ∀ x ∈ r, ¬ comAt q x := fun x hx => h x (List.mem_cons_of_mem _ hx)
      rw [parseT_unfold]
      split
      · rename_i h1
        rw [if_neg (fun h4 => h s (by simp) ⟨h1.1, h1.2, h4⟩)]
        split
        · exact ih hr
        · split
          · cases hk : takeTags (decM s).tags r t.mt with
            | none => rfl
            | some p =>
              obtain ⟨mt, r'⟩ := p
              obtain ⟨pre, rfl, _⟩ := takeTags_split hk
              exact ih fun x hx => hr x (by simp [hx])
          · rfl
      · rfl
theorem parseT_split {q : Int} {n : Nat} {r r' : List ByteArray} {t t' : Txn} (h : parseT q n r t = some (t', r')) : ∃ pre, r = pre ++ r' ∧ ∀ r2, parseT q n (pre ++ r2) t = some (t', r2) := by
  induction n generalizing r t with
  | zero => cases h
  | succ n ih =>
    cases r with
    | nil => cases h
    | cons s r =>
      rw [parseT_unfold] at h
      split at h
      · rename_i h1
        split at h
        · rename_i h4
          simp only [Option.some.injEq, Prod.mk.injEq] at h
          obtain ⟨rfl, rfl⟩ := h
          refine ⟨[s], rfl, fun r2 => ?_⟩
          show parseT q (n + 1) (s :: r2) t = _
          rw [parseT_unfold, if_pos h1, if_pos h4]
        · rename_i h4
          split at h
          · rename_i h3
            obtain ⟨pre, rfl, h2⟩ := ih h
            refine ⟨s :: pre, rfl, fun r2 => ?_⟩
            show parseT q (n + 1) (s :: (pre ++ r2)) t = _
            rw [parseT_unfold, if_pos h1, if_neg h4, if_pos h3, h2]
          · rename_i h3
            split at h
            · rename_i h2
              cases hk : takeTags (decM s).tags r t.mt with
              | none => rw [hk] at h; cases h
              | some p =>
                obtain ⟨mt, r1⟩ := p
                rw [hk] at h
                obtain ⟨p1, rfl, k2⟩ := takeTags_split hk
                obtain ⟨p2, rfl, k3⟩ := ih h
                refine ⟨s :: (p1 ++ p2), by simp, fun r2 => ?_⟩
                show parseT q (n + 1) (s :: (p1 ++ p2 ++ r2)) t = _
                rw [parseT_unfold, if_pos h1, if_neg h4, if_neg h3, if_pos h2, List.append_assoc, k2]
                exact k3 r2
            · cases h
      · cases h
/-! ### Reading a log -/
def scanA (r : List ByteArray) (q : Int) : List Txn × Int × List ByteArray := scanGo (r.length + 1) r q
theorem scanA_stop {r : List ByteArray} {q : Int} (h : parseT q 25 r (txn0 q) = none) : scanA r q = ([], q, r) := scanGo_stop h
theorem scanA_none {r : List ByteArray} {q : Int} (h : ∀ s ∈ r, ¬ comAt q s) : scanA r q = ([], q, r) := scanA_stop (parseT_none h)
theorem scanA_split : ∀ (n : Nat) (r : List ByteArray) (q : Int), r.length ≤ n → ∃ pre, r = pre ++ (scanA r q).2.2 ∧ (scanA r q).2.1 = q + (scanA r q).1.length ∧
    (q ≤ 2147483647 → (scanA r q).2.1 ≤ 2147483647) ∧ ((scanA r q).1 = [] ↔ pre = []) ∧
    ∀ r2, (scanA (pre ++ r2) q).1 = (scanA r q).1 ++ (scanA r2 (scanA r q).2.1).1 ∧ (scanA (pre ++ r2) q).2 = (scanA r2 (scanA r q).2.1).2 := by
  intro n
  induction n with
  | zero =>
    intro r q hr
    have : r = [] := List.length_eq_zero_iff.1 (by omega)
    subst this
    rw [scanA_stop (parseT_nil q 25 _)]
    exact ⟨[], rfl, by simp, id, by simp, fun r2 => ⟨rfl, rfl⟩⟩
  | succ n ih =>
    intro r q hr
    have hstop : scanA r q = ([], q, r) → _ := fun e => (show ∃ pre, r = pre ++ (scanA r q).2.2 ∧ (scanA r q).2.1 = q + (scanA r q).1.length ∧
      (q ≤ 2147483647 → (scanA r q).2.1 ≤ 2147483647) ∧ ((scanA r q).1 = [] ↔ pre = []) ∧
      ∀ r2, (scanA (pre ++ r2) q).1 = (scanA r q).1 ++ (scanA r2 (scanA r q).2.1).1 ∧ (scanA (pre ++ r2) q).2 = (scanA r2 (scanA r q).2.1).2 from by
        rw [e]; exact ⟨[], rfl, by simp, id, by simp, fun r2 => ⟨rfl, rfl⟩⟩)
    by_cases hq : q < 2147483647
    · cases hp : parseT q 25 r (txn0 q) with
      | none => exact hstop (scanA_stop hp)
      | some p =>
        obtain ⟨t, r1⟩ := p
        have hl := parseT_len hp
        obtain ⟨p1, rfl, hp2⟩ := parseT_split hp
        obtain ⟨e1, e2⟩ := scanGo_step hq hp
        obtain ⟨p2, f1, f2, f3, f4, f5⟩ := ih r1 (q + 1) (by omega)
        have e1' : (scanA (p1 ++ r1) q).1 = t :: (scanA r1 (q + 1)).1 := e1
        have e2' : (scanA (p1 ++ r1) q).2 = (scanA r1 (q + 1)).2 := e2
        rw [e1', e2']
        have hp1 : p1 ≠ [] := fun e => by subst e; simp at hl
        refine ⟨p1 ++ p2, by rw [List.append_assoc, ← f1], by rw [f2, List.length_cons]; omega, fun _ => f3 (by omega), by simp [hp1], fun r2 => ?_⟩
        obtain ⟨g1, g2⟩ := f5 r2
        obtain ⟨k1, k2⟩ := scanGo_step (r := p1 ++ (p2 ++ r2)) hq (hp2 _)
        have k1' : (scanA (p1 ++ (p2 ++ r2)) q).1 = t :: (scanA (p2 ++ r2) (q + 1)).1 := k1
        have k2' : (scanA (p1 ++ (p2 ++ r2)) q).2 = (scanA (p2 ++ r2) (q + 1)).2 := k2
        rw [List.append_assoc, k1', k2', g1, g2]
        exact ⟨rfl, rfl⟩
    · exact hstop (scanGo_full hq)
/-! ### A transaction's blocks are read as it -/
def logOf (t : Txn) : Txn := ⟨t.seq, t.mt, [], t.rev, hnd0, hnd0, hnd0⟩
theorem takeTags_copies {p : List Cpy} (r : List ByteArray) (m : List Cpy) : takeTags (p.map tagC') (p.map (fun c => escS c.text) ++ r) m = some (m ++ p, r) := by
  induction p generalizing m with
  | nil => simp [takeTags]
  | cons c p ih =>
    show takeTags (p.map tagC') (p.map (fun c => escS c.text) ++ r) (m ++ [⟨c.block, unescS (escS c.text) (isEsc c.text)⟩]) = _
    rw [ih, escS_back]
    simp
theorem parse_rev {q : Int} {r : List Int} (hq : 1 ≤ q ∧ q ≤ 2147483647) (hr : rise r = true) (l : List ByteArray) (t : Txn) {n : Nat} (hn : (revL q r ++ l).length < n) : parseT q n (revL q r ++ l) t = parseT q n l { t with rev := t.rev ++ r } := by
  unfold revL at hn ⊢
  by_cases h : r = []
  · subst h
    simp
  · rw [if_neg h] at hn ⊢
    obtain ⟨d1, d2, _⟩ := dec_mark (list_good hq hr h)
    cases n with
    | zero => omega
    | succ n =>
      show parseT q (n + 1) (markS (listM q r) :: l) t = _
      simp only [List.length_append, List.length_cons, List.length_nil] at hn
      rw [parseT_unfold, d2, if_pos ⟨d1, rfl⟩, if_neg (by rw [list_kind]; decide), if_pos (list_kind _ _)]
      exact parseT_fuel (by omega) (by omega)
theorem parse_part {q : Int} {p : List Cpy} (hq : 1 ≤ q ∧ q ≤ 2147483647) (hr : rise (blks p) = true) (h10 : p.length ≤ 10) (l : List ByteArray) (t : Txn) {n : Nat} (hn : (partL q p ++ l).length < n) : parseT q n (partL q p ++ l) t = parseT q n l { t with mt := t.mt ++ p } := by
  unfold partL at hn ⊢
  by_cases h : p = []
  · subst h
    simp
  · rw [if_neg h] at hn ⊢
    obtain ⟨d1, d2, _⟩ := dec_mark (desc_good hq hr h h10)
    cases n with
    | zero => omega
    | succ n =>
      show parseT q (n + 1) (markS (descM q p) :: (p.map (fun c => escS c.text) ++ l)) t = _
      simp only [List.length_append, List.length_cons, List.length_map] at hn
      rw [parseT_unfold, d2, if_pos ⟨d1, rfl⟩, if_neg (by rw [desc_kind]; decide), if_neg (by rw [desc_kind]; decide), if_pos (desc_kind _ _)]
      rw [show (descM q p).tags = p.map tagC' from rfl, takeTags_copies]
      exact parseT_fuel (by omega) (by omega)
theorem parse_log {t : Txn} (g : GoodT t) (l : List ByteArray) {n : Nat} (hn : (logT t ++ l).length < n) : parseT t.seq n (logT t ++ l) (txn0 t.seq) = some (logOf t, l) := by
  have hb := copies_rise g.mt
  have hl := copies_len g.mt
  have e : logT t ++ l = revL t.seq t.rev ++ (partL t.seq (t.mt.take 10) ++ (partL t.seq (t.mt.drop 10) ++ (markS (comM t.seq) :: l))) := by
    unfold logT bodyT; simp
  rw [e] at hn ⊢
  rw [parse_rev g.seq g.rev _ _ hn]
  rw [List.length_append] at hn
  rw [parse_part g.seq (by rw [blks_take]; exact rise_take _ hb) (by rw [List.length_take]; omega) _ _ (by omega)]
  rw [List.length_append] at hn
  rw [parse_part g.seq (by rw [blks_drop]; exact rise_drop _ hb) (by rw [List.length_drop]; omega) _ _ (by omega)]
  rw [List.length_append, List.length_cons] at hn
  obtain ⟨d1, d2, _⟩ := dec_mark (com_good g.seq)
  cases n with
  | zero => omega
  | succ n =>
    rw [parseT_unfold, d2, if_pos ⟨d1, rfl⟩, if_pos (com_kind _)]
    simp [txn0, logOf]
/-- No block of a transaction but the last ends one. -/
theorem body_com {t : Txn} (g : GoodT t) {s : ByteArray} (hs : s ∈ bodyT t) (q : Int) : ¬ comAt q s := by
  have hb := copies_rise g.mt
  have hl := copies_len g.mt
  have hpart : ∀ p : List Cpy, rise (blks p) = true → p.length ≤ 10 → s ∈ partL t.seq p → ¬ comAt q s := fun p h1 h2 h3 => by
    unfold partL at h3
    split at h3
    · cases h3
    · rename_i hn
      rcases List.mem_cons.1 h3 with rfl | h3
      · obtain ⟨d1, d2, _⟩ := dec_mark (desc_good g.seq h1 hn h2)
        rintro ⟨_, _, h⟩
        rw [d2, desc_kind] at h
        exact absurd h (by decide)
      · obtain ⟨c, _, rfl⟩ := List.mem_map.1 h3
        rintro ⟨h, _, _⟩
        rw [escS_dec] at h
        exact absurd h (by decide)
  unfold bodyT at hs
  rcases List.mem_append.1 hs with hs | hs
  · unfold revL at hs
    split at hs
    · cases hs
    · rename_i hn
      obtain rfl := List.mem_singleton.1 hs
      obtain ⟨d1, d2, _⟩ := dec_mark (list_good g.seq g.rev hn)
      rintro ⟨_, _, h⟩
      rw [d2, list_kind] at h
      exact absurd h (by decide)
  · rcases List.mem_append.1 hs with hs | hs
    · exact hpart _ (by rw [blks_take]; exact rise_take _ hb) (by rw [List.length_take]; omega) hs
    · exact hpart _ (by rw [blks_drop]; exact rise_drop _ hb) (by rw [List.length_drop]; omega) hs
/-- Every block of a transaction has 32 bytes. -/
theorem log_size {t : Txn} (g : GoodT t) {s : ByteArray} (hs : s ∈ logT t) : s.size = 32 := by
  have hb := copies_rise g.mt
  have hl := copies_len g.mt
  have hc : ∀ c ∈ t.mt, c.text.size = 32 := fun c hc => ((copies_pw _).1 g.mt).2 c hc |>.2
  have hpart : ∀ p : List Cpy, rise (blks p) = true → p.length ≤ 10 → (∀ c ∈ p, c ∈ t.mt) → s ∈ partL t.seq p → s.size = 32 := fun p h1 h2 h4 h3 => by
    unfold partL at h3
    split at h3
    · cases h3
    · rename_i hn
      rcases List.mem_cons.1 h3 with rfl | h3
      · exact (dec_mark (desc_good g.seq h1 hn h2)).2.2
      · obtain ⟨c, hcm, rfl⟩ := List.mem_map.1 h3
        exact escS_size (hc c (h4 c hcm))
  unfold logT at hs
  rcases List.mem_append.1 hs with hs | hs
  · unfold bodyT at hs
    rcases List.mem_append.1 hs with hs | hs
    · unfold revL at hs
      split at hs
      · cases hs
      · rename_i hn
        obtain rfl := List.mem_singleton.1 hs
        exact (dec_mark (list_good g.seq g.rev hn)).2.2
    · rcases List.mem_append.1 hs with hs | hs
      · exact hpart _ (by rw [blks_take]; exact rise_take _ hb) (by rw [List.length_take]; omega) (fun c h => List.mem_of_mem_take h) hs
      · exact hpart _ (by rw [blks_drop]; exact rise_drop _ hb) (by rw [List.length_drop]; omega) (fun c h => List.mem_of_mem_drop h) hs
  · obtain rfl := List.mem_singleton.1 hs
    exact (dec_mark (com_good g.seq)).2.2
end Wb

set_option linter.unusedVariables false
set_option linter.unusedSimpArgs false
namespace Wb
open Go Go.RowKit
theorem isAt_nat {k : Nat} (h : k < 37) : isAt (k : Int) = true := by unfold isAt; simp; omega
theorem isAt_of {n : Int} (h : isAt n = true) : ∃ k : Nat, n = k ∧ k < 37 := by
  have := of_decide_eq_true h
  exact ⟨n.toNat, by omega, by omega⟩
theorem read_good {d : Dsk} (hg : goodD d = true) {k : Nat} (hk : k < 37) : readD d k = lastT (d.safe.getD k ⟨#[]⟩) k d.writes := by
  unfold readD safeAt
  rw [if_pos ⟨hg, isAt_nat hk⟩, Int.toNat_natCast]
theorem texts_last {d : Dsk} (hg : goodD d = true) {k : Nat} (hk : k < 37) : readD d k ∈ textsAt d k := by
  have h := after_last (d.safe.getD k ⟨#[]⟩) k d.writes
  rw [← read_good hg hk] at h
  exact List.mem_of_getLast? h
theorem texts_clean {d : Dsk} (hg : goodD d = true) (hc : d.writes = []) {k : Nat} (hk : k < 37) : textsAt d k = [readD d k] := by
  rw [read_good hg hk]
  unfold textsAt
  rw [hc]; rfl
theorem texts_put {d : Dsk} {n : Int} {t : ByteArray} (h : putE d n t = 0) (k : Nat) : textsAt (putD d n t) k = if n = k then textsAt d k ++ [t] else textsAt d k := by
  rw [putD_one h]
  unfold textsAt
  exact afterL_step _ _ _ ⟨n, t⟩
theorem flush_good {d : Dsk} (hg : goodD d = true) : goodD (flushD d) = true := by
  obtain ⟨g1, g2, g3, g4⟩ := (goodD_iff d).1 hg
  unfold flushD
  rw [if_pos hg]
  refine (goodD_iff _).2 ⟨by rw [flushL_len]; exact g1, by simp, ?_, rfl⟩
  rw [List.all_eq_true]
  intro s hs
  obtain ⟨n, hn, rfl⟩ := List.mem_iff_getElem.1 hs
  rw [flushL_len] at hn
  have h1 := flushL_get d.safe d.writes g4 n hn
  rw [List.getElem?_eq_getElem (by rw [flushL_len]; exact hn), Option.some.injEq] at h1
  rw [h1]
  have h2 := texts_last hg (k := n) (by omega)
  rw [read_good hg (by omega), List.getD_eq_getElem?_getD, List.getElem?_eq_getElem hn, Option.getD_some] at h2
  exact texts_ok hg hn _ h2
theorem flush_clean {d : Dsk} (hg : goodD d = true) : (flushD d).writes = [] := by unfold flushD; rw [if_pos hg]
theorem flush_read {d : Dsk} (hg : goodD d = true) {k : Nat} (hk : k < 37) : readD (flushD d) k = readD d k := by
  have hg1 := (goodD_iff d).1 hg
  rw [read_good (flush_good hg) hk, flush_clean hg, read_good hg hk]
  unfold flushD
  rw [if_pos hg]
  have h1 := flushL_get d.safe d.writes hg1.2.2.2 k (by omega)
  show lastT ((flushL d.safe d.writes).getD k ⟨#[]⟩) k [] = _
  rw [lastT_nil, List.getD_eq_getElem?_getD, h1, List.getD_eq_getElem?_getD, List.getElem?_eq_getElem (by omega)]
  rfl
theorem flush_texts {d : Dsk} (hg : goodD d = true) {k : Nat} (hk : k < 37) : textsAt (flushD d) k = [readD d k] := by
  rw [texts_clean (flush_good hg) (flush_clean hg) hk, flush_read hg hk]
/-- c is what may be left of d. -/
structure Left (d c : Dsk) : Prop where
  good : goodD c = true
  clean : c.writes = []
  read : ∀ k : Nat, k < 37 → readD c k ∈ textsAt d k
theorem Left.crash {d : Dsk} {x : Int} (h : crashE d x = 0) : Left d (crashD d x) := by
  have hc : goodD d = true ∧ 0 ≤ x := by
    unfold crashE at h
    by_cases hh : goodD d = true ∧ 0 ≤ x
    · exact hh
    · rw [if_neg hh] at h; cases h
  have hg := (goodD_iff d).1 hc.1
  have e : crashD d x = ⟨crashL d x.toNat d.safe.length, []⟩ := by unfold crashD; rw [if_pos hc]
  refine ⟨crash_good h, by rw [e], fun k hk => ?_⟩
  rw [read_good (crash_good h) hk, e]
  show lastT ((crashL d x.toNat d.safe.length).getD k ⟨#[]⟩) k [] ∈ _
  rw [lastT_nil]
  unfold crashL
  rw [List.getD_eq_getElem?_getD, List.getElem?_map, List.getElem?_range (by omega)]
  exact crashAt_mem d _ k
theorem Left.flush {d : Dsk} (hg : goodD d = true) : Left d (flushD d) :=
  ⟨flush_good hg, flush_clean hg, fun k hk => by rw [flush_read hg hk]; exact texts_last hg hk⟩
theorem Left.self {d : Dsk} (hg : goodD d = true) (hc : d.writes = []) : Left d d := ⟨hg, hc, fun k hk => texts_last hg hk⟩
/-- Of a disk on which all is safe nothing is lost. -/
theorem Left.same {d c : Dsk} (h : Left d c) (hg : goodD d = true) (hc : d.writes = []) {k : Nat} (hk : k < 37) : readD c k = readD d k := by
  have := h.read k hk
  rw [texts_clean hg hc hk] at this
  exact List.mem_singleton.1 this
/-! ### Steps -/
/-- A step that a disk takes. -/
def stpOk (s : Stp) : Prop := s.kind ≠ 2 → isAt s.at_ = true ∧ s.text.size = 32
theorem step_one {d : Dsk} {s : Stp} (hg : goodD d = true) (ho : stpOk s) (hn : d.writes.length < 200) : stepE d s = 0 ∧ goodD (stepD d s) = true ∧ (stepD d s).writes.length ≤ d.writes.length + 1 := by
  unfold stepE stepD
  by_cases h : s.kind = 2
  · rw [if_pos h, if_pos h]
    exact ⟨by unfold flushE; rw [if_pos hg], flush_good hg, by rw [flush_clean hg]; simp⟩
  · rw [if_neg h, if_neg h]
    have hp := putE_one hg (ho h).1 (ho h).2 (by omega)
    refine ⟨hp, put_good hp, ?_⟩
    rw [putD_one hp]; simp
theorem run_good : ∀ (l : List Stp) {d : Dsk}, goodD d = true → (∀ s ∈ l, stpOk s) → d.writes.length + l.length ≤ 200 → goodD (runD d l) = true ∧ (runD d l).writes.length ≤ d.writes.length + l.length
  | [], d, hg, _, _ => ⟨hg, Nat.le_refl _⟩
  | s :: l, d, hg, ho, hn => by
    simp only [List.length_cons] at hn
    obtain ⟨h1, h2, h3⟩ := step_one hg (ho s (by simp)) (by omega)
    rw [runD_cons]
    obtain ⟨h4, h5⟩ := run_good l h2 (fun x hx => ho x (by simp [hx])) (by omega)
    exact ⟨h4, by simp only [List.length_cons]; omega⟩
theorem run_step {l r : List Stp} {s : Stp} {d : Dsk} (hg : goodD d = true) (ho : ∀ x ∈ l ++ s :: r, stpOk x) (hn : d.writes.length + (l ++ s :: r).length ≤ 200) : stepE (runD d l) s = 0 := by
  simp only [List.length_append, List.length_cons] at hn
  obtain ⟨h1, h2⟩ := run_good l hg (fun x hx => ho x (by simp [hx])) (by omega)
  exact (step_one h1 (ho s (by simp)) (by omega)).1
/-- What may stand at a place behind steps: what might ahead of them, or what one of them wrote. -/
theorem run_texts : ∀ (l : List Stp) {d : Dsk}, goodD d = true → (∀ s ∈ l, stpOk s) → d.writes.length + l.length ≤ 200 → ∀ {k : Nat}, k < 37 → ∀ s ∈ textsAt (runD d l) k, s ∈ textsAt d k ∨ ∃ x ∈ l, x.kind ≠ 2 ∧ x.at_ = k ∧ x.text = s
  | [], d, _, _, _, k, _, s, hs => .inl hs
  | x :: l, d, hg, ho, hn, k, hk, s, hs => by
    simp only [List.length_cons] at hn
    obtain ⟨h1, h2, h3⟩ := step_one hg (ho x (by simp)) (by omega)
    rw [runD_cons] at hs
    rcases run_texts l h2 (fun x hx => ho x (by simp [hx])) (by omega) hk s hs with h | ⟨y, hy, h⟩
    · unfold stepE at h1
      unfold stepD at h
      by_cases hf : x.kind = 2
      · rw [if_pos hf, flush_texts hg hk] at h
        obtain rfl := List.mem_singleton.1 h
        exact .inl (texts_last hg hk)
      · rw [if_neg hf] at h h1
        rw [texts_put h1] at h
        split at h
        · rename_i he
          rcases List.mem_append.1 h with h | h
          · exact .inl h
          · exact .inr ⟨x, by simp, hf, he, (List.mem_singleton.1 h).symm⟩
        · exact .inl h
    · exact .inr ⟨y, by simp [hy], h⟩
theorem step_read_none {d : Dsk} {x : Stp} (hg : goodD d = true) (ho : stpOk x) (hn : d.writes.length < 200) {k : Nat} (hk : k < 37) (h : x.kind ≠ 2 → x.at_ ≠ k) : readD (stepD d x) k = readD d k := by
  have h1 := (step_one hg ho hn).1
  unfold stepE at h1
  unfold stepD
  by_cases hf : x.kind = 2
  · rw [if_pos hf]; exact flush_read hg hk
  · rw [if_neg hf] at h1 ⊢
    exact put_other h1 (fun e => h hf e.symm)
theorem step_read_one {d : Dsk} {x : Stp} (hg : goodD d = true) (ho : stpOk x) (hn : d.writes.length < 200) {k : Nat} (hf : x.kind ≠ 2) (h : x.at_ = k) : readD (stepD d x) k = x.text := by
  have h1 := (step_one hg ho hn).1
  unfold stepE at h1
  unfold stepD
  rw [if_neg hf] at h1 ⊢
  rw [← h]
  exact put_read h1
/-- Where all that is written at a place is one text, it is read there. -/
theorem run_read : ∀ (l : List Stp) {d : Dsk}, goodD d = true → (∀ s ∈ l, stpOk s) → d.writes.length + l.length ≤ 200 → ∀ {k : Nat}, k < 37 → ∀ {s : ByteArray}, (∀ x ∈ l, x.kind ≠ 2 → x.at_ = k → x.text = s) → ((∃ x ∈ l, x.kind ≠ 2 ∧ x.at_ = k) ∨ readD d k = s) → readD (runD d l) k = s
  | [], d, _, _, _, k, _, s, _, h => by
    rcases h with ⟨x, hx, _⟩ | h
    · cases hx
    · exact h
  | x :: l, d, hg, ho, hn, k, hk, s, ha, h => by
    simp only [List.length_cons] at hn
    obtain ⟨h1, h2, h3⟩ := step_one hg (ho x (by simp)) (by omega)
    rw [runD_cons]
    refine run_read l h2 (fun x hx => ho x (by simp [hx])) (by omega) hk (fun y hy => ha y (by simp [hy])) ?_
    by_cases hw : x.kind ≠ 2 ∧ x.at_ = k
    · exact .inr ((step_read_one hg (ho x (by simp)) (by omega) hw.1 hw.2).trans (ha x (by simp) hw.1 hw.2))
    · rcases h with ⟨y, hy, hy2⟩ | h
      · rcases List.mem_cons.1 hy with rfl | hy
        · exact absurd hy2 hw
        · exact .inl ⟨y, hy, hy2⟩
      · exact .inr ((step_read_none hg (ho x (by simp)) (by omega) hk fun hf he => hw ⟨hf, he⟩).trans h)
theorem run_read_none {l : List Stp} {d : Dsk} (hg : goodD d = true) (ho : ∀ s ∈ l, stpOk s) (hn : d.writes.length + l.length ≤ 200) {k : Nat} (hk : k < 37) (h : ∀ x ∈ l, x.kind ≠ 2 → x.at_ ≠ k) : readD (runD d l) k = readD d k :=
  run_read l hg ho hn hk (fun x hx hf he => absurd he (h x hx hf)) (.inr rfl)
/-- Behind a flush one text may stand at a place. -/
theorem run_flush {l : List Stp} {d : Dsk} (hg : goodD d = true) (ho : ∀ s ∈ l, stpOk s) (hn : d.writes.length + l.length ≤ 200) {k : Nat} (hk : k < 37) : textsAt (runD d (l ++ [flushS])) k = [readD (runD d l) k] := by
  rw [runD_append, runD_cons, runD_nil]
  unfold stepD
  rw [if_pos (show flushS.kind = 2 from rfl)]
  exact flush_texts (run_good l hg ho hn).1 hk
/-! ### What a disk's log tells hangs on what is read -/
theorem logL_congr {d c : Dsk} (h : ∀ i : Nat, i < 24 → readD c (1 + (i : Int)) = readD d (1 + (i : Int))) (a : Int) : logL c a = logL d a := by
  unfold logL
  refine List.map_congr_left fun i _ => ?_
  have := h ((a + (i : Int)) % 24).toNat (by omega)
  rw [Int.toNat_of_nonneg (by omega)] at this
  exact this
theorem scanE_congr {d c : Dsk} (hd : goodD d = true) (hc : goodD c = true) (h : readD c 0 = readD d 0) : scanE c = scanE d := by
  unfold scanE readE
  rw [hd, hc, h]
def supA (d : Dsk) : Int := (decM (readD d 0)).at_
def supQ (d : Dsk) : Int := (decM (readD d 0)).seq
theorem scanF_eq {d : Dsk} (h : scanE d = 0) : scanF d = ⟨(scanA (logL d (supA d)) (supQ d)).1, (scanA (logL d (supA d)) (supQ d)).2.1, (supA d + (24 - ((scanA (logL d (supA d)) (supQ d)).2.2.length : Int))) % 24⟩ := by
  unfold scanF scanA
  rw [if_pos h, logL_len]
  rfl
/-- How many blocks of the log are told of. -/
def usedN (d : Dsk) : Nat := 24 - (scanA (logL d (supA d)) (supQ d)).2.2.length
theorem scanE_zero {d : Dsk} (h : scanE d = 0) : goodD d = true ∧ decE (readD d 0) = 0 ∧ (decM (readD d 0)).kind = 1 ∧ (0 ≤ supA d ∧ supA d < 24) ∧ (1 ≤ supQ d ∧ supQ d ≤ 2147483647) := by
  unfold scanE at h
  by_cases h1 : readE d 0 = 0
  · rw [if_pos h1] at h
    by_cases h2 : decE (readD d 0) = 0 ∧ (decM (readD d 0)).kind = 1
    · have hb := dec_bds h2.1
      refine ⟨?_, h2.1, h2.2, ⟨hb.2.2.1, hb.2.2.2.1⟩, hb.2.2.2.2⟩
      unfold readE at h1
      by_cases h3 : goodD d = true ∧ isAt 0 = true
      · exact h3.1
      · rw [if_neg h3] at h1; cases h1
    · rw [if_neg h2] at h; cases h
  · rw [if_neg h1] at h; cases h
/-- No block of the log ends a transaction of that number or of a later one. -/
def noCom (d : Dsk) (q : Int) : Prop := ∀ i : Nat, i < 24 → ∀ x, q ≤ x → ¬ comAt x (readD d (1 + (i : Int)))
theorem noCom.log {d : Dsk} {q : Int} (h : noCom d q) (a : Int) {x : Int} (hx : q ≤ x) : ∀ s ∈ logL d a, ¬ comAt x s := by
  intro s hs
  unfold logL at hs
  obtain ⟨i, _, rfl⟩ := List.mem_map.1 hs
  have := h ((a + (i : Int)) % 24).toNat (by omega) x hx
  rw [Int.toNat_of_nonneg (by omega)] at this
  exact this
theorem logL_get (d : Dsk) (a : Int) {i : Nat} (hi : i < 24) : (logL d a)[i]? = some (readD d (1 + (a + (i : Int)) % 24)) := by
  unfold logL
  rw [List.getElem?_map, List.getElem?_range hi]; rfl
/-- What the scan of a log comes to: its parts. -/
theorem scan_parts {d : Dsk} (h : scanE d = 0) : ∃ pre, logL d (supA d) = pre ++ (scanA (logL d (supA d)) (supQ d)).2.2 ∧ pre.length = usedN d ∧ usedN d ≤ 24 ∧ (scanF d).next = supQ d + (scanF d).txns.length ∧ (scanF d).next ≤ 2147483647 ∧ (scanF d).at_ = (supA d + usedN d) % 24 ∧ ((scanF d).txns = [] ↔ usedN d = 0) ∧
    ∀ r2, (scanA (pre ++ r2) (supQ d)).1 = (scanF d).txns ++ (scanA r2 (scanF d).next).1 ∧ (scanA (pre ++ r2) (supQ d)).2 = (scanA r2 (scanF d).next).2 := by
  obtain ⟨pre, h1, h2, h3, h4, h5⟩ := scanA_split 24 (logL d (supA d)) (supQ d) (by rw [logL_len]; exact Nat.le_refl _)
  have hb := scanE_zero h
  have hl : 24 = pre.length + (scanA (logL d (supA d)) (supQ d)).2.2.length := by
    have := congrArg List.length h1
    rw [logL_len, List.length_append] at this
    exact this
  have hu : pre.length = usedN d := by unfold usedN; omega
  rw [scanF_eq h]
  refine ⟨pre, h1, hu, by unfold usedN; omega, h2, h3 hb.2.2.2.2.2, ?_, ?_, h5⟩
  · show (supA d + (24 - _)) % 24 = _
    congr 1
    rw [← hu]; omega
  · show (scanA _ _).1 = [] ↔ _
    rw [h4, ← hu, List.length_eq_zero_iff]
end Wb

set_option linter.unusedVariables false
set_option linter.unusedSimpArgs false
namespace Wb
open Go Go.RowKit
/-- All steps of Commit but the last two. -/
def comA (r : Ring) (t : Txn) : List Stp := dataS t ++ (List.zipWith atW (places r.head (bodyT t).length) (bodyT t) ++ (if bodyT t = [] then [] else [flushS]))
theorem comL_split {r : Ring} {t : Txn} (h : comE r t = 0) : comL r t = comA r t ++ [atW ((r.head + (bodyT t).length) % 24) (markS (comM t.seq)), flushS] := by
  unfold comL comA
  rw [if_pos h]; simp
theorem comE_zero {r : Ring} {t : Txn} (h : comE r t = 0) : goodR r = true ∧ GoodT t ∧ openB t = false ∧ ((bodyT t).length : Int) + 1 ≤ 24 - r.used ∧ (0 ≤ r.head ∧ r.head < 24) ∧ (0 ≤ r.used ∧ r.used ≤ 24) := by
  unfold comE at h
  split at h
  · cases h
  · rename_i hc
    simp only [not_or, Bool.not_eq_false, Bool.not_eq_true] at hc
    obtain ⟨h1, h2, h3⟩ := hc
    have g := goodT_of.1 h2
    have hb := bodyT_len g
    have hr := (goodR_iff r).1 h1
    refine ⟨h1, g, h3, ?_, ⟨hr.1, hr.2.1⟩, hr.2.2⟩
    rw [hb]
    unfold takeE at h
    split at h
    · cases h
    · split at h
      · cases h
      · omega
theorem wr_kind (p : Int) (s : ByteArray) : (wrS p s).kind ≠ 2 := (show (1 : Int) ≠ 2 by decide)
theorem log_last (t : Txn) (h : (bodyT t).length < (logT t).length) : (logT t)[(bodyT t).length] = markS (comM t.seq) := by simp [logT]
theorem log_body (t : Txn) {j : Nat} (h : j < (bodyT t).length) (h2 : j < (logT t).length) : (logT t)[j] = (bodyT t)[j] := by simp only [logT]; rw [List.getElem_append_left h]
theorem mem_data {t : Txn} {x : Stp} (hx : x ∈ dataS t) : x = flushS ∨ ∃ c ∈ t.dt, x = wrS (25 + c.block) c.text := by
  unfold dataS at hx
  rcases List.mem_append.1 hx with hx | hx
  · obtain ⟨c, hc, rfl⟩ := List.mem_map.1 hx
    exact .inr ⟨c, hc, rfl⟩
  · split at hx
    · cases hx
    · exact .inl (List.mem_singleton.1 hx)
theorem mem_zip {a : Int} {l : List ByteArray} {x : Stp} (hx : x ∈ List.zipWith atW (places a l.length) l) : ∃ (j : Nat) (hj : j < l.length), x = atW ((a + (j : Int)) % 24) l[j] := by
  obtain ⟨j, hj, rfl⟩ := List.mem_iff_getElem.1 hx
  rw [List.length_zipWith, places_len] at hj
  refine ⟨j, by omega, ?_⟩
  rw [List.getElem_zipWith]
  congr 1
  have := places_get a l.length j (by omega)
  rw [List.getElem?_eq_getElem (by rw [places_len]; omega), Option.some.injEq] at this
  exact this
theorem zip_mem (a : Int) (l : List ByteArray) {j : Nat} (hj : j < l.length) : atW ((a + (j : Int)) % 24) l[j] ∈ List.zipWith atW (places a l.length) l := by
  have h : j < (List.zipWith atW (places a l.length) l).length := by rw [List.length_zipWith, places_len]; omega
  have := List.getElem_mem h
  rw [List.getElem_zipWith] at this
  have h2 := places_get a l.length j (by omega)
  rw [List.getElem?_eq_getElem (by rw [places_len]; omega), Option.some.injEq] at h2
  rw [h2] at this
  exact this
theorem mem_comA {r : Ring} {t : Txn} {x : Stp} (hx : x ∈ comA r t) : x = flushS ∨ (∃ c ∈ t.dt, x = wrS (25 + c.block) c.text) ∨ ∃ (j : Nat) (hj : j < (bodyT t).length), x = atW ((r.head + (j : Int)) % 24) (bodyT t)[j] := by
  unfold comA at hx
  rcases List.mem_append.1 hx with hx | hx
  · exact (mem_data hx).imp id .inl
  · rcases List.mem_append.1 hx with hx | hx
    · exact .inr (.inr (mem_zip hx))
    · split at hx
      · cases hx
      · exact .inl (List.mem_singleton.1 hx)
theorem data_ok {t : Txn} (g : GoodT t) {c : Cpy} (hc : c ∈ t.dt) : (0 ≤ c.block ∧ c.block < 12) ∧ c.text.size = 32 := by
  have := ((copies_pw _).1 g.dt).2 c hc
  exact ⟨of_decide_eq_true this.1, this.2⟩
theorem com_ok {r : Ring} {t : Txn} (h : comE r t = 0) : (∀ x ∈ comL r t, stpOk x) ∧ (comL r t).length ≤ 100 := by
  obtain ⟨h1, g, h3, h4, h5, h6⟩ := comE_zero h
  constructor
  · intro x hx hk
    rw [comL_split h] at hx
    have hlog : ∀ (p : Int) (s : ByteArray), 0 ≤ p ∧ p < 24 → s ∈ logT t → isAt (atW p s).at_ = true ∧ (atW p s).text.size = 32 := fun p s hp hs =>
      ⟨by unfold isAt atW wrS; simp; omega, log_size g hs⟩
    rcases List.mem_append.1 hx with hx | hx
    · rcases mem_comA hx with rfl | ⟨c, hc, rfl⟩ | ⟨j, hj, rfl⟩
      · exact absurd rfl hk
      · have := data_ok g hc
        exact ⟨by unfold isAt wrS; simp; omega, this.2⟩
      · exact hlog _ _ ⟨Int.emod_nonneg _ (by decide), Int.emod_lt_of_pos _ (by decide)⟩ (by unfold logT; exact List.mem_append_left _ (List.getElem_mem hj))
    · rcases List.mem_cons.1 hx with rfl | hx
      · exact hlog _ _ ⟨Int.emod_nonneg _ (by decide), Int.emod_lt_of_pos _ (by decide)⟩ (by unfold logT; simp)
      · obtain rfl := List.mem_singleton.1 hx
        exact absurd rfl hk
  · rw [comL_split h]
    unfold comA dataS
    have := (lens g).2.1
    simp only [List.length_append, List.length_map, List.length_zipWith, places_len, List.length_cons, List.length_nil]
    have e1 : (if t.dt = [] then ([] : List Stp) else [flushS]).length ≤ 1 := by split <;> simp
    have e2 : (if bodyT t = [] then ([] : List Stp) else [flushS]).length ≤ 1 := by split <;> simp
    omega
/-- What is left of a transaction on its way: no more than all but the last block, or all of it. -/
structure ComLeft (r : Ring) (t : Txn) (d c : Dsk) (k : Nat) : Prop where
  good : goodD c = true
  clean : c.writes = []
  zero : readD c 0 = readD d 0
  home : ∀ b : Nat, b < 12 → readD c (25 + (b : Int)) = readD d (25 + (b : Int)) ∨ ∃ x ∈ t.dt, x.block = b ∧ readD c (25 + (b : Int)) = x.text
  data : (dataS t).length ≤ k → ∀ x ∈ t.dt, readD c (25 + x.block) = x.text
  log : (k ≤ (comA r t).length + 1 ∧ ∀ i : Nat, i < 24 → readD c (1 + (i : Int)) = readD d (1 + (i : Int)) ∨ ∃ (j : Nat) (hj : j < (bodyT t).length), (i : Int) = (r.head + (j : Int)) % 24 ∧ readD c (1 + (i : Int)) = (bodyT t)[j]) ∨
    ((comA r t).length < k ∧ (∀ (j : Nat) (hj : j < (logT t).length), readD c (1 + (r.head + (j : Int)) % 24) = (logT t)[j]) ∧ ∀ i : Nat, i < 24 → (∀ j : Nat, j < (logT t).length → (i : Int) ≠ (r.head + (j : Int)) % 24) → readD c (1 + (i : Int)) = readD d (1 + (i : Int)))
theorem places_ne {a : Int} {i j : Nat} (hi : i < 24) (hj : j < 24) (h : (a + (i : Int)) % 24 = (a + (j : Int)) % 24) : i = j := by omega
theorem dt_one {t : Txn} (g : GoodT t) {x y : Cpy} (hx : x ∈ t.dt) (hy : y ∈ t.dt) (h : x.block = y.block) : x.text = y.text := by
  have hp := ((copies_pw _).1 g.dt).1
  have h1 := getC_of_mem hp hx
  have h2 := getC_of_mem hp hy
  rw [h, h2, Option.some.injEq] at h1
  exact h1.symm
theorem com_left {r : Ring} {t : Txn} {d c : Dsk} {k : Nat} (h : comE r t = 0) (hg : goodD d = true) (hw : d.writes = []) (hk : k ≤ (comL r t).length) (hl : Left (runD d ((comL r t).take k)) c) : ComLeft r t d c k := by
  obtain ⟨h1, g, h3, h4, h5, h6⟩ := comE_zero h
  obtain ⟨ho, hlen⟩ := com_ok h
  have hok : ∀ n, (∀ x ∈ (comL r t).take n, stpOk x) := fun n x hx => ho x (List.mem_of_mem_take hx)
  have hln : ∀ n, d.writes.length + ((comL r t).take n).length ≤ 200 := fun n => by rw [hw, List.length_nil, List.length_take]; omega
  have hsp := comL_split h
  have hL : (comL r t).length = (comA r t).length + 2 := by rw [hsp]; simp
  have hnl : (logT t).length = (bodyT t).length + 1 := by unfold logT; simp
  -- what any of the steps may write
  have hwr : ∀ x ∈ comL r t, x.kind ≠ 2 → (∃ y ∈ t.dt, x = wrS (25 + y.block) y.text) ∨ ∃ (j : Nat) (hj : j < (logT t).length), x = atW ((r.head + (j : Int)) % 24) (logT t)[j] := fun x hx hk2 => by
    rw [hsp] at hx
    rcases List.mem_append.1 hx with hx | hx
    · rcases mem_comA hx with rfl | hx | ⟨j, hj, rfl⟩
      · exact absurd rfl hk2
      · exact .inl hx
      · refine .inr ⟨j, by omega, ?_⟩
        rw [log_body t hj]
    · rcases List.mem_cons.1 hx with rfl | hx
      · refine .inr ⟨(bodyT t).length, by omega, ?_⟩
        rw [log_last]
      · obtain rfl := List.mem_singleton.1 hx
        exact absurd rfl hk2
  -- the texts that may be left
  have htx : ∀ n : Nat, n < 37 → readD c n = readD d n ∨ ∃ x ∈ (comL r t).take k, x.kind ≠ 2 ∧ x.at_ = n ∧ x.text = readD c n := fun n hn => by
    rcases run_texts _ hg (hok k) (hln k) hn _ (hl.read n hn) with hh | hh
    · rw [texts_clean hg hw hn] at hh
      exact .inl (List.mem_singleton.1 hh)
    · exact .inr hh
  have hz : readD c 0 = readD d 0 := by
    rcases htx 0 (by decide) with hh | ⟨x, hx, hk2, ha, _⟩
    · exact hh
    · exfalso
      rcases hwr x (List.mem_of_mem_take hx) hk2 with ⟨y, hy, rfl⟩ | ⟨j, hj, rfl⟩
      · have := (data_ok g hy).1
        have ha2 : 25 + y.block = ((0 : Nat) : Int) := ha
        omega
      · have ha2 : 1 + (r.head + (j : Int)) % 24 = ((0 : Nat) : Int) := ha
        omega
  have hh : ∀ b : Nat, b < 12 → readD c (25 + (b : Int)) = readD d (25 + (b : Int)) ∨ ∃ x ∈ t.dt, x.block = b ∧ readD c (25 + (b : Int)) = x.text := fun b hb => by
    rcases htx (25 + b) (by omega) with hh | ⟨x, hx, hk2, ha, he⟩
    · exact .inl (by simpa using hh)
    · rcases hwr x (List.mem_of_mem_take hx) hk2 with ⟨y, hy, rfl⟩ | ⟨j, hj, rfl⟩
      · have ha2 : 25 + y.block = ((25 + b : Nat) : Int) := ha
        exact .inr ⟨y, hy, by omega, by have he2 := he.symm; simpa [atW, wrS] using he2⟩
      · exfalso
        have ha2 : 1 + (r.head + (j : Int)) % 24 = ((25 + b : Nat) : Int) := ha
        omega
  refine ⟨hl.good, hl.clean, hz, hh, fun hd x hx => ?_, ?_⟩
  · -- data is at its place once its flush is through
    have hb := data_ok g hx
    have hn0 : t.dt ≠ [] := fun e => by rw [e] at hx; cases hx
    have hds : dataS t = t.dt.map (fun c => wrS (25 + c.block) c.text) ++ [flushS] := by unfold dataS; rw [if_neg hn0]
    obtain ⟨b, hbb, hb12⟩ : ∃ b : Nat, x.block = b ∧ b < 12 := ⟨x.block.toNat, by omega, by omega⟩
    have htk : (comL r t).take k = dataS t ++ ((comL r t).take k).drop (dataS t).length := by
      have e : ((comL r t).take k).take (dataS t).length = dataS t := by
        rw [List.take_take, Nat.min_eq_left hd, hsp]
        unfold comA
        rw [List.append_assoc, List.take_left]
      conv => lhs; rw [← List.take_append_drop (dataS t).length ((comL r t).take k), e]
    have hrest : ∀ y ∈ ((comL r t).take k).drop (dataS t).length, y.kind ≠ 2 → y.at_ ≠ ((25 + b : Nat) : Int) := fun y hy hk2 => by
      have hy2 : y ∈ (List.zipWith atW (places r.head (bodyT t).length) (bodyT t) ++ (if bodyT t = [] then [] else [flushS])) ++ [atW ((r.head + (bodyT t).length) % 24) (markS (comM t.seq)), flushS] := by
        rw [hsp] at hy
        unfold comA at hy
        rw [List.append_assoc, List.take_append, List.drop_append, List.drop_eq_nil_of_le (by rw [List.length_take]; omega), List.nil_append] at hy
        exact List.mem_of_mem_take (List.mem_of_mem_drop hy)
      have key : ∀ (p : Int) (s : ByteArray), 0 ≤ p ∧ p < 24 → (atW p s).at_ ≠ ((25 + b : Nat) : Int) := fun p s hp e => by
        have e2 : 1 + p = ((25 + b : Nat) : Int) := e
        omega
      rcases List.mem_append.1 hy2 with hy2 | hy2
      · rcases List.mem_append.1 hy2 with hy2 | hy2
        · obtain ⟨j, hj, rfl⟩ := mem_zip hy2
          exact key _ _ ⟨Int.emod_nonneg _ (by decide), Int.emod_lt_of_pos _ (by decide)⟩
        · split at hy2
          · cases hy2
          · obtain rfl := List.mem_singleton.1 hy2
            exact absurd rfl hk2
      · rcases List.mem_cons.1 hy2 with rfl | hy2
        · exact key _ _ ⟨Int.emod_nonneg _ (by decide), Int.emod_lt_of_pos _ (by decide)⟩
        · obtain rfl := List.mem_singleton.1 hy2
          exact absurd rfl hk2
    have hokd : ∀ y ∈ t.dt.map (fun c => wrS (25 + c.block) c.text), stpOk y := fun y hy hk2 => by
      obtain ⟨z, hz2, rfl⟩ := List.mem_map.1 hy
      have := data_ok g hz2
      exact ⟨by unfold isAt wrS; simp; omega, this.2⟩
    have hokD : ∀ y ∈ dataS t, stpOk y := fun y hy => ho y (by rw [hsp]; unfold comA; simp [hy])
    have hlD : (dataS t).length ≤ 100 := by
      have := congrArg List.length hsp
      unfold comA at this
      simp only [List.length_append] at this
      omega
    have hlenD := (lens g).2.1
    -- behind its flush one text stands there
    have hdisk : textsAt (runD d (dataS t)) (25 + b) = [x.text] := by
      have e : readD (runD d (t.dt.map (fun c => wrS (25 + c.block) c.text))) ((25 + b : Nat) : Int) = x.text :=
        run_read _ hg hokd (by rw [hw, List.length_map, List.length_nil]; omega) (by omega) (fun y hy _ ha => by
          obtain ⟨z, hz2, rfl⟩ := List.mem_map.1 hy
          have ha2 : 25 + z.block = ((25 + b : Nat) : Int) := ha
          exact dt_one g hz2 hx (by omega)) (.inl ⟨wrS (25 + x.block) x.text, List.mem_map.2 ⟨x, hx, rfl⟩, wr_kind _ _, by show 25 + x.block = _; omega⟩)
      rw [hds, run_flush hg hokd (by rw [hw, List.length_map, List.length_nil]; omega) (by omega), e]
    have hgD := run_good (dataS t) hg hokD (by rw [hw, List.length_nil]; omega)
    have hlt : (((comL r t).take k).drop (dataS t).length).length ≤ 100 := by rw [List.length_drop, List.length_take]; omega
    have hfin := hl.read (25 + b) (by omega)
    rw [htk, runD_append] at hfin
    rcases run_texts _ hgD.1 (fun y hy => hok k y (List.mem_of_mem_drop hy)) (by have := hgD.2; rw [hw, List.length_nil] at this; omega) (k := 25 + b) (by omega) _ hfin with hh2 | ⟨y, hy, hk2, ha, _⟩
    · rw [hdisk] at hh2
      rw [hbb]
      simpa using List.mem_singleton.1 hh2
    · exact absurd ha (hrest y hy hk2)
  · by_cases hkA : k ≤ (comA r t).length
    · -- the last block is not written yet
      refine .inl ⟨by omega, fun i hi => ?_⟩
      rcases htx (1 + i) (by omega) with hh | ⟨x, hx, hk2, ha, he⟩
      · exact .inl (by simpa using hh)
      · have hx2 : x ∈ comA r t := by
          rw [hsp, List.take_append_of_le_length hkA] at hx
          exact List.mem_of_mem_take hx
        rcases mem_comA hx2 with rfl | ⟨y, hy, rfl⟩ | ⟨j, hj, rfl⟩
        · exact absurd rfl hk2
        · exfalso
          have ha2 : 25 + y.block = ((1 + i : Nat) : Int) := ha
          have := (data_ok g hy).1
          omega
        · have ha2 : 1 + (r.head + (j : Int)) % 24 = ((1 + i : Nat) : Int) := ha
          exact .inr ⟨j, hj, by omega, by have he2 := he.symm; simpa [atW, wrS] using he2⟩
    · -- the last block is written: the others are safe
      have hA : (comL r t).take (comA r t).length = comA r t := by rw [hsp, List.take_left]
      have hgA := run_good (comA r t) hg (fun x hx => ho x (by rw [hsp]; simp [hx])) (by rw [hw, List.length_nil]; omega)
      have hbody : ∀ (j : Nat) (hj : j < (bodyT t).length), textsAt (runD d (comA r t)) (1 + ((r.head + (j : Int)) % 24).toNat) = [(bodyT t)[j]] := fun j hj => by
        have hne : bodyT t ≠ [] := fun e => by rw [e] at hj; cases hj
        have hAe : comA r t = (dataS t ++ List.zipWith atW (places r.head (bodyT t).length) (bodyT t)) ++ [flushS] := by unfold comA; rw [if_neg hne]; simp
        have hok2 : ∀ x ∈ dataS t ++ List.zipWith atW (places r.head (bodyT t).length) (bodyT t), stpOk x := fun x hx => ho x (by rw [hsp, hAe]; simp only [List.append_assoc]; rw [← List.append_assoc]; exact List.mem_append_left _ hx)
        have hln2 : d.writes.length + (dataS t ++ List.zipWith atW (places r.head (bodyT t).length) (bodyT t)).length ≤ 200 := by
          have := congrArg List.length hAe
          rw [List.length_append] at this
          rw [hw, List.length_nil]
          omega
        have hlt : 1 + ((r.head + (j : Int)) % 24).toNat < 37 := by omega
        rw [hAe, run_flush hg hok2 hln2 hlt]
        congr 1
        refine run_read _ hg hok2 hln2 hlt (fun x hx hk2 ha => ?_) (.inl ⟨_, List.mem_append_right _ (zip_mem r.head (bodyT t) hj), wr_kind _ _, ?_⟩)
        · rcases List.mem_append.1 hx with hx | hx
          · exfalso
            rcases mem_data hx with rfl | ⟨y, hy, rfl⟩
            · exact absurd rfl hk2
            · have ha2 : 25 + y.block = ((1 + ((r.head + (j : Int)) % 24).toNat : Nat) : Int) := ha
              have := (data_ok g hy).1
              omega
          · obtain ⟨i, hi, rfl⟩ := mem_zip hx
            have ha2 : 1 + (r.head + (i : Int)) % 24 = ((1 + ((r.head + (j : Int)) % 24).toNat : Nat) : Int) := ha
            obtain rfl : i = j := places_ne (a := r.head) (by omega) (by omega) (by omega)
            rfl
        · show 1 + (r.head + (j : Int)) % 24 = _
          omega
      have hrestA : ∀ n : Nat, n < 37 → ∀ s ∈ textsAt (runD d (comA r t)) n, s = readD d n ∨ ∃ x ∈ comA r t, x.kind ≠ 2 ∧ x.at_ = n ∧ x.text = s := fun n hn s hs => by
        rcases run_texts _ hg (fun x hx => ho x (by rw [hsp]; simp [hx])) (by rw [hw, List.length_nil]; omega) hn s hs with hh | hh
        · rw [texts_clean hg hw hn] at hh
          exact .inl (List.mem_singleton.1 hh)
        · exact .inr hh
      have hpc : putE (runD d (comA r t)) (1 + (r.head + (bodyT t).length) % 24) (markS (comM t.seq)) = 0 := by
        have := (step_one hgA.1 (ho (atW ((r.head + (bodyT t).length) % 24) (markS (comM t.seq))) (by rw [hsp]; simp)) (by have := hgA.2; rw [hw, List.length_nil] at this; omega)).1
        exact this
      have hput : textsAt (putD (runD d (comA r t)) (1 + (r.head + (bodyT t).length) % 24) (markS (comM t.seq))) = fun n : Nat => if 1 + (r.head + (bodyT t).length) % 24 = (n : Int) then textsAt (runD d (comA r t)) n ++ [markS (comM t.seq)] else textsAt (runD d (comA r t)) n := funext fun n => texts_put hpc n
      have hgP := put_good hpc
      -- k is one of two
      have htk : ∀ n : Nat, n < 37 → readD c n ∈ textsAt (putD (runD d (comA r t)) (1 + (r.head + (bodyT t).length) % 24) (markS (comM t.seq))) n ∧ (k = (comL r t).length → readD c n = readD (putD (runD d (comA r t)) (1 + (r.head + (bodyT t).length) % 24) (markS (comM t.seq))) n) := fun n hn => by
        have hrd := hl.read n hn
        obtain rfl | rfl : k = (comA r t).length + 1 ∨ k = (comA r t).length + 2 := by omega
        · rw [hsp, List.take_append, List.take_of_length_le (by omega), Nat.add_sub_cancel_left, runD_append] at hrd
          exact ⟨hrd, fun e => by omega⟩
        · rw [List.take_of_length_le (by omega), hsp, runD_append] at hrd
          have e : runD (runD d (comA r t)) [atW ((r.head + (bodyT t).length) % 24) (markS (comM t.seq)), flushS] = flushD (putD (runD d (comA r t)) (1 + (r.head + (bodyT t).length) % 24) (markS (comM t.seq))) := rfl
          rw [e, flush_texts hgP hn] at hrd
          have hrd := List.mem_singleton.1 hrd
          exact ⟨by rw [hrd]; exact texts_last hgP hn, fun _ => hrd⟩
      have hcomq : ((1 + ((r.head + ((bodyT t).length : Int)) % 24).toNat : Nat) : Int) = 1 + (r.head + ((bodyT t).length : Int)) % 24 := by omega
      have hc24 : 1 + ((r.head + ((bodyT t).length : Int)) % 24).toNat < 37 := by omega
      by_cases hmk : readD c (1 + (r.head + ((bodyT t).length : Int)) % 24) = markS (comM t.seq)
      · refine .inr ⟨by omega, fun j hj => ?_, fun i hi hij => ?_⟩
        · by_cases hjb : j < (bodyT t).length
          · have hne : ¬ (1 + (r.head + ((bodyT t).length : Int)) % 24 = ((1 + ((r.head + (j : Int)) % 24).toNat : Nat) : Int)) := fun e => by
              have := places_ne (a := r.head) (i := (bodyT t).length) (j := j) (by omega) (by omega) (by omega)
              omega
            have h7 := (htk (1 + ((r.head + (j : Int)) % 24).toNat) (by omega)).1
            rw [hput] at h7
            simp only [if_neg hne] at h7
            rw [hbody j hjb] at h7
            have h8 := List.mem_singleton.1 h7
            have e : ((1 + ((r.head + (j : Int)) % 24).toNat : Nat) : Int) = 1 + (r.head + (j : Int)) % 24 := by omega
            rw [e] at h8
            rw [h8, log_body t hjb]
          · obtain rfl : j = (bodyT t).length := by omega
            rw [hmk, log_last]
        · have hne : ¬ (1 + (r.head + ((bodyT t).length : Int)) % 24 = ((1 + i : Nat) : Int)) := fun e => hij (bodyT t).length (by omega) (by omega)
          have h7 := (htk (1 + i) (by omega)).1
          rw [hput] at h7
          simp only [if_neg hne] at h7
          rcases hrestA (1 + i) (by omega) _ h7 with hh | ⟨x, hx, hk2, ha, _⟩
          · simpa using hh
          · exfalso
            rcases mem_comA hx with rfl | ⟨y, hy, rfl⟩ | ⟨j, hj, rfl⟩
            · exact absurd rfl hk2
            · have ha2 : 25 + y.block = ((1 + i : Nat) : Int) := ha
              have := (data_ok g hy).1
              omega
            · have ha2 : 1 + (r.head + (j : Int)) % 24 = ((1 + i : Nat) : Int) := ha
              exact hij j (by omega) (by omega)
      · refine .inl ⟨?_, fun i hi => ?_⟩
        · -- not all was done, else it would be there
          by_cases hkl : k = (comL r t).length
          · exfalso
            have h9 := (htk _ hc24).2 hkl
            rw [hcomq] at h9
            exact hmk (h9.trans (put_read hpc))
          · omega
        · by_cases hne : 1 + (r.head + ((bodyT t).length : Int)) % 24 = ((1 + i : Nat) : Int)
          · have h7 := (htk (1 + i) (by omega)).1
            rw [hput] at h7
            simp only [if_pos hne] at h7
            rcases List.mem_append.1 h7 with h7 | h7
            · rcases hrestA (1 + i) (by omega) _ h7 with hh | ⟨x, hx, hk2, ha, he⟩
              · exact .inl (by simpa using hh)
              · exfalso
                rcases mem_comA hx with rfl | ⟨y, hy, rfl⟩ | ⟨j, hj, rfl⟩
                · exact absurd rfl hk2
                · have ha2 : 25 + y.block = ((1 + i : Nat) : Int) := ha
                  have := (data_ok g hy).1
                  omega
                · have ha2 : 1 + (r.head + (j : Int)) % 24 = ((1 + i : Nat) : Int) := ha
                  have := places_ne (a := r.head) (i := (bodyT t).length) (j := j) (by omega) (by omega) (by omega)
                  omega
            · exfalso
              refine hmk ?_
              rw [hne]
              exact List.mem_singleton.1 h7
          · have h7 := (htk (1 + i) (by omega)).1
            rw [hput] at h7
            simp only [if_neg hne] at h7
            rcases hrestA (1 + i) (by omega) _ h7 with hh | ⟨x, hx, hk2, ha, he⟩
            · exact .inl (by simpa using hh)
            · rcases mem_comA hx with rfl | ⟨y, hy, rfl⟩ | ⟨j, hj, rfl⟩
              · exact absurd rfl hk2
              · exfalso
                have ha2 : 25 + y.block = ((1 + i : Nat) : Int) := ha
                have := (data_ok g hy).1
                omega
              · have ha2 : 1 + (r.head + (j : Int)) % 24 = ((1 + i : Nat) : Int) := ha
                exact .inr ⟨j, hj, by omega, by have he2 := he.symm; simpa [atW, wrS] using he2⟩
end Wb
