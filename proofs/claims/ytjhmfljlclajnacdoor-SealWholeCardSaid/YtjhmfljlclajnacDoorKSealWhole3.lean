/- Parts of the proof: Disk9 KRun LogP LogD ComD ComS ChkD KeepP Disk2 Ring2. -/
import Derived.Test.YtjhmfljlclajnacDoorKSealWhole2
import Derived.Test.YtjhmfljlclajnacDoorUPoke
import Derived.Test.YtjhmfljlclajnacDoorKSealWhole1
import Derived.Test.YtjhmfljlclajnacDoorURing
set_option linter.unusedVariables false
set_option linter.unusedSimpArgs false
namespace Go.Proofs.YtjhmfljlclajnacDoor
open Go.RowKit Wb
set_option maxRecDepth 100000
set_option maxHeartbeats 1000000
theorem disk_FlushN (d : Dsk) (v : Value) (w : World) (hd : RDisk w v d) :
    Calls Tryd.prog 5 #[v] w fun e w' => ∃ v', e = .returned (.tuple #[v', .int .i64 (flushE d)]) ∧ RDisk w' v' (flushD d) ∧ NewD w.heap.size w' v v' d (flushD d) ∧ Below w.heap.size w w' := by
 have hG := fun w (hh : RDisk w v d) => disk_Good d v w hh
 have hd2 := hd
 obtain ⟨vs, vw, rfl, hs, hw, n1, n2⟩ := hd
 obtain ⟨a, cap, rfl, ca1, ca2⟩ := hs.form
 obtain ⟨b, bcap, rfl, cb1, cb2⟩ := hw.form
 replace hd2 := hid hd2
 by_cases hg : goodD d = true
 ·have he : flushE d = 0 := by unfold flushE; rw [if_pos hg]
  have hv : flushD d = ⟨flushL d.safe d.writes, []⟩ := by unfold flushD; rw [if_pos hg]
  rw [hv, he]
  rw [hg] at hG
  obtain ⟨g1, g2, _, g3⟩ := (goodD_iff d).1 hg
  clear he hv hg
  obtain ⟨safe, writes⟩ := d
  dsimp only at *
  have hC := fun v w (hh : RL strC w v safe) => clone_Strings safe v w hh n1
  have hstep := fun (k : Nat) (hk : k < writes.length) => flushL_step safe writes hk
  have hlen := fun k => flushL_len safe (writes.take k)
  have hwr := fun (k : Nat) (hk : k < writes.length) => List.all_eq_true.1 g3 writes[k] (List.getElem_mem hk)
  replace hG := hid hG
  replace hC := hid hC
  replace hs := hid hs
  replace hw := hid hw
  replace hstep := hid hstep
  replace hlen := hid hlen
  replace hwr := hid hwr
  replace g1 := hid g1
  clear g3
  go_enter Tryd.func5, Tryd.ntmps5
  go_wp2_with (first
   | (go_at_call 20; refine (hG.out _ (hd2.out.below (by exact Zlo))).mono ?_; rintro e w1 ⟨rfl, hb1⟩; obtain ⟨hbc, hbf⟩ := bcell hb1; have hbz := hb1.size; try simp only [World.size_alloc, World.size_setCell, World.size_drew] at hbz; have hz0 := Nat.lt_of_lt_of_le (n := w.heap.size) (by omega) hbz; have hz1 := Nat.lt_of_lt_of_le (n := w.heap.size + 1) (by omega) hbz)
   | (go_at_call 21; go_loud (refine (hC.out _ _ (hs.out.below (by exact Zlo))).mono ?_; rintro e w3 ⟨v3, rfl, hown3, hb3⟩; obtain ⟨a3, cap3, rfl⟩ := hown3.form; have k0 : Blk w3 w.heap.size #[.slice a safe.length cap, .slice b writes.length bcap] 25 := (((Blk.new w _ _).alloc _).step hb1).step hb3; have k1 : Blk w3 (w.heap.size + 1) #[.slice none 0 0, .slice none 0 0] 25 := ((Blk.newAt (w := w.alloc _) (by simp)).step hb1).step hb3; have hnx3 : Below w.heap.size w w3 := (by exact Zlo); have lt1 := k1.lt; have lt0 := k0.lt; have c0 := k0.cell 0; have c1 := k0.cell 1; simp only [Zga, Zgb, Zgc] at c0 c1; have og := fun g (hg : (Value.slice a3 safe.length cap3).ownBlock = some g) => World.ownsRow.lt hown3 g hg; replace og := hid og; have lz := hb1.size; clear hb1 hb3 hbc hbf)))
  have hz1w : w.heap.size + 1 < w1.heap.size := by (try simp at lz); omega
  have o0 := hown3
  go_loopw [6, 18] (fun _ i wr => ∃ k : Nat, k ≤ writes.length ∧ i = .int .i64 k ∧ Wb.Own strC w1.heap.size 9 1 wr (.slice a3 safe.length cap3) (flushL safe (writes.take k)) ∧ Blk wr w.heap.size #[.slice a safe.length cap, .slice b writes.length bcap] 25 ∧ Blk wr (w.heap.size + 1) #[.slice none 0 0, .slice none 0 0] 25 ∧ Blk wr w3.heap.size #[.slice a3 safe.length cap3, .slice none 0 0] 25 ∧ Below w.heap.size w wr) (fun _ i _ => writes.length - (intOf i).toNat)
  case atStart => exact ⟨0, Nat.zero_le _, rfl, o0.alloc _, k0.alloc _, k1.alloc _, Blk.new _ _ _, allocB hnx3 (by omega) _⟩
  case round =>
   obtain ⟨k, hk, rfl, hown, k0, k1, k2, hnx⟩ := hrel
   have lt0 := k0.lt
   have lt1 := k1.lt
   have lt2 := k2.lt
   have c0 := k0.cell 0
   have c1 := k0.cell 1
   have c2 := k1.cell 0
   have c3 := k1.cell 1
   have c4 := k2.cell 0
   have c5 := k2.cell 1
   simp only [Zga, Zgb, Zgc] at c0 c1 c2 c3 c4 c5
   by_cases hlt : k < writes.length
   ·obtain ⟨b2, off, rfl, d0, d1⟩ := RL.at2 (fun x => .int .i64 x.at_) (fun x => .string x.text) (fun _ => rfl) (hw.out.below hnx) hlt
    have lt3 := World.block_lt_of_cell? _ _ d0
    dsimp only at lt3
    have hst := hstep.out k hlt
    have hwk := hwr.out k hlt
    have hl := hlen.out k
    obtain ⟨⟨p, t⟩, hx⟩ : ∃ x, writes[k] = x := ⟨_, rfl⟩
    rw [hx] at d0 d1 hst hwk
    obtain ⟨m, rfl⟩ : ∃ m : Nat, p = m := ⟨p.toNat, by simp only [wrOk, Bool.and_eq_true, isAt, decide_eq_true_eq] at hwk; omega⟩
    have hm : m < safe.length := by simp only [wrOk, Bool.and_eq_true, isAt, decide_eq_true_eq] at hwk; have := g1.out; omega
    dsimp only at d0 d1
    simp only [Int.toNat_natCast] at hst
    generalize flushL safe (writes.take k) = fl at *
    obtain ⟨g, cap4, hv, hgb, hgl, hgc, hset⟩ := hown.poke strC_flat (k := m) (by omega)
    simp only [Value.slice.injEq] at hv
    obtain ⟨rfl, _, rfl⟩ := hv
    obtain ⟨z0, z1⟩ := hgc 0 (by decide)
    replace hset := hset 0 t (.string t) (by decide) rfl
    rw [← hst, Nat.mul_one, Nat.add_zero] at hset
    simp only [Nat.mul_one, Nat.add_zero, strC, List.getElem?_cons_zero] at z0 z1
    replace hset := hid hset
    have hne := og.out g rfl
    have hm3 : m < fl.length := by omega
    obtain ⟨old, hold⟩ : ∃ y, fl[m] = y := ⟨_, rfl⟩
    rw [hold] at z1
    clear hold hwk hst hx hown hgc hl hm3
    have hm2 : (m : Int) < safe.length := by omega
    go_wp2
    go_roundw
    case rel => exact ⟨k + 1, by omega, by go_num, hset.out.alloc _, (k0.set_other _ _ (by simp; omega)).alloc _, (k1.set_other _ _ (by simp; omega)).alloc _, (k2.set_other _ _ (by simp; omega)).alloc _, allocB (hnx.setCell (by simp; omega) _) (by omega) _⟩
    case measure => simp [intOf]; omega
   ·rw [List.take_of_length_le (by omega)] at hown
    have f1 := k1.free 0
    have f2 := k1.free 1
    go_wp2
    have hF : Below w.heap.size w ((wr.setCell ⟨w.heap.size + 1, 0, none⟩ (.slice a3 safe.length cap3)).setCell ⟨w.heap.size + 1, 1, none⟩ (.slice none 0 0)) := (hnx.setCell (by simp) _).setCell (by simp) _
    have hfl := flushL_len safe writes
    obtain ⟨a9, cap9, hv9, _, _⟩ := hown.reads.form
    have ho := (hown.setCell (p := ⟨w.heap.size + 1, 0, none⟩) (by simp; omega) (.slice a3 safe.length cap3)).setCell (p := ⟨w.heap.size + 1, 1, none⟩) (by simp; omega) (.slice none 0 0)
    refine bodyPost_ret (v := .tuple #[.agg #[.slice a3 safe.length cap3, .slice none 0 0], .int .i64 0]) (by simp [results, Tryd.results5, go_sem, c2, c3]) rfl ⟨_, rfl, ⟨_, _, rfl, ho.reads, RL.nil _ _, by rw [hfl]; exact n1, by simp⟩, ⟨_, _, _, _, rfl, rfl, ho.slot (by omega), .nil⟩, hF⟩
 ·have he : flushE d = 2 := by unfold flushE; rw [if_neg hg]
  have hv : flushD d = d := by unfold flushD; rw [if_neg hg]
  rw [hv, he]
  rw [Bool.not_eq_true _ |>.mp hg] at hG
  clear hg hv he hs hw
  replace hG := hid hG
  go_enter Tryd.func5, Tryd.ntmps5
  go_wp2_with (go_at_call 20; refine (hG.out _ (hd2.out.below (by exact Zlo))).mono ?_; rintro e w1 ⟨rfl, hb1⟩; obtain ⟨hbc, hbf⟩ := bcell hb1; have hbz := hb1.size; try simp only [World.size_alloc, World.size_setCell, World.size_drew] at hbz; have hz0 := Nat.lt_of_lt_of_le (n := w.heap.size) (by omega) hbz; have hz1 := Nat.lt_of_lt_of_le (n := w.heap.size + 1) (by omega) hbz)
  exact bodyPost_ret (v := .tuple #[.agg #[.slice a d.safe.length cap, .slice b d.writes.length bcap], .int .i64 2]) (by simp [results, Tryd.results5, go_sem, hbc]) rfl ⟨_, rfl, hd2.out.below (by exact Zlo), hd2.out.same _, by exact Zlo⟩
theorem disk_Flush (d : Dsk) (v : Value) (w : World) (hd : RDisk w v d) :
    Calls Tryd.prog 5 #[v] w fun e w' => ∃ v', e = .returned (.tuple #[v', .int .i64 (flushE d)]) ∧ RDisk w' v' (flushD d) ∧ Below w.heap.size w w' :=
 (disk_FlushN d v w hd).mono fun e w' ⟨v', h1, h2, _, h3⟩ => ⟨v', h1, h2, h3⟩
end Go.Proofs.YtjhmfljlclajnacDoor
namespace Go.Proofs.YtjhmfljlclajnacDoor
open Go.RowKit Wb
set_option maxRecDepth 100000
set_option maxHeartbeats 8000000
theorem _root_.Wb.St.two {S : List Nat} {w0 w : World} {L : List Ent} {a b : Rd} {R : List Rd} (X : St S w0 w L (a :: b :: R)) : St S w0 w L [a, b] := X.less (List.Sublist.refl _) fun r hr => by
 rcases List.mem_cons.1 hr with rfl | hr
 ·exact .head _
 ·rcases List.mem_singleton.1 hr with rfl; exact .tail _ (.head _)
theorem keep_run (d : Dsk) (l : List Stp) (v vl : Value) (w0 : World) (hd : RDisk w0 v d) (hl : RL stpC w0 vl l) (hll : l.length ≤ 5864062014805) :
    Calls Tryd.prog 14 #[v, vl] w0 fun e w' => ∃ v', e = .returned v' ∧ RDisk w' v' (runD d l) ∧ Below w0.heap.size w0 w' := by
 obtain ⟨a, cap, rfl, _⟩ := hl.form
 have hFl := fun d v w (h : RDisk w v d) => disk_Flush d v w h
 have hPu := fun d n t v w (h : RDisk w v d) => disk_Put d n t v w h
 have hr0 : runD d (l.take 0) = d := rfl
 have hrf : runD d (l.take l.length) = runD d l := by rw [List.take_length]
 have hrs : ∀ k (hk : k < l.length), runD d (l.take (k + 1)) = stepD (runD d (l.take k)) l[k] := fun k hk => by
  rw [List.take_succ_eq_append_getElem hk, runD_append]; rfl
 obtain ⟨as_, cs, aw, cw, rfl, h1, h2, n1, n2⟩ := hd.form
 have X : St [] w0 w0 [] (dskR as_ cs aw cw d) := ((St.start [] w0).addR0 h2).addR0 h1
 clear h1 h2 hd
 replace hl := hid hl; replace hFl := hid hFl; replace hPu := hid hPu; replace hrs := hid hrs; replace hr0 := hid hr0; replace hrf := hid hrf
 go_enter Tryd.func14, Tryd.ntmps14
 go_wp2_with (first
  | (refine ZcL ?_) | (refine ZcS ?_; clear X; intro w X) | (refine ZcA ?_; clear X; intro g w X))
 obtain ⟨g4, g2, rfl, rfl⟩ := X.gs2
 go_loopw [9] (fun i wr => ∃ (k : Nat) (as_ aw : Option Addr) (cs cw : Nat) (D : Dsk), k ≤ l.length ∧ i = .int .i64 k ∧ Hid (D = runD d (l.take k)) ∧ D.safe.length ≤ 8796093022208 ∧ D.writes.length ≤ 5864062014805 ∧ St [] w0 wr [⟨g4, [.slice none 0 0, .slice none 0 0], 25⟩, ⟨g2, [.slice as_ D.safe.length cs, .slice aw D.writes.length cw], 25⟩] (dskR as_ cs aw cw D)) (fun i _ => l.length - (intOf i).toNat)
 case atStart => exact ⟨0, _, _, _, _, d, Nat.zero_le _, rfl, hid hr0.out.symm, n1, n2, X⟩
 case round =>
  clear X n1 n2
  obtain ⟨k, as_, aw, cs, cw, D, hk, rfl, hD, n1, n2, X⟩ := hrel
  by_cases hlt : k < l.length
  ·obtain ⟨bz, oz, hbz, c0, c1, c2⟩ := RL.at3 (fun x : Stp => .int .i64 x.kind) (fun x => .int .i64 x.at_) (fun x => .string x.text) (fun _ => rfl) (hl.out.below X.below) hlt
   cases hbz
   have hst := hrs.out k hlt
   rw [← hD.out] at hst
   generalize l[k] = s at *
   obtain ⟨sk, sa, stt⟩ := s
   (try dsimp only at c0 c1 c2)
   have hF2 := fun v w (h : RDisk w v D) => hFl.out D v w h
   have hP2 := fun v w (h : RDisk w v D) => hPu.out D sa stt v w h
   unfold stepD at hst
   (try dsimp only at hst)
   by_cases hk2 : sk = 2
   ·subst hk2
    rw [if_pos rfl] at hst
    rw [← hst] at hF2
    replace hF2 := hid hF2; replace hst := hid hst
    generalize hD2 : runD d (l.take (k + 1)) = D2 at *
    replace hD2 := hid hD2
    generalize flushE D = fe at *
    go_upto_region 4 with (first
     | (refine ZeL ?_) | (refine ZeS ?_; clear X; intro w X) | (refine ZeA ?_; clear X; intro g w X))
    go_wp2_with (first
     | (refine ZcL ?_) | (refine ZcS ?_; clear X; intro w X) | (refine ZcA ?_; clear X; intro g w X)
     | (go_at_call 5; go_loud ((with_reducible refine (hF2.out _ _ (X.dsk n1 n2)).mono ?_); rintro e w1 ⟨v1, rfl, hr1, hb1⟩; obtain ⟨as2, cs2, aw2, cw2, rfl, f1, f2, m1, m2⟩ := hr1.form; replace X := ((X.call hb1).tail.addDsk f1 f2 (by simp [noSl])); clear hb1 hr1 f1 f2)))
    go_roundw
    case rel => (first | exact ⟨k + 1, as2, aw2, cs2, cw2, D2, by omega, by go_num, hid hD2.out.symm, m1, m2, X.two⟩ | ((repeat apply Exists.intro); exact ⟨⟨k + 1, as2, aw2, cs2, cw2, D2, by omega, by go_num, hid hD2.out.symm, m1, m2, X.two⟩, rfl⟩))
    case measure => simp [intOf]; omega
   ·rw [if_neg hk2] at hst
    rw [← hst] at hP2
    replace hP2 := hid hP2; replace hst := hid hst
    generalize hD2 : runD d (l.take (k + 1)) = D2 at *
    replace hD2 := hid hD2
    generalize putE D sa stt = fe at *
    have he2 : (sk == 2) = false := beq_eq_false_iff_ne.2 hk2
    go_upto_region 4 with (first
     | (refine ZeL ?_) | (refine ZeS ?_; clear X; intro w X) | (refine ZeA ?_; clear X; intro g w X))
    go_wp2_with (first
     | (refine ZcL ?_) | (refine ZcS ?_; clear X; intro w X) | (refine ZcA ?_; clear X; intro g w X)
     | (go_at_call 28; go_loud ((with_reducible refine (hP2.out _ _ (X.dsk n1 n2)).mono ?_); rintro e w1 ⟨v1, rfl, hr1, hb1⟩; obtain ⟨as2, cs2, aw2, cw2, rfl, f1, f2, m1, m2⟩ := hr1.form; replace X := ((X.call hb1).tail.addDsk f1 f2 (by simp [noSl])); clear hb1 hr1 f1 f2)))
    go_roundw
    case rel => (first | exact ⟨k + 1, as2, aw2, cs2, cw2, D2, by omega, by go_num, hid hD2.out.symm, m1, m2, X.two⟩ | ((repeat apply Exists.intro); exact ⟨⟨k + 1, as2, aw2, cs2, cw2, D2, by omega, by go_num, hid hD2.out.symm, m1, m2, X.two⟩, rfl⟩))
    case measure => simp [intOf]; omega
  ·obtain rfl : k = l.length := by omega
   have hD3 : D = runD d l := hD.out.trans hrf.out
   subst hD3
   clear hD hrf hrs hr0
   go_wp2_with (first
    | (refine ZeL ?_) | (refine ZeS ?_; clear X; intro w X) | (refine ZeA ?_; clear X; intro g w X))
   exact m_ret1 rfl (.tmp rfl rfl) X (.head _) rfl rfl ⟨_, rfl, X.dsk n1 n2, X.below⟩
end Go.Proofs.YtjhmfljlclajnacDoor
namespace Wb
open Go Go.RowKit
theorem escS_size {s : ByteArray} (h : s.size = 32) : (escS s).size = 32 := by
 unfold escS
 by_cases hc : isEsc s = true
 ·rw [if_pos hc, str_size]
  simp only [List.length_append, List.length_drop, ba_len, h]
  rfl
 ·rw [if_neg hc]; exact h
theorem escS_dec (s : ByteArray) : decE (escS s) = 1 := by
 refine (dec_no ?_).2
 rintro ⟨⟨_, h⟩, _⟩
 unfold escS at h
 by_cases hc : isEsc s = true
 ·rw [if_pos hc] at h
  have : ([0, 0, 0, 0] : List UInt8) = magic := by simpa [str] using h
  exact absurd this (by decide)
 ·rw [if_neg hc] at h
  exact hc (decide_eq_true h)
theorem escS_back (s : ByteArray) : unescS (escS s) (isEsc s) = s := by
 unfold unescS escS
 by_cases hc : isEsc s = true
 ·have hx : 4 ≤ (str ([0, 0, 0, 0] ++ s.data.toList.drop 4)).size := by rw [str_size]; simp
  rw [hc, if_pos rfl, if_pos ⟨rfl, hx⟩]
  have h4 : s.data.toList.take 4 = magic := of_decide_eq_true hc
  have e : s = str s.data.toList := (str_toList s).symm
  conv => rhs; rw [e, ← List.take_append_drop 4 s.data.toList, h4]
  simp [str]
 ·rw [if_neg (fun hh => hc hh.1), if_neg hc]
theorem dec_mark {m : Mrk} (h : markE m = 0) : decE (markS m) = 0 ∧ decM (markS m) = m ∧ (markS m).size = 32 := by
 unfold markS
 rw [if_pos h]
 exact ⟨(dec_enc h).2.2, (dec_enc h).2.1, by rw [str_size, markL_len]⟩
theorem rise_take {l : List Int} (k : Nat) (h : rise l = true) : rise (l.take k) = true := by
 rw [rise_pw] at h ⊢
 exact ⟨h.1.sublist (List.take_sublist _ _), fun x hx => h.2 x (List.mem_of_mem_take hx)⟩
theorem rise_drop {l : List Int} (k : Nat) (h : rise l = true) : rise (l.drop k) = true := by
 rw [rise_pw] at h ⊢
 exact ⟨h.1.sublist (List.drop_sublist _ _), fun x hx => h.2 x (List.mem_of_mem_drop hx)⟩
theorem blks_take (l : List Cpy) (k : Nat) : blks (l.take k) = (blks l).take k := by simp [blks]
theorem blks_drop (l : List Cpy) (k : Nat) : blks (l.drop k) = (blks l).drop k := by simp [blks]
theorem list_kind (q : Int) (r : List Int) : (listM q r).kind = 3 := rfl
theorem com_kind (q : Int) : (comM q).kind = 4 := rfl
theorem desc_kind (q : Int) (p : List Cpy) : (descM q p).kind = 2 := rfl
theorem list_good {q : Int} {r : List Int} (hq : 1 ≤ q ∧ q ≤ 2147483647) (hr : rise r = true) (hn : r ≠ []) : markE (listM q r) = 0 := by
 have h1 := hq
 have h2 := rise_len hr
 have h3 : r.length ≠ 0 := fun h => hn (List.length_eq_zero_iff.1 h)
 refine markE_ok ?_ ?_ ?_ ?_ ?_ <;> simp only [badKind, badNum, badForm, badLen, badRise, listM, List.map_nil, List.length_nil] <;> (try omega)
 rw [hr]
 rintro (h | h)
 ·exact absurd h (by decide)
 ·exact absurd h (by decide)
theorem desc_good {q : Int} {p : List Cpy} (hq : 1 ≤ q ∧ q ≤ 2147483647) (hr : rise (blks p) = true) (hn : p ≠ []) (h10 : p.length ≤ 10) : markE (descM q p) = 0 := by
 have h1 := hq
 have h3 : p.length ≠ 0 := fun h => hn (List.length_eq_zero_iff.1 h)
 have e : (p.map tagC').map (·.block) = blks p := by simp [blks, tagC', Function.comp_def]
 refine markE_ok ?_ ?_ ?_ ?_ ?_ <;> simp only [badKind, badNum, badForm, badLen, badRise, descM, List.length_map, List.length_nil] <;> (try omega)
 rw [e, hr]
 rintro (h | h)
 ·exact absurd h (by decide)
 ·exact absurd h (by decide)
theorem com_good {q : Int} (hq : 1 ≤ q ∧ q ≤ 2147483647) : markE (comM q) = 0 := by
 have h1 := hq
 refine markE_ok ?_ ?_ ?_ ?_ ?_ <;> simp only [badKind, badNum, badForm, badLen, badRise, comM, List.map_nil, List.length_nil] <;> (try omega)
 rintro (h | h)
 ·exact absurd h (by decide)
 ·exact absurd h (by decide)
def comAt (q : Int) (s : ByteArray) : Prop := decE s = 0 ∧ (decM s).seq = q ∧ (decM s).kind = 4
theorem takeTags_split {gs : List Tag} {r r' : List ByteArray} {m m' : List Cpy} (h : takeTags gs r m = some (m', r')) : ∃ pre, r = pre ++ r' ∧ ∀ r2, takeTags gs (pre ++ r2) m = some (m', r2) := by
 induction gs generalizing r m with
 | nil =>
  simp only [takeTags, Option.some.injEq, Prod.mk.injEq] at h
  obtain ⟨rfl, rfl⟩ := h
  exact ⟨[], rfl, fun _ => rfl⟩
 | cons g gs ih =>
  cases r with
  | nil => cases h
  | cons s r =>
   obtain ⟨pre, rfl, h2⟩ := ih h
   exact ⟨s :: pre, rfl, fun r2 => h2 r2⟩
theorem parseT_unfold (q : Int) (n : Nat) (s : ByteArray) (r : List ByteArray) (t : Txn) : parseT q (n + 1) (s :: r) t =
    if decE s = 0 ∧ (decM s).seq = q then
      if (decM s).kind = 4 then some (t, r)
      else if (decM s).kind = 3 then parseT q n r { t with rev := t.rev ++ (decM s).blocks }
      else if (decM s).kind = 2 then
        match takeTags (decM s).tags r t.mt with
        | some (mt, r') => parseT q n r' { t with mt := mt }
        | none => none
      else none
    else none := rfl
theorem parseT_none {q : Int} {n : Nat} {r : List ByteArray} {t : Txn} (h : ∀ s ∈ r, ¬ comAt q s) : parseT q n r t = none := by
 induction n generalizing r t with
 | zero => rfl
 | succ n ih =>
  cases r with
  | nil => rfl
  | cons s r =>
   have hr : ∀ x ∈ r, ¬ comAt q x := fun x hx => h x (List.mem_cons_of_mem _ hx)
   rw [parseT_unfold]
   split
   ·rename_i h1
    rw [if_neg (fun h4 => h s (by simp) ⟨h1.1, h1.2, h4⟩)]
    split
    ·exact ih hr
    ·split
     ·cases hk : takeTags (decM s).tags r t.mt with
      | none => rfl
      | some p =>
       obtain ⟨mt, r'⟩ := p
       obtain ⟨pre, rfl, _⟩ := takeTags_split hk
       exact ih fun x hx => hr x (by simp [hx])
     ·rfl
   ·rfl
theorem parseT_split {q : Int} {n : Nat} {r r' : List ByteArray} {t t' : Txn} (h : parseT q n r t = some (t', r')) : ∃ pre, r = pre ++ r' ∧ ∀ r2, parseT q n (pre ++ r2) t = some (t', r2) := by
 induction n generalizing r t with
 | zero => cases h
 | succ n ih =>
  cases r with
  | nil => cases h
  | cons s r =>
   rw [parseT_unfold] at h
   split at h
   ·rename_i h1
    split at h
    ·rename_i h4
     simp only [Option.some.injEq, Prod.mk.injEq] at h
     obtain ⟨rfl, rfl⟩ := h
     refine ⟨[s], rfl, fun r2 => ?_⟩
     show parseT q (n + 1) (s :: r2) t = _
     rw [parseT_unfold, if_pos h1, if_pos h4]
    ·rename_i h4
     split at h
     ·rename_i h3
      obtain ⟨pre, rfl, h2⟩ := ih h
      refine ⟨s :: pre, rfl, fun r2 => ?_⟩
      show parseT q (n + 1) (s :: (pre ++ r2)) t = _
      rw [parseT_unfold, if_pos h1, if_neg h4, if_pos h3, h2]
     ·rename_i h3
      split at h
      ·rename_i h2
       cases hk : takeTags (decM s).tags r t.mt with
       | none => rw [hk] at h; cases h
       | some p =>
        obtain ⟨mt, r1⟩ := p
        rw [hk] at h
        obtain ⟨p1, rfl, k2⟩ := takeTags_split hk
        obtain ⟨p2, rfl, k3⟩ := ih h
        refine ⟨s :: (p1 ++ p2), by simp, fun r2 => ?_⟩
        show parseT q (n + 1) (s :: (p1 ++ p2 ++ r2)) t = _
        rw [parseT_unfold, if_pos h1, if_neg h4, if_neg h3, if_pos h2, List.append_assoc, k2]
        exact k3 r2
      ·cases h
   ·cases h
def scanA (r : List ByteArray) (q : Int) : List Txn × Int × List ByteArray := scanGo (r.length + 1) r q
theorem scanA_stop {r : List ByteArray} {q : Int} (h : parseT q 25 r (txn0 q) = none) : scanA r q = ([], q, r) := scanGo_stop h
theorem scanA_none {r : List ByteArray} {q : Int} (h : ∀ s ∈ r, ¬ comAt q s) : scanA r q = ([], q, r) := scanA_stop (parseT_none h)
theorem scanA_split : ∀ (n : Nat) (r : List ByteArray) (q : Int), r.length ≤ n → ∃ pre, r = pre ++ (scanA r q).2.2 ∧ (scanA r q).2.1 = q + (scanA r q).1.length ∧
    (q ≤ 2147483647 → (scanA r q).2.1 ≤ 2147483647) ∧ ((scanA r q).1 = [] ↔ pre = []) ∧
    ∀ r2, (scanA (pre ++ r2) q).1 = (scanA r q).1 ++ (scanA r2 (scanA r q).2.1).1 ∧ (scanA (pre ++ r2) q).2 = (scanA r2 (scanA r q).2.1).2 := by
 intro n
 induction n with
 | zero =>
  intro r q hr
  have : r = [] := List.length_eq_zero_iff.1 (by omega)
  subst this
  rw [scanA_stop (parseT_nil q 25 _)]
  exact ⟨[], rfl, by simp, id, by simp, fun r2 => ⟨rfl, rfl⟩⟩
 | succ n ih =>
  intro r q hr
  have hstop : scanA r q = ([], q, r) → _ := fun e => (show ∃ pre, r = pre ++ (scanA r q).2.2 ∧ (scanA r q).2.1 = q + (scanA r q).1.length ∧
   (q ≤ 2147483647 → (scanA r q).2.1 ≤ 2147483647) ∧ ((scanA r q).1 = [] ↔ pre = []) ∧
   ∀ r2, (scanA (pre ++ r2) q).1 = (scanA r q).1 ++ (scanA r2 (scanA r q).2.1).1 ∧ (scanA (pre ++ r2) q).2 = (scanA r2 (scanA r q).2.1).2 from by
    rw [e]; exact ⟨[], rfl, by simp, id, by simp, fun r2 => ⟨rfl, rfl⟩⟩)
  by_cases hq : q < 2147483647
  ·cases hp : parseT q 25 r (txn0 q) with
   | none => exact hstop (scanA_stop hp)
   | some p =>
    obtain ⟨t, r1⟩ := p
    have hl := parseT_len hp
    obtain ⟨p1, rfl, hp2⟩ := parseT_split hp
    obtain ⟨e1, e2⟩ := scanGo_step hq hp
    obtain ⟨p2, f1, f2, f3, f4, f5⟩ := ih r1 (q + 1) (by omega)
    have e1' : (scanA (p1 ++ r1) q).1 = t :: (scanA r1 (q + 1)).1 := e1
    have e2' : (scanA (p1 ++ r1) q).2 = (scanA r1 (q + 1)).2 := e2
    rw [e1', e2']
    have hp1 : p1 ≠ [] := fun e => by subst e; simp at hl
    refine ⟨p1 ++ p2, by rw [List.append_assoc, ← f1], by rw [f2, List.length_cons]; omega, fun _ => f3 (by omega), by simp [hp1], fun r2 => ?_⟩
    obtain ⟨g1, g2⟩ := f5 r2
    obtain ⟨k1, k2⟩ := scanGo_step (r := p1 ++ (p2 ++ r2)) hq (hp2 _)
    have k1' : (scanA (p1 ++ (p2 ++ r2)) q).1 = t :: (scanA (p2 ++ r2) (q + 1)).1 := k1
    have k2' : (scanA (p1 ++ (p2 ++ r2)) q).2 = (scanA (p2 ++ r2) (q + 1)).2 := k2
    rw [List.append_assoc, k1', k2', g1, g2]
    exact ⟨rfl, rfl⟩
  ·exact hstop (scanGo_full hq)
def logOf (t : Txn) : Txn := ⟨t.seq, t.mt, [], t.rev, hnd0, hnd0, hnd0⟩
theorem takeTags_copies {p : List Cpy} (r : List ByteArray) (m : List Cpy) : takeTags (p.map tagC') (p.map (fun c => escS c.text) ++ r) m = some (m ++ p, r) := by
 induction p generalizing m with
 | nil => simp [takeTags]
 | cons c p ih =>
  show takeTags (p.map tagC') (p.map (fun c => escS c.text) ++ r) (m ++ [⟨c.block, unescS (escS c.text) (isEsc c.text)⟩]) = _
  rw [ih, escS_back]
  simp
theorem parse_rev {q : Int} {r : List Int} (hq : 1 ≤ q ∧ q ≤ 2147483647) (hr : rise r = true) (l : List ByteArray) (t : Txn) {n : Nat} (hn : (revL q r ++ l).length < n) : parseT q n (revL q r ++ l) t = parseT q n l { t with rev := t.rev ++ r } := by
 unfold revL at hn ⊢
 by_cases h : r = []
 ·subst h
  simp
 ·rw [if_neg h] at hn ⊢
  obtain ⟨d1, d2, _⟩ := dec_mark (list_good hq hr h)
  cases n with
  | zero => omega
  | succ n =>
   show parseT q (n + 1) (markS (listM q r) :: l) t = _
   simp only [List.length_append, List.length_cons, List.length_nil] at hn
   rw [parseT_unfold, d2, if_pos ⟨d1, rfl⟩, if_neg (by rw [list_kind]; decide), if_pos (list_kind _ _)]
   exact parseT_fuel (by omega) (by omega)
theorem parse_part {q : Int} {p : List Cpy} (hq : 1 ≤ q ∧ q ≤ 2147483647) (hr : rise (blks p) = true) (h10 : p.length ≤ 10) (l : List ByteArray) (t : Txn) {n : Nat} (hn : (partL q p ++ l).length < n) : parseT q n (partL q p ++ l) t = parseT q n l { t with mt := t.mt ++ p } := by
 unfold partL at hn ⊢
 by_cases h : p = []
 ·subst h
  simp
 ·rw [if_neg h] at hn ⊢
  obtain ⟨d1, d2, _⟩ := dec_mark (desc_good hq hr h h10)
  cases n with
  | zero => omega
  | succ n =>
   show parseT q (n + 1) (markS (descM q p) :: (p.map (fun c => escS c.text) ++ l)) t = _
   simp only [List.length_append, List.length_cons, List.length_map] at hn
   rw [parseT_unfold, d2, if_pos ⟨d1, rfl⟩, if_neg (by rw [desc_kind]; decide), if_neg (by rw [desc_kind]; decide), if_pos (desc_kind _ _)]
   rw [show (descM q p).tags = p.map tagC' from rfl, takeTags_copies]
   exact parseT_fuel (by omega) (by omega)
theorem parse_log {t : Txn} (g : GoodT t) (l : List ByteArray) {n : Nat} (hn : (logT t ++ l).length < n) : parseT t.seq n (logT t ++ l) (txn0 t.seq) = some (logOf t, l) := by
 have hb := copies_rise g.mt
 have hl := copies_len g.mt
 have e : logT t ++ l = revL t.seq t.rev ++ (partL t.seq (t.mt.take 10) ++ (partL t.seq (t.mt.drop 10) ++ (markS (comM t.seq) :: l))) := by
  unfold logT bodyT; simp
 rw [e] at hn ⊢
 rw [parse_rev g.seq g.rev _ _ hn]
 rw [List.length_append] at hn
 rw [parse_part g.seq (by rw [blks_take]; exact rise_take _ hb) (by rw [List.length_take]; omega) _ _ (by omega)]
 rw [List.length_append] at hn
 rw [parse_part g.seq (by rw [blks_drop]; exact rise_drop _ hb) (by rw [List.length_drop]; omega) _ _ (by omega)]
 rw [List.length_append, List.length_cons] at hn
 obtain ⟨d1, d2, _⟩ := dec_mark (com_good g.seq)
 cases n with
 | zero => omega
 | succ n =>
  rw [parseT_unfold, d2, if_pos ⟨d1, rfl⟩, if_pos (com_kind _)]
  simp [txn0, logOf]
theorem body_com {t : Txn} (g : GoodT t) {s : ByteArray} (hs : s ∈ bodyT t) (q : Int) : ¬ comAt q s := by
 have hb := copies_rise g.mt
 have hl := copies_len g.mt
 have hpart : ∀ p : List Cpy, rise (blks p) = true → p.length ≤ 10 → s ∈ partL t.seq p → ¬ comAt q s := fun p h1 h2 h3 => by
  unfold partL at h3
  split at h3
  ·cases h3
  ·rename_i hn
   rcases List.mem_cons.1 h3 with rfl | h3
   ·obtain ⟨d1, d2, _⟩ := dec_mark (desc_good g.seq h1 hn h2)
    rintro ⟨_, _, h⟩
    rw [d2, desc_kind] at h
    exact absurd h (by decide)
   ·obtain ⟨c, _, rfl⟩ := List.mem_map.1 h3
    rintro ⟨h, _, _⟩
    rw [escS_dec] at h
    exact absurd h (by decide)
 unfold bodyT at hs
 rcases List.mem_append.1 hs with hs | hs
 ·unfold revL at hs
  split at hs
  ·cases hs
  ·rename_i hn
   obtain rfl := List.mem_singleton.1 hs
   obtain ⟨d1, d2, _⟩ := dec_mark (list_good g.seq g.rev hn)
   rintro ⟨_, _, h⟩
   rw [d2, list_kind] at h
   exact absurd h (by decide)
 ·rcases List.mem_append.1 hs with hs | hs
  ·exact hpart _ (by rw [blks_take]; exact rise_take _ hb) (by rw [List.length_take]; omega) hs
  ·exact hpart _ (by rw [blks_drop]; exact rise_drop _ hb) (by rw [List.length_drop]; omega) hs
theorem log_size {t : Txn} (g : GoodT t) {s : ByteArray} (hs : s ∈ logT t) : s.size = 32 := by
 have hb := copies_rise g.mt
 have hl := copies_len g.mt
 have hc : ∀ c ∈ t.mt, c.text.size = 32 := fun c hc => ((copies_pw _).1 g.mt).2 c hc |>.2
 have hpart : ∀ p : List Cpy, rise (blks p) = true → p.length ≤ 10 → (∀ c ∈ p, c ∈ t.mt) → s ∈ partL t.seq p → s.size = 32 := fun p h1 h2 h4 h3 => by
  unfold partL at h3
  split at h3
  ·cases h3
  ·rename_i hn
   rcases List.mem_cons.1 h3 with rfl | h3
   ·exact (dec_mark (desc_good g.seq h1 hn h2)).2.2
   ·obtain ⟨c, hcm, rfl⟩ := List.mem_map.1 h3
    exact escS_size (hc c (h4 c hcm))
 unfold logT at hs
 rcases List.mem_append.1 hs with hs | hs
 ·unfold bodyT at hs
  rcases List.mem_append.1 hs with hs | hs
  ·unfold revL at hs
   split at hs
   ·cases hs
   ·rename_i hn
    obtain rfl := List.mem_singleton.1 hs
    exact (dec_mark (list_good g.seq g.rev hn)).2.2
  ·rcases List.mem_append.1 hs with hs | hs
   ·exact hpart _ (by rw [blks_take]; exact rise_take _ hb) (by rw [List.length_take]; omega) (fun c h => List.mem_of_mem_take h) hs
   ·exact hpart _ (by rw [blks_drop]; exact rise_drop _ hb) (by rw [List.length_drop]; omega) (fun c h => List.mem_of_mem_drop h) hs
 ·obtain rfl := List.mem_singleton.1 hs
  exact (dec_mark (com_good g.seq)).2.2
theorem isAt_nat {k : Nat} (h : k < 37) : isAt (k : Int) = true := by unfold isAt; simp; omega
theorem read_good {d : Dsk} (hg : goodD d = true) {k : Nat} (hk : k < 37) : readD d k = lastT (d.safe.getD k ⟨#[]⟩) k d.writes := by
 unfold readD safeAt
 rw [if_pos ⟨hg, isAt_nat hk⟩, Int.toNat_natCast]
theorem texts_last {d : Dsk} (hg : goodD d = true) {k : Nat} (hk : k < 37) : readD d k ∈ textsAt d k := by
 have h := after_last (d.safe.getD k ⟨#[]⟩) k d.writes
 rw [← read_good hg hk] at h
 exact List.mem_of_getLast? h
theorem texts_clean {d : Dsk} (hg : goodD d = true) (hc : d.writes = []) {k : Nat} (hk : k < 37) : textsAt d k = [readD d k] := by
 rw [read_good hg hk]
 unfold textsAt
 rw [hc]; rfl
theorem texts_put {d : Dsk} {n : Int} {t : ByteArray} (h : putE d n t = 0) (k : Nat) : textsAt (putD d n t) k = if n = k then textsAt d k ++ [t] else textsAt d k := by
 rw [putD_one h]
 unfold textsAt
 exact afterL_step _ _ _ ⟨n, t⟩
theorem flush_good {d : Dsk} (hg : goodD d = true) : goodD (flushD d) = true := by
 obtain ⟨g1, g2, g3, g4⟩ := (goodD_iff d).1 hg
 unfold flushD
 rw [if_pos hg]
 refine (goodD_iff _).2 ⟨by rw [flushL_len]; exact g1, by simp, ?_, rfl⟩
 rw [List.all_eq_true]
 intro s hs
 obtain ⟨n, hn, rfl⟩ := List.mem_iff_getElem.1 hs
 rw [flushL_len] at hn
 have h1 := flushL_get d.safe d.writes g4 n hn
 rw [List.getElem?_eq_getElem (by rw [flushL_len]; exact hn), Option.some.injEq] at h1
 rw [h1]
 have h2 := texts_last hg (k := n) (by omega)
 rw [read_good hg (by omega), List.getD_eq_getElem?_getD, List.getElem?_eq_getElem hn, Option.getD_some] at h2
 exact texts_ok hg hn _ h2
theorem flush_clean {d : Dsk} (hg : goodD d = true) : (flushD d).writes = [] := by unfold flushD; rw [if_pos hg]
theorem flush_read {d : Dsk} (hg : goodD d = true) {k : Nat} (hk : k < 37) : readD (flushD d) k = readD d k := by
 have hg1 := (goodD_iff d).1 hg
 rw [read_good (flush_good hg) hk, flush_clean hg, read_good hg hk]
 unfold flushD
 rw [if_pos hg]
 have h1 := flushL_get d.safe d.writes hg1.2.2.2 k (by omega)
 show lastT ((flushL d.safe d.writes).getD k ⟨#[]⟩) k [] = _
 rw [lastT_nil, List.getD_eq_getElem?_getD, h1, List.getD_eq_getElem?_getD, List.getElem?_eq_getElem (by omega)]
 rfl
theorem flush_texts {d : Dsk} (hg : goodD d = true) {k : Nat} (hk : k < 37) : textsAt (flushD d) k = [readD d k] := by
 rw [texts_clean (flush_good hg) (flush_clean hg) hk, flush_read hg hk]
structure Left (d c : Dsk) : Prop where
 good : goodD c = true
 clean : c.writes = []
 read : ∀ k : Nat, k < 37 → readD c k ∈ textsAt d k
theorem Left.crash {d : Dsk} {x : Int} (h : crashE d x = 0) : Left d (crashD d x) := by
 have hc : goodD d = true ∧ 0 ≤ x := by
  unfold crashE at h
  by_cases hh : goodD d = true ∧ 0 ≤ x
  ·exact hh
  ·rw [if_neg hh] at h; cases h
 have hg := (goodD_iff d).1 hc.1
 have e : crashD d x = ⟨crashL d x.toNat d.safe.length, []⟩ := by unfold crashD; rw [if_pos hc]
 refine ⟨crash_good h, by rw [e], fun k hk => ?_⟩
 rw [read_good (crash_good h) hk, e]
 show lastT ((crashL d x.toNat d.safe.length).getD k ⟨#[]⟩) k [] ∈ _
 rw [lastT_nil]
 unfold crashL
 rw [List.getD_eq_getElem?_getD, List.getElem?_map, List.getElem?_range (by omega)]
 exact crashAt_mem d _ k
theorem Left.flush {d : Dsk} (hg : goodD d = true) : Left d (flushD d) :=
 ⟨flush_good hg, flush_clean hg, fun k hk => by rw [flush_read hg hk]; exact texts_last hg hk⟩
theorem Left.same {d c : Dsk} (h : Left d c) (hg : goodD d = true) (hc : d.writes = []) {k : Nat} (hk : k < 37) : readD c k = readD d k := by
 have := h.read k hk
 rw [texts_clean hg hc hk] at this
 exact List.mem_singleton.1 this
def stpOk (s : Stp) : Prop := s.kind ≠ 2 → isAt s.at_ = true ∧ s.text.size = 32
theorem step_one {d : Dsk} {s : Stp} (hg : goodD d = true) (ho : stpOk s) (hn : d.writes.length < 200) : stepE d s = 0 ∧ goodD (stepD d s) = true ∧ (stepD d s).writes.length ≤ d.writes.length + 1 := by
 unfold stepE stepD
 by_cases h : s.kind = 2
 ·rw [if_pos h, if_pos h]
  exact ⟨by unfold flushE; rw [if_pos hg], flush_good hg, by rw [flush_clean hg]; simp⟩
 ·rw [if_neg h, if_neg h]
  have hp := putE_one hg (ho h).1 (ho h).2 (by omega)
  refine ⟨hp, put_good hp, ?_⟩
  rw [putD_one hp]; simp
theorem run_good : ∀ (l : List Stp) {d : Dsk}, goodD d = true → (∀ s ∈ l, stpOk s) → d.writes.length + l.length ≤ 200 → goodD (runD d l) = true ∧ (runD d l).writes.length ≤ d.writes.length + l.length
 | [], d, hg, _, _ => ⟨hg, Nat.le_refl _⟩
 | s :: l, d, hg, ho, hn => by
  simp only [List.length_cons] at hn
  obtain ⟨h1, h2, h3⟩ := step_one hg (ho s (by simp)) (by omega)
  rw [runD_cons]
  obtain ⟨h4, h5⟩ := run_good l h2 (fun x hx => ho x (by simp [hx])) (by omega)
  exact ⟨h4, by simp only [List.length_cons]; omega⟩
theorem run_texts : ∀ (l : List Stp) {d : Dsk}, goodD d = true → (∀ s ∈ l, stpOk s) → d.writes.length + l.length ≤ 200 → ∀ {k : Nat}, k < 37 → ∀ s ∈ textsAt (runD d l) k, s ∈ textsAt d k ∨ ∃ x ∈ l, x.kind ≠ 2 ∧ x.at_ = k ∧ x.text = s
 | [], d, _, _, _, k, _, s, hs => .inl hs
 | x :: l, d, hg, ho, hn, k, hk, s, hs => by
  simp only [List.length_cons] at hn
  obtain ⟨h1, h2, h3⟩ := step_one hg (ho x (by simp)) (by omega)
  rw [runD_cons] at hs
  rcases run_texts l h2 (fun x hx => ho x (by simp [hx])) (by omega) hk s hs with h | ⟨y, hy, h⟩
  ·unfold stepE at h1
   unfold stepD at h
   by_cases hf : x.kind = 2
   ·rw [if_pos hf, flush_texts hg hk] at h
    obtain rfl := List.mem_singleton.1 h
    exact .inl (texts_last hg hk)
   ·rw [if_neg hf] at h h1
    rw [texts_put h1] at h
    split at h
    ·rename_i he
     rcases List.mem_append.1 h with h | h
     ·exact .inl h
     ·exact .inr ⟨x, by simp, hf, he, (List.mem_singleton.1 h).symm⟩
    ·exact .inl h
  ·exact .inr ⟨y, by simp [hy], h⟩
theorem step_read_none {d : Dsk} {x : Stp} (hg : goodD d = true) (ho : stpOk x) (hn : d.writes.length < 200) {k : Nat} (hk : k < 37) (h : x.kind ≠ 2 → x.at_ ≠ k) : readD (stepD d x) k = readD d k := by
 have h1 := (step_one hg ho hn).1
 unfold stepE at h1
 unfold stepD
 by_cases hf : x.kind = 2
 ·rw [if_pos hf]; exact flush_read hg hk
 ·rw [if_neg hf] at h1 ⊢
  exact put_other h1 (fun e => h hf e.symm)
theorem step_read_one {d : Dsk} {x : Stp} (hg : goodD d = true) (ho : stpOk x) (hn : d.writes.length < 200) {k : Nat} (hf : x.kind ≠ 2) (h : x.at_ = k) : readD (stepD d x) k = x.text := by
 have h1 := (step_one hg ho hn).1
 unfold stepE at h1
 unfold stepD
 rw [if_neg hf] at h1 ⊢
 rw [← h]
 exact put_read h1
theorem run_read : ∀ (l : List Stp) {d : Dsk}, goodD d = true → (∀ s ∈ l, stpOk s) → d.writes.length + l.length ≤ 200 → ∀ {k : Nat}, k < 37 → ∀ {s : ByteArray}, (∀ x ∈ l, x.kind ≠ 2 → x.at_ = k → x.text = s) → ((∃ x ∈ l, x.kind ≠ 2 ∧ x.at_ = k) ∨ readD d k = s) → readD (runD d l) k = s
 | [], d, _, _, _, k, _, s, _, h => by
  rcases h with ⟨x, hx, _⟩ | h
  ·cases hx
  ·exact h
 | x :: l, d, hg, ho, hn, k, hk, s, ha, h => by
  simp only [List.length_cons] at hn
  obtain ⟨h1, h2, h3⟩ := step_one hg (ho x (by simp)) (by omega)
  rw [runD_cons]
  refine run_read l h2 (fun x hx => ho x (by simp [hx])) (by omega) hk (fun y hy => ha y (by simp [hy])) ?_
  by_cases hw : x.kind ≠ 2 ∧ x.at_ = k
  ·exact .inr ((step_read_one hg (ho x (by simp)) (by omega) hw.1 hw.2).trans (ha x (by simp) hw.1 hw.2))
  ·rcases h with ⟨y, hy, hy2⟩ | h
   ·rcases List.mem_cons.1 hy with rfl | hy
    ·exact absurd hy2 hw
    ·exact .inl ⟨y, hy, hy2⟩
   ·exact .inr ((step_read_none hg (ho x (by simp)) (by omega) hk fun hf he => hw ⟨hf, he⟩).trans h)
theorem run_flush {l : List Stp} {d : Dsk} (hg : goodD d = true) (ho : ∀ s ∈ l, stpOk s) (hn : d.writes.length + l.length ≤ 200) {k : Nat} (hk : k < 37) : textsAt (runD d (l ++ [flushS])) k = [readD (runD d l) k] := by
 rw [runD_append, runD_cons, runD_nil]
 unfold stepD
 rw [if_pos (show flushS.kind = 2 from rfl)]
 exact flush_texts (run_good l hg ho hn).1 hk
theorem scanE_congr {d c : Dsk} (hd : goodD d = true) (hc : goodD c = true) (h : readD c 0 = readD d 0) : scanE c = scanE d := by
 unfold scanE readE
 rw [hd, hc, h]
def supA (d : Dsk) : Int := (decM (readD d 0)).at_
def supQ (d : Dsk) : Int := (decM (readD d 0)).seq
theorem scanF_eq {d : Dsk} (h : scanE d = 0) : scanF d = ⟨(scanA (logL d (supA d)) (supQ d)).1, (scanA (logL d (supA d)) (supQ d)).2.1, (supA d + (24 - ((scanA (logL d (supA d)) (supQ d)).2.2.length : Int))) % 24⟩ := by
 unfold scanF scanA
 rw [if_pos h, logL_len]
 rfl
def usedN (d : Dsk) : Nat := 24 - (scanA (logL d (supA d)) (supQ d)).2.2.length
theorem scanE_zero {d : Dsk} (h : scanE d = 0) : goodD d = true ∧ decE (readD d 0) = 0 ∧ (decM (readD d 0)).kind = 1 ∧ (0 ≤ supA d ∧ supA d < 24) ∧ (1 ≤ supQ d ∧ supQ d ≤ 2147483647) := by
 unfold scanE at h
 by_cases h1 : readE d 0 = 0
 ·rw [if_pos h1] at h
  by_cases h2 : decE (readD d 0) = 0 ∧ (decM (readD d 0)).kind = 1
  ·have hb := dec_bds h2.1
   refine ⟨?_, h2.1, h2.2, ⟨hb.2.2.1, hb.2.2.2.1⟩, hb.2.2.2.2⟩
   unfold readE at h1
   by_cases h3 : goodD d = true ∧ isAt 0 = true
   ·exact h3.1
   ·rw [if_neg h3] at h1; cases h1
  ·rw [if_neg h2] at h; cases h
 ·rw [if_neg h1] at h; cases h
def noCom (d : Dsk) (q : Int) : Prop := ∀ i : Nat, i < 24 → ∀ x, q ≤ x → ¬ comAt x (readD d (1 + (i : Int)))
theorem noCom.log {d : Dsk} {q : Int} (h : noCom d q) (a : Int) {x : Int} (hx : q ≤ x) : ∀ s ∈ logL d a, ¬ comAt x s := by
 intro s hs
 unfold logL at hs
 obtain ⟨i, _, rfl⟩ := List.mem_map.1 hs
 have := h ((a + (i : Int)) % 24).toNat (by omega) x hx
 rw [Int.toNat_of_nonneg (by omega)] at this
 exact this
theorem logL_get (d : Dsk) (a : Int) {i : Nat} (hi : i < 24) : (logL d a)[i]? = some (readD d (1 + (a + (i : Int)) % 24)) := by
 unfold logL
 rw [List.getElem?_map, List.getElem?_range hi]; rfl
theorem scan_parts {d : Dsk} (h : scanE d = 0) : ∃ pre, logL d (supA d) = pre ++ (scanA (logL d (supA d)) (supQ d)).2.2 ∧ pre.length = usedN d ∧ usedN d ≤ 24 ∧ (scanF d).next = supQ d + (scanF d).txns.length ∧ (scanF d).next ≤ 2147483647 ∧ (scanF d).at_ = (supA d + usedN d) % 24 ∧ ((scanF d).txns = [] ↔ usedN d = 0) ∧
    ∀ r2, (scanA (pre ++ r2) (supQ d)).1 = (scanF d).txns ++ (scanA r2 (scanF d).next).1 ∧ (scanA (pre ++ r2) (supQ d)).2 = (scanA r2 (scanF d).next).2 := by
 obtain ⟨pre, h1, h2, h3, h4, h5⟩ := scanA_split 24 (logL d (supA d)) (supQ d) (by rw [logL_len]; exact Nat.le_refl _)
 have hb := scanE_zero h
 have hl : 24 = pre.length + (scanA (logL d (supA d)) (supQ d)).2.2.length := by
  have := congrArg List.length h1
  rw [logL_len, List.length_append] at this
  exact this
 have hu : pre.length = usedN d := by unfold usedN; omega
 rw [scanF_eq h]
 refine ⟨pre, h1, hu, by unfold usedN; omega, h2, h3 hb.2.2.2.2.2, ?_, ?_, h5⟩
 ·show (supA d + (24 - _)) % 24 = _
  congr 1
  rw [← hu]; omega
 ·show (scanA _ _).1 = [] ↔ _
  rw [h4, ← hu, List.length_eq_zero_iff]
def comA (r : Ring) (t : Txn) : List Stp := dataS t ++ (List.zipWith atW (places r.head (bodyT t).length) (bodyT t) ++ (if bodyT t = [] then [] else [flushS]))
theorem comL_split {r : Ring} {t : Txn} (h : comE r t = 0) : comL r t = comA r t ++ [atW ((r.head + (bodyT t).length) % 24) (markS (comM t.seq)), flushS] := by
 unfold comL comA
 rw [if_pos h]; simp
theorem comE_zero {r : Ring} {t : Txn} (h : comE r t = 0) : goodR r = true ∧ GoodT t ∧ openB t = false ∧ ((bodyT t).length : Int) + 1 ≤ 24 - r.used ∧ (0 ≤ r.head ∧ r.head < 24) ∧ (0 ≤ r.used ∧ r.used ≤ 24) := by
 unfold comE at h
 split at h
 ·cases h
 ·rename_i hc
  simp only [not_or, Bool.not_eq_false, Bool.not_eq_true] at hc
  obtain ⟨h1, h2, h3⟩ := hc
  have g := goodT_of.1 h2
  have hb := bodyT_len g
  have hr := (goodR_iff r).1 h1
  refine ⟨h1, g, h3, ?_, ⟨hr.1, hr.2.1⟩, hr.2.2⟩
  rw [hb]
  unfold takeE at h
  split at h
  ·cases h
  ·split at h
   ·cases h
   ·omega
theorem wr_kind (p : Int) (s : ByteArray) : (wrS p s).kind ≠ 2 := (show (1 : Int) ≠ 2 by decide)
theorem log_last (t : Txn) (h : (bodyT t).length < (logT t).length) : (logT t)[(bodyT t).length] = markS (comM t.seq) := by simp [logT]
theorem log_body (t : Txn) {j : Nat} (h : j < (bodyT t).length) (h2 : j < (logT t).length) : (logT t)[j] = (bodyT t)[j] := by simp only [logT]; rw [List.getElem_append_left h]
theorem mem_data {t : Txn} {x : Stp} (hx : x ∈ dataS t) : x = flushS ∨ ∃ c ∈ t.dt, x = wrS (25 + c.block) c.text := by
 unfold dataS at hx
 rcases List.mem_append.1 hx with hx | hx
 ·obtain ⟨c, hc, rfl⟩ := List.mem_map.1 hx
  exact .inr ⟨c, hc, rfl⟩
 ·split at hx
  ·cases hx
  ·exact .inl (List.mem_singleton.1 hx)
theorem mem_zip {a : Int} {l : List ByteArray} {x : Stp} (hx : x ∈ List.zipWith atW (places a l.length) l) : ∃ (j : Nat) (hj : j < l.length), x = atW ((a + (j : Int)) % 24) l[j] := by
 obtain ⟨j, hj, rfl⟩ := List.mem_iff_getElem.1 hx
 rw [List.length_zipWith, places_len] at hj
 refine ⟨j, by omega, ?_⟩
 rw [List.getElem_zipWith]
 congr 1
 have := places_get a l.length j (by omega)
 rw [List.getElem?_eq_getElem (by rw [places_len]; omega), Option.some.injEq] at this
 exact this
theorem zip_mem (a : Int) (l : List ByteArray) {j : Nat} (hj : j < l.length) : atW ((a + (j : Int)) % 24) l[j] ∈ List.zipWith atW (places a l.length) l := by
 have h : j < (List.zipWith atW (places a l.length) l).length := by rw [List.length_zipWith, places_len]; omega
 have := List.getElem_mem h
 rw [List.getElem_zipWith] at this
 have h2 := places_get a l.length j (by omega)
 rw [List.getElem?_eq_getElem (by rw [places_len]; omega), Option.some.injEq] at h2
 rw [h2] at this
 exact this
theorem mem_comA {r : Ring} {t : Txn} {x : Stp} (hx : x ∈ comA r t) : x = flushS ∨ (∃ c ∈ t.dt, x = wrS (25 + c.block) c.text) ∨ ∃ (j : Nat) (hj : j < (bodyT t).length), x = atW ((r.head + (j : Int)) % 24) (bodyT t)[j] := by
 unfold comA at hx
 rcases List.mem_append.1 hx with hx | hx
 ·exact (mem_data hx).imp id .inl
 ·rcases List.mem_append.1 hx with hx | hx
  ·exact .inr (.inr (mem_zip hx))
  ·split at hx
   ·cases hx
   ·exact .inl (List.mem_singleton.1 hx)
theorem data_ok {t : Txn} (g : GoodT t) {c : Cpy} (hc : c ∈ t.dt) : (0 ≤ c.block ∧ c.block < 12) ∧ c.text.size = 32 := by
 have := ((copies_pw _).1 g.dt).2 c hc
 exact ⟨of_decide_eq_true this.1, this.2⟩
theorem com_ok {r : Ring} {t : Txn} (h : comE r t = 0) : (∀ x ∈ comL r t, stpOk x) ∧ (comL r t).length ≤ 100 := by
 obtain ⟨h1, g, h3, h4, h5, h6⟩ := comE_zero h
 constructor
 ·intro x hx hk
  rw [comL_split h] at hx
  have hlog : ∀ (p : Int) (s : ByteArray), 0 ≤ p ∧ p < 24 → s ∈ logT t → isAt (atW p s).at_ = true ∧ (atW p s).text.size = 32 := fun p s hp hs =>
   ⟨by unfold isAt atW wrS; simp; omega, log_size g hs⟩
  rcases List.mem_append.1 hx with hx | hx
  ·rcases mem_comA hx with rfl | ⟨c, hc, rfl⟩ | ⟨j, hj, rfl⟩
   ·exact absurd rfl hk
   ·have := data_ok g hc
    exact ⟨by unfold isAt wrS; simp; omega, this.2⟩
   ·exact hlog _ _ ⟨Int.emod_nonneg _ (by decide), Int.emod_lt_of_pos _ (by decide)⟩ (by unfold logT; exact List.mem_append_left _ (List.getElem_mem hj))
  ·rcases List.mem_cons.1 hx with rfl | hx
   ·exact hlog _ _ ⟨Int.emod_nonneg _ (by decide), Int.emod_lt_of_pos _ (by decide)⟩ (by unfold logT; simp)
   ·obtain rfl := List.mem_singleton.1 hx
    exact absurd rfl hk
 ·rw [comL_split h]
  unfold comA dataS
  have := (lens g).2.1
  simp only [List.length_append, List.length_map, List.length_zipWith, places_len, List.length_cons, List.length_nil]
  have e1 : (if t.dt = [] then ([] : List Stp) else [flushS]).length ≤ 1 := by split <;> simp
  have e2 : (if bodyT t = [] then ([] : List Stp) else [flushS]).length ≤ 1 := by split <;> simp
  omega
structure ComLeft (r : Ring) (t : Txn) (d c : Dsk) (k : Nat) : Prop where
 good : goodD c = true
 clean : c.writes = []
 zero : readD c 0 = readD d 0
 home : ∀ b : Nat, b < 12 → readD c (25 + (b : Int)) = readD d (25 + (b : Int)) ∨ ∃ x ∈ t.dt, x.block = b ∧ readD c (25 + (b : Int)) = x.text
 data : (dataS t).length ≤ k → ∀ x ∈ t.dt, readD c (25 + x.block) = x.text
 log : (k ≤ (comA r t).length + 1 ∧ ∀ i : Nat, i < 24 → readD c (1 + (i : Int)) = readD d (1 + (i : Int)) ∨ ∃ (j : Nat) (hj : j < (bodyT t).length), (i : Int) = (r.head + (j : Int)) % 24 ∧ readD c (1 + (i : Int)) = (bodyT t)[j]) ∨
  ((comA r t).length < k ∧ (∀ (j : Nat) (hj : j < (logT t).length), readD c (1 + (r.head + (j : Int)) % 24) = (logT t)[j]) ∧ ∀ i : Nat, i < 24 → (∀ j : Nat, j < (logT t).length → (i : Int) ≠ (r.head + (j : Int)) % 24) → readD c (1 + (i : Int)) = readD d (1 + (i : Int)))
theorem places_ne {a : Int} {i j : Nat} (hi : i < 24) (hj : j < 24) (h : (a + (i : Int)) % 24 = (a + (j : Int)) % 24) : i = j := by omega
theorem dt_one {t : Txn} (g : GoodT t) {x y : Cpy} (hx : x ∈ t.dt) (hy : y ∈ t.dt) (h : x.block = y.block) : x.text = y.text := by
 have hp := ((copies_pw _).1 g.dt).1
 have h1 := getC_of_mem hp hx
 have h2 := getC_of_mem hp hy
 rw [h, h2, Option.some.injEq] at h1
 exact h1.symm
theorem com_left {r : Ring} {t : Txn} {d c : Dsk} {k : Nat} (h : comE r t = 0) (hg : goodD d = true) (hw : d.writes = []) (hk : k ≤ (comL r t).length) (hl : Left (runD d ((comL r t).take k)) c) : ComLeft r t d c k := by
 obtain ⟨h1, g, h3, h4, h5, h6⟩ := comE_zero h
 obtain ⟨ho, hlen⟩ := com_ok h
 have hok : ∀ n, (∀ x ∈ (comL r t).take n, stpOk x) := fun n x hx => ho x (List.mem_of_mem_take hx)
 have hln : ∀ n, d.writes.length + ((comL r t).take n).length ≤ 200 := fun n => by rw [hw, List.length_nil, List.length_take]; omega
 have hsp := comL_split h
 have hL : (comL r t).length = (comA r t).length + 2 := by rw [hsp]; simp
 have hnl : (logT t).length = (bodyT t).length + 1 := by unfold logT; simp
 have hwr : ∀ x ∈ comL r t, x.kind ≠ 2 → (∃ y ∈ t.dt, x = wrS (25 + y.block) y.text) ∨ ∃ (j : Nat) (hj : j < (logT t).length), x = atW ((r.head + (j : Int)) % 24) (logT t)[j] := fun x hx hk2 => by
  rw [hsp] at hx
  rcases List.mem_append.1 hx with hx | hx
  ·rcases mem_comA hx with rfl | hx | ⟨j, hj, rfl⟩
   ·exact absurd rfl hk2
   ·exact .inl hx
   ·refine .inr ⟨j, by omega, ?_⟩
    rw [log_body t hj]
  ·rcases List.mem_cons.1 hx with rfl | hx
   ·refine .inr ⟨(bodyT t).length, by omega, ?_⟩
    rw [log_last]
   ·obtain rfl := List.mem_singleton.1 hx
    exact absurd rfl hk2
 have htx : ∀ n : Nat, n < 37 → readD c n = readD d n ∨ ∃ x ∈ (comL r t).take k, x.kind ≠ 2 ∧ x.at_ = n ∧ x.text = readD c n := fun n hn => by
  rcases run_texts _ hg (hok k) (hln k) hn _ (hl.read n hn) with hh | hh
  ·rw [texts_clean hg hw hn] at hh
   exact .inl (List.mem_singleton.1 hh)
  ·exact .inr hh
 have hz : readD c 0 = readD d 0 := by
  rcases htx 0 (by decide) with hh | ⟨x, hx, hk2, ha, _⟩
  ·exact hh
  ·exfalso
   rcases hwr x (List.mem_of_mem_take hx) hk2 with ⟨y, hy, rfl⟩ | ⟨j, hj, rfl⟩
   ·have := (data_ok g hy).1
    have ha2 : 25 + y.block = ((0 : Nat) : Int) := ha
    omega
   ·have ha2 : 1 + (r.head + (j : Int)) % 24 = ((0 : Nat) : Int) := ha
    omega
 have hh : ∀ b : Nat, b < 12 → readD c (25 + (b : Int)) = readD d (25 + (b : Int)) ∨ ∃ x ∈ t.dt, x.block = b ∧ readD c (25 + (b : Int)) = x.text := fun b hb => by
  rcases htx (25 + b) (by omega) with hh | ⟨x, hx, hk2, ha, he⟩
  ·exact .inl (by simpa using hh)
  ·rcases hwr x (List.mem_of_mem_take hx) hk2 with ⟨y, hy, rfl⟩ | ⟨j, hj, rfl⟩
   ·have ha2 : 25 + y.block = ((25 + b : Nat) : Int) := ha
    exact .inr ⟨y, hy, by omega, by have he2 := he.symm; simpa [atW, wrS] using he2⟩
   ·exfalso
    have ha2 : 1 + (r.head + (j : Int)) % 24 = ((25 + b : Nat) : Int) := ha
    omega
 refine ⟨hl.good, hl.clean, hz, hh, fun hd x hx => ?_, ?_⟩
 ·
  have hb := data_ok g hx
  have hn0 : t.dt ≠ [] := fun e => by rw [e] at hx; cases hx
  have hds : dataS t = t.dt.map (fun c => wrS (25 + c.block) c.text) ++ [flushS] := by unfold dataS; rw [if_neg hn0]
  obtain ⟨b, hbb, hb12⟩ : ∃ b : Nat, x.block = b ∧ b < 12 := ⟨x.block.toNat, by omega, by omega⟩
  have htk : (comL r t).take k = dataS t ++ ((comL r t).take k).drop (dataS t).length := by
   have e : ((comL r t).take k).take (dataS t).length = dataS t := by
    rw [List.take_take, Nat.min_eq_left hd, hsp]
    unfold comA
    rw [List.append_assoc, List.take_left]
   conv => lhs; rw [← List.take_append_drop (dataS t).length ((comL r t).take k), e]
  have hrest : ∀ y ∈ ((comL r t).take k).drop (dataS t).length, y.kind ≠ 2 → y.at_ ≠ ((25 + b : Nat) : Int) := fun y hy hk2 => by
   have hy2 : y ∈ (List.zipWith atW (places r.head (bodyT t).length) (bodyT t) ++ (if bodyT t = [] then [] else [flushS])) ++ [atW ((r.head + (bodyT t).length) % 24) (markS (comM t.seq)), flushS] := by
    rw [hsp] at hy
    unfold comA at hy
    rw [List.append_assoc, List.take_append, List.drop_append, List.drop_eq_nil_of_le (by rw [List.length_take]; omega), List.nil_append] at hy
    exact List.mem_of_mem_take (List.mem_of_mem_drop hy)
   have key : ∀ (p : Int) (s : ByteArray), 0 ≤ p ∧ p < 24 → (atW p s).at_ ≠ ((25 + b : Nat) : Int) := fun p s hp e => by
    have e2 : 1 + p = ((25 + b : Nat) : Int) := e
    omega
   rcases List.mem_append.1 hy2 with hy2 | hy2
   ·rcases List.mem_append.1 hy2 with hy2 | hy2
    ·obtain ⟨j, hj, rfl⟩ := mem_zip hy2
     exact key _ _ ⟨Int.emod_nonneg _ (by decide), Int.emod_lt_of_pos _ (by decide)⟩
    ·split at hy2
     ·cases hy2
     ·obtain rfl := List.mem_singleton.1 hy2
      exact absurd rfl hk2
   ·rcases List.mem_cons.1 hy2 with rfl | hy2
    ·exact key _ _ ⟨Int.emod_nonneg _ (by decide), Int.emod_lt_of_pos _ (by decide)⟩
    ·obtain rfl := List.mem_singleton.1 hy2
     exact absurd rfl hk2
  have hokd : ∀ y ∈ t.dt.map (fun c => wrS (25 + c.block) c.text), stpOk y := fun y hy hk2 => by
   obtain ⟨z, hz2, rfl⟩ := List.mem_map.1 hy
   have := data_ok g hz2
   exact ⟨by unfold isAt wrS; simp; omega, this.2⟩
  have hokD : ∀ y ∈ dataS t, stpOk y := fun y hy => ho y (by rw [hsp]; unfold comA; simp [hy])
  have hlD : (dataS t).length ≤ 100 := by
   have := congrArg List.length hsp
   unfold comA at this
   simp only [List.length_append] at this
   omega
  have hlenD := (lens g).2.1
  have hdisk : textsAt (runD d (dataS t)) (25 + b) = [x.text] := by
   have e : readD (runD d (t.dt.map (fun c => wrS (25 + c.block) c.text))) ((25 + b : Nat) : Int) = x.text :=
    run_read _ hg hokd (by rw [hw, List.length_map, List.length_nil]; omega) (by omega) (fun y hy _ ha => by
     obtain ⟨z, hz2, rfl⟩ := List.mem_map.1 hy
     have ha2 : 25 + z.block = ((25 + b : Nat) : Int) := ha
     exact dt_one g hz2 hx (by omega)) (.inl ⟨wrS (25 + x.block) x.text, List.mem_map.2 ⟨x, hx, rfl⟩, wr_kind _ _, by show 25 + x.block = _; omega⟩)
   rw [hds, run_flush hg hokd (by rw [hw, List.length_map, List.length_nil]; omega) (by omega), e]
  have hgD := run_good (dataS t) hg hokD (by rw [hw, List.length_nil]; omega)
  have hlt : (((comL r t).take k).drop (dataS t).length).length ≤ 100 := by rw [List.length_drop, List.length_take]; omega
  have hfin := hl.read (25 + b) (by omega)
  rw [htk, runD_append] at hfin
  rcases run_texts _ hgD.1 (fun y hy => hok k y (List.mem_of_mem_drop hy)) (by have := hgD.2; rw [hw, List.length_nil] at this; omega) (k := 25 + b) (by omega) _ hfin with hh2 | ⟨y, hy, hk2, ha, _⟩
  ·rw [hdisk] at hh2
   rw [hbb]
   simpa using List.mem_singleton.1 hh2
  ·exact absurd ha (hrest y hy hk2)
 ·by_cases hkA : k ≤ (comA r t).length
  ·
   refine .inl ⟨by omega, fun i hi => ?_⟩
   rcases htx (1 + i) (by omega) with hh | ⟨x, hx, hk2, ha, he⟩
   ·exact .inl (by simpa using hh)
   ·have hx2 : x ∈ comA r t := by
      rw [hsp, List.take_append_of_le_length hkA] at hx
      exact List.mem_of_mem_take hx
    rcases mem_comA hx2 with rfl | ⟨y, hy, rfl⟩ | ⟨j, hj, rfl⟩
    ·exact absurd rfl hk2
    ·exfalso
     have ha2 : 25 + y.block = ((1 + i : Nat) : Int) := ha
     have := (data_ok g hy).1
     omega
    ·have ha2 : 1 + (r.head + (j : Int)) % 24 = ((1 + i : Nat) : Int) := ha
     exact .inr ⟨j, hj, by omega, by have he2 := he.symm; simpa [atW, wrS] using he2⟩
  ·
   have hA : (comL r t).take (comA r t).length = comA r t := by rw [hsp, List.take_left]
   have hgA := run_good (comA r t) hg (fun x hx => ho x (by rw [hsp]; simp [hx])) (by rw [hw, List.length_nil]; omega)
   have hbody : ∀ (j : Nat) (hj : j < (bodyT t).length), textsAt (runD d (comA r t)) (1 + ((r.head + (j : Int)) % 24).toNat) = [(bodyT t)[j]] := fun j hj => by
    have hne : bodyT t ≠ [] := fun e => by rw [e] at hj; cases hj
    have hAe : comA r t = (dataS t ++ List.zipWith atW (places r.head (bodyT t).length) (bodyT t)) ++ [flushS] := by unfold comA; rw [if_neg hne]; simp
    have hok2 : ∀ x ∈ dataS t ++ List.zipWith atW (places r.head (bodyT t).length) (bodyT t), stpOk x := fun x hx => ho x (by rw [hsp, hAe]; simp only [List.append_assoc]; rw [← List.append_assoc]; exact List.mem_append_left _ hx)
    have hln2 : d.writes.length + (dataS t ++ List.zipWith atW (places r.head (bodyT t).length) (bodyT t)).length ≤ 200 := by
     have := congrArg List.length hAe
     rw [List.length_append] at this
     rw [hw, List.length_nil]
     omega
    have hlt : 1 + ((r.head + (j : Int)) % 24).toNat < 37 := by omega
    rw [hAe, run_flush hg hok2 hln2 hlt]
    congr 1
    refine run_read _ hg hok2 hln2 hlt (fun x hx hk2 ha => ?_) (.inl ⟨_, List.mem_append_right _ (zip_mem r.head (bodyT t) hj), wr_kind _ _, ?_⟩)
    ·rcases List.mem_append.1 hx with hx | hx
     ·exfalso
      rcases mem_data hx with rfl | ⟨y, hy, rfl⟩
      ·exact absurd rfl hk2
      ·have ha2 : 25 + y.block = ((1 + ((r.head + (j : Int)) % 24).toNat : Nat) : Int) := ha
       have := (data_ok g hy).1
       omega
     ·obtain ⟨i, hi, rfl⟩ := mem_zip hx
      have ha2 : 1 + (r.head + (i : Int)) % 24 = ((1 + ((r.head + (j : Int)) % 24).toNat : Nat) : Int) := ha
      obtain rfl : i = j := places_ne (a := r.head) (by omega) (by omega) (by omega)
      rfl
    ·show 1 + (r.head + (j : Int)) % 24 = _
     omega
   have hrestA : ∀ n : Nat, n < 37 → ∀ s ∈ textsAt (runD d (comA r t)) n, s = readD d n ∨ ∃ x ∈ comA r t, x.kind ≠ 2 ∧ x.at_ = n ∧ x.text = s := fun n hn s hs => by
    rcases run_texts _ hg (fun x hx => ho x (by rw [hsp]; simp [hx])) (by rw [hw, List.length_nil]; omega) hn s hs with hh | hh
    ·rw [texts_clean hg hw hn] at hh
     exact .inl (List.mem_singleton.1 hh)
    ·exact .inr hh
   have hpc : putE (runD d (comA r t)) (1 + (r.head + (bodyT t).length) % 24) (markS (comM t.seq)) = 0 := by
    have := (step_one hgA.1 (ho (atW ((r.head + (bodyT t).length) % 24) (markS (comM t.seq))) (by rw [hsp]; simp)) (by have := hgA.2; rw [hw, List.length_nil] at this; omega)).1
    exact this
   have hput : textsAt (putD (runD d (comA r t)) (1 + (r.head + (bodyT t).length) % 24) (markS (comM t.seq))) = fun n : Nat => if 1 + (r.head + (bodyT t).length) % 24 = (n : Int) then textsAt (runD d (comA r t)) n ++ [markS (comM t.seq)] else textsAt (runD d (comA r t)) n := funext fun n => texts_put hpc n
   have hgP := put_good hpc
   have htk : ∀ n : Nat, n < 37 → readD c n ∈ textsAt (putD (runD d (comA r t)) (1 + (r.head + (bodyT t).length) % 24) (markS (comM t.seq))) n ∧ (k = (comL r t).length → readD c n = readD (putD (runD d (comA r t)) (1 + (r.head + (bodyT t).length) % 24) (markS (comM t.seq))) n) := fun n hn => by
    have hrd := hl.read n hn
    obtain rfl | rfl : k = (comA r t).length + 1 ∨ k = (comA r t).length + 2 := by omega
    ·rw [hsp, List.take_append, List.take_of_length_le (by omega), Nat.add_sub_cancel_left, runD_append] at hrd
     exact ⟨hrd, fun e => by omega⟩
    ·rw [List.take_of_length_le (by omega), hsp, runD_append] at hrd
     have e : runD (runD d (comA r t)) [atW ((r.head + (bodyT t).length) % 24) (markS (comM t.seq)), flushS] = flushD (putD (runD d (comA r t)) (1 + (r.head + (bodyT t).length) % 24) (markS (comM t.seq))) := rfl
     rw [e, flush_texts hgP hn] at hrd
     have hrd := List.mem_singleton.1 hrd
     exact ⟨by rw [hrd]; exact texts_last hgP hn, fun _ => hrd⟩
   have hcomq : ((1 + ((r.head + ((bodyT t).length : Int)) % 24).toNat : Nat) : Int) = 1 + (r.head + ((bodyT t).length : Int)) % 24 := by omega
   have hc24 : 1 + ((r.head + ((bodyT t).length : Int)) % 24).toNat < 37 := by omega
   by_cases hmk : readD c (1 + (r.head + ((bodyT t).length : Int)) % 24) = markS (comM t.seq)
   ·refine .inr ⟨by omega, fun j hj => ?_, fun i hi hij => ?_⟩
    ·by_cases hjb : j < (bodyT t).length
     ·have hne : ¬ (1 + (r.head + ((bodyT t).length : Int)) % 24 = ((1 + ((r.head + (j : Int)) % 24).toNat : Nat) : Int)) := fun e => by
        have := places_ne (a := r.head) (i := (bodyT t).length) (j := j) (by omega) (by omega) (by omega)
        omega
      have h7 := (htk (1 + ((r.head + (j : Int)) % 24).toNat) (by omega)).1
      rw [hput] at h7
      simp only [if_neg hne] at h7
      rw [hbody j hjb] at h7
      have h8 := List.mem_singleton.1 h7
      have e : ((1 + ((r.head + (j : Int)) % 24).toNat : Nat) : Int) = 1 + (r.head + (j : Int)) % 24 := by omega
      rw [e] at h8
      rw [h8, log_body t hjb]
     ·obtain rfl : j = (bodyT t).length := by omega
      rw [hmk, log_last]
    ·have hne : ¬ (1 + (r.head + ((bodyT t).length : Int)) % 24 = ((1 + i : Nat) : Int)) := fun e => hij (bodyT t).length (by omega) (by omega)
     have h7 := (htk (1 + i) (by omega)).1
     rw [hput] at h7
     simp only [if_neg hne] at h7
     rcases hrestA (1 + i) (by omega) _ h7 with hh | ⟨x, hx, hk2, ha, _⟩
     ·simpa using hh
     ·exfalso
      rcases mem_comA hx with rfl | ⟨y, hy, rfl⟩ | ⟨j, hj, rfl⟩
      ·exact absurd rfl hk2
      ·have ha2 : 25 + y.block = ((1 + i : Nat) : Int) := ha
       have := (data_ok g hy).1
       omega
      ·have ha2 : 1 + (r.head + (j : Int)) % 24 = ((1 + i : Nat) : Int) := ha
       exact hij j (by omega) (by omega)
   ·refine .inl ⟨?_, fun i hi => ?_⟩
    ·
     by_cases hkl : k = (comL r t).length
     ·exfalso
      have h9 := (htk _ hc24).2 hkl
      rw [hcomq] at h9
      exact hmk (h9.trans (put_read hpc))
     ·omega
    ·by_cases hne : 1 + (r.head + ((bodyT t).length : Int)) % 24 = ((1 + i : Nat) : Int)
     ·have h7 := (htk (1 + i) (by omega)).1
      rw [hput] at h7
      simp only [if_pos hne] at h7
      rcases List.mem_append.1 h7 with h7 | h7
      ·rcases hrestA (1 + i) (by omega) _ h7 with hh | ⟨x, hx, hk2, ha, he⟩
       ·exact .inl (by simpa using hh)
       ·exfalso
        rcases mem_comA hx with rfl | ⟨y, hy, rfl⟩ | ⟨j, hj, rfl⟩
        ·exact absurd rfl hk2
        ·have ha2 : 25 + y.block = ((1 + i : Nat) : Int) := ha
         have := (data_ok g hy).1
         omega
        ·have ha2 : 1 + (r.head + (j : Int)) % 24 = ((1 + i : Nat) : Int) := ha
         have := places_ne (a := r.head) (i := (bodyT t).length) (j := j) (by omega) (by omega) (by omega)
         omega
      ·exfalso
       refine hmk ?_
       rw [hne]
       exact List.mem_singleton.1 h7
     ·have h7 := (htk (1 + i) (by omega)).1
      rw [hput] at h7
      simp only [if_neg hne] at h7
      rcases hrestA (1 + i) (by omega) _ h7 with hh | ⟨x, hx, hk2, ha, he⟩
      ·exact .inl (by simpa using hh)
      ·rcases mem_comA hx with rfl | ⟨y, hy, rfl⟩ | ⟨j, hj, rfl⟩
       ·exact absurd rfl hk2
       ·exfalso
        have ha2 : 25 + y.block = ((1 + i : Nat) : Int) := ha
        have := (data_ok g hy).1
        omega
       ·have ha2 : 1 + (r.head + (j : Int)) % 24 = ((1 + i : Nat) : Int) := ha
        exact .inr ⟨j, hj, by omega, by have he2 := he.symm; simpa [atW, wrS] using he2⟩
theorem log_split {d c : Dsk} (a : Int) {u : Nat} (hu : u ≤ 24) (h : ∀ i : Nat, i < u → readD c (1 + (a + (i : Int)) % 24) = readD d (1 + (a + (i : Int)) % 24)) : logL c a = (logL d a).take u ++ (logL c a).drop u := by
 conv => lhs; rw [← List.take_append_drop u (logL c a)]
 congr 1
 refine List.ext_getElem? fun i => ?_
 by_cases hi : i < u
 ·rw [List.getElem?_take, List.getElem?_take, if_pos hi, if_pos hi, logL_get _ _ (by omega), logL_get _ _ (by omega), h i hi]
 ·rw [List.getElem?_take, List.getElem?_take, if_neg hi, if_neg hi]
theorem fnd_eta (f : Fnd) {x : List Txn} {y z : Int} (h1 : f.txns = x) (h2 : f.next = y) (h3 : f.at_ = z) : f = ⟨x, y, z⟩ := by cases f; simp_all
theorem scan_more {d c : Dsk} (hd : scanE d = 0) (hc : goodD c = true) (hz : readD c 0 = readD d 0) (h : ∀ i : Nat, i < usedN d → readD c (1 + (supA d + (i : Int)) % 24) = readD d (1 + (supA d + (i : Int)) % 24)) :
    scanE c = 0 ∧ supA c = supA d ∧ supQ c = supQ d ∧ (scanF c).txns = (scanF d).txns ++ (scanA ((logL c (supA d)).drop (usedN d)) (scanF d).next).1 ∧ (scanF c).next = (scanA ((logL c (supA d)).drop (usedN d)) (scanF d).next).2.1 ∧
      (scanA (logL c (supA c)) (supQ c)).2.2 = (scanA ((logL c (supA d)).drop (usedN d)) (scanF d).next).2.2 := by
 have hg := (scanE_zero hd).1
 have hE : scanE c = 0 := by rw [scanE_congr hg hc hz]; exact hd
 have hA : supA c = supA d := by unfold supA; rw [hz]
 have hQ : supQ c = supQ d := by unfold supQ; rw [hz]
 obtain ⟨pre, p1, p2, p3, p4, p5, p6, p7, p8⟩ := scan_parts hd
 have hpre : (logL d (supA d)).take (usedN d) = pre := by rw [p1, ← p2, List.take_left]
 have hsp := log_split (d := d) (c := c) (supA d) p3 h
 rw [hpre] at hsp
 obtain ⟨q1, q2⟩ := p8 ((logL c (supA d)).drop (usedN d))
 rw [← hsp] at q1 q2
 refine ⟨hE, hA, hQ, ?_, ?_, ?_⟩
 ·rw [scanF_eq hE, hA, hQ]; exact q1
 ·rw [scanF_eq hE, hA, hQ]; exact congrArg Prod.fst q2
 ·rw [hA, hQ]; exact congrArg Prod.snd q2
theorem scan_same {d c : Dsk} (hd : scanE d = 0) (hc : goodD c = true) (hz : readD c 0 = readD d 0) (h : ∀ i : Nat, i < usedN d → readD c (1 + (supA d + (i : Int)) % 24) = readD d (1 + (supA d + (i : Int)) % 24)) (hn : noCom c (scanF d).next) :
    scanE c = 0 ∧ scanF c = scanF d ∧ usedN c = usedN d := by
 obtain ⟨hE, hA, hQ, s1, s2, s3⟩ := scan_more hd hc hz h
 have h0 := scanA_none (q := (scanF d).next) (r := (logL c (supA d)).drop (usedN d)) (fun s hs => hn.log (supA d) (Int.le_refl _) s (List.mem_of_mem_drop hs))
 rw [h0] at s1 s2 s3
 obtain ⟨pre, p1, p2, p3, p4, p5, p6, p7, p8⟩ := scan_parts hd
 have hu : usedN c = usedN d := by
  unfold usedN at p3 ⊢
  rw [s3, List.length_drop, logL_len]
  unfold usedN
  omega
 obtain ⟨_, _, _, _, _, _, r6, _⟩ := scan_parts hE
 refine ⟨hE, ?_, hu⟩
 rw [fnd_eta (scanF d) rfl rfl rfl]
 exact fnd_eta _ (by rw [s1, List.append_nil]) s2 (by rw [r6, hA, hu, ← p6])
theorem com_scan {r : Ring} {t : Txn} {d c : Dsk} {k : Nat} (hd : scanE d = 0) (hn : noCom d (scanF d).next) (h : comE r t = 0) (hh : r.head = (scanF d).at_) (hu : r.used = usedN d) (hq : t.seq = (scanF d).next) (hq2 : t.seq < 2147483647) (hl : ComLeft r t d c k) :
    scanE c = 0 ∧ ((k ≤ (comA r t).length + 1 ∧ scanF c = scanF d ∧ usedN c = usedN d ∧ noCom c (scanF d).next) ∨
      ((comA r t).length < k ∧ scanF c = ⟨(scanF d).txns ++ [logOf t], (scanF d).next + 1, ((scanF d).at_ + ((bodyT t).length + 1 : Nat)) % 24⟩ ∧ usedN c = usedN d + ((bodyT t).length + 1) ∧ noCom c ((scanF d).next + 1))) := by
 obtain ⟨h1, g, h3, h4, h5, h6⟩ := comE_zero h
 obtain ⟨hb1, hb2, hb3, hb4, hb5⟩ := scanE_zero hd
 obtain ⟨pre, p1, p2, p3, p4, p5, p6, p7, p8⟩ := scan_parts hd
 have hnl : (logT t).length = (bodyT t).length + 1 := by unfold logT; simp
 have hold : ∀ i : Nat, i < usedN d → ∀ j : Nat, j < (bodyT t).length + 1 → ((supA d + (i : Int)) % 24) ≠ (r.head + (j : Int)) % 24 := fun i hi j hj e => by
  rw [hh, p6] at e
  omega
 rcases hl.log with ⟨hk, hA⟩ | ⟨hk, hB1, hB2⟩
 ·have hn2 : noCom c (scanF d).next := fun i hi x hx hc => by
    rcases hA i hi with e | ⟨j, hj, _, e⟩
    · rw [e] at hc; exact hn i hi x hx hc
    · rw [e] at hc; exact body_com g (List.getElem_mem hj) x hc
  obtain ⟨e1, e2, e3⟩ := scan_same hd hl.good hl.zero (fun i hi => by
   have hi24 : ((supA d + (i : Int)) % 24).toNat < 24 := by omega
   have e0 : (((supA d + (i : Int)) % 24).toNat : Int) = (supA d + (i : Int)) % 24 := by omega
   rcases hA _ hi24 with e | ⟨j, hj, e, _⟩
   ·rw [e0] at e; exact e
   ·rw [e0] at e; exact absurd e (hold i hi j (by omega))) hn2
  exact ⟨e1, .inl ⟨hk, e2, e3, hn2⟩⟩
 ·have hn2 : noCom c ((scanF d).next + 1) := fun i hi x hx hc => by
    by_cases hex : ∃ j : Nat, j < (logT t).length ∧ (i : Int) = (r.head + (j : Int)) % 24
    · obtain ⟨j, hj, e⟩ := hex
      have e2 := hB1 j hj
      rw [← e] at e2
      rw [e2] at hc
      by_cases hjb : j < (bodyT t).length
      · rw [log_body t hjb] at hc
        exact body_com g (List.getElem_mem hjb) x hc
      · obtain rfl : j = (bodyT t).length := by omega
        rw [log_last] at hc
        obtain ⟨_, d2, _⟩ := dec_mark (com_good g.seq)
        have h7 := hc.2.1
        rw [d2] at h7
        have h8 : t.seq = x := h7
        omega
    · rw [hB2 i hi (fun j hj e => hex ⟨j, hj, e⟩)] at hc
      exact hn i hi x (by omega) hc
  obtain ⟨hE, hA, hQ, s1, s2, s3⟩ := scan_more hd hl.good hl.zero (fun i hi => by
   have hi24 : ((supA d + (i : Int)) % 24).toNat < 24 := by omega
   have e0 : (((supA d + (i : Int)) % 24).toNat : Int) = (supA d + (i : Int)) % 24 := by omega
   have := hB2 _ hi24 (fun j hj e => by rw [e0] at e; exact hold i hi j (by omega) e)
   rw [e0] at this; exact this)
  have hr2 : (logL c (supA d)).drop (usedN d) = logT t ++ (logL c (supA d)).drop (usedN d + ((bodyT t).length + 1)) := by
   rw [← List.drop_drop]
   conv => lhs; rw [← List.take_append_drop ((bodyT t).length + 1) ((logL c (supA d)).drop (usedN d))]
   congr 1
   refine List.ext_getElem? fun j => ?_
   rw [List.getElem?_take]
   by_cases hj : j < (bodyT t).length + 1
   ·rw [if_pos hj, List.getElem?_drop, logL_get _ _ (by omega), List.getElem?_eq_getElem (by omega), ← hB1 j (by omega), hh, p6]
    congr 3
    omega
   ·rw [if_neg hj, List.getElem?_eq_none (by omega)]
  have hlen : ((logL c (supA d)).drop (usedN d)).length = 24 - usedN d := by rw [List.length_drop, logL_len]
  have hp := parse_log g ((logL c (supA d)).drop (usedN d + ((bodyT t).length + 1))) (n := 25) (by rw [← hr2, hlen]; omega)
  rw [← hr2, hq] at hp
  have hst := scanGo_step (by omega) hp
  have h0 := scanA_none (q := (scanF d).next + 1) (r := (logL c (supA d)).drop (usedN d + ((bodyT t).length + 1))) (fun s hs => hn2.log (supA d) (Int.le_refl _) s (List.mem_of_mem_drop hs))
  have t1 : (scanA ((logL c (supA d)).drop (usedN d)) (scanF d).next).1 = [logOf t] := by
   show (scanGo _ _ _).1 = _
   rw [hst.1]
   show logOf t :: (scanA _ _).1 = _
   rw [h0]
  have t2 : (scanA ((logL c (supA d)).drop (usedN d)) (scanF d).next).2 = ((scanF d).next + 1, (logL c (supA d)).drop (usedN d + ((bodyT t).length + 1))) := by
   show (scanGo _ _ _).2 = _
   rw [hst.2]
   show (scanA _ _).2 = _
   rw [h0]
  rw [t1] at s1
  rw [t2] at s2 s3
  have huc : usedN c = usedN d + ((bodyT t).length + 1) := by
   show 24 - _ = _
   rw [s3]
   show 24 - (List.drop _ _).length = _
   rw [List.length_drop, logL_len]
   omega
  obtain ⟨_, _, _, _, _, _, r6, _⟩ := scan_parts hE
  refine ⟨hE, .inr ⟨hk, fnd_eta _ s1 s2 ?_, huc, hn2⟩⟩
  rw [r6, hA, huc, p6]
  omega
structure ChkLeft (l : List Cpy) (a q : Int) (d c : Dsk) (k : Nat) : Prop where
 good : goodD c = true
 clean : c.writes = []
 log : ∀ i : Nat, i < 24 → readD c (1 + (i : Int)) = readD d (1 + (i : Int))
 home : ∀ b : Nat, b < 12 → readD c (25 + (b : Int)) = readD d (25 + (b : Int)) ∨ ∃ x ∈ l, x.block = b ∧ readD c (25 + (b : Int)) = x.text
 done : (homeS l).length ≤ k → ∀ x ∈ l, readD c (25 + x.block) = x.text
 zero : (k ≤ (homeS l).length + 1 ∧ readD c 0 = readD d 0) ∨ ((homeS l).length < k ∧ readD c 0 = markS (superM q a))
theorem scan_clean {d : Dsk} (h : scanE (flushD d) = 0) : goodD d = true ∧ goodD (flushD d) = true ∧ (flushD d).writes = [] := by
 have h1 := (scanE_zero h).1
 by_cases hg : goodD d = true
 ·exact ⟨hg, h1, flush_clean hg⟩
 ·unfold flushD at h1
  rw [if_neg hg] at h1
  exact absurd h1 hg
theorem scan_bounds {d : Dsk} (h : scanE d = 0) : (0 ≤ (scanF d).at_ ∧ (scanF d).at_ < 24) ∧ (1 ≤ (scanF d).next ∧ (scanF d).next ≤ 2147483647) := by
 obtain ⟨hb1, hb2, hb3, hb4, hb5⟩ := scanE_zero h
 obtain ⟨pre, p1, p2, p3, p4, p5, p6, p7, p8⟩ := scan_parts h
 exact ⟨by rw [p6]; omega, by omega⟩
def laterAt (d : Dsk) (q : Int) (i : Nat) : Bool := decide (decE (readD d (1 + (i : Int))) = 0 ∧ q ≤ (decM (readD d (1 + (i : Int)))).seq)
def laterB (d : Dsk) (q : Int) : Bool := (List.range 24).any (laterAt d q)
theorem later_noCom {d : Dsk} {q : Int} (h : laterB d q = false) : noCom d q := by
 intro i hi x hx hc
 have := List.any_eq_false.1 h i (List.mem_range.2 hi)
 unfold laterAt at this
 simp only [decide_eq_true_eq, not_and] at this
 have h2 := hc.2.1
 exact this hc.1 (by omega)
def usedI (d : Dsk) (f : Fnd) : Int := if (f.at_ - (decM (readD d 0)).at_) % 24 = 0 ∧ 0 < f.txns.length then 24 else (f.at_ - (decM (readD d 0)).at_) % 24
theorem used_eq {d : Dsk} (h : scanE d = 0) : usedI d (scanF d) = usedN d := by
 obtain ⟨hb1, hb2, hb3, hb4, hb5⟩ := scanE_zero h
 obtain ⟨pre, p1, p2, p3, p4, p5, p6, p7, p8⟩ := scan_parts h
 unfold usedI
 have e : (decM (readD d 0)).at_ = supA d := rfl
 rw [e, p6]
 have hm : ((supA d + (usedN d : Int)) % 24 - supA d) % 24 = (usedN d : Int) % 24 := by omega
 rw [hm]
 by_cases hu : usedN d = 0
 ·rw [if_neg]
  ·omega
  ·rintro ⟨_, h2⟩
   rw [p7.2 hu] at h2
   exact absurd h2 (by decide)
 ·have ht : 0 < (scanF d).txns.length := List.length_pos_iff.2 fun h => hu (p7.1 h)
  by_cases h24 : usedN d = 24
  ·rw [if_pos ⟨by omega, ht⟩]; omega
  ·rw [if_neg (by omega)]; omega
theorem crash_run {d : Dsk} {l : List Stp} {x : Int} (hg : goodD d = true) (hw : d.writes = []) (ho : ∀ s ∈ l, stpOk s) (hl : l.length ≤ 200) (hx : 0 ≤ x) : crashE (runD d l) x = 0 := by
 have := (run_good l hg ho (by rw [hw, List.length_nil]; omega)).1
 unfold crashE
 rw [if_pos ⟨this, hx⟩]
theorem whole_pure {d : Dsk} {t : Txn} {k : Nat} {x : Int} (h : scanE (flushD d) = 0) (hn : (scanF (flushD d)).next < 2147483646) (hl : laterB (flushD d) (scanF (flushD d)).next = false) (hq : t.seq = (scanF (flushD d)).next)
    (hc : comE ⟨(scanF (flushD d)).at_, usedI (flushD d) (scanF (flushD d))⟩ t = 0) (hk : k ≤ (comL ⟨(scanF (flushD d)).at_, usedI (flushD d) (scanF (flushD d))⟩ t).length) (hx : 0 ≤ x) :
    crashE (runD (flushD d) ((comL ⟨(scanF (flushD d)).at_, usedI (flushD d) (scanF (flushD d))⟩ t).take k)) x = 0 ∧
    scanE (crashD (runD (flushD d) ((comL ⟨(scanF (flushD d)).at_, usedI (flushD d) (scanF (flushD d))⟩ t).take k)) x) = 0 ∧
    (((scanF (crashD (runD (flushD d) ((comL ⟨(scanF (flushD d)).at_, usedI (flushD d) (scanF (flushD d))⟩ t).take k)) x)).txns = (scanF (flushD d)).txns ∧ k < (comL ⟨(scanF (flushD d)).at_, usedI (flushD d) (scanF (flushD d))⟩ t).length) ∨
     ((scanF (crashD (runD (flushD d) ((comL ⟨(scanF (flushD d)).at_, usedI (flushD d) (scanF (flushD d))⟩ t).take k)) x)).txns = (scanF (flushD d)).txns ++ [logOf t] ∧ (comL ⟨(scanF (flushD d)).at_, usedI (flushD d) (scanF (flushD d))⟩ t).length ≤ k + 1)) := by
 obtain ⟨_, hgd, hw⟩ := scan_clean h
 obtain ⟨ho, hlen⟩ := com_ok hc
 have hcr := crash_run (x := x) hgd hw (fun s hs => ho s (List.mem_of_mem_take (i := k) hs)) (by rw [List.length_take]; omega) hx
 have hL := comL_split hc
 have hL2 : (comL ⟨(scanF (flushD d)).at_, usedI (flushD d) (scanF (flushD d))⟩ t).length = (comA ⟨(scanF (flushD d)).at_, usedI (flushD d) (scanF (flushD d))⟩ t).length + 2 := by rw [hL]; simp
 have hcl := com_left hc hgd hw hk (Left.crash hcr)
 obtain ⟨e1, e2⟩ := com_scan h (later_noCom hl) hc rfl (used_eq h) hq (by omega) hcl
 refine ⟨hcr, e1, ?_⟩
 rcases e2 with ⟨f1, f2, _⟩ | ⟨f1, f2, _⟩
 ·exact .inl ⟨by rw [f2], by omega⟩
 ·exact .inr ⟨by rw [f2], by omega⟩
structure Twice (d : Dsk) (k : Nat) (x : Int) (L : List Stp) (X Y : Dsk) : Prop where
 crash : crashE (runD d (L.take k)) x = 0
 scan : scanE X = 0
 next : (scanF X).next = (scanF d).next
 at_ : (scanF X).at_ = (scanF d).at_
 good : ∀ t ∈ (scanF X).txns, goodT t = true
 check : checkE (newestL (scanF X).txns) (scanF X).at_ (scanF X).next = 0
 home : ∀ c ∈ newestL (scanF d).txns, readD Y (25 + c.block) = c.text
 scan2 : scanE Y = 0
 txns2 : (scanF Y).txns = []
 next2 : (scanF Y).next = (scanF d).next
 at2 : (scanF Y).at_ = (scanF d).at_
 done : k = L.length → (scanF X).txns = []
theorem scanGo_len2 : ∀ (k : Nat) (r : List ByteArray) (n : Int), (scanGo k r n).1.length ≤ k
 | 0, r, n => Nat.le_refl _
 | k + 1, r, n => by
  unfold scanGo
  split
  ·split
   ·simp only [List.length_cons]
    have := scanGo_len2 k ‹_› (n + 1)
    omega
   ·exact Nat.zero_le _
  ·exact Nat.zero_le _
theorem scanF_len2 (d : Dsk) : (scanF d).txns.length ≤ 25 := by
 unfold scanF
 split
 ·exact scanGo_len2 _ _ _
 ·exact Nat.zero_le _
end Wb
namespace Go.Proofs.YtjhmfljlclajnacDoor
open Go.RowKit Wb
set_option maxRecDepth 100000
set_option maxHeartbeats 4000000
theorem disk_Read (d : Dsk) (n : Int) (v : Value) (w : World) (hd : RDisk w v d) :
    Calls Tryd.prog 15 #[v, .int .i64 n] w fun e w' => e = .returned (.tuple #[.string (readD d n), .int .i64 (readE d n)]) ∧ Below w.heap.size w w' := by
 have hG := fun w (hh : RDisk w v d) => disk_Good d v w hh
 have hA := fun w => disk_at n w
 have hd2 := hd
 obtain ⟨vs, vw, rfl, hs, hw, n1, n2⟩ := hd
 obtain ⟨a, cap, rfl, _⟩ := hs.form
 obtain ⟨b, bcap, rfl, _⟩ := hw.form
 replace hd2 := hid hd2
 by_cases hg : goodD d = true
 ·rw [hg] at hG
  by_cases ha : isAt n = true
  ·rw [ha] at hA
   have hr : readD d n = lastT (safeAt d n) n (d.writes.take d.writes.length) := by unfold readD; rw [if_pos ⟨hg, ha⟩, List.take_length]
   have he : readE d n = 0 := by unfold readE; rw [if_pos ⟨hg, ha⟩]
   rw [he]
   obtain ⟨g1, g2, _, _⟩ := (goodD_iff d).1 hg
   obtain ⟨h0, h1⟩ : 0 ≤ n ∧ n < 37 := of_decide_eq_true ha
   obtain ⟨m, rfl⟩ : ∃ m : Nat, n = m := ⟨n.toNat, by omega⟩
   have hm : m < d.safe.length := by omega
   have hsf : safeAt d m = d.safe[m] := by simp [safeAt, hm]
   rw [hsf] at hr
   clear hg ha he hsf
   generalize readD d m = r at *
   obtain ⟨safe, writes⟩ := d
   dsimp only at *
   have hlast := fun (k : Nat) (hk : k < writes.length) => lastT_hit safe[m] m hk
   have hmiss := fun (k : Nat) (hk : k < writes.length) => lastT_miss safe[m] m hk
   have hl0 := lastT_nil safe[m] m
   have hm3 : m < safe.length := hm
   replace hs := hid hs
   replace hw := hid hw
   replace hG := hid hG
   replace hA := hid hA
   replace hr := hid hr
   replace g1 := hid g1
   replace hlast := hid hlast
   replace hmiss := hid hmiss
   replace hl0 := hid hl0
   replace hm3 := hid hm3
   go_enter Tryd.func15, Tryd.ntmps15
   go_wp2_with (first
    | (go_at_call 20; refine (hG.out _ (hd2.out.below (by exact Zlo))).mono ?_; rintro e w1 ⟨rfl, hb1⟩; obtain ⟨hbc, hbf⟩ := bcell hb1; have hbz := hb1.size; try simp only [World.size_alloc, World.size_setCell, World.size_drew] at hbz; have hz0 := Nat.lt_of_lt_of_le (n := w.heap.size) (by omega) hbz)
    | (go_at_call 29; refine (hA.out _).mono ?_; rintro e w2 ⟨rfl, rfl⟩))
   have kb : Blk w1 w.heap.size #[.slice a safe.length cap, .slice b writes.length bcap] 25 := (Blk.new w _ _).step hb1
   have hnx : Below w.heap.size w w1 := by exact Zlo
   clear hb1 hbc hbf
   have lt0 := kb.lt
   have c0 := kb.cell 0
   have c1 := kb.cell 1
   simp only [Zga, Zgb, Zgc] at c0 c1
   go_loop [6] (fun i => ∃ k : Nat, k ≤ writes.length ∧ i = .int .i64 ((k : Int) - 1) ∧ Hid (r = lastT safe[m] m (writes.take k))) (fun i => (intOf i + 1).toNat)
   case atStart => exact ⟨writes.length, Nat.le_refl _, rfl, hr.out⟩
   case round =>
    obtain ⟨k, hk, rfl, hrk⟩ := hrel
    rcases Nat.eq_zero_or_pos k with hk0 | hk0
    ·subst hk0
     obtain ⟨b2, off, rfl, d0⟩ := RL.at1 (fun x => .string x) (fun _ => rfl) (hs.out.below hnx) hm3.out
     have hrs : r = safe[m] := by rw [hrk.out, List.take_zero]; exact hl0.out
     replace hrs := hid hrs
     clear hrk
     generalize safe[m] = sm at *
     go_wp2
     go_ret2
     exact ⟨ret_st hrs.out.symm, hnx⟩
    ·obtain ⟨j, rfl⟩ : ∃ j, k = j + 1 := ⟨k - 1, by omega⟩
     have hj : j < writes.length := by omega
     obtain ⟨b2, off, rfl, d0, d1⟩ := RL.at2 (fun x => .int .i64 x.at_) (fun x => .string x.text) (fun _ => rfl) (hw.out.below hnx) hj
     by_cases heq : writes[j].at_ = m
     ·have hrs : r = writes[j].text := by rw [hrk.out]; exact hlast.out j hj heq
      replace hrs := hid hrs
      have e1 : (writes[j].at_ == (m : Int)) = true := beq_iff_eq.2 heq
      clear hrk heq
      generalize writes[j] = x at *
      go_wp2
      go_ret2
      exact ⟨ret_st hrs.out.symm, hnx⟩
     ·have hrs : r = lastT safe[m] m (writes.take j) := by rw [hrk.out]; exact hmiss.out j hj heq
      replace hrs := hid hrs
      have e1 : (writes[j].at_ == (m : Int)) = false := beq_eq_false_iff_ne.2 heq
      clear hrk heq
      generalize writes[j] = x at *
      go_wp2
      go_round
      case rel => exact ⟨j, by omega, by go_num, hrs⟩
      case measure => simp [intOf]
  ·have hr : readD d n = ⟨#[]⟩ := by unfold readD; rw [if_neg (fun hh => ha hh.2)]
   have he : readE d n = 2 := by unfold readE; rw [if_neg (fun hh => ha hh.2)]
   rw [hr, he]
   rw [Bool.not_eq_true _ |>.mp ha] at hA
   clear hs hw ha hg hr he
   replace hG := hid hG
   replace hA := hid hA
   go_enter Tryd.func15, Tryd.ntmps15
   go_wp2_with (first
    | (go_at_call 20; refine (hG.out _ (hd2.out.below (by exact Zlo))).mono ?_; rintro e w1 ⟨rfl, hb1⟩; obtain ⟨hbc, hbf⟩ := bcell hb1; have hbz := hb1.size; try simp only [World.size_alloc, World.size_setCell, World.size_drew] at hbz; have hz0 := Nat.lt_of_lt_of_le (n := w.heap.size) (by omega) hbz)
    | (go_at_call 29; refine (hA.out _).mono ?_; rintro e w2 ⟨rfl, rfl⟩))
   go_ret2
   exact ⟨rfl, by exact Zlo⟩
 ·have hr : readD d n = ⟨#[]⟩ := by unfold readD; rw [if_neg (fun hh => hg hh.1)]
  have he : readE d n = 2 := by unfold readE; rw [if_neg (fun hh => hg hh.1)]
  rw [hr, he]
  rw [Bool.not_eq_true _ |>.mp hg] at hG
  clear hs hw hg hr he
  replace hG := hid hG
  go_enter Tryd.func15, Tryd.ntmps15
  go_wp2_with (go_at_call 20; refine (hG.out _ (hd2.out.below (by exact Zlo))).mono ?_; rintro e w1 ⟨rfl, hb1⟩; obtain ⟨hbc, hbf⟩ := bcell hb1; have hbz := hb1.size; try simp only [World.size_alloc, World.size_setCell, World.size_drew] at hbz; have hz0 := Nat.lt_of_lt_of_le (n := w.heap.size) (by omega) hbz)
  go_ret2
  exact ⟨rfl, by exact Zlo⟩
end Go.Proofs.YtjhmfljlclajnacDoor
namespace Go.Proofs.YtjhmfljlclajnacDoor
open Go.RowKit Wb
set_option maxRecDepth 100000
theorem takeE_bad {r : Ring} {n : Int} (h : goodR r = false ∨ n < 0) : takeE r n = 2 := by unfold takeE; rw [if_pos h]
theorem takeE_full {r : Ring} {n : Int} (h : ¬ (goodR r = false ∨ n < 0)) (h2 : n > 24 - r.used) : takeE r n = 6 := by unfold takeE; rw [if_neg h, if_pos h2]
theorem takeE_ok {r : Ring} {n : Int} (h : ¬ (goodR r = false ∨ n < 0)) (h2 : ¬ n > 24 - r.used) : takeE r n = 0 := by unfold takeE; rw [if_neg h, if_neg h2]
theorem takeR_bad {r : Ring} {n : Int} (h : takeE r n ≠ 0) : takeR r n = r := by unfold takeR; rw [if_neg h]
theorem takeL_bad {r : Ring} {n : Int} (h : takeE r n ≠ 0) : takeL r n = [] := by unfold takeL; rw [if_neg h]
theorem takeR_ok {r : Ring} {n : Int} (h : takeE r n = 0) : takeR r n = ⟨(r.head + n) % 24, r.used + n⟩ := by unfold takeR; rw [if_pos h]
theorem takeL_ok {r : Ring} {n : Int} (h : takeE r n = 0) : takeL r n = places r.head n.toNat := by unfold takeL; rw [if_pos h]
theorem ring_Take (r : Ring) (n : Int) (w : World) :
    Calls Tryd.prog 33 #[r.val, .int .i64 n] w fun e w' =>
      ∃ v, e = .returned (.tuple #[(takeR r n).val, v, .int .i64 (takeE r n)]) ∧ Wb.Own intC w.heap.size 3 1 w' v (takeL r n) ∧ Below w.heap.size w w' := by
 obtain ⟨p, u⟩ := r
 have hG := fun w => ring_Good ⟨p, u⟩ w
 have hgi := goodR_iff ⟨p, u⟩
 by_cases hb : goodR ⟨p, u⟩ = false ∨ n < 0
 ·rw [takeR_bad (by rw [takeE_bad hb]; decide), takeL_bad (by rw [takeE_bad hb]; decide), takeE_bad hb]
  clear hgi
  generalize goodR ⟨p, u⟩ = g at *
  replace hG := hid hG
  unfold Ring.val at *
  dsimp only at *
  cases g
  ·clear hb
   go_enter Tryd.func33, Tryd.ntmps33
   go_wp2_with (go_at_call 30; refine (hG.out _).mono ?_; rintro e w1 ⟨rfl, hb1⟩; obtain ⟨hbc, hbf⟩ := bcell hb1; have hbz := hb1.size; try simp only [World.size_alloc, World.size_setCell, World.size_drew] at hbz; have hz0 := Nat.lt_of_lt_of_le (n := w.heap.size) (by omega) hbz; have hz1 := Nat.lt_of_lt_of_le (n := w.heap.size + 1) (by omega) hbz)
   exact bodyPost_ret (v := .tuple #[.agg #[.int .i64 p, .int .i64 u], .slice none 0 0, .int .i64 2]) (by simp [results, Tryd.results33, go_sem, hbc]) rfl ⟨_, rfl, Own.nil _ _ _ _ _, by exact Zlo⟩
  ·replace hb : n < 0 := by simpa using hb
   go_enter Tryd.func33, Tryd.ntmps33
   go_wp2_with (go_at_call 30; refine (hG.out _).mono ?_; rintro e w1 ⟨rfl, hb1⟩; obtain ⟨hbc, hbf⟩ := bcell hb1; have hbz := hb1.size; try simp only [World.size_alloc, World.size_setCell, World.size_drew] at hbz; have hz0 := Nat.lt_of_lt_of_le (n := w.heap.size) (by omega) hbz; have hz1 := Nat.lt_of_lt_of_le (n := w.heap.size + 1) (by omega) hbz)
   exact bodyPost_ret (v := .tuple #[.agg #[.int .i64 p, .int .i64 u], .slice none 0 0, .int .i64 2]) (by simp [results, Tryd.results33, go_sem, hbc]) rfl ⟨_, rfl, Own.nil _ _ _ _ _, by exact Zlo⟩
 ·obtain ⟨hg, hn⟩ : goodR ⟨p, u⟩ = true ∧ 0 ≤ n := by simpa using hb
  obtain ⟨g1, g2, g3, g4⟩ := hgi.1 hg
  dsimp only at g1 g2 g3 g4
  rw [hg] at hG
  have hF := fun w => ring_Free ⟨p, u⟩ w g3 g4
  replace hG := hid hG
  replace hF := hid hF
  by_cases hs : n > 24 - u
  ·rw [takeR_bad (by rw [takeE_full hb hs]; decide), takeL_bad (by rw [takeE_full hb hs]; decide), takeE_full hb hs]
   clear hgi hb hg
   unfold Ring.val at *
   dsimp only at *
   go_enter Tryd.func33, Tryd.ntmps33
   go_wp2_with (first | (go_at_call 30; refine (hG.out _).mono ?_; rintro e w1 ⟨rfl, hb1⟩; obtain ⟨hbc, hbf⟩ := bcell hb1; have hbz := hb1.size; try simp only [World.size_alloc, World.size_setCell, World.size_drew] at hbz; have hz0 := Nat.lt_of_lt_of_le (n := w.heap.size) (by omega) hbz; have hz1 := Nat.lt_of_lt_of_le (n := w.heap.size + 1) (by omega) hbz) | (go_at_call 53; refine (hF.out _).mono ?_; rintro e w2 ⟨rfl, hb1⟩; obtain ⟨hbc, hbf⟩ := bcell hb1; have hbz := hb1.size; try simp only [World.size_alloc, World.size_setCell, World.size_drew] at hbz; have hz0 := Nat.lt_of_lt_of_le (n := w.heap.size) (by omega) hbz; have hz1 := Nat.lt_of_lt_of_le (n := w.heap.size + 1) (by omega) hbz))
   exact bodyPost_ret (v := .tuple #[.agg #[.int .i64 p, .int .i64 u], .slice none 0 0, .int .i64 6]) (by simp [results, Tryd.results33, go_sem, *]) rfl ⟨_, rfl, Own.nil _ _ _ _ _, by exact Zlo⟩
  ·rw [takeR_ok (takeE_ok hb hs), takeL_ok (takeE_ok hb hs), takeE_ok hb hs]
   clear hgi hb hg
   unfold Ring.val at *
   dsimp only at *
   go_enter Tryd.func33, Tryd.ntmps33
   go_wp2_with (first | (go_at_call 30; refine (hG.out _).mono ?_; rintro e w1 ⟨rfl, hb1⟩; obtain ⟨hbc, hbf⟩ := bcell hb1; have hbz := hb1.size; try simp only [World.size_alloc, World.size_setCell, World.size_drew] at hbz; have hz0 := Nat.lt_of_lt_of_le (n := w.heap.size) (by omega) hbz; have hz1 := Nat.lt_of_lt_of_le (n := w.heap.size + 1) (by omega) hbz) | (go_at_call 53; refine (hF.out _).mono ?_; rintro e w2 ⟨rfl, hb1⟩; obtain ⟨hbc, hbf⟩ := bcell hb1; have hbz := hb1.size; try simp only [World.size_alloc, World.size_setCell, World.size_drew] at hbz; have hz0 := Nat.lt_of_lt_of_le (n := w.heap.size) (by omega) hbz; have hz1 := Nat.lt_of_lt_of_le (n := w.heap.size + 1) (by omega) hbz))
   have k1 : Blk w2 w.heap.size #[.int .i64 p, .int .i64 u] 57 := (((Blk.new w _ _).alloc _).step (by assumption)).step (by assumption)
   have k2 : Blk w2 (w.heap.size + 1) #[.int .i64 0, .int .i64 0] 57 := ((Blk.newAt (w := w.alloc _) (by simp)).step (by assumption)).step (by assumption)
   have hw2 : Below w.heap.size w w2 := by exact Zlo
   clear hbc hbf
   go_loopw [7, 22] (fun l i wr => ∃ k : Nat, (k : Int) ≤ n ∧ i = .int .i64 k ∧ Wb.Own intC (w.heap.size + 2) 3 1 wr l (places p k) ∧ Blk wr w.heap.size #[.int .i64 ((p + k) % 24), .int .i64 u] 57 ∧ Blk wr (w.heap.size + 1) #[.int .i64 0, .int .i64 0] 57 ∧ Below w.heap.size w wr ∧ w.heap.size + 1 < wr.heap.size) (fun _ i _ => (n - intOf i).toNat)
   case atStart => exact ⟨0, by omega, rfl, Own.nil _ _ _ _ _, by rw [show (p + ((0 : Nat) : Int)) % 24 = p by omega]; exact k1, k2, hw2, by omega⟩
   case round =>
    obtain ⟨k, hk, rfl, hown, b1, b2, hnx, hz⟩ := hrel
    have hz0 : w.heap.size < wr.heap.size := by omega
    have c0 := b1.cell 0
    have c1 := b1.cell 1
    have f0 := b1.free 0
    have f1 := b1.free 1
    simp only [List.getElem?_toArray, List.getElem?_cons_zero, List.getElem?_cons_succ] at c0 c1
    by_cases hlt : (k : Int) < n
    ·go_wp2_with (at_builtin; go_loud (refine wpList_push rfl _ _ _ rfl (w.heap.size + 2) _ 1 8 intC_flat elemInt hown rfl ((p + k) % 24) rfl rfl ?c1 ?c2 ?c3 ?c4))
     case c1 => rw [places_len]; omega
     case c2 => rw [places_len]; unfold maxLen; omega
     case c3 => omega
     case c4 =>
      intro v' w' hown' hbel hgrow
      rw [← places_succ] at hown'
      have b1' := b1.below hbel (by omega)
      have b2' := b2.below hbel (by omega)
      have hnx' := hnx.trans (hbel.mono (by omega))
      have hz' := hbel.size
      have c0' := b1'.cell 0
      have f0' := b1'.free 0
      simp only [List.getElem?_toArray, List.getElem?_cons_zero, List.getElem?_cons_succ] at c0'
      go_wp2
      go_roundw
      case rel =>
       refine ⟨k + 1, by omega, by go_num, hown'.setCell (by simp) _, ?_, b2'.set_other _ _ (by simp), hnx'.setCell (Nat.le_refl _) _, by simp; omega⟩
       have hbb := b1'.set 0 (.int .i64 ((p + k + 1) % 24))
       rw [show (p + ((k + 1 : Nat) : Int)) = p + k + 1 by omega]
       simpa using hbb
      case measure => simp [intOf]; omega
    ·have c2 := b2.cell 0
     have c3 := b2.cell 1
     have f2 := b2.free 0
     have f3 := b2.free 1
     simp only [List.getElem?_toArray, List.getElem?_cons_zero, List.getElem?_cons_succ] at c2 c3
     go_wp2
     obtain rfl : n = k := by omega
     refine bodyPost_ret (v := .tuple #[.agg #[.int .i64 ((p + k) % 24), .int .i64 (u + k)], u7, .int .i64 0]) (by simp [results, Tryd.results33, go_sem, c0, c1, c2, c3]) rfl ⟨_, rfl, ?_, ?_⟩
     ·rw [Int.toNat_natCast]
      exact (((hown.setCell (by simp) _).setCell (by simp) _).setCell (by simp) _).mono (by omega)
     ·exact Zlo
end Go.Proofs.YtjhmfljlclajnacDoor
