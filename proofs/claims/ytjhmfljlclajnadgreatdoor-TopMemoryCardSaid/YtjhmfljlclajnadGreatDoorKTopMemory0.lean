/- Parts of the proof. -/
import Derived.Test.YtjhmfljlclajnadGreatDoorKTopRefused14
import Derived.Test.YtjhmfljlclajnadGreatDoorKTopRefused13
import Derived.Test.YtjhmfljlclajnadGreatDoorKTopRefused9
import Derived.Test.YtjhmfljlclajnadGreatDoorUEnc
import Derived.Test.YtjhmfljlclajnadGreatDoorUPoke
import Derived.Test.YtjhmfljlclajnadGreatDoorKTopRefused4
import Derived.Test.YtjhmfljlclajnadGreatDoorUFit2
import Derived.Test.YtjhmfljlclajnadGreatDoorKTopRefused10
import Derived.Test.YtjhmfljlclajnadGreatDoorURing
import Derived.Test.YtjhmfljlclajnadGreatDoorKTopRefused12
import Derived.Test.YtjhmfljlclajnadGreatDoorKTopRefused0
import Derived.Test.YtjhmfljlclajnadGreatDoorCards
import Derived.Test.YtjhmfljlclajnadGreatDoorTie
import Derived.Lib.LaidTab
import Derived.Test.YtjhmfljlclajnadGreatDoorKTopRefused3
import Derived.Test.YtjhmfljlclajnadGreatDoorKTopRefused8
import Derived.Test.YtjhmfljlclajnadGreatDoorKTopRefused6
set_option linter.unusedVariables false
set_option linter.unusedSimpArgs false
namespace Go.Proofs.YtjhmfljlclajnadGreatDoor
open Go.RowKit Wb
set_option maxRecDepth 100000
set_option maxHeartbeats 40000000
theorem scan_Scan (hDec : DecodeSaid) (hOne : OneSaid) (d : Dsk) (v : Value) (w : World) (hd : RDisk w v d) :
    Calls Tryz.prog 49 #[v] w fun e w' => ∃ v', e = .returned (.tuple #[v', .int .i64 (scanE d)]) ∧ OFnd w.heap.size 43 63 3 w' v' (scanF d) ∧ Below w.heap.size w w' := by
 have hd0 := hd
 obtain ⟨vs, vw, rfl, hs, hw, n1, n2⟩ := hd
 obtain ⟨as_, cs, rfl, _⟩ := hs.form
 obtain ⟨aw, cw, rfl, _⟩ := hw.form
 have hR := fun w' (hh : RDisk w' (.agg #[.slice as_ d.safe.length cs, .slice aw d.writes.length cw]) d) => disk_Read d 0 _ w' hh
 have hsz := readD_size d 0
 have hD := fun w' => hDec (readD d 0) w' (by omega)
 have hbd := fun h => dec_bds (s := readD d 0) h
 have hLs := fun A => logL_size d A
 have hLx := fun A => sfx_all d A
 have hLl := fun A => logL_len d A
 have hx2 : readE d 0 ≠ 0 → readE d 0 = 2 ∧ scanE d = 2 ∧ scanF d = ⟨[], 0, 0⟩ := fun h => by
  have h1 : scanE d = 2 := by unfold scanE; rw [if_neg h]
  refine ⟨?_, h1, ?_⟩
  ·unfold readE at h ⊢
   split
   ·rename_i hh; rw [if_pos hh] at h; exact absurd rfl h
   ·rfl
  ·unfold scanF; rw [if_neg (by rw [h1]; decide)]
 have hx1 : readE d 0 = 0 → ¬ (decE (readD d 0) = 0 ∧ (decM (readD d 0)).kind = 1) → scanE d = 1 ∧ scanF d = ⟨[], 0, 0⟩ := fun h h2 => by
  have h1 : scanE d = 1 := by unfold scanE; rw [if_pos h, if_neg h2]
  refine ⟨h1, ?_⟩
  unfold scanF; rw [if_neg (by rw [h1]; decide)]
 have hx0 : readE d 0 = 0 → decE (readD d 0) = 0 ∧ (decM (readD d 0)).kind = 1 → scanE d = 0 ∧ scanF d = ⟨(scanGo 25 (logL d (decM (readD d 0)).at_) (decM (readD d 0)).seq).1, (scanGo 25 (logL d (decM (readD d 0)).at_) (decM (readD d 0)).seq).2.1, ((decM (readD d 0)).at_ + (24 - ((scanGo 25 (logL d (decM (readD d 0)).at_) (decM (readD d 0)).seq).2.2.length : Int))) % 24⟩ := fun h h2 => by
  have h1 : scanE d = 0 := by unfold scanE; rw [if_pos h, if_pos h2]
  refine ⟨h1, ?_⟩
  unfold scanF; rw [if_pos h1]
 generalize scanE d = sE at *
 generalize scanF d = sF at *
 generalize readE d 0 = re at *
 generalize readD d 0 = s0 at *
 generalize decE s0 = de at *
 generalize decM s0 = M at *
 obtain ⟨mk, ms, ma, tags, blocks⟩ := M
 dsimp only at *
 have kd : Blk ((w.alloc (.cells #[.slice as_ d.safe.length cs, .slice aw d.writes.length cw] 58)).alloc (.cells #[.slice none 0 0, .int .i64 0, .int .i64 0] 69)) w.heap.size #[.slice as_ d.safe.length cs, .slice aw d.writes.length cw] 58 := (Blk.new w _ _).alloc _
 have kr : Blk ((w.alloc (.cells #[.slice as_ d.safe.length cs, .slice aw d.writes.length cw] 58)).alloc (.cells #[.slice none 0 0, .int .i64 0, .int .i64 0] 69)) (w.heap.size + 1) #[.slice none 0 0, .int .i64 0, .int .i64 0] 69 := Blk.newAt (by simp)
 have nx : Below w.heap.size w ((w.alloc (.cells #[.slice as_ d.safe.length cs, .slice aw d.writes.length cw] 58)).alloc (.cells #[.slice none 0 0, .int .i64 0, .int .i64 0] 69)) := bal (bal (b0 w) _) _
 have a0 := kd.cell 0; have a1 := kd.cell 1
 simp only [Zga, Zgb, Zgc] at a0 a1
 replace hR := hid (hR _ (hd0.below nx)); replace hD := hid hD; replace hLs := hid hLs; replace hLx := hid hLx; replace hLl := hid hLl; replace hd0 := hid hd0
 clear hs hw
 by_cases hre : re = 0
 rotate_left
 ·obtain ⟨rfl, rfl, rfl⟩ := hx2 hre
  clear hx1 hx0 hx2 hre hbd
  go_enter Tryz.func49, Tryz.ntmps49
  go_wp2_with (go_at_call 23; go_loud ((with_reducible refine hR.out.mono ?_); rintro e w1 ⟨rfl, hb1⟩; replace kr := kr.step hb1; replace nx := bgo nx hb1; have r0 := kr.cell 0; have r1 := kr.cell 1; have r2 := kr.cell 2; have z0 := kr.free 0; have z1 := kr.free 1; have z2 := kr.free 2; simp only [Zga, Zgb, Zgc] at r0 r1 r2))
  exact bodyPost_ret (v := .tuple #[.agg #[.slice none 0 0, .int .i64 0, .int .i64 0], .int .i64 2]) (by simp [results, Tryz.results49, go_sem, r0, r1, r2]) rfl ⟨_, rfl, ⟨_, rfl, OTxns.nil _ _ _ _ _⟩, ((nx.setCell (by simp) _).setCell (by simp) _).setCell (by simp) _⟩
 by_cases hsu : de = 0 ∧ mk = 1
 rotate_left
 ·obtain ⟨rfl, rfl⟩ := hx1 hre hsu
  subst hre
  clear hx1 hx0 hx2 hbd
  by_cases hde : de = 0
  ·have hde2 : (de != 0) = false := by rw [hde]; rfl
   have hmk : (mk != 1) = true := bne_iff_ne.2 (fun h => hsu ⟨hde, h⟩)
   clear hsu hde
   go_enter Tryz.func49, Tryz.ntmps49
   go_wp2_with (go_at_call 23; go_loud ((with_reducible refine hR.out.mono ?_); rintro e w1 ⟨rfl, hb1⟩; replace kr := kr.step hb1; replace nx := bgo nx hb1))
   go_wp2_with (go_at_call 74; go_loud ((with_reducible refine (hD.out _).mono ?_); rintro e w2 ⟨v2, rfl, hmk, hb2⟩; obtain ⟨vt, vb, rfl, ot, ob, t1, t2⟩ := hmk; dsimp only at ot ob t1 t2 ⊢; obtain ⟨at_, ct, rfl⟩ := ot.form; obtain ⟨ab, cb, rfl⟩ := ob.form; replace kr := kr.step hb2; replace nx := bgo nx hb2; have r0 := kr.cell 0; have r1 := kr.cell 1; have r2 := kr.cell 2; have z0 := kr.free 0; have z1 := kr.free 1; have z2 := kr.free 2; simp only [Zga, Zgb, Zgc] at r0 r1 r2; have lr := kr.lt))
   exact bodyPost_ret (v := .tuple #[.agg #[.slice none 0 0, .int .i64 0, .int .i64 0], .int .i64 1]) (by simp [results, Tryz.results49, go_sem, r0, r1, r2, lr]) rfl ⟨_, rfl, ⟨_, rfl, OTxns.nil _ _ _ _ _⟩, bal (((nx.setCell (p := ⟨w.heap.size + 1, 0, none⟩) (by simp) _).setCell (p := ⟨w.heap.size + 1, 1, none⟩) (by simp) _).setCell (p := ⟨w.heap.size + 1, 2, none⟩) (by simp) _) _⟩
  ·have hde2 : (de != 0) = true := bne_iff_ne.2 hde
   clear hsu hde
   go_enter Tryz.func49, Tryz.ntmps49
   go_wp2_with (go_at_call 23; go_loud ((with_reducible refine hR.out.mono ?_); rintro e w1 ⟨rfl, hb1⟩; replace kr := kr.step hb1; replace nx := bgo nx hb1))
   go_wp2_with (go_at_call 74; go_loud ((with_reducible refine (hD.out _).mono ?_); rintro e w2 ⟨v2, rfl, hmk, hb2⟩; obtain ⟨vt, vb, rfl, ot, ob, t1, t2⟩ := hmk; dsimp only at ot ob t1 t2 ⊢; obtain ⟨at_, ct, rfl⟩ := ot.form; obtain ⟨ab, cb, rfl⟩ := ob.form; replace kr := kr.step hb2; replace nx := bgo nx hb2; have r0 := kr.cell 0; have r1 := kr.cell 1; have r2 := kr.cell 2; have z0 := kr.free 0; have z1 := kr.free 1; have z2 := kr.free 2; simp only [Zga, Zgb, Zgc] at r0 r1 r2; have lr := kr.lt))
   exact bodyPost_ret (v := .tuple #[.agg #[.slice none 0 0, .int .i64 0, .int .i64 0], .int .i64 1]) (by simp [results, Tryz.results49, go_sem, r0, r1, r2, lr]) rfl ⟨_, rfl, ⟨_, rfl, OTxns.nil _ _ _ _ _⟩, bal (((nx.setCell (p := ⟨w.heap.size + 1, 0, none⟩) (by simp) _).setCell (p := ⟨w.heap.size + 1, 1, none⟩) (by simp) _).setCell (p := ⟨w.heap.size + 1, 2, none⟩) (by simp) _) _⟩
 obtain ⟨rfl, hF⟩ := hx0 hre hsu
 obtain ⟨rfl, rfl⟩ := hsu
 subst hre
 obtain ⟨_, _, q3, q4, q5, q6⟩ := hbd rfl
 clear hx0 hx1 hx2 hbd
 have hL0 := hid (hLx.out ma)
 have hL1 := hid (hLs.out ma)
 have hL2 := hLl.out ma
 generalize logL d ma = L at *
 have hG0 := hid (show (scanGo 25 L ms) = scanGo (L.length + 1) L ms by rw [hL2])
 replace hF := hid hF
 generalize hGG : scanGo 25 L ms = G at *
 have hA0 : (ma + (24 - ((24 : Nat) : Int))) % 24 = ma := by omega
 have hrd : rdrC (.slice as_ d.safe.length cs) (.slice aw d.writes.length cw) ma L.length = #[.slice as_ d.safe.length cs, .slice aw d.writes.length cw, .int .i64 ma, .int .i64 24] := by unfold rdrC; rw [hL2, hA0]; rfl
 clear hLs hLx hLl hGG
 replace hrd := hid hrd
 go_enter Tryz.func49, Tryz.ntmps49
 go_wp2_with (go_at_call 23; go_loud ((with_reducible refine hR.out.mono ?_); rintro e w1 ⟨rfl, hb1⟩; replace kr := kr.step hb1; replace kd := kd.step hb1; replace nx := bgo nx hb1))
 go_wp2_with (go_at_call 74; go_loud ((with_reducible refine (hD.out _).mono ?_); rintro e w2 ⟨v2, rfl, hmk, hb2⟩; obtain ⟨vt, vb, rfl, ot, ob, t1, t2⟩ := hmk; dsimp only at ot ob t1 t2 ⊢; obtain ⟨at_, ct, rfl⟩ := ot.form; obtain ⟨ab, cb, rfl⟩ := ob.form; replace kr := kr.step hb2; replace kd := kd.step hb2; replace nx := bgo nx hb2; clear a0 a1; have a0 := kd.cell 0; have a1 := kd.cell 1; simp only [Zga, Zgb, Zgc] at a0 a1; have lr := kr.lt; have ld := kd.lt))
 have hat0 : (ma + (24 - (L.length : Int))) % 24 = ma := by rw [hL2]; omega
 have kb0 : Blk (((w2.alloc (.cells #[.int .i64 1, .int .i64 ms, .int .i64 ma, .slice at_ tags.length ct, .slice ab blocks.length cb] 88)).alloc (.cells #[.slice as_ d.safe.length cs, .slice aw d.writes.length cw, .int .i64 ma, .int .i64 24] 150)).alloc (.cells #[.slice none 0 0, .int .i64 ms, .int .i64 ma] 69)) (w2.heap.size + 1) (rdrC (.slice as_ d.safe.length cs) (.slice aw d.writes.length cw) ma L.length) 150 := by rw [hrd.out]; exact (Blk.newAt (by simp)).alloc _
 have kf0 : Blk (((w2.alloc (.cells #[.int .i64 1, .int .i64 ms, .int .i64 ma, .slice at_ tags.length ct, .slice ab blocks.length cb] 88)).alloc (.cells #[.slice as_ d.safe.length cs, .slice aw d.writes.length cw, .int .i64 ma, .int .i64 24] 150)).alloc (.cells #[.slice none 0 0, .int .i64 ms, .int .i64 ma] 69)) (w2.heap.size + 2) #[.slice none 0 0, .int .i64 ms, .int .i64 ((ma + (24 - (L.length : Int))) % 24)] 69 := by rw [hat0]; exact Blk.newAt (by simp)
 have kr0 := ((kr.alloc (.cells #[.int .i64 1, .int .i64 ms, .int .i64 ma, .slice at_ tags.length ct, .slice ab blocks.length cb] 88)).alloc (.cells #[.slice as_ d.safe.length cs, .slice aw d.writes.length cw, .int .i64 ma, .int .i64 24] 150)).alloc (.cells #[.slice none 0 0, .int .i64 ms, .int .i64 ma] 69)
 have nx0 := bal (bal (bal nx (.cells #[.int .i64 1, .int .i64 ms, .int .i64 ma, .slice at_ tags.length ct, .slice ab blocks.length cb] 88)) (.cells #[.slice as_ d.safe.length cs, .slice aw d.writes.length cw, .int .i64 ma, .int .i64 24] 150)) (.cells #[.slice none 0 0, .int .i64 ms, .int .i64 ma] 69)
 have s0 : w2.heap.size + 3 ≤ (((w2.alloc (.cells #[.int .i64 1, .int .i64 ms, .int .i64 ma, .slice at_ tags.length ct, .slice ab blocks.length cb] 88)).alloc (.cells #[.slice as_ d.safe.length cs, .slice aw d.writes.length cw, .int .i64 ma, .int .i64 24] 150)).alloc (.cells #[.slice none 0 0, .int .i64 ms, .int .i64 ma] 69)).heap.size := by simp
 have lw2 := kr.lt
 have hgo0 := hid (show ([] : List Txn) ++ (scanGo (L.length + 1) L ms).1 = G.1 ∧ (scanGo (L.length + 1) L ms).2 = G.2 by rw [← hG0.out]; exact ⟨rfl, rfl⟩)
 clear hat0 kd ot ob hG0 hrd
 go_loopg [9, 10] L.length (fun g _ _ wr => ∃ (r : List ByteArray) (n : Int) (ts : List Txn), g = r.length ∧ Hid (sfx d ma r) ∧ Hid (∀ s ∈ r, s.size ≤ 9223372036854775807) ∧ Hid (ts ++ (scanGo (r.length + 1) r n).1 = G.1 ∧ (scanGo (r.length + 1) r n).2 = G.2) ∧ 1 ≤ n ∧ n ≤ 2147483647 ∧ ts.length + r.length ≤ 24 ∧ ∃ vt, OTxns (w2.heap.size + 3) 43 63 3 wr vt ts ∧ Blk wr (w2.heap.size + 2) #[vt, .int .i64 n, .int .i64 ((ma + (24 - (r.length : Int))) % 24)] 69 ∧ Blk wr (w2.heap.size + 1) (rdrC (.slice as_ d.safe.length cs) (.slice aw d.writes.length cw) ma r.length) 150 ∧ Blk wr (w.heap.size + 1) #[.slice none 0 0, .int .i64 0, .int .i64 0] 69 ∧ Below w.heap.size w wr ∧ w2.heap.size + 3 ≤ wr.heap.size)
 case atStart => exact ⟨L, ms, [], rfl, hL0, hL1, hgo0, q5, q6, by simp; omega, _, OTxns.nil _ _ _ _ _, kf0, kb0, kr0, nx0, s0⟩
 case round =>
  clear kb0 kf0 kr0 nx0 s0 hgo0 hL0 hL1 kr nx a0 a1 ld lr
  obtain ⟨r, n, ts, rfl, hs, hsz, hgo, b1, b2, hb, vt, hox, kf, kb, kr, nx, hg3⟩ := hrel
  obtain ⟨a, c, rfl⟩ := hox.form
  have lf := kf.lt; have lb := kb.lt; have lr := kr.lt
  have f0 := kf.cell 0; have f1 := kf.cell 1; have f2 := kf.cell 2
  have r0 := kr.cell 0; have r1 := kr.cell 1; have r2 := kr.cell 2
  have z0 := kr.free 0; have z1 := kr.free 1; have z2 := kr.free 2
  simp only [Zga, Zgb, Zgc] at f0 f1 f2 r0 r1 r2
  by_cases hlt : n < 2147483647
  rotate_left
  ·have hFF := hid (show sF = ⟨ts, n, ((ma + (24 - (r.length : Int))) % 24)⟩ by
     obtain ⟨g1, g2⟩ := hgo.out
     rw [scanGo_full hlt] at g1 g2
     rw [hF.out, ← g1, ← g2]
     simp)
   clear hgo hF
   go_wp2
   have oz := ((hox.setCell (p := ⟨w.heap.size + 1, 0, none⟩) (by simp; omega) (.slice a ts.length c)).setCell (p := ⟨w.heap.size + 1, 1, none⟩) (by simp; omega) (.int .i64 n)).setCell (p := ⟨w.heap.size + 1, 2, none⟩) (by simp; omega) (.int .i64 ((ma + (24 - (r.length : Int))) % 24))
   have nz := ((nx.setCell (p := ⟨w.heap.size + 1, 0, none⟩) (by simp) (.slice a ts.length c)).setCell (p := ⟨w.heap.size + 1, 1, none⟩) (by simp) (.int .i64 n)).setCell (p := ⟨w.heap.size + 1, 2, none⟩) (by simp) (.int .i64 ((ma + (24 - (r.length : Int))) % 24))
   exact bodyPost_ret (v := .tuple #[.agg #[.slice a ts.length c, .int .i64 n, .int .i64 ((ma + (24 - (r.length : Int))) % 24)], .int .i64 0]) (by simp [results, Tryz.results49, go_sem, r0, r1, r2]) rfl ⟨_, rfl, by rw [hFF.out]; exact ⟨_, rfl, oz.mono (by omega)⟩, nz⟩
  have hw1 : IntKind.i64.wrap (n + 1) = n + 1 := IntWalk.i64_in _ (by omega)
  cases hp : parseT n 25 r (txn0 n) with
  | none =>
   have hFF := hid (show sF = ⟨ts, n, ((ma + (24 - (r.length : Int))) % 24)⟩ by
    obtain ⟨g1, g2⟩ := hgo.out
    rw [scanGo_stop hp] at g1 g2
    rw [hF.out, ← g1, ← g2]
    simp)
   have hO := hid (one_none hOne d w (w2.heap.size + 1) (.slice as_ d.safe.length cs) (.slice aw d.writes.length cw) ma n r wr nx hd0.out (by omega) hs.out hsz.out kb hp)
   clear hgo hF hp
   go_wp2_with (go_at_call 75; go_loud ((with_reducible refine hO.out.mono ?_); rintro e w4 ⟨rfl, n4, kb4, g4⟩; replace hox := hox.grownBlk kb (by decide) (by decide) (by decide) g4; replace kf := kf.grown g4 (by simp); replace kr := kr.grown g4 (by simp; omega); replace nx := gBelow g4 nx nx.size (by omega); clear f0 f1 f2 r0 r1 r2 z0 z1 z2 lf lr; have lf := kf.lt; have lr := kr.lt; have f0 := kf.cell 0; have f1 := kf.cell 1; have f2 := kf.cell 2; have r0 := kr.cell 0; have r1 := kr.cell 1; have r2 := kr.cell 2; have z0 := kr.free 0; have z1 := kr.free 1; have z2 := kr.free 2; simp only [Zga, Zgb, Zgc] at f0 f1 f2 r0 r1 r2))
   have oz := (((hox.setCell (p := ⟨w.heap.size + 1, 0, none⟩) (by simp; omega) (.slice a ts.length c)).setCell (p := ⟨w.heap.size + 1, 1, none⟩) (by simp; omega) (.int .i64 n)).setCell (p := ⟨w.heap.size + 1, 2, none⟩) (by simp; omega) (.int .i64 ((ma + (24 - (r.length : Int))) % 24))).below (bal (b0 _) (.cells #[.int .i64 0, .slice none 0 0, .slice none 0 0, .slice none 0 0, .bool false, .int .i64 0, .bool false, .int .i64 0, .bool false, .int .i64 0] 43))
   have nz := bal (((nx.setCell (p := ⟨w.heap.size + 1, 0, none⟩) (by simp) (.slice a ts.length c)).setCell (p := ⟨w.heap.size + 1, 1, none⟩) (by simp) (.int .i64 n)).setCell (p := ⟨w.heap.size + 1, 2, none⟩) (by simp) (.int .i64 ((ma + (24 - (r.length : Int))) % 24))) (.cells #[.int .i64 0, .slice none 0 0, .slice none 0 0, .slice none 0 0, .bool false, .int .i64 0, .bool false, .int .i64 0, .bool false, .int .i64 0] 43)
   exact bodyPost_ret (v := .tuple #[.agg #[.slice a ts.length c, .int .i64 n, .int .i64 ((ma + (24 - (r.length : Int))) % 24)], .int .i64 0]) (by simp [results, Tryz.results49, go_sem, r0, r1, r2, lr]) rfl ⟨_, rfl, by rw [hFF.out]; exact ⟨_, rfl, oz.mono (by omega)⟩, nz⟩
  | some p =>
   obtain ⟨t, r'⟩ := p
   have hO := hid (one_some hOne d w (w2.heap.size + 1) (.slice as_ d.safe.length cs) (.slice aw d.writes.length cw) ma n r wr nx hd0.out (by omega) hs.out hsz.out kb hp)
   have hlen := parseT_len hp
   have hs2 := hid (parseT_sfx hp hs.out)
   have hsz2 := hid (fun x hx => hsz.out x (parseT_sub hp x hx))
   have hgo2 := hid (show (ts ++ [t]) ++ (scanGo (r'.length + 1) r' (n + 1)).1 = G.1 ∧ (scanGo (r'.length + 1) r' (n + 1)).2 = G.2 by
    obtain ⟨g1, g2⟩ := hgo.out
    obtain ⟨g3, g4⟩ := scanGo_step hlt hp
    rw [g3] at g1
    rw [g4] at g2
    exact ⟨by rw [List.append_assoc]; exact g1, g2⟩)
   clear hgo hp hs hsz r0 r1 r2 z0 z1 z2
   obtain ⟨xs, hox1, hxm, hxo⟩ := hox
   have hxl : xs.length = ts.length := by rw [← hxm]; simp
   replace hxl := hid hxl; replace hxm := hid hxm; replace hxo := hid hxo
   go_wp2_with (first
    | (go_at_call 75; go_loud ((with_reducible refine hO.out.mono ?_); rintro e w4 ⟨v4, rfl, ot, kb4, g4⟩; obtain ⟨y, hyt, hv, hoy⟩ := ot.tv; obtain ⟨ty, ⟨q1, q2, q3⟩, ⟨q4, q5, q6⟩, ⟨q7, q8, q9⟩⟩ := y; dsimp only at hyt; subst hyt; dsimp only [TV.val, txnV, SlV.val] at hv; subst hv; have lw4 := g4.size; replace nx := bal (gBelow g4 nx nx.size (by omega)) (.cells #[.int .i64 ty.seq, .slice q1 q2 q3, .slice q4 q5 q6, .slice q7 q8 q9, .bool ty.h0.on, .int .i64 ty.h0.left, .bool ty.h1.on, .int .i64 ty.h1.left, .bool ty.h2.on, .int .i64 ty.h2.left] 43); have hxo4 := hid (fun x hx => ((hxo.out x hx).grownBlk kb (by decide) (by decide) g4).below (bal (b0 w4) (.cells #[.int .i64 ty.seq, .slice q1 q2 q3, .slice q4 q5 q6, .slice q7 q8 q9, .bool ty.h0.on, .int .i64 ty.h0.left, .bool ty.h1.on, .int .i64 ty.h1.left, .bool ty.h2.on, .int .i64 ty.h2.left] 43))); have hox4 := (hox1.grownBlk kb (by decide) g4).alloc (.cells #[.int .i64 ty.seq, .slice q1 q2 q3, .slice q4 q5 q6, .slice q7 q8 q9, .bool ty.h0.on, .int .i64 ty.h0.left, .bool ty.h1.on, .int .i64 ty.h1.left, .bool ty.h2.on, .int .i64 ty.h2.left] 43); replace kf := (kf.grown g4 (by simp)).alloc (.cells #[.int .i64 ty.seq, .slice q1 q2 q3, .slice q4 q5 q6, .slice q7 q8 q9, .bool ty.h0.on, .int .i64 ty.h0.left, .bool ty.h1.on, .int .i64 ty.h1.left, .bool ty.h2.on, .int .i64 ty.h2.left] 43); replace kr := (kr.grown g4 (by simp; omega)).alloc (.cells #[.int .i64 ty.seq, .slice q1 q2 q3, .slice q4 q5 q6, .slice q7 q8 q9, .bool ty.h0.on, .int .i64 ty.h0.left, .bool ty.h1.on, .int .i64 ty.h1.left, .bool ty.h2.on, .int .i64 ty.h2.left] 43); replace kb4 := kb4.alloc (.cells #[.int .i64 ty.seq, .slice q1 q2 q3, .slice q4 q5 q6, .slice q7 q8 q9, .bool ty.h0.on, .int .i64 ty.h0.left, .bool ty.h1.on, .int .i64 ty.h1.left, .bool ty.h2.on, .int .i64 ty.h2.left] 43); have hoy4 := hid ((hoy.mono (b2 := w2.heap.size + 3) (by omega)).below (bal (b0 w4) (.cells #[.int .i64 ty.seq, .slice q1 q2 q3, .slice q4 q5 q6, .slice q7 q8 q9, .bool ty.h0.on, .int .i64 ty.h0.left, .bool ty.h1.on, .int .i64 ty.h1.left, .bool ty.h2.on, .int .i64 ty.h2.left] 43))); clear f0 f1 f2 lf hoy ot; have lf := kf.lt; have f0 := kf.cell 0; simp only [Zga, Zgb, Zgc] at f0; have kt := Blk.new w4 #[.int .i64 ty.seq, .slice q1 q2 q3, .slice q4 q5 q6, .slice q7 q8 q9, .bool ty.h0.on, .int .i64 ty.h0.left, .bool ty.h1.on, .int .i64 ty.h1.left, .bool ty.h2.on, .int .i64 ty.h2.left] 43; have x0 := kt.cell 0; have x1 := kt.cell 1; have x2 := kt.cell 2; have x3 := kt.cell 3; have x4 := kt.cell 4; have x5 := kt.cell 5; have x6 := kt.cell 6; have x7 := kt.cell 7; have x8 := kt.cell 8; have x9 := kt.cell 9; simp only [Zga, Zgb, Zgc] at x0 x1 x2 x3 x4 x5 x6 x7 x8 x9))
    | (at_builtin; go_loud (refine wpList_push1 rfl _ _ _ rfl (w2.heap.size + 3) _ 10 128 tvC_flat elemTxn hox4 rfl ⟨ty, ⟨q1, q2, q3⟩, ⟨q4, q5, q6⟩, ⟨q7, q8, q9⟩⟩ rfl rfl ts.length hxl.out (by omega) (by omega) (by simp; omega) ?_; intro a7 c7 w7 hown7 hbel7 hg7; have kf7 := kf.below hbel7 (by omega); have kr7 := kr.below hbel7 (by omega); have kb7 := kb4.below hbel7 (by omega); have nx7 := nx.trans (hbel7.mono (by omega)); have lf7 := kf7.lt; have y0 := kf7.cell 0; have y1 := kf7.cell 1; have y2 := kf7.cell 2; have u0 := kf7.free 0; have u1 := kf7.free 1; have u2 := kf7.free 2; have d2 := kb7.cell 2; simp only [Zga, Zgb, Zgc] at y0 y1 y2; simp only [rdrC, Zga, Zgb, Zgc] at d2)))
   have hp7 := OTxns.pushed hox4 hxo4.out hoy4.out (by decide) (by decide) hown7 hg7
   rw [hxm.out] at hp7
   have oz := (((hp7.setCell (p := ⟨w2.heap.size + 2, 0, none⟩) (by simp) (.slice a7 (ts.length + 1) c7)).setCell (p := ⟨w2.heap.size + 2, 1, none⟩) (by simp) (.int .i64 (n + 1))).setCell (p := ⟨w2.heap.size + 2, 2, none⟩) (by simp) (.int .i64 ((ma + (24 - (r'.length : Int))) % 24))).below (b0 _).drew
   have kz := (((kf7.set 0 (.slice a7 (ts.length + 1) c7)).set 1 (.int .i64 (n + 1))).set 2 (.int .i64 ((ma + (24 - (r'.length : Int))) % 24))).drew
   have kbz := (((kb7.set_other ⟨w2.heap.size + 2, 0, none⟩ (.slice a7 (ts.length + 1) c7) (by simp)).set_other ⟨w2.heap.size + 2, 1, none⟩ (.int .i64 (n + 1)) (by simp)).set_other ⟨w2.heap.size + 2, 2, none⟩ (.int .i64 ((ma + (24 - (r'.length : Int))) % 24)) (by simp)).drew
   have krz := (((kr7.set_other ⟨w2.heap.size + 2, 0, none⟩ (.slice a7 (ts.length + 1) c7) (by simp; omega)).set_other ⟨w2.heap.size + 2, 1, none⟩ (.int .i64 (n + 1)) (by simp; omega)).set_other ⟨w2.heap.size + 2, 2, none⟩ (.int .i64 ((ma + (24 - (r'.length : Int))) % 24)) (by simp; omega)).drew
   have nz := (((nx7.setCell (p := ⟨w2.heap.size + 2, 0, none⟩) (by simp; omega) (.slice a7 (ts.length + 1) c7)).setCell (p := ⟨w2.heap.size + 2, 1, none⟩) (by simp; omega) (.int .i64 (n + 1))).setCell (p := ⟨w2.heap.size + 2, 2, none⟩) (by simp; omega) (.int .i64 ((ma + (24 - (r'.length : Int))) % 24))).drew
   have sz : w2.heap.size + 3 ≤ w7.heap.size := by have := hbel7.size; simp at this; omega
   replace oz := hid oz; replace kz := hid kz; replace kbz := hid kbz; replace krz := hid krz; replace nz := hid nz; replace sz := hid sz
   clear hp7
   go_region
   all_goals
    go_wp2
    go_roundg r'.length
    case measure => omega
    case rel => exact ⟨r', n + 1, ts ++ [ty], rfl, hs2, hsz2, hgo2, by omega, by omega, by simp; omega, _, oz.out, kz.out, kbz.out, krz.out, nz.out, by simpa using sz.out⟩
end Go.Proofs.YtjhmfljlclajnadGreatDoor
namespace Go.Proofs.YtjhmfljlclajnadGreatDoor
open Go.RowKit Wb
set_option maxRecDepth 100000
set_option maxHeartbeats 4000000
def ScanSaid : Prop := ∀ (d : Dsk) (v : Value) (w : World), RDisk w v d → Calls Tryz.prog 49 #[v] w fun e w' => ∃ v', e = .returned (.tuple #[v', .int .i64 (scanE d)]) ∧ OFnd w.heap.size 43 63 3 w' v' (scanF d) ∧ Below w.heap.size w w'
end Go.Proofs.YtjhmfljlclajnadGreatDoor
namespace Go.Proofs.YtjhmfljlclajnadGreatDoor
open Go.RowKit Wb
theorem jK (hScan : ScanSaid) : JK where
 fit := fun s w h => disk_Fit s w h
 dnew := fun w => disk_New w
 put := fun d n t v w h => disk_PutN d n t v w h
 flush := fun d v w h => disk_FlushN d v w h
 crash := fun d x v w h hx => disk_CrashN d x v w h hx
 read := fun d n v w h => disk_Read d n v w h
 enc := fun m v w h => stamp_Encode m v w h
 free := fun r w h0 h1 => ring_Free r w h0 h1
 give := fun r n w => ring_Give r n w
 beg := fun t h nn fr vm vd vr w ht => txn_Begin t h nn fr vm vd vr w ht
 stop := fun t h vm vd vr w ht => txn_Stop t h vm vd vr w ht
 chg := fun t h b s vm vd vr w ht => txn_Change t h b s vm vd vr w ht
 fil := fun t h b s vm vd vr w ht => txn_Fill t h b s vm vd vr w ht
 rvk := fun t h b vm vd vr w ht => txn_Revoke t h b vm vd vr w ht
 get := fun l b v w h hl => txn_Get l b v w h hl
 opn := fun t v w h => txn_Open t v w h
 com := fun r t v w h hF => seal_Commit r t v w h hF
 newest := fun l hg v w h => seal_Newest l hg v w h
 check := fun l p q v w h hl hF => seal_Check l p q v w h hl hF
 replay := fun l hg v w h => scan_Replay l hg v w h
 scan := fun d v w h => (hScan d v w h).mono fun e w' ⟨v', he, hf, hb⟩ => by
  obtain ⟨vt, hv, ho⟩ := hf
  subst hv
  exact ⟨vt, he, ho, hb⟩
end Go.Proofs.YtjhmfljlclajnadGreatDoor
namespace Go.Proofs.YtjhmfljlclajnadGreatDoor
open Go.ChangeShapes Go.WideShapes Go.ChangeAt Go.RowKit Wb
noncomputable def laidWorld (os : Os) : World :=
 { World.holding Tryz.prog os ⟨#[], #[], []⟩ with heap := (World.holding Tryz.prog os ⟨#[], #[], []⟩).heap.modify 0 fun
     | .cells _ t frozen => .cells #[.int .i64 2, .int .i64 0, .string ⟨#[]⟩] t frozen
     | o => o }
end Go.Proofs.YtjhmfljlclajnadGreatDoor
namespace Go.Proofs.YtjhmfljlclajnadGreatDoor
open Go.ChangeShapes Go.WideShapes Go.ChangeAt Go.RowKit Wb
set_option maxRecDepth 100000
theorem flush_laid {W : World} (hL : laidMetH Tryz.prog [("wastebook/seal.flush", .agg [.lit (.int .i64 2), .lit (.int .i64 0), .lit (.string [])])] W) :
    Sl W (flR 0).v 1 (flR 0).cs := by
 have h : laidMet Tryz.prog [("wastebook/seal.flush", .agg [.lit (.int .i64 2), .lit (.int .i64 0), .lit (.string [])])] W := hL
 obtain ⟨ps, ⟨g', t', cs, fuel, p, q, hg', ht', hvar, hd, _, _⟩, _⟩ := h
 have hg : Tryz.prog.globalNamed "wastebook/seal.flush" = some 0 := by kernel_rfl
 have hty : (Tryz.prog.globals[0]?).map (·.type) = some 118 := by kernel_rfl
 obtain rfl := Option.some.inj (hg.symm.trans hg')
 obtain rfl := Option.some.inj (hty.symm.trans ht')
 have hcs : cs.toList = [.int .i64 2, .int .i64 0, .string ⟨#[]⟩] := by
  obtain ⟨xs, m, _, hx, hl, hln, hg⟩ := DataW.trod_struct Tryz.underlying118 hd
  have hl3 : cs.toList.length = 3 := hl.trans (by kernel_rfl)
  generalize cs.toList = ls at *
  match ls, hl3, xs, hln with
  | [u0, u1, u2], _, [y0, y1, y2], _ =>
   have h0 : DataW.trod (fun _ => ()) Tryz.prog W 0 (fun _ => true) false m 3 [u0] = some y0 := hg 0 _ rfl
   have h1 : DataW.trod (fun _ => ()) Tryz.prog W 0 (fun _ => true) false m 3 [u1] = some y1 := hg 1 _ rfl
   have h2 : DataW.trod (fun _ => ()) Tryz.prog W 0 (fun _ => true) false m 9 [u2] = some y2 := hg 2 _ rfl
   obtain ⟨a0, e0, rfl, _⟩ := DataW.trod_int Tryz.underlying3 h0
   obtain ⟨a1, e1, rfl, _⟩ := DataW.trod_int Tryz.underlying3 h1
   obtain ⟨a2, e2, rfl, _⟩ := DataW.trod_string Tryz.underlying9 h2
   simp at e0 e1 e2 hx
   subst e0 e1 e2
   obtain ⟨⟨rfl, rfl, h3⟩, _⟩ := hx
   have : a2 = ⟨#[]⟩ := by
    obtain ⟨⟨l⟩⟩ := a2
    simp at h3
    subst h3
    rfl
   rw [this]
 refine ⟨some ⟨0, 0, none⟩, 1, rfl, Nat.le_refl _, by decide, .inr ⟨0, 0, rfl, fun j u hj => ?_⟩⟩
 have := World.var?_cell hg hvar j
 rw [Nat.zero_add, this]
 have e : cs[j]? = cs.toList[j]? := by simp
 rw [e, hcs]
 exact hj
end Go.Proofs.YtjhmfljlclajnadGreatDoor
namespace Go.Proofs.YtjhmfljlclajnadGreatDoor
open Go.RowKit Wb
theorem decodeSaid : DecodeSaid := fun s w h => stamp_DecodeO s w h
theorem oneSaid : OneSaid := fun d W br vs vw A seq r0 w h1 h2 h3 h4 h5 h6 => scan_one decodeSaid d W br vs vw A seq r0 w h1 h2 h3 h4 h5 h6
theorem scanSaid : ScanSaid := fun d v w h => scan_Scan decodeSaid oneSaid d v w h
end Go.Proofs.YtjhmfljlclajnadGreatDoor
namespace Wb
open Go Go.RowKit
theorem upd_len (i : Nat) (vs cs : List Value) (h : i + vs.length ≤ cs.length) : (upd i vs cs).length = cs.length := by
 rw [upd_seg i vs cs h]; simp; omega
def RowM (e : TypeId) (c n : Nat) (v : Value) (M : List Ent) : Prop := (n = 0 ∧ M = [] ∧ v = .slice none 0 0) ∨ ∃ g cap cs, v = .slice (some ⟨g, 0, none⟩) n cap ∧ n * c ≤ cs.length ∧ M = [⟨g, cs, e⟩]
section
variable {S : List Nat} {w0 w w' : World} {L : List Ent} {R : List Rd}
theorem St.addBlk (X : St S w0 w L R) {g : Nat} {cs : List Value} {t : TypeId} (hb : Blk w g cs.toArray t) (ho : w0.heap.size ≤ g) (hn : ∀ e ∈ L, e.g ≠ g) (hr : ∀ r ∈ R, r.cs = [] ∨ ∀ b, vblk r.v = some b → b ≠ g) : St S w0 w (⟨g, cs, t⟩ :: L) R := by
 refine ⟨X.mv, ?_, ?_, ?_, ?_⟩
 ·rw [List.map_cons, List.nodup_cons]
  exact ⟨fun h => by obtain ⟨e, he, h2⟩ := List.mem_map.1 h; exact hn e he h2, X.nd⟩
 ·intro e he
  rcases List.mem_cons.1 he with rfl | he
  ·exact hb
  ·exact X.blk e he
 ·intro e he
  rcases List.mem_cons.1 he with rfl | he
  ·exact .inr ho
  ·exact X.own e he
 ·intro r hrr
  refine ⟨(X.rd r hrr).1, ?_⟩
  rcases (X.rd r hrr).2 with h | h
  ·exact .inl h
  rcases hr r hrr with h2 | h2
  ·exact .inl h2
  ·refine .inr fun b hbv e he => ?_
   rcases List.mem_cons.1 he with rfl | he
   ·exact fun hh => h2 b hbv hh.symm
   ·exact h b hbv e he
theorem St.addRow (X : St S w0 w L R) (hb : Below w.heap.size w w') {α : Type} {f : α → List Value} {e : TypeId} {c : Nat} {v : Value} {l : List α} (ho : Own f w.heap.size e c w' v l) : ∃ M, RowM e c l.length v M ∧ St S w0 w' (M ++ L) R := by
 have X2 := X.call hb
 obtain ⟨h1, h2⟩ := ho
 rcases h2 with ⟨hv, hl⟩ | ⟨g, cap, cur, hv, hbg, hg, hc1, hc2, hs, ht⟩
 ·exact ⟨[], .inl ⟨hl, rfl, hv⟩, X2⟩
 ·refine ⟨[⟨g, cur.toList, e⟩], .inr ⟨g, cap, cur.toList, hv, ?_, rfl⟩, X2.addBlk (by unfold Blk; simpa using hg) (Nat.le_trans X.mv.size hbg) (fun x hx hh => ?_) (fun r hr => ?_)⟩
  ·have : cur.toList.length = cap * c := by simpa using hs
   rw [this]
   exact Nat.mul_le_mul_right c hc1
  ·have := (X.blk x hx).lt
   omega
  ·rcases (X.rd r hr).1.lt with h | h
   ·exact .inl h
   ·exact .inr fun b hbv hh => by have := h b hbv; omega
end
theorem Under.mid2 {L0 LL : List Ent} {R0 R : List Rd} {a b : Ent} (h : Under L0 R0 (a :: b :: LL) R) (M : List Ent) : Under L0 R0 (a :: b :: (M ++ LL)) R := ⟨h.l.trans (((List.sublist_append_right M LL).cons_cons b).cons_cons a), h.r⟩
theorem permG2 {α : Type} (a : α) (M D L : List α) : (a :: (M ++ (D ++ L))).Perm (M ++ (D ++ (a :: L))) := (List.perm_append_comm_assoc [a] M (D ++ L)).trans ((List.perm_append_comm_assoc [a] D L).append_left M)
theorem permM3 {α : Type} (a b c : α) (M L : List α) : (M ++ (a :: b :: c :: L)).Perm (a :: b :: c :: (M ++ L)) := (List.perm_append_comm_assoc [a, b, c] M L).symm
theorem Under.mid3 {L0 LL : List Ent} {R0 R : List Rd} {a b c : Ent} (h : Under L0 R0 (a :: b :: c :: LL) R) (M : List Ent) : Under L0 R0 (a :: b :: c :: (M ++ LL)) R := ⟨h.l.trans ((((List.sublist_append_right M LL).cons_cons c).cons_cons b).cons_cons a), h.r⟩
theorem permH2 {α : Type} (a : α) (M D E L : List α) : (a :: (M ++ (D ++ (E ++ L)))).Perm (M ++ (D ++ (E ++ (a :: L)))) := (permG2 a M D (E ++ L)).trans (((List.perm_append_comm_assoc [a] E L).append_left D).append_left M)
theorem permM2 {α : Type} (a b : α) (M L : List α) : (M ++ (a :: b :: L)).Perm (a :: b :: (M ++ L)) := (List.perm_append_comm_assoc [a, b] M L).symm
end Wb
namespace Go.Proofs.YtjhmfljlclajnadGreatDoor
open Go.RowKit Wb
set_option maxRecDepth 100000
set_option maxHeartbeats 8000000
theorem jr_DiskO {S : List Nat} {w0 w : World} {L : List Ent} {R : List Rd} {g : Nat} {j : Jn} {M : List Ent} {Rj : List Rd} (F : JF g j M Rj) (X : St S w0 w (M ++ L) (Rj ++ R)) :
    Calls Tryz.prog 18 #[.pointer (some ⟨g, 0, none⟩)] w fun e w' => ∃ a1 c1 a2 c2 MA MB, e = .returned (.agg #[.slice a1 j.disk.safe.length c1, .slice a2 j.disk.writes.length c2]) ∧ RowM 9 1 j.disk.safe.length (.slice a1 j.disk.safe.length c1) MA ∧ RowM 61 2 j.disk.writes.length (.slice a2 j.disk.writes.length c2) MB ∧ St S w0 w' (MB ++ (MA ++ (M ++ L))) (Rj ++ R) := by
 obtain ⟨v, ds, fs, MD, MU, hm, rfl, rfl⟩ := F
 have hsz := hm.inv.sz hm.sz
 have hln := goodD_len hsz.dk
 rw [List.cons_append] at X ⊢
 have hDk := fun (w : World) (L2 : List Ent) (R2 : List Rd) (X : St S w0 w L2 (R2 ++ (jRds v j ds fs ++ R))) => X.jDisk hsz.dk (fun r hr => List.mem_append_right _ (List.mem_append_left _ hr))
 unfold jCells at X ⊢
 have hCs := fun v w h => clone_Strings j.disk.safe v w h (by have := hln.1; omega)
 have hCw := fun v w h => clone_Writes j.disk.writes v w h (by have := hln.2; omega)
 generalize jRds v j ds fs ++ R = RR at *
 generalize MD ++ MU ++ L = LL at *
 clear hln
 replace hCs := hid hCs; replace hCw := hid hCw; replace hDk := hid hDk
 go_enter Tryz.func18, Tryz.ntmps18
 go_upto_region 3 with (first
     | (refine ZeL ?_) | (refine ZeS ?_; clear X; intro w X) | (refine ZeA ?_; clear X; intro g w X))
 have X9 := X.perm (.swap _ _ _)
 clear X
 have X := X9
 clear X9
 (refine q_startS 1 [] [5, 11, 13] [4, 10] [0, 1, 2, 3, 4, 6, 7, 8, 9, 10, 5, 11, 12, 13] X ?_; clear X; intro hQ X hL; simp only [zF, zG] at hL; simp only [zF, zG])
 (refine Zm ?_)
 (refine Zn ?_)
 (refine Zf ?_)
 (refine Zf ?_)
 (refine Zl ?_)
 (refine Zm ?_)
 (refine Zn ?_)
 (refine Zf ?_)
 (refine Zf ?_)
 (refine Zl ?_)
 (refine q_callS 38 Tryz.func38 (hCs.out _ _ (rdS (hDk.out _ _ [] X))) ?_; rintro e w1 ⟨v1, rfl, ho1, hb1⟩; obtain ⟨a1, c1, rfl⟩ := ho1.form; obtain ⟨MA, hMA, X2⟩ := X.addRow hb1 ho1; replace X := X2.perm (permM2 _ _ _ _); replace hL := Under.mid2 hL MA; clear hb1 ho1 X2; refine Zce ?_; clear hL; intro hL)
 (refine q_callS 39 Tryz.func39 (hCw.out _ _ (rdW (hDk.out _ _ [] X))) ?_; rintro e w2 ⟨v2, rfl, ho2, hb2⟩; obtain ⟨a2, c2, rfl⟩ := ho2.form; obtain ⟨MB, hMB, X2⟩ := X.addRow hb2 ho2; replace X := X2.perm (permM2 _ _ _ _); replace hL := Under.mid2 hL MB; clear hb2 ho2 X2; refine Zce ?_; clear hL; intro hL)
 (refine Zg ?_)
 (refine Zs ?_; clear hL X; intro w X hL)
 refine q_nil ?_
 go_wp2
 exact m_ret1 rfl (.tmp rfl rfl) X (.tail _ (.head _)) rfl rfl ⟨_, _, _, _, MA, MB, rfl, hMA, hMB, (X.sub (List.Sublist.cons_cons _ (List.sublist_cons_self _ _))).perm (permG2 _ _ _ _)⟩
theorem jr_RunningO {S : List Nat} {w0 w : World} {L : List Ent} {R : List Rd} {g : Nat} {j : Jn} {M : List Ent} {Rj : List Rd} (F : JF g j M Rj) (X : St S w0 w (M ++ L) (Rj ++ R)) :
    Calls Tryz.prog 10 #[.pointer (some ⟨g, 0, none⟩)] w fun e w' => ∃ a1 c1 a2 c2 a3 c3 MA MB MC, e = .returned (txnV j.now (.slice a1 j.now.mt.length c1) (.slice a2 j.now.dt.length c2) (.slice a3 j.now.rev.length c3)) ∧ RowM 63 2 j.now.mt.length (.slice a1 j.now.mt.length c1) MA ∧ RowM 63 2 j.now.dt.length (.slice a2 j.now.dt.length c2) MB ∧ RowM 3 1 j.now.rev.length (.slice a3 j.now.rev.length c3) MC ∧ St S w0 w' (MC ++ (MB ++ (MA ++ (M ++ L)))) (Rj ++ R) := by
 obtain ⟨v, ds, fs, MD, MU, hm, rfl, rfl⟩ := F
 have hsz := hm.inv.sz hm.sz
 rw [List.cons_append] at X ⊢
 have hNw := fun (w : World) (L2 : List Ent) (R2 : List Rd) (X : St S w0 w L2 (R2 ++ (jRds v j ds fs ++ R))) => rtM (X.jNow hsz (fun r hr => List.mem_append_right _ (List.mem_append_left _ hr)))
 unfold jCells at X ⊢
 obtain ⟨z1, z2, z3⟩ := hsz.now
 have hC1 := fun v w h => slices_CloneC j.now.mt v w h (by omega)
 have hC2 := fun v w h => slices_CloneC j.now.dt v w h (by omega)
 have hC3 := fun v w h => slices_CloneI j.now.rev v w h (by omega)
 generalize jRds v j ds fs ++ R = RR at *
 generalize MD ++ MU ++ L = LL at *
 clear z1 z2 z3
 replace hC1 := hid hC1; replace hC2 := hid hC2; replace hC3 := hid hC3; replace hNw := hid hNw
 go_enter Tryz.func10, Tryz.ntmps10
 go_upto_region 4 with (first
     | (refine ZyL ?_) | (refine ZyS ?_; clear X; intro w X) | (refine ZyA ?_; clear X; intro g w X))
 (refine q_startS 1 [10, 12, 14] [2, 5, 8, 10, 12, 14] [1, 4, 7] [0, 1, 3, 4, 6, 7, 2, 9, 5, 8, 10, 11, 12, 13, 14] X ?_; clear X; intro hQ X hL; simp only [zF, zG] at hL; simp only [zF, zG])
 (refine Zf ?_)
 (refine Zl ?_)
 (refine Zf ?_)
 (refine Zl ?_)
 (refine Zf ?_)
 (refine Zl ?_)
 (refine q_callS 20 Tryz.func20 (hC1.out _ _ (hNw.out _ _ [] X).1) ?_; rintro e w1 ⟨v1, rfl, ho1, hb1⟩; obtain ⟨a1, c1, rfl⟩ := ho1.form; obtain ⟨MA, hMA, X2⟩ := X.addRow hb1 ho1; replace X := X2.perm (permM3 _ _ _ _ _); replace hL := Under.mid3 hL MA; clear hb1 ho1 X2; refine Zce ?_; clear hL; intro hL)
 (refine Zf ?_)
 (refine q_callS 20 Tryz.func20 (hC2.out _ _ (hNw.out _ _ [] X).2.1) ?_; rintro e w2 ⟨v2, rfl, ho2, hb2⟩; obtain ⟨a2, c2, rfl⟩ := ho2.form; obtain ⟨MB, hMB, X2⟩ := X.addRow hb2 ho2; replace X := X2.perm (permM3 _ _ _ _ _); replace hL := Under.mid3 hL MB; clear hb2 ho2 X2; refine Zce ?_; clear hL; intro hL)
 (refine q_callS 21 Tryz.func21 (hC3.out _ _ (hNw.out _ _ [] X).2.2) ?_; rintro e w3 ⟨v3, rfl, ho3, hb3⟩; obtain ⟨a3, c3, rfl⟩ := ho3.form; obtain ⟨MC, hMC, X2⟩ := X.addRow hb3 ho3; replace X := X2.perm (permM3 _ _ _ _ _); replace hL := Under.mid3 hL MC; clear hb3 ho3 X2; refine Zce ?_; clear hL; intro hL)
 (refine Zb ?_; clear X; intro w X)
 (refine Zf ?_)
 (refine Zb ?_; clear X; intro w X)
 (refine Zf ?_)
 (refine Zb ?_; clear X; intro w X)
 refine q_nil ?_
 go_wp2_with (first
     | (refine ZyL ?_) | (refine ZyS ?_; clear X; intro w X) | (refine ZyA ?_; clear X; intro g w X))
 exact m_ret1 rfl (.tmp rfl rfl) X (.tail _ (.head _)) rfl rfl ⟨_, _, _, _, _, _, MA, MB, MC, rfl, hMA, hMB, hMC, (X.sub (.cons _ (.cons _ (List.Sublist.refl _)))).perm (permH2 _ _ _ _ _)⟩
end Go.Proofs.YtjhmfljlclajnadGreatDoor
namespace Wb
open Go Go.RowKit
theorem sw1 {α : Type} (X A K : List α) : (X ++ (A ++ K)).Perm (A ++ (X ++ K)) := List.perm_append_comm_assoc X A K
theorem sw2 {α : Type} (Y X A K : List α) : (Y ++ (X ++ (A ++ K))).Perm (A ++ (Y ++ (X ++ K))) := ((sw1 X A K).append_left Y).trans (sw1 Y A _)
theorem sw3 {α : Type} (Z Y X A K : List α) : (Z ++ (Y ++ (X ++ (A ++ K)))).Perm (A ++ (Z ++ (Y ++ (X ++ K)))) := ((sw2 Y X A K).append_left Z).trans (sw1 Z A _)
theorem sw4 {α : Type} (V Z Y X A K : List α) : (V ++ (Z ++ (Y ++ (X ++ (A ++ K))))).Perm (A ++ (V ++ (Z ++ (Y ++ (X ++ K))))) := ((sw3 Z Y X A K).append_left V).trans (sw1 V A _)
theorem sw5 {α : Type} (U V Z Y X A K : List α) : (U ++ (V ++ (Z ++ (Y ++ (X ++ (A ++ K)))))).Perm (A ++ (U ++ (V ++ (Z ++ (Y ++ (X ++ K)))))) := ((sw4 V Z Y X A K).append_left U).trans (sw1 U A _)
theorem perm3K {α : Type} (a b c : α) (M1 M2 L : List α) : (a :: b :: c :: (M1 ++ (M2 ++ L))).Perm (M2 ++ (a :: b :: c :: (M1 ++ L))) := ((((sw1 M1 M2 L).cons c).cons b).cons a).trans (List.perm_append_comm_assoc [a, b, c] M2 (M1 ++ L))
theorem perm3M {α : Type} (a b c : α) (M1 M2 L : List α) : (a :: b :: c :: (M1 ++ (M2 ++ L))).Perm (M1 ++ (M2 ++ (a :: b :: c :: L))) := (List.perm_append_comm_assoc [a, b, c] M1 (M2 ++ L)).trans ((List.perm_append_comm_assoc [a, b, c] M2 L).append_left M1)
theorem Under.nilX {S : List Nat} {w0 w : World} {L0 L : List Ent} {R R' : List Rd} (h : Under L0 [] L R) (_ : St S w0 w L R') : Under L0 [] L R' := ⟨h.l, fun _ h => by cases h⟩
theorem Under.of3 {S : List Nat} {w0 w : World} {a b c : Ent} {L : List Ent} {R : List Rd} (_ : St S w0 w (a :: b :: c :: L) R) : Under [a, b, c] [] (a :: b :: c :: L) R := ⟨(((List.nil_sublist _).cons_cons _).cons_cons _).cons_cons _, fun _ h => by cases h⟩
theorem RowM.put {e : TypeId} {c n g cap : Nat} {cs : List Value} (i : Nat) (x : Value) (h : n * c ≤ cs.length) (hi : i + 1 ≤ cs.length) : RowM e c n (.slice (some ⟨g, 0, none⟩) n cap) [⟨g, upd i [x] cs, e⟩] :=
 .inr ⟨g, cap, _, rfl, by rw [upd_len i [x] cs hi]; exact h, rfl⟩
end Wb
namespace Go.Proofs.YtjhmfljlclajnadGreatDoor
open Go.RowKit Wb
set_option maxRecDepth 100000
set_option maxHeartbeats 16000000
instance : OneT Tryz.prog 25 := ⟨⟨_, Tryz.underlying25, rfl⟩, by kernel_rfl⟩
instance : ZeroT Tryz.prog 25 [.pointer none] := ⟨by kernel_rfl⟩
def meT (gO : Nat) (s : Jn) (Ms : List Ent) (Rs : List Rd) : Prop := ∃ go M2, Ms = ⟨gO, [.pointer (some ⟨go, 0, none⟩)], 25⟩ :: M2 ∧ JF go s M2 Rs
def meL (S : List Nat) (w0 w : World) (g9 g8 : Nat) (J : Jn) (n1 n2 n3 n4 n5 : Nat) (a1 a2 a3 a4 a5 : Option Addr) (c1 c2 c3 c4 c5 : Nat) (L : List Ent) (R : List Rd) : Prop := St S w0 w (⟨g9, [.int .i64 J.now.seq, .slice a3 n3 c3, .slice a4 n4 c4, .slice a5 n5 c5, .bool J.now.h0.on, .int .i64 J.now.h0.left, .bool J.now.h1.on, .int .i64 J.now.h1.left, .bool J.now.h2.on, .int .i64 J.now.h2.left], 43⟩ :: ⟨g8, [.slice a1 n1 c1, .slice a2 n2 c2], 58⟩ :: L) R
def meP (l : List Aj) (k : Nat) (s : Jn) : Prop := s = jAt l k ∧ InvJ s
theorem me_look (K : JK) {S : List Nat} {w0 : World} {R : List Rd} (l : List Aj) (hok : ∀ a ∈ l, a.text.size ≤ 9223372036854775807 ∧ a.n ≤ 9223372036854775807) (hFm : flR 0 ∈ R) (gO : Nat) : LookF S w0 R l 17 #[.pointer (some ⟨gO, 0, none⟩)] (meT gO) (meP l) := by
 intro k hk h150 s hP L gj w M Rj Ms Rs F hT X
 obtain ⟨go, M2, rfl, FO⟩ := hT
 obtain ⟨rfl, hI⟩ := hP
 have hI2 := inv_do l[k] hI
 have hoka := hok _ (List.getElem_mem hk)
 have hDo := fun (w1 : World) (LX : List Ent) (RX : List Rd) (X : St S w0 w1 (M2 ++ LX) (Rs ++ RX)) (h1 : flR 0 ∈ RX) => jr_DoA K FO X h1 l[k] hoka.1 hoka.2 (acts_at l k) [.int .i64 l[k].kind, .int .i64 l[k].h, .int .i64 l[k].b, .int .i64 l[k].n, .string l[k].text] rfl (c := (doJ (jAt l k) l[k]).2.code) (n := (doJ (jAt l k) l[k]).2.n) (t := (doJ (jAt l k) l[k]).2.text) rfl
 rw [← jAt_succ hk] at hI2 hDo
 replace X := X.perm (perm1J _ _ _).symm
 show Calls Tryz.prog _ #[.pointer (some ⟨gj, 0, none⟩), .agg #[.int .i64 l[k].kind, .int .i64 l[k].h, .int .i64 l[k].b, .int .i64 l[k].n, .string l[k].text], .agg #[.int .i64 _, .int .i64 _, .string _], .pointer (some ⟨gO, 0, none⟩)] w _
 obtain ⟨PP, hPP⟩ : ∃ PP : World → Prop, ∀ w', PP w' ↔ (∃ s' M' Rj' Ms' Rs', meP l (k + 1) s' ∧ JF gj (jAt l (k + 1)) M' Rj' ∧ meT gO s' Ms' Rs' ∧ St S w0 w' (M' ++ (Ms' ++ L)) (Rj' ++ (Rs' ++ R))) := ⟨_, fun _ => Iff.rfl⟩
 refine Calls.mono (R := fun e w' => e = .returned (.bool true) ∧ PP w') ?_ (fun e w' ⟨he, hp⟩ => by
  obtain ⟨s', M', Rj', Ms', Rs', h⟩ := (hPP w').1 hp
  exact ⟨s', M', Rj', Ms', Rs', he, h⟩)
 have fin : ∀ (w' : World) (M3 : List Ent) (R3 : List Rd), JF go (jAt l (k + 1)) M3 R3 → St S w0 w' (M ++ (⟨gO, [.pointer (some ⟨go, 0, none⟩)], 25⟩ :: (M3 ++ L))) (Rj ++ (R3 ++ R)) → PP w' := fun w' M3 R3 F3 X => (hPP w').2 ⟨_, M, Rj, _, R3, ⟨rfl, hI2⟩, F, ⟨go, M3, rfl, F3⟩, X⟩
 have hSm := fun (w1 : World) (LX : List Ent) (RX : List Rd) (M3 : List Ent) (R3 : List Rd) (F3 : JF go (jAt l (k + 1)) M3 R3) (X : St S w0 w1 (M ++ (M3 ++ LX)) RX) (h1 : ∀ r ∈ Rj, r ∈ RX) (h2 : ∀ r ∈ R3, r ∈ RX) => top_same F F3 (SameJ.refl _) X h1 h2
 have hDk := fun (w1 : World) (LX : List Ent) (RX : List Rd) (X : St S w0 w1 (M ++ LX) (Rj ++ RX)) => jr_DiskO F X
 have hRu := fun (w1 : World) (LX : List Ent) (RX : List Rd) (X : St S w0 w1 (M ++ LX) (Rj ++ RX)) => jr_RunningO F X
 unfold txnV at hRu
 have hsz : JSz (jAt l (k + 1)) := by obtain ⟨v, ds, fs, MD, MU, hm, _⟩ := F; exact hm.inv.sz hm.sz
 have hz1 := hsz.now
 have hz2 := goodD_len hsz.dk
 clear hPP hI hI2 hsz hoka
 generalize (doJ (jAt l k) l[k]).2.code = rc, (doJ (jAt l k) l[k]).2.n = rn, (doJ (jAt l k) l[k]).2.text = rt at *
 generalize hJ : jAt l (k + 1) = J at *
 generalize J.disk.safe.length = n1, J.disk.writes.length = n2, J.now.mt.length = n3, J.now.dt.length = n4, J.now.rev.length = n5 at hDk hRu hz1 hz2
 have tx1 : (rt.toList == rt.toList) = true := by simp
 replace fin := hid fin; replace hSm := hid hSm; replace hDk := hid hDk; replace hRu := hid hRu; replace hDo := hid hDo; replace hz1 := hid hz1; replace hz2 := hid hz2; replace hFm := hid hFm; replace F := hid F; replace FO := hid FO; replace hJ := hid hJ
 go_enter Tryz.func17, Tryz.ntmps17
 go_upto_region 1 with (first
  | (refine Zbx ?_; clear X; intro g w X)
  | (refine ZyL ?_) | (refine ZyS ?_; clear X; intro w X) | (refine ZyA ?_; clear X; intro g w X))
 have Xf := X
 replace X := X.rds (R2 := []) (fun r h => by cases h)
 (refine q_startS 3 [] [2, 8] [0, 1, 3, 7] [0, 1, 3, 2, 4, 5, 6, 7, 8, 9, 10] X ?_; clear X; intro hQ X hL; simp only [zF, zG] at hL; simp only [zF, zG])
 clear X
 have X := Xf.drew
 replace hL := hL.nilX X
 clear Xf
 (refine Zl ?_)
 (refine Zl ?_)
 (refine Zl ?_)
 (refine q_callS 14 Tryz.func14 (hDo.out _ _ _ ((X.perm (perm3K _ _ _ _ _ _)).rds (fun r h => mem3 h)) (List.mem_append_right _ hFm.out)) ?_; rintro e w1 ⟨M3, R3, rfl, F3, X2⟩; replace X := (X2.perm (perm3K _ _ _ _ _ _).symm).rds (fun r h => mem3 h); clear X2; replace hL := Under.of3 X; refine Zce ?_; clear hL; intro hL)
 (refine Zg ?_)
 (refine Zm ?_)
 (refine Zm ?_)
 (refine Zl ?_)
 (refine q_callS 15 Tryz.func15 (hSm.out _ _ _ _ _ F3 (X.perm (perm3M _ _ _ _ _ _)) (fun r h => List.mem_append_left _ h) (fun r h => List.mem_append_right _ (List.mem_append_left _ h))) ?_; rintro e w1 ⟨rfl, X2⟩; replace X := X2.perm (perm3M _ _ _ _ _ _).symm; clear X2; replace hL := Under.of3 X; refine Zce ?_; clear hL; intro hL)
 (refine Zg ?_)
 (refine Zg ?_)
 refine q_nil ?_
 go_upto_region 3 with (first
  | (refine ZyL ?_) | (refine ZyS ?_; clear X; intro w X) | (refine ZyA ?_; clear X; intro g w X))
 replace X := (X.sub (.cons _ (.cons _ (List.Sublist.refl _)))).perm (perm1J _ _ _)
 obtain ⟨KK, hKK⟩ : ∃ KK, ⟨gO, [.pointer (some ⟨go, 0, none⟩)], 25⟩ :: (M3 ++ L) = KK := ⟨_, rfl⟩
 rw [hKK] at X
 replace hKK := hid hKK
 go_upto_region 4 with (first
  | (refine ZyL ?_) | (refine ZyS ?_; clear X; intro w X) | (refine ZyA ?_; clear X; intro g w X)
  | (go_at_call 18; go_loud ((with_reducible refine (hDk.out _ _ _ X).mono ?_); rintro e w1 ⟨a1, c1, a2, c2, MA, MB, rfl, hMA, hMB, X2⟩; replace X := X2.perm (sw2 _ _ _ _); clear X2))
  | (go_at_call 10; go_loud ((with_reducible refine (hRu.out _ _ _ X).mono ?_); rintro e w1 ⟨a3, c3, a4, c4, a5, c5, MC, MD, ME, rfl, hMC, hMD, hME, X2⟩; replace X := X2; clear X2)))
 obtain ⟨g9, g8, rfl, rfl⟩ := X.gs2
 obtain ⟨RR, hRR⟩ : ∃ RR, Rj ++ (R3 ++ R) = RR := ⟨_, rfl⟩
 rw [hRR] at X
 replace hRR := hid hRR
 clear hDk hRu hSm hDo hFm
 replace X := X.perm (((sw5 _ _ _ _ _ _ _).cons _).cons _)
 go_wp2_with (first
  | go_skip
  | (refine ZyL ?_) | (refine ZyS ?_; clear X; intro w X) | (refine ZyA ?_; clear X; intro g w X))
 go_loopw [10, 33] (fun _ i wr => ∃ (q : Nat) (MX : List Ent), q ≤ n1 ∧ i = .int .i64 (q : Int) ∧ RowM 9 1 n1 (.slice a1 n1 c1) MX ∧ meL S w0 wr g9 g8 J n1 n2 n3 n4 n5 a1 a2 a3 a4 a5 c1 c2 c3 c4 c5 (MX ++ (ME ++ (MD ++ (MC ++ (M ++ (MB ++ KK)))))) RR) (fun _ i _ => n1 - (intOf i).toNat)
 case atStart => exact ⟨0, MA, Nat.zero_le _, rfl, hMA, X⟩
 case round =>
  clear X hMA
  obtain ⟨q, MA, hq, rfl, hMA, X⟩ := hrel
  unfold meL at X
  by_cases hlt : q < n1
  ·rcases hMA with ⟨h0, _⟩ | ⟨gX, capX, csX, hv, hcs, rfl⟩
   ·omega
   cases hv
   have hbd := hz2.out.1
   have hw1 : IntKind.i64.wrap ((q : Int) + 1) = (q : Int) + 1 := IntWalk.i64_in _ (by omega)
   have hl1 : (q : Int) < (n1 : Int) := by omega
   replace X := X
   go_wp2_with (first
    | (refine ZyL ?_) | (refine ZyS ?_; clear X; intro w X) | (refine ZyA ?_; clear X; intro g w X)
    | (refine at_mem rfl ?_; refine at_store rfl ?_; refine c_store1 rfl _ _ _ rfl rfl Zev X rfl rfl Zpv ?_; intro w X2; replace X := X2; clear X2; (simp only [Act.put, zA, zB, zC, zD, zE, zF, zG, Nat.reduceAdd])))
   go_roundw
   case rel =>
    refine ⟨q + 1, [⟨gX, _, _⟩], by omega, by go_num, ?_, X⟩
    exact RowM.put _ _ hcs (by omega)
   case measure => simp [intOf]; omega
  ·replace X := X.sub (((List.sublist_append_right _ _).cons_cons _).cons_cons _)
   clear hMA hq
   replace X := X.perm (((sw4 _ _ _ _ _ _).cons _).cons _)
   go_wp2_with (first
    | go_skip
    | (refine ZyL ?_) | (refine ZyS ?_; clear X; intro w X) | (refine ZyA ?_; clear X; intro g w X))
   go_loopw [11, 44] (fun _ i wr => ∃ (q : Nat) (MX : List Ent), q ≤ n2 ∧ i = .int .i64 (q : Int) ∧ RowM 61 2 n2 (.slice a2 n2 c2) MX ∧ meL S w0 wr g9 g8 J n1 n2 n3 n4 n5 a1 a2 a3 a4 a5 c1 c2 c3 c4 c5 (MX ++ (ME ++ (MD ++ (MC ++ (M ++ KK))))) RR) (fun _ i _ => n2 - (intOf i).toNat)
   case atStart => exact ⟨0, MB, Nat.zero_le _, rfl, hMB, X⟩
   case round =>
    clear X hMB
    obtain ⟨q, MB, hq, rfl, hMB, X⟩ := hrel
    unfold meL at X
    by_cases hlt : q < n2
    ·rcases hMB with ⟨h0, _⟩ | ⟨gX, capX, csX, hv, hcs, rfl⟩
     ·omega
     cases hv
     have hbd := hz2.out.2
     have hw1 : IntKind.i64.wrap ((q : Int) + 1) = (q : Int) + 1 := IntWalk.i64_in _ (by omega)
     have hl1 : (q : Int) < (n2 : Int) := by omega
     replace X := X
     go_wp2_with (first
      | (refine ZyL ?_) | (refine ZyS ?_; clear X; intro w X) | (refine ZyA ?_; clear X; intro g w X)
      | (refine at_mem rfl ?_; refine at_store rfl ?_; refine c_store1 rfl _ _ _ rfl rfl Zev X rfl rfl Zpv ?_; intro w X2; replace X := X2; clear X2; (simp only [Act.put, zA, zB, zC, zD, zE, zF, zG, Nat.reduceAdd])))
     go_roundw
     case rel =>
      refine ⟨q + 1, [⟨gX, _, _⟩], by omega, by go_num, ?_, X⟩
      exact RowM.put _ _ hcs (by omega)
     case measure => simp [intOf]; omega
    ·replace X := X.sub (((List.sublist_append_right _ _).cons_cons _).cons_cons _)
     clear hMB hq
     replace X := X.perm (((sw2 _ _ _ _).cons _).cons _)
     go_wp2_with (first
      | go_skip
      | (refine ZyL ?_) | (refine ZyS ?_; clear X; intro w X) | (refine ZyA ?_; clear X; intro g w X))
     go_loopw [12, 56] (fun _ i wr => ∃ (q : Nat) (MX : List Ent), q ≤ n3 ∧ i = .int .i64 (q : Int) ∧ RowM 63 2 n3 (.slice a3 n3 c3) MX ∧ meL S w0 wr g9 g8 J n1 n2 n3 n4 n5 a1 a2 a3 a4 a5 c1 c2 c3 c4 c5 (MX ++ (ME ++ (MD ++ (M ++ KK)))) RR) (fun _ i _ => n3 - (intOf i).toNat)
     case atStart => exact ⟨0, MC, Nat.zero_le _, rfl, hMC, X⟩
     case round =>
      clear X hMC
      obtain ⟨q, MC, hq, rfl, hMC, X⟩ := hrel
      unfold meL at X
      by_cases hlt : q < n3
      ·rcases hMC with ⟨h0, _⟩ | ⟨gX, capX, csX, hv, hcs, rfl⟩
       ·omega
       cases hv
       have hbd := hz1.out.1
       have hw1 : IntKind.i64.wrap ((q : Int) + 1) = (q : Int) + 1 := IntWalk.i64_in _ (by omega)
       have hl1 : (q : Int) < (n3 : Int) := by omega
       replace X := X
       go_wp2_with (first
        | (refine ZyL ?_) | (refine ZyS ?_; clear X; intro w X) | (refine ZyA ?_; clear X; intro g w X)
        | (refine at_mem rfl ?_; refine at_store rfl ?_; refine c_store1 rfl _ _ _ rfl rfl Zev X rfl rfl Zpv ?_; intro w X2; replace X := X2; clear X2; (simp only [Act.put, zA, zB, zC, zD, zE, zF, zG, Nat.reduceAdd])))
       go_roundw
       case rel =>
        refine ⟨q + 1, [⟨gX, _, _⟩], by omega, by go_num, ?_, X⟩
        exact RowM.put _ _ hcs (by omega)
       case measure => simp [intOf]; omega
      ·replace X := X.sub (((List.sublist_append_right _ _).cons_cons _).cons_cons _)
       clear hMC hq
       replace X := X.perm (((sw1 _ _ _).cons _).cons _)
       go_wp2_with (first
        | go_skip
        | (refine ZyL ?_) | (refine ZyS ?_; clear X; intro w X) | (refine ZyA ?_; clear X; intro g w X))
       go_loopw [13, 68] (fun _ i wr => ∃ (q : Nat) (MX : List Ent), q ≤ n4 ∧ i = .int .i64 (q : Int) ∧ RowM 63 2 n4 (.slice a4 n4 c4) MX ∧ meL S w0 wr g9 g8 J n1 n2 n3 n4 n5 a1 a2 a3 a4 a5 c1 c2 c3 c4 c5 (MX ++ (ME ++ (M ++ KK))) RR) (fun _ i _ => n4 - (intOf i).toNat)
       case atStart => exact ⟨0, MD, Nat.zero_le _, rfl, hMD, X⟩
       case round =>
        clear X hMD
        obtain ⟨q, MD, hq, rfl, hMD, X⟩ := hrel
        unfold meL at X
        by_cases hlt : q < n4
        ·rcases hMD with ⟨h0, _⟩ | ⟨gX, capX, csX, hv, hcs, rfl⟩
         ·omega
         cases hv
         have hbd := hz1.out.2.1
         have hw1 : IntKind.i64.wrap ((q : Int) + 1) = (q : Int) + 1 := IntWalk.i64_in _ (by omega)
         have hl1 : (q : Int) < (n4 : Int) := by omega
         replace X := X
         go_wp2_with (first
          | (refine ZyL ?_) | (refine ZyS ?_; clear X; intro w X) | (refine ZyA ?_; clear X; intro g w X)
          | (refine at_mem rfl ?_; refine at_store rfl ?_; refine c_store1 rfl _ _ _ rfl rfl Zev X rfl rfl Zpv ?_; intro w X2; replace X := X2; clear X2; (simp only [Act.put, zA, zB, zC, zD, zE, zF, zG, Nat.reduceAdd])))
         go_roundw
         case rel =>
          refine ⟨q + 1, [⟨gX, _, _⟩], by omega, by go_num, ?_, X⟩
          exact RowM.put _ _ hcs (by omega)
         case measure => simp [intOf]; omega
        ·replace X := X.sub (((List.sublist_append_right _ _).cons_cons _).cons_cons _)
         clear hMD hq
         go_wp2_with (first
          | go_skip
          | (refine ZyL ?_) | (refine ZyS ?_; clear X; intro w X) | (refine ZyA ?_; clear X; intro g w X))
         go_loopw [14, 80] (fun _ i wr => ∃ (q : Nat) (MX : List Ent), q ≤ n5 ∧ i = .int .i64 (q : Int) ∧ RowM 3 1 n5 (.slice a5 n5 c5) MX ∧ meL S w0 wr g9 g8 J n1 n2 n3 n4 n5 a1 a2 a3 a4 a5 c1 c2 c3 c4 c5 (MX ++ (M ++ KK)) RR) (fun _ i _ => n5 - (intOf i).toNat)
         case atStart => exact ⟨0, ME, Nat.zero_le _, rfl, hME, X⟩
         case round =>
          clear X hME
          obtain ⟨q, ME, hq, rfl, hME, X⟩ := hrel
          unfold meL at X
          by_cases hlt : q < n5
          ·rcases hME with ⟨h0, _⟩ | ⟨gX, capX, csX, hv, hcs, rfl⟩
           ·omega
           cases hv
           have hbd := hz1.out.2.2
           have hw1 : IntKind.i64.wrap ((q : Int) + 1) = (q : Int) + 1 := IntWalk.i64_in _ (by omega)
           have hl1 : (q : Int) < (n5 : Int) := by omega
           replace X := X
           go_wp2_with (first
            | (refine ZyL ?_) | (refine ZyS ?_; clear X; intro w X) | (refine ZyA ?_; clear X; intro g w X)
            | (refine at_mem rfl ?_; refine at_store rfl ?_; refine c_store1 rfl _ _ _ rfl rfl Zev X rfl rfl Zpv ?_; intro w X2; replace X := X2; clear X2; (simp only [Act.put, zA, zB, zC, zD, zE, zF, zG, Nat.reduceAdd])))
           go_roundw
           case rel =>
            refine ⟨q + 1, [⟨gX, _, _⟩], by omega, by go_num, ?_, X⟩
            exact RowM.put _ _ hcs (by omega)
           case measure => simp [intOf]; omega
          ·replace X := X.sub (((List.sublist_append_right _ _).cons_cons _).cons_cons _)
           clear hME hq
           go_wp2_with (first
            | (refine ZyL ?_) | (refine ZyS ?_; clear X; intro w X) | (refine ZyA ?_; clear X; intro g w X))
           go_ret
           rw [← hKK.out, ← hRR.out] at X
           exact ⟨rfl, fin.out _ _ _ F3 (X.sub (.cons _ (.cons _ (List.Sublist.refl _))))⟩
theorem law_TopMemory (K : JK) (l : List Aj) (hok : ∀ a ∈ l, a.text.size ≤ 9223372036854775807 ∧ a.n ≤ 9223372036854775807) {al : Option Addr} {cl : Nat} (w : World) (hl : RL ajC w (.slice al l.length cl) l) (hF : Sl w (flR 0).v 1 (flR 0).cs) :
    Calls Tryz.prog 5 #[.slice al l.length cl] w fun e w' => e = .returned (.bool true) ∧ Below w.heap.size w w' := by
 have X : St [] w w [] [Rd.of ajC (.slice al l.length cl) l, flR 0] := ((St.start [] w).addR0 hF).addR0 hl
 have hP := fun (w1 : World) (gO go : Nat) (M2 : List Ent) (R2 : List Rd) (FO : JF go newJ M2 R2) (X : St [] w w1 (⟨gO, [.pointer (some ⟨go, 0, none⟩)], 25⟩ :: (M2 ++ [])) (R2 ++ [Rd.of ajC (.slice al l.length cl) l, flR 0])) =>
  jr_play (L := []) K l hok 17 #[.pointer (some ⟨gO, 0, none⟩)] (meT gO) (meP l) newJ (⟨gO, [.pointer (some ⟨go, 0, none⟩)], 25⟩ :: M2) R2 ⟨go, M2, rfl, FO⟩ ⟨rfl, inv_new⟩ X (.tail _ (.head _)) (.head _) ⟨_, _, Tryz.func17, by kernel_rfl, rfl⟩ (me_look K l hok (.tail _ (.head _)) gO)
 replace hP := hid hP
 have hN := hid (jr_New K X)
 go_enter Tryz.func5, Tryz.ntmps5
 go_upto_region 2 with (first
  | (refine ZyL ?_) | (refine ZyS ?_; clear X; intro w X) | (refine ZyA ?_; clear X; intro g w X)
  | (go_at_call 16; go_loud ((with_reducible refine (hN.out).mono ?_); rintro e w1 ⟨go, M2, R2, rfl, FO, X2⟩; replace X := X2; clear X2)))
 have hP2 := hid (hP.out _ _ _ _ _ FO X)
 clear hN hP
 go_wp2_with (first
  | (refine ZyL ?_) | (refine ZyS ?_; clear X; intro w X) | (refine ZyA ?_; clear X; intro g w X)
  | (go_at_call 7; go_loud ((with_reducible refine (hP2.out).mono ?_); rintro e w1 ⟨gj, M, Rj, s, Ms, Rs, rfl, F1, hT1, hP1, X2⟩; replace X := X2; clear X2)))
 go_ret
 exact ⟨rfl, X.below⟩
end Go.Proofs.YtjhmfljlclajnadGreatDoor
