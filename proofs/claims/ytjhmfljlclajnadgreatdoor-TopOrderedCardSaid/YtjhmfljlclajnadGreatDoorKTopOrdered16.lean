/- Parts of the proof. -/
import Derived.Test.YtjhmfljlclajnadGreatDoorKTopOrdered15
import Derived.Test.YtjhmfljlclajnadGreatDoorCards
import Derived.Test.YtjhmfljlclajnadGreatDoorTie
set_option linter.unusedVariables false
set_option linter.unusedSimpArgs false
set_option maxRecDepth 100000
set_option maxHeartbeats 40000000
namespace Go.Proofs.YtjhmfljlclajnadGreatDoor
open Go.RowKit Wb
theorem scan_Scan (hDec : DecodeSaid) (hOne : OneSaid) (d : Dsk) (v : Value) (w : World) (hd : RDisk w v d) :
    Calls Tryz.prog 49 #[v] w fun e w' => ∃ v', e = .returned (.tuple #[v', .int .i64 (scanE d)]) /\ OFnd w.heap.size 43 63 3 w' v' (scanF d) /\ Below w.heap.size w w' := by
 have hd0 := hd
 obtain ⟨vs, vw, rfl, hs, hw, n1, n2⟩ := hd
 obtain ⟨as_, cs, rfl, _⟩ := hs.form
 obtain ⟨aw, cw, rfl, _⟩ := hw.form
 have hR := fun w' (hh : RDisk w' (.agg #[.slice as_ d.safe.length cs, .slice aw d.writes.length cw]) d) => disk_Read d 0 _ w' hh
 have hsz := readD_size d 0
 have hD := fun w' => hDec (readD d 0) w' (by omega)
 have hbd := fun h => dec_bds (s := readD d 0) h
 have hLs := fun A => logL_size d A
 have hLx := fun A => sfx_all d A
 have hLl := fun A => logL_len d A
 have hx2 : readE d 0 ≠ 0 -> readE d 0 = 2 /\ scanE d = 2 /\ scanF d = ⟨[], 0, 0⟩ := fun h => by
  have h1 : scanE d = 2 := by unfold scanE; rw [if_neg h]
  refine ⟨?_, h1, ?_⟩
  ·unfold readE at h ⊢
   split
   ·rename_i hh; rw [if_pos hh] at h; exact absurd rfl h
   ·rfl
  ·unfold scanF; rw [if_neg (by rw [h1]; decide)]
 have hx1 : readE d 0 = 0 -> ¬ (decE (readD d 0) = 0 /\ (decM (readD d 0)).kind = 1) -> scanE d = 1 /\ scanF d = ⟨[], 0, 0⟩ := fun h h2 => by
  have h1 : scanE d = 1 := by unfold scanE; rw [if_pos h, if_neg h2]
  refine ⟨h1, ?_⟩
  unfold scanF; rw [if_neg (by rw [h1]; decide)]
 have hx0 : readE d 0 = 0 -> decE (readD d 0) = 0 /\ (decM (readD d 0)).kind = 1 -> scanE d = 0 /\ scanF d = ⟨(scanGo 25 (logL d (decM (readD d 0)).at_) (decM (readD d 0)).seq).1, (scanGo 25 (logL d (decM (readD d 0)).at_) (decM (readD d 0)).seq).2.1, ((decM (readD d 0)).at_ + (24 - ((scanGo 25 (logL d (decM (readD d 0)).at_) (decM (readD d 0)).seq).2.2.length : Int))) % 24⟩ := fun h h2 => by
  have h1 : scanE d = 0 := by unfold scanE; rw [if_pos h, if_pos h2]
  refine ⟨h1, ?_⟩
  unfold scanF; rw [if_pos h1]
 generalize scanE d = sE at *
 generalize scanF d = sF at *
 generalize readE d 0 = re at *
 generalize readD d 0 = s0 at *
 generalize decE s0 = de at *
 generalize decM s0 = M at *
 obtain ⟨mk, ms, ma, tags, blocks⟩ := M
 dsimp only at *
 have kd : Blk ((w.alloc (.cells #[.slice as_ d.safe.length cs, .slice aw d.writes.length cw] 58)).alloc (.cells #[.slice none 0 0, .int .i64 0, .int .i64 0] 69)) w.heap.size #[.slice as_ d.safe.length cs, .slice aw d.writes.length cw] 58 := (Blk.new w _ _).alloc _
 have kr : Blk ((w.alloc (.cells #[.slice as_ d.safe.length cs, .slice aw d.writes.length cw] 58)).alloc (.cells #[.slice none 0 0, .int .i64 0, .int .i64 0] 69)) (w.heap.size + 1) #[.slice none 0 0, .int .i64 0, .int .i64 0] 69 := Blk.newAt (by simp)
 have nx : Below w.heap.size w ((w.alloc (.cells #[.slice as_ d.safe.length cs, .slice aw d.writes.length cw] 58)).alloc (.cells #[.slice none 0 0, .int .i64 0, .int .i64 0] 69)) := bal (bal (b0 w) _) _
 have a0 := kd.cell 0; have a1 := kd.cell 1
 simp only [Zga, Zgb, Zgc] at a0 a1
 replace hR := hid (hR _ (hd0.below nx)); replace hD := hid hD; replace hLs := hid hLs; replace hLx := hid hLx; replace hLl := hid hLl; replace hd0 := hid hd0
 clear hs hw
 by_cases hre : re = 0
 rotate_left
 ·obtain ⟨rfl, rfl, rfl⟩ := hx2 hre
  clear hx1 hx0 hx2 hre hbd
  go_enter Tryz.func49, Tryz.ntmps49
  go_wp2_with (go_at_call 23; ((with_reducible refine hR.out.mono ?_); rintro e w1 ⟨rfl, hb1⟩; replace kr := kr.step hb1; replace nx := bgo nx hb1; have r0 := kr.cell 0; have r1 := kr.cell 1; have r2 := kr.cell 2; have z0 := kr.free 0; have z1 := kr.free 1; have z2 := kr.free 2; simp only [Zga, Zgb, Zgc] at r0 r1 r2))
  exact bodyPost_ret (v := .tuple #[.agg #[.slice none 0 0, .int .i64 0, .int .i64 0], .int .i64 2]) (by simp [results, Tryz.results49, go_sem, r0, r1, r2]) rfl ⟨_, rfl, ⟨_, rfl, OTxns.nil _ _ _ _ _⟩, ((nx.setCell (by simp) _).setCell (by simp) _).setCell (by simp) _⟩
 by_cases hsu : de = 0 /\ mk = 1
 rotate_left
 ·obtain ⟨rfl, rfl⟩ := hx1 hre hsu
  subst hre
  clear hx1 hx0 hx2 hbd
  by_cases hde : de = 0
  ·have hde2 : (de != 0) = false := by rw [hde]; rfl
   have hmk : (mk != 1) = true := bne_iff_ne.2 (fun h => hsu ⟨hde, h⟩)
   clear hsu hde
   go_enter Tryz.func49, Tryz.ntmps49
   go_wp2_with (go_at_call 23; ((with_reducible refine hR.out.mono ?_); rintro e w1 ⟨rfl, hb1⟩; replace kr := kr.step hb1; replace nx := bgo nx hb1))
   go_wp2_with (go_at_call 74; ((with_reducible refine (hD.out _).mono ?_); rintro e w2 ⟨v2, rfl, hmk, hb2⟩; obtain ⟨vt, vb, rfl, ot, ob, t1, t2⟩ := hmk; dsimp only at ot ob t1 t2 ⊢; obtain ⟨at_, ct, rfl⟩ := ot.form; obtain ⟨ab, cb, rfl⟩ := ob.form; replace kr := kr.step hb2; replace nx := bgo nx hb2; have r0 := kr.cell 0; have r1 := kr.cell 1; have r2 := kr.cell 2; have z0 := kr.free 0; have z1 := kr.free 1; have z2 := kr.free 2; simp only [Zga, Zgb, Zgc] at r0 r1 r2; have lr := kr.lt))
   exact bodyPost_ret (v := .tuple #[.agg #[.slice none 0 0, .int .i64 0, .int .i64 0], .int .i64 1]) (by simp [results, Tryz.results49, go_sem, r0, r1, r2, lr]) rfl ⟨_, rfl, ⟨_, rfl, OTxns.nil _ _ _ _ _⟩, bal (((nx.setCell (p := ⟨w.heap.size + 1, 0, none⟩) (by simp) _).setCell (p := ⟨w.heap.size + 1, 1, none⟩) (by simp) _).setCell (p := ⟨w.heap.size + 1, 2, none⟩) (by simp) _) _⟩
  ·have hde2 : (de != 0) = true := bne_iff_ne.2 hde
   clear hsu hde
   go_enter Tryz.func49, Tryz.ntmps49
   go_wp2_with (go_at_call 23; ((with_reducible refine hR.out.mono ?_); rintro e w1 ⟨rfl, hb1⟩; replace kr := kr.step hb1; replace nx := bgo nx hb1))
   go_wp2_with (go_at_call 74; ((with_reducible refine (hD.out _).mono ?_); rintro e w2 ⟨v2, rfl, hmk, hb2⟩; obtain ⟨vt, vb, rfl, ot, ob, t1, t2⟩ := hmk; dsimp only at ot ob t1 t2 ⊢; obtain ⟨at_, ct, rfl⟩ := ot.form; obtain ⟨ab, cb, rfl⟩ := ob.form; replace kr := kr.step hb2; replace nx := bgo nx hb2; have r0 := kr.cell 0; have r1 := kr.cell 1; have r2 := kr.cell 2; have z0 := kr.free 0; have z1 := kr.free 1; have z2 := kr.free 2; simp only [Zga, Zgb, Zgc] at r0 r1 r2; have lr := kr.lt))
   exact bodyPost_ret (v := .tuple #[.agg #[.slice none 0 0, .int .i64 0, .int .i64 0], .int .i64 1]) (by simp [results, Tryz.results49, go_sem, r0, r1, r2, lr]) rfl ⟨_, rfl, ⟨_, rfl, OTxns.nil _ _ _ _ _⟩, bal (((nx.setCell (p := ⟨w.heap.size + 1, 0, none⟩) (by simp) _).setCell (p := ⟨w.heap.size + 1, 1, none⟩) (by simp) _).setCell (p := ⟨w.heap.size + 1, 2, none⟩) (by simp) _) _⟩
 obtain ⟨rfl, hF⟩ := hx0 hre hsu
 obtain ⟨rfl, rfl⟩ := hsu
 subst hre
 obtain ⟨_, _, q3, q4, q5, q6⟩ := hbd rfl
 clear hx0 hx1 hx2 hbd
 have hL0 := hid (hLx.out ma)
 have hL1 := hid (hLs.out ma)
 have hL2 := hLl.out ma
 generalize logL d ma = L at *
 have hG0 := hid (show (scanGo 25 L ms) = scanGo (L.length + 1) L ms by rw [hL2])
 replace hF := hid hF
 generalize hGG : scanGo 25 L ms = G at *
 have hA0 : (ma + (24 - ((24 : Nat) : Int))) % 24 = ma := by omega
 have hrd : rdrC (.slice as_ d.safe.length cs) (.slice aw d.writes.length cw) ma L.length = #[.slice as_ d.safe.length cs, .slice aw d.writes.length cw, .int .i64 ma, .int .i64 24] := by unfold rdrC; rw [hL2, hA0]; rfl
 clear hLs hLx hLl hGG
 replace hrd := hid hrd
 go_enter Tryz.func49, Tryz.ntmps49
 go_wp2_with (go_at_call 23; ((with_reducible refine hR.out.mono ?_); rintro e w1 ⟨rfl, hb1⟩; replace kr := kr.step hb1; replace kd := kd.step hb1; replace nx := bgo nx hb1))
 go_wp2_with (go_at_call 74; ((with_reducible refine (hD.out _).mono ?_); rintro e w2 ⟨v2, rfl, hmk, hb2⟩; obtain ⟨vt, vb, rfl, ot, ob, t1, t2⟩ := hmk; dsimp only at ot ob t1 t2 ⊢; obtain ⟨at_, ct, rfl⟩ := ot.form; obtain ⟨ab, cb, rfl⟩ := ob.form; replace kr := kr.step hb2; replace kd := kd.step hb2; replace nx := bgo nx hb2; clear a0 a1; have a0 := kd.cell 0; have a1 := kd.cell 1; simp only [Zga, Zgb, Zgc] at a0 a1; have lr := kr.lt; have ld := kd.lt))
 have hat0 : (ma + (24 - (L.length : Int))) % 24 = ma := by rw [hL2]; omega
 have kb0 : Blk (((w2.alloc (.cells #[.int .i64 1, .int .i64 ms, .int .i64 ma, .slice at_ tags.length ct, .slice ab blocks.length cb] 88)).alloc (.cells #[.slice as_ d.safe.length cs, .slice aw d.writes.length cw, .int .i64 ma, .int .i64 24] 150)).alloc (.cells #[.slice none 0 0, .int .i64 ms, .int .i64 ma] 69)) (w2.heap.size + 1) (rdrC (.slice as_ d.safe.length cs) (.slice aw d.writes.length cw) ma L.length) 150 := by rw [hrd.out]; exact (Blk.newAt (by simp)).alloc _
 have kf0 : Blk (((w2.alloc (.cells #[.int .i64 1, .int .i64 ms, .int .i64 ma, .slice at_ tags.length ct, .slice ab blocks.length cb] 88)).alloc (.cells #[.slice as_ d.safe.length cs, .slice aw d.writes.length cw, .int .i64 ma, .int .i64 24] 150)).alloc (.cells #[.slice none 0 0, .int .i64 ms, .int .i64 ma] 69)) (w2.heap.size + 2) #[.slice none 0 0, .int .i64 ms, .int .i64 ((ma + (24 - (L.length : Int))) % 24)] 69 := by rw [hat0]; exact Blk.newAt (by simp)
 have kr0 := ((kr.alloc (.cells #[.int .i64 1, .int .i64 ms, .int .i64 ma, .slice at_ tags.length ct, .slice ab blocks.length cb] 88)).alloc (.cells #[.slice as_ d.safe.length cs, .slice aw d.writes.length cw, .int .i64 ma, .int .i64 24] 150)).alloc (.cells #[.slice none 0 0, .int .i64 ms, .int .i64 ma] 69)
 have nx0 := bal (bal (bal nx (.cells #[.int .i64 1, .int .i64 ms, .int .i64 ma, .slice at_ tags.length ct, .slice ab blocks.length cb] 88)) (.cells #[.slice as_ d.safe.length cs, .slice aw d.writes.length cw, .int .i64 ma, .int .i64 24] 150)) (.cells #[.slice none 0 0, .int .i64 ms, .int .i64 ma] 69)
 have s0 : w2.heap.size + 3 <= (((w2.alloc (.cells #[.int .i64 1, .int .i64 ms, .int .i64 ma, .slice at_ tags.length ct, .slice ab blocks.length cb] 88)).alloc (.cells #[.slice as_ d.safe.length cs, .slice aw d.writes.length cw, .int .i64 ma, .int .i64 24] 150)).alloc (.cells #[.slice none 0 0, .int .i64 ms, .int .i64 ma] 69)).heap.size := by simp
 have lw2 := kr.lt
 have hgo0 := hid (show ([] : List Txn) ++ (scanGo (L.length + 1) L ms).1 = G.1 /\ (scanGo (L.length + 1) L ms).2 = G.2 by rw [<- hG0.out]; exact ⟨rfl, rfl⟩)
 clear hat0 kd ot ob hG0 hrd
 go_loopg [9, 10] L.length (fun g _ _ wr => ∃ (r : List ByteArray) (n : Int) (ts : List Txn), g = r.length /\ Hid (sfx d ma r) /\ Hid (∀ s ∈ r, s.size <= 9223372036854775807) /\ Hid (ts ++ (scanGo (r.length + 1) r n).1 = G.1 /\ (scanGo (r.length + 1) r n).2 = G.2) /\ 1 <= n /\ n <= 2147483647 /\ ts.length + r.length <= 24 /\ ∃ vt, OTxns (w2.heap.size + 3) 43 63 3 wr vt ts /\ Blk wr (w2.heap.size + 2) #[vt, .int .i64 n, .int .i64 ((ma + (24 - (r.length : Int))) % 24)] 69 /\ Blk wr (w2.heap.size + 1) (rdrC (.slice as_ d.safe.length cs) (.slice aw d.writes.length cw) ma r.length) 150 /\ Blk wr (w.heap.size + 1) #[.slice none 0 0, .int .i64 0, .int .i64 0] 69 /\ Below w.heap.size w wr /\ w2.heap.size + 3 <= wr.heap.size)
 case atStart => exact ⟨L, ms, [], rfl, hL0, hL1, hgo0, q5, q6, by simp; omega, _, OTxns.nil _ _ _ _ _, kf0, kb0, kr0, nx0, s0⟩
 case round =>
  clear kb0 kf0 kr0 nx0 s0 hgo0 hL0 hL1 kr nx a0 a1 ld lr
  obtain ⟨r, n, ts, rfl, hs, hsz, hgo, b1, b2, hb, vt, hox, kf, kb, kr, nx, hg3⟩ := hrel
  obtain ⟨a, c, rfl⟩ := hox.form
  have lf := kf.lt; have lb := kb.lt; have lr := kr.lt
  have f0 := kf.cell 0; have f1 := kf.cell 1; have f2 := kf.cell 2
  have r0 := kr.cell 0; have r1 := kr.cell 1; have r2 := kr.cell 2
  have z0 := kr.free 0; have z1 := kr.free 1; have z2 := kr.free 2
  simp only [Zga, Zgb, Zgc] at f0 f1 f2 r0 r1 r2
  by_cases hlt : n < 2147483647
  rotate_left
  ·have hFF := hid (show sF = ⟨ts, n, ((ma + (24 - (r.length : Int))) % 24)⟩ by
     obtain ⟨g1, g2⟩ := hgo.out
     rw [scanGo_full hlt] at g1 g2
     rw [hF.out, <- g1, <- g2]
     simp)
   clear hgo hF
   go_wp2
   have oz := ((hox.setCell (p := ⟨w.heap.size + 1, 0, none⟩) (by simp; omega) (.slice a ts.length c)).setCell (p := ⟨w.heap.size + 1, 1, none⟩) (by simp; omega) (.int .i64 n)).setCell (p := ⟨w.heap.size + 1, 2, none⟩) (by simp; omega) (.int .i64 ((ma + (24 - (r.length : Int))) % 24))
   have nz := ((nx.setCell (p := ⟨w.heap.size + 1, 0, none⟩) (by simp) (.slice a ts.length c)).setCell (p := ⟨w.heap.size + 1, 1, none⟩) (by simp) (.int .i64 n)).setCell (p := ⟨w.heap.size + 1, 2, none⟩) (by simp) (.int .i64 ((ma + (24 - (r.length : Int))) % 24))
   exact bodyPost_ret (v := .tuple #[.agg #[.slice a ts.length c, .int .i64 n, .int .i64 ((ma + (24 - (r.length : Int))) % 24)], .int .i64 0]) (by simp [results, Tryz.results49, go_sem, r0, r1, r2]) rfl ⟨_, rfl, by rw [hFF.out]; exact ⟨_, rfl, oz.mono (by omega)⟩, nz⟩
  have hw1 : IntKind.i64.wrap (n + 1) = n + 1 := IntWalk.i64_in _ (by omega)
  cases hp : parseT n 25 r (txn0 n) with
  | none =>
   have hFF := hid (show sF = ⟨ts, n, ((ma + (24 - (r.length : Int))) % 24)⟩ by
    obtain ⟨g1, g2⟩ := hgo.out
    rw [scanGo_stop hp] at g1 g2
    rw [hF.out, <- g1, <- g2]
    simp)
   have hO := hid (one_none hOne d w (w2.heap.size + 1) (.slice as_ d.safe.length cs) (.slice aw d.writes.length cw) ma n r wr nx hd0.out (by omega) hs.out hsz.out kb hp)
   clear hgo hF hp
   go_wp2_with (go_at_call 75; ((with_reducible refine hO.out.mono ?_); rintro e w4 ⟨rfl, n4, kb4, g4⟩; replace hox := hox.grownBlk kb (by decide) (by decide) (by decide) g4; replace kf := kf.grown g4 (by simp); replace kr := kr.grown g4 (by simp; omega); replace nx := gBelow g4 nx nx.size (by omega); clear f0 f1 f2 r0 r1 r2 z0 z1 z2 lf lr; have lf := kf.lt; have lr := kr.lt; have f0 := kf.cell 0; have f1 := kf.cell 1; have f2 := kf.cell 2; have r0 := kr.cell 0; have r1 := kr.cell 1; have r2 := kr.cell 2; have z0 := kr.free 0; have z1 := kr.free 1; have z2 := kr.free 2; simp only [Zga, Zgb, Zgc] at f0 f1 f2 r0 r1 r2))
   have oz := (((hox.setCell (p := ⟨w.heap.size + 1, 0, none⟩) (by simp; omega) (.slice a ts.length c)).setCell (p := ⟨w.heap.size + 1, 1, none⟩) (by simp; omega) (.int .i64 n)).setCell (p := ⟨w.heap.size + 1, 2, none⟩) (by simp; omega) (.int .i64 ((ma + (24 - (r.length : Int))) % 24))).below (bal (b0 _) (.cells #[.int .i64 0, .slice none 0 0, .slice none 0 0, .slice none 0 0, .bool false, .int .i64 0, .bool false, .int .i64 0, .bool false, .int .i64 0] 43))
   have nz := bal (((nx.setCell (p := ⟨w.heap.size + 1, 0, none⟩) (by simp) (.slice a ts.length c)).setCell (p := ⟨w.heap.size + 1, 1, none⟩) (by simp) (.int .i64 n)).setCell (p := ⟨w.heap.size + 1, 2, none⟩) (by simp) (.int .i64 ((ma + (24 - (r.length : Int))) % 24))) (.cells #[.int .i64 0, .slice none 0 0, .slice none 0 0, .slice none 0 0, .bool false, .int .i64 0, .bool false, .int .i64 0, .bool false, .int .i64 0] 43)
   exact bodyPost_ret (v := .tuple #[.agg #[.slice a ts.length c, .int .i64 n, .int .i64 ((ma + (24 - (r.length : Int))) % 24)], .int .i64 0]) (by simp [results, Tryz.results49, go_sem, r0, r1, r2, lr]) rfl ⟨_, rfl, by rw [hFF.out]; exact ⟨_, rfl, oz.mono (by omega)⟩, nz⟩
  | some p =>
   obtain ⟨t, r'⟩ := p
   have hO := hid (one_some hOne d w (w2.heap.size + 1) (.slice as_ d.safe.length cs) (.slice aw d.writes.length cw) ma n r wr nx hd0.out (by omega) hs.out hsz.out kb hp)
   have hlen := parseT_len hp
   have hs2 := hid (parseT_sfx hp hs.out)
   have hsz2 := hid (fun x hx => hsz.out x (parseT_sub hp x hx))
   have hgo2 := hid (show (ts ++ [t]) ++ (scanGo (r'.length + 1) r' (n + 1)).1 = G.1 /\ (scanGo (r'.length + 1) r' (n + 1)).2 = G.2 by
    obtain ⟨g1, g2⟩ := hgo.out
    obtain ⟨g3, g4⟩ := scanGo_step hlt hp
    rw [g3] at g1
    rw [g4] at g2
    exact ⟨by rw [List.append_assoc]; exact g1, g2⟩)
   clear hgo hp hs hsz r0 r1 r2 z0 z1 z2
   obtain ⟨xs, hox1, hxm, hxo⟩ := hox
   have hxl : xs.length = ts.length := by rw [<- hxm]; simp
   replace hxl := hid hxl; replace hxm := hid hxm; replace hxo := hid hxo
   go_wp2_with (first
    | (go_at_call 75; ((with_reducible refine hO.out.mono ?_); rintro e w4 ⟨v4, rfl, ot, kb4, g4⟩; obtain ⟨y, hyt, hv, hoy⟩ := ot.tv; obtain ⟨ty, ⟨q1, q2, q3⟩, ⟨q4, q5, q6⟩, ⟨q7, q8, q9⟩⟩ := y; dsimp only at hyt; subst hyt; dsimp only [TV.val, txnV, SlV.val] at hv; subst hv; have lw4 := g4.size; replace nx := bal (gBelow g4 nx nx.size (by omega)) (.cells #[.int .i64 ty.seq, .slice q1 q2 q3, .slice q4 q5 q6, .slice q7 q8 q9, .bool ty.h0.on, .int .i64 ty.h0.left, .bool ty.h1.on, .int .i64 ty.h1.left, .bool ty.h2.on, .int .i64 ty.h2.left] 43); have hxo4 := hid (fun x hx => ((hxo.out x hx).grownBlk kb (by decide) (by decide) g4).below (bal (b0 w4) (.cells #[.int .i64 ty.seq, .slice q1 q2 q3, .slice q4 q5 q6, .slice q7 q8 q9, .bool ty.h0.on, .int .i64 ty.h0.left, .bool ty.h1.on, .int .i64 ty.h1.left, .bool ty.h2.on, .int .i64 ty.h2.left] 43))); have hox4 := (hox1.grownBlk kb (by decide) g4).alloc (.cells #[.int .i64 ty.seq, .slice q1 q2 q3, .slice q4 q5 q6, .slice q7 q8 q9, .bool ty.h0.on, .int .i64 ty.h0.left, .bool ty.h1.on, .int .i64 ty.h1.left, .bool ty.h2.on, .int .i64 ty.h2.left] 43); replace kf := (kf.grown g4 (by simp)).alloc (.cells #[.int .i64 ty.seq, .slice q1 q2 q3, .slice q4 q5 q6, .slice q7 q8 q9, .bool ty.h0.on, .int .i64 ty.h0.left, .bool ty.h1.on, .int .i64 ty.h1.left, .bool ty.h2.on, .int .i64 ty.h2.left] 43); replace kr := (kr.grown g4 (by simp; omega)).alloc (.cells #[.int .i64 ty.seq, .slice q1 q2 q3, .slice q4 q5 q6, .slice q7 q8 q9, .bool ty.h0.on, .int .i64 ty.h0.left, .bool ty.h1.on, .int .i64 ty.h1.left, .bool ty.h2.on, .int .i64 ty.h2.left] 43); replace kb4 := kb4.alloc (.cells #[.int .i64 ty.seq, .slice q1 q2 q3, .slice q4 q5 q6, .slice q7 q8 q9, .bool ty.h0.on, .int .i64 ty.h0.left, .bool ty.h1.on, .int .i64 ty.h1.left, .bool ty.h2.on, .int .i64 ty.h2.left] 43); have hoy4 := hid ((hoy.mono (b2 := w2.heap.size + 3) (by omega)).below (bal (b0 w4) (.cells #[.int .i64 ty.seq, .slice q1 q2 q3, .slice q4 q5 q6, .slice q7 q8 q9, .bool ty.h0.on, .int .i64 ty.h0.left, .bool ty.h1.on, .int .i64 ty.h1.left, .bool ty.h2.on, .int .i64 ty.h2.left] 43))); clear f0 f1 f2 lf hoy ot; have lf := kf.lt; have f0 := kf.cell 0; simp only [Zga, Zgb, Zgc] at f0; have kt := Blk.new w4 #[.int .i64 ty.seq, .slice q1 q2 q3, .slice q4 q5 q6, .slice q7 q8 q9, .bool ty.h0.on, .int .i64 ty.h0.left, .bool ty.h1.on, .int .i64 ty.h1.left, .bool ty.h2.on, .int .i64 ty.h2.left] 43; have x0 := kt.cell 0; have x1 := kt.cell 1; have x2 := kt.cell 2; have x3 := kt.cell 3; have x4 := kt.cell 4; have x5 := kt.cell 5; have x6 := kt.cell 6; have x7 := kt.cell 7; have x8 := kt.cell 8; have x9 := kt.cell 9; simp only [Zga, Zgb, Zgc] at x0 x1 x2 x3 x4 x5 x6 x7 x8 x9))
    | (at_builtin; (refine wpList_push1 rfl _ _ _ rfl (w2.heap.size + 3) _ 10 128 tvC_flat elemTxn hox4 rfl ⟨ty, ⟨q1, q2, q3⟩, ⟨q4, q5, q6⟩, ⟨q7, q8, q9⟩⟩ rfl rfl ts.length hxl.out (by omega) (by omega) (by simp; omega) ?_; intro a7 c7 w7 hown7 hbel7 hg7; have kf7 := kf.below hbel7 (by omega); have kr7 := kr.below hbel7 (by omega); have kb7 := kb4.below hbel7 (by omega); have nx7 := nx.trans (hbel7.mono (by omega)); have lf7 := kf7.lt; have y0 := kf7.cell 0; have y1 := kf7.cell 1; have y2 := kf7.cell 2; have u0 := kf7.free 0; have u1 := kf7.free 1; have u2 := kf7.free 2; have d2 := kb7.cell 2; simp only [Zga, Zgb, Zgc] at y0 y1 y2; simp only [rdrC, Zga, Zgb, Zgc] at d2)))
   have hp7 := OTxns.pushed hox4 hxo4.out hoy4.out (by decide) (by decide) hown7 hg7
   rw [hxm.out] at hp7
   have oz := (((hp7.setCell (p := ⟨w2.heap.size + 2, 0, none⟩) (by simp) (.slice a7 (ts.length + 1) c7)).setCell (p := ⟨w2.heap.size + 2, 1, none⟩) (by simp) (.int .i64 (n + 1))).setCell (p := ⟨w2.heap.size + 2, 2, none⟩) (by simp) (.int .i64 ((ma + (24 - (r'.length : Int))) % 24))).below (b0 _).drew
   have kz := (((kf7.set 0 (.slice a7 (ts.length + 1) c7)).set 1 (.int .i64 (n + 1))).set 2 (.int .i64 ((ma + (24 - (r'.length : Int))) % 24))).drew
   have kbz := (((kb7.set_other ⟨w2.heap.size + 2, 0, none⟩ (.slice a7 (ts.length + 1) c7) (by simp)).set_other ⟨w2.heap.size + 2, 1, none⟩ (.int .i64 (n + 1)) (by simp)).set_other ⟨w2.heap.size + 2, 2, none⟩ (.int .i64 ((ma + (24 - (r'.length : Int))) % 24)) (by simp)).drew
   have krz := (((kr7.set_other ⟨w2.heap.size + 2, 0, none⟩ (.slice a7 (ts.length + 1) c7) (by simp; omega)).set_other ⟨w2.heap.size + 2, 1, none⟩ (.int .i64 (n + 1)) (by simp; omega)).set_other ⟨w2.heap.size + 2, 2, none⟩ (.int .i64 ((ma + (24 - (r'.length : Int))) % 24)) (by simp; omega)).drew
   have nz := (((nx7.setCell (p := ⟨w2.heap.size + 2, 0, none⟩) (by simp; omega) (.slice a7 (ts.length + 1) c7)).setCell (p := ⟨w2.heap.size + 2, 1, none⟩) (by simp; omega) (.int .i64 (n + 1))).setCell (p := ⟨w2.heap.size + 2, 2, none⟩) (by simp; omega) (.int .i64 ((ma + (24 - (r'.length : Int))) % 24))).drew
   have sz : w2.heap.size + 3 <= w7.heap.size := by have := hbel7.size; simp at this; omega
   replace oz := hid oz; replace kz := hid kz; replace kbz := hid kbz; replace krz := hid krz; replace nz := hid nz; replace sz := hid sz
   clear hp7
   go_region
   all_goals
    go_wp2
    go_roundg r'.length
    case measure => omega
    case rel => exact ⟨r', n + 1, ts ++ [ty], rfl, hs2, hsz2, hgo2, by omega, by omega, by simp; omega, _, oz.out, kz.out, kbz.out, krz.out, nz.out, by simpa using sz.out⟩
def ScanSaid : Prop := ∀ (d : Dsk) (v : Value) (w : World), RDisk w v d -> Calls Tryz.prog 49 #[v] w fun e w' => ∃ v', e = .returned (.tuple #[v', .int .i64 (scanE d)]) /\ OFnd w.heap.size 43 63 3 w' v' (scanF d) /\ Below w.heap.size w w'
theorem jK (hScan : ScanSaid) : JK where
 fit := fun s w h => disk_Fit s w h
 dnew := fun w => disk_New w
 put := fun d n t v w h => disk_PutN d n t v w h
 flush := fun d v w h => disk_FlushN d v w h
 crash := fun d x v w h hx => disk_CrashN d x v w h hx
 read := fun d n v w h => disk_Read d n v w h
 enc := fun m v w h => stamp_Encode m v w h
 free := fun r w h0 h1 => ring_Free r w h0 h1
 give := fun r n w => ring_Give r n w
 beg := fun t h nn fr vm vd vr w ht => txn_Begin t h nn fr vm vd vr w ht
 stop := fun t h vm vd vr w ht => txn_Stop t h vm vd vr w ht
 chg := fun t h b s vm vd vr w ht => txn_Change t h b s vm vd vr w ht
 fil := fun t h b s vm vd vr w ht => txn_Fill t h b s vm vd vr w ht
 rvk := fun t h b vm vd vr w ht => txn_Revoke t h b vm vd vr w ht
 get := fun l b v w h hl => txn_Get l b v w h hl
 opn := fun t v w h => txn_Open t v w h
 com := fun r t v w h hF => seal_Commit r t v w h hF
 newest := fun l hg v w h => seal_Newest l hg v w h
 check := fun l p q v w h hl hF => seal_Check l p q v w h hl hF
 replay := fun l hg v w h => scan_Replay l hg v w h
 scan := fun d v w h => (hScan d v w h).mono fun e w' ⟨v', he, hf, hb⟩ => by
  obtain ⟨vt, hv, ho⟩ := hf
  subst hv
  exact ⟨vt, he, ho, hb⟩
end Go.Proofs.YtjhmfljlclajnadGreatDoor
namespace Go.Proofs.YtjhmfljlclajnadGreatDoor
open Go.ChangeShapes Go.WideShapes Go.ChangeAt Go.RowKit Wb
noncomputable def laidWorld (os : Os) : World :=
 { World.holding Tryz.prog os ⟨#[], #[], []⟩ with heap := (World.holding Tryz.prog os ⟨#[], #[], []⟩).heap.modify 0 fun
     | .cells _ t frozen => .cells #[.int .i64 2, .int .i64 0, .string ⟨#[]⟩] t frozen
     | o => o }
theorem flush_laid {W : World} (hL : laidMetH Tryz.prog [("wastebook/seal.flush", .agg [.lit (.int .i64 2), .lit (.int .i64 0), .lit (.string [])])] W) :
    Sl W (flR 0).v 1 (flR 0).cs := by
 have h : laidMet Tryz.prog [("wastebook/seal.flush", .agg [.lit (.int .i64 2), .lit (.int .i64 0), .lit (.string [])])] W := hL
 obtain ⟨ps, ⟨g', t', cs, fuel, p, q, hg', ht', hvar, hd, _, _⟩, _⟩ := h
 have hg : Tryz.prog.globalNamed "wastebook/seal.flush" = some 0 := by kernel_rfl
 have hty : (Tryz.prog.globals[0]?).map (·.type) = some 118 := by kernel_rfl
 obtain rfl := Option.some.inj (hg.symm.trans hg')
 obtain rfl := Option.some.inj (hty.symm.trans ht')
 have hcs : cs.toList = [.int .i64 2, .int .i64 0, .string ⟨#[]⟩] := by
  obtain ⟨xs, m, _, hx, hl, hln, hg⟩ := DataW.trod_struct Tryz.underlying118 hd
  have hl3 : cs.toList.length = 3 := hl.trans (by kernel_rfl)
  generalize cs.toList = ls at *
  match ls, hl3, xs, hln with
  | [u0, u1, u2], _, [y0, y1, y2], _ =>
   have h0 : DataW.trod (fun _ => ()) Tryz.prog W 0 (fun _ => true) false m 3 [u0] = some y0 := hg 0 _ rfl
   have h1 : DataW.trod (fun _ => ()) Tryz.prog W 0 (fun _ => true) false m 3 [u1] = some y1 := hg 1 _ rfl
   have h2 : DataW.trod (fun _ => ()) Tryz.prog W 0 (fun _ => true) false m 9 [u2] = some y2 := hg 2 _ rfl
   obtain ⟨a0, e0, rfl, _⟩ := DataW.trod_int Tryz.underlying3 h0
   obtain ⟨a1, e1, rfl, _⟩ := DataW.trod_int Tryz.underlying3 h1
   obtain ⟨a2, e2, rfl, _⟩ := DataW.trod_string Tryz.underlying9 h2
   simp at e0 e1 e2 hx
   subst e0 e1 e2
   obtain ⟨⟨rfl, rfl, h3⟩, _⟩ := hx
   have : a2 = ⟨#[]⟩ := by
    obtain ⟨⟨l⟩⟩ := a2
    simp at h3
    subst h3
    rfl
   rw [this]
 refine ⟨some ⟨0, 0, none⟩, 1, rfl, Nat.le_refl _, by decide, .inr ⟨0, 0, rfl, fun j u hj => ?_⟩⟩
 have := World.var?_cell hg hvar j
 rw [Nat.zero_add, this]
 have e : cs[j]? = cs.toList[j]? := by simp
 rw [e, hcs]
 exact hj
end Go.Proofs.YtjhmfljlclajnadGreatDoor
namespace Go.Proofs.YtjhmfljlclajnadGreatDoor
open Go.RowKit Wb
theorem decodeSaid : DecodeSaid := fun s w h => stamp_DecodeO s w h
theorem oneSaid : OneSaid := fun d W br vs vw A seq r0 w h1 h2 h3 h4 h5 h6 => scan_one decodeSaid d W br vs vw A seq r0 w h1 h2 h3 h4 h5 h6
theorem scanSaid : ScanSaid := fun d v w h => scan_Scan decodeSaid oneSaid d v w h
end Go.Proofs.YtjhmfljlclajnadGreatDoor
