/- Parts of the proof. -/
import Derived.Test.YtjhmfljlclajnacGreatDoorKTopWhole14
import Derived.Test.YtjhmfljlclajnacGreatDoorCards
import Derived.Test.YtjhmfljlclajnacGreatDoorTie
set_option linter.unusedVariables false
set_option linter.unusedSimpArgs false
set_option maxRecDepth 100000
set_option maxHeartbeats 40000000
namespace Go.Proofs.YtjhmfljlclajnacGreatDoor
open Go.RowKit Wb
theorem scan_Scan (hDec : DecodeSaid) (hOne : OneSaid) (d : Dsk) (v : Value) (w : World) (hd : RDisk w v d) :
    Calls Tryz.prog 75 #[v] w fun e w' => ∃ v', e = .returned (.tuple #[v', .int .i64 (scanE d)]) /\ OFnd w.heap.size 40 92 3 w' v' (scanF d) /\ Below w.heap.size w w' := by
 have hd0 := hd
 obtain ⟨vs, vw, rfl, hs, hw, n1, n2⟩ := hd
 obtain ⟨as_, cs, rfl, _⟩ := hs.form
 obtain ⟨aw, cw, rfl, _⟩ := hw.form
 have hR := fun w' (hh : RDisk w' (.agg #[.slice as_ d.safe.length cs, .slice aw d.writes.length cw]) d) => disk_Read d 0 _ w' hh
 have hsz := readD_size d 0
 have hD := fun w' => hDec (readD d 0) w' (by omega)
 have hbd := fun h => dec_bds (s := readD d 0) h
 have hLs := fun A => logL_size d A
 have hLx := fun A => sfx_all d A
 have hLl := fun A => logL_len d A
 have hx2 : readE d 0 ≠ 0 -> readE d 0 = 2 /\ scanE d = 2 /\ scanF d = ⟨[], 0, 0⟩ := fun h => by
  have h1 : scanE d = 2 := by unfold scanE; rw [if_neg h]
  refine ⟨?_, h1, ?_⟩
  ·unfold readE at h ⊢
   split
   ·rename_i hh; rw [if_pos hh] at h; exact absurd rfl h
   ·rfl
  ·unfold scanF; rw [if_neg (by rw [h1]; decide)]
 have hx1 : readE d 0 = 0 -> ¬ (decE (readD d 0) = 0 /\ (decM (readD d 0)).kind = 1) -> scanE d = 1 /\ scanF d = ⟨[], 0, 0⟩ := fun h h2 => by
  have h1 : scanE d = 1 := by unfold scanE; rw [if_pos h, if_neg h2]
  refine ⟨h1, ?_⟩
  unfold scanF; rw [if_neg (by rw [h1]; decide)]
 have hx0 : readE d 0 = 0 -> decE (readD d 0) = 0 /\ (decM (readD d 0)).kind = 1 -> scanE d = 0 /\ scanF d = ⟨(scanGo 25 (logL d (decM (readD d 0)).at_) (decM (readD d 0)).seq).1, (scanGo 25 (logL d (decM (readD d 0)).at_) (decM (readD d 0)).seq).2.1, ((decM (readD d 0)).at_ + (24 - ((scanGo 25 (logL d (decM (readD d 0)).at_) (decM (readD d 0)).seq).2.2.length : Int))) % 24⟩ := fun h h2 => by
  have h1 : scanE d = 0 := by unfold scanE; rw [if_pos h, if_pos h2]
  refine ⟨h1, ?_⟩
  unfold scanF; rw [if_pos h1]
 generalize scanE d = sE at *
 generalize scanF d = sF at *
 generalize readE d 0 = re at *
 generalize readD d 0 = s0 at *
 generalize decE s0 = de at *
 generalize decM s0 = M at *
 obtain ⟨mk, ms, ma, tags, blocks⟩ := M
 dsimp only at *
 have kd : Blk ((w.alloc (.cells #[.slice as_ d.safe.length cs, .slice aw d.writes.length cw] 46)).alloc (.cells #[.slice none 0 0, .int .i64 0, .int .i64 0] 61)) w.heap.size #[.slice as_ d.safe.length cs, .slice aw d.writes.length cw] 46 := (Blk.new w _ _).alloc _
 have kr : Blk ((w.alloc (.cells #[.slice as_ d.safe.length cs, .slice aw d.writes.length cw] 46)).alloc (.cells #[.slice none 0 0, .int .i64 0, .int .i64 0] 61)) (w.heap.size + 1) #[.slice none 0 0, .int .i64 0, .int .i64 0] 61 := Blk.newAt (by simp)
 have nx : Below w.heap.size w ((w.alloc (.cells #[.slice as_ d.safe.length cs, .slice aw d.writes.length cw] 46)).alloc (.cells #[.slice none 0 0, .int .i64 0, .int .i64 0] 61)) := bal (bal (b0 w) _) _
 have a0 := kd.cell 0; have a1 := kd.cell 1
 simp only [Zga, Zgb, Zgc] at a0 a1
 replace hR := hid (hR _ (hd0.below nx)); replace hD := hid hD; replace hLs := hid hLs; replace hLx := hid hLx; replace hLl := hid hLl; replace hd0 := hid hd0
 clear hs hw
 by_cases hre : re = 0
 rotate_left
 ·obtain ⟨rfl, rfl, rfl⟩ := hx2 hre
  clear hx1 hx0 hx2 hre hbd
  go_enter Tryz.func75, Tryz.ntmps75
  go_wp2_with (go_at_call 67; ((with_reducible refine hR.out.mono ?_); rintro e w1 ⟨rfl, hb1⟩; replace kr := kr.step hb1; replace nx := bgo nx hb1; have r0 := kr.cell 0; have r1 := kr.cell 1; have r2 := kr.cell 2; have z0 := kr.free 0; have z1 := kr.free 1; have z2 := kr.free 2; simp only [Zga, Zgb, Zgc] at r0 r1 r2))
  exact bodyPost_ret (v := .tuple #[.agg #[.slice none 0 0, .int .i64 0, .int .i64 0], .int .i64 2]) (by simp [results, Tryz.results75, go_sem, r0, r1, r2]) rfl ⟨_, rfl, ⟨_, rfl, OTxns.nil _ _ _ _ _⟩, ((nx.setCell (by simp) _).setCell (by simp) _).setCell (by simp) _⟩
 by_cases hsu : de = 0 /\ mk = 1
 rotate_left
 ·obtain ⟨rfl, rfl⟩ := hx1 hre hsu
  subst hre
  clear hx1 hx0 hx2 hbd
  by_cases hde : de = 0
  ·have hde2 : (de != 0) = false := by rw [hde]; rfl
   have hmk : (mk != 1) = true := bne_iff_ne.2 (fun h => hsu ⟨hde, h⟩)
   clear hsu hde
   go_enter Tryz.func75, Tryz.ntmps75
   go_wp2_with (go_at_call 67; ((with_reducible refine hR.out.mono ?_); rintro e w1 ⟨rfl, hb1⟩; replace kr := kr.step hb1; replace nx := bgo nx hb1))
   go_wp2_with (go_at_call 115; ((with_reducible refine (hD.out _).mono ?_); rintro e w2 ⟨v2, rfl, hmk, hb2⟩; obtain ⟨vt, vb, rfl, ot, ob, t1, t2⟩ := hmk; dsimp only at ot ob t1 t2 ⊢; obtain ⟨at_, ct, rfl⟩ := ot.form; obtain ⟨ab, cb, rfl⟩ := ob.form; replace kr := kr.step hb2; replace nx := bgo nx hb2; have r0 := kr.cell 0; have r1 := kr.cell 1; have r2 := kr.cell 2; have z0 := kr.free 0; have z1 := kr.free 1; have z2 := kr.free 2; simp only [Zga, Zgb, Zgc] at r0 r1 r2; have lr := kr.lt))
   exact bodyPost_ret (v := .tuple #[.agg #[.slice none 0 0, .int .i64 0, .int .i64 0], .int .i64 1]) (by simp [results, Tryz.results75, go_sem, r0, r1, r2, lr]) rfl ⟨_, rfl, ⟨_, rfl, OTxns.nil _ _ _ _ _⟩, bal (((nx.setCell (p := ⟨w.heap.size + 1, 0, none⟩) (by simp) _).setCell (p := ⟨w.heap.size + 1, 1, none⟩) (by simp) _).setCell (p := ⟨w.heap.size + 1, 2, none⟩) (by simp) _) _⟩
  ·have hde2 : (de != 0) = true := bne_iff_ne.2 hde
   clear hsu hde
   go_enter Tryz.func75, Tryz.ntmps75
   go_wp2_with (go_at_call 67; ((with_reducible refine hR.out.mono ?_); rintro e w1 ⟨rfl, hb1⟩; replace kr := kr.step hb1; replace nx := bgo nx hb1))
   go_wp2_with (go_at_call 115; ((with_reducible refine (hD.out _).mono ?_); rintro e w2 ⟨v2, rfl, hmk, hb2⟩; obtain ⟨vt, vb, rfl, ot, ob, t1, t2⟩ := hmk; dsimp only at ot ob t1 t2 ⊢; obtain ⟨at_, ct, rfl⟩ := ot.form; obtain ⟨ab, cb, rfl⟩ := ob.form; replace kr := kr.step hb2; replace nx := bgo nx hb2; have r0 := kr.cell 0; have r1 := kr.cell 1; have r2 := kr.cell 2; have z0 := kr.free 0; have z1 := kr.free 1; have z2 := kr.free 2; simp only [Zga, Zgb, Zgc] at r0 r1 r2; have lr := kr.lt))
   exact bodyPost_ret (v := .tuple #[.agg #[.slice none 0 0, .int .i64 0, .int .i64 0], .int .i64 1]) (by simp [results, Tryz.results75, go_sem, r0, r1, r2, lr]) rfl ⟨_, rfl, ⟨_, rfl, OTxns.nil _ _ _ _ _⟩, bal (((nx.setCell (p := ⟨w.heap.size + 1, 0, none⟩) (by simp) _).setCell (p := ⟨w.heap.size + 1, 1, none⟩) (by simp) _).setCell (p := ⟨w.heap.size + 1, 2, none⟩) (by simp) _) _⟩
 obtain ⟨rfl, hF⟩ := hx0 hre hsu
 obtain ⟨rfl, rfl⟩ := hsu
 subst hre
 obtain ⟨_, _, q3, q4, q5, q6⟩ := hbd rfl
 clear hx0 hx1 hx2 hbd
 have hL0 := hid (hLx.out ma)
 have hL1 := hid (hLs.out ma)
 have hL2 := hLl.out ma
 generalize logL d ma = L at *
 have hG0 := hid (show (scanGo 25 L ms) = scanGo (L.length + 1) L ms by rw [hL2])
 replace hF := hid hF
 generalize hGG : scanGo 25 L ms = G at *
 have hA0 : (ma + (24 - ((24 : Nat) : Int))) % 24 = ma := by omega
 have hrd : rdrC (.slice as_ d.safe.length cs) (.slice aw d.writes.length cw) ma L.length = #[.slice as_ d.safe.length cs, .slice aw d.writes.length cw, .int .i64 ma, .int .i64 24] := by unfold rdrC; rw [hL2, hA0]; rfl
 clear hLs hLx hLl hGG
 replace hrd := hid hrd
 go_enter Tryz.func75, Tryz.ntmps75
 go_wp2_with (go_at_call 67; ((with_reducible refine hR.out.mono ?_); rintro e w1 ⟨rfl, hb1⟩; replace kr := kr.step hb1; replace kd := kd.step hb1; replace nx := bgo nx hb1))
 go_wp2_with (go_at_call 115; ((with_reducible refine (hD.out _).mono ?_); rintro e w2 ⟨v2, rfl, hmk, hb2⟩; obtain ⟨vt, vb, rfl, ot, ob, t1, t2⟩ := hmk; dsimp only at ot ob t1 t2 ⊢; obtain ⟨at_, ct, rfl⟩ := ot.form; obtain ⟨ab, cb, rfl⟩ := ob.form; replace kr := kr.step hb2; replace kd := kd.step hb2; replace nx := bgo nx hb2; clear a0 a1; have a0 := kd.cell 0; have a1 := kd.cell 1; simp only [Zga, Zgb, Zgc] at a0 a1; have lr := kr.lt; have ld := kd.lt))
 have hat0 : (ma + (24 - (L.length : Int))) % 24 = ma := by rw [hL2]; omega
 have kb0 : Blk (((w2.alloc (.cells #[.int .i64 1, .int .i64 ms, .int .i64 ma, .slice at_ tags.length ct, .slice ab blocks.length cb] 102)).alloc (.cells #[.slice as_ d.safe.length cs, .slice aw d.writes.length cw, .int .i64 ma, .int .i64 24] 159)).alloc (.cells #[.slice none 0 0, .int .i64 ms, .int .i64 ma] 61)) (w2.heap.size + 1) (rdrC (.slice as_ d.safe.length cs) (.slice aw d.writes.length cw) ma L.length) 159 := by rw [hrd.out]; exact (Blk.newAt (by simp)).alloc _
 have kf0 : Blk (((w2.alloc (.cells #[.int .i64 1, .int .i64 ms, .int .i64 ma, .slice at_ tags.length ct, .slice ab blocks.length cb] 102)).alloc (.cells #[.slice as_ d.safe.length cs, .slice aw d.writes.length cw, .int .i64 ma, .int .i64 24] 159)).alloc (.cells #[.slice none 0 0, .int .i64 ms, .int .i64 ma] 61)) (w2.heap.size + 2) #[.slice none 0 0, .int .i64 ms, .int .i64 ((ma + (24 - (L.length : Int))) % 24)] 61 := by rw [hat0]; exact Blk.newAt (by simp)
 have kr0 := ((kr.alloc (.cells #[.int .i64 1, .int .i64 ms, .int .i64 ma, .slice at_ tags.length ct, .slice ab blocks.length cb] 102)).alloc (.cells #[.slice as_ d.safe.length cs, .slice aw d.writes.length cw, .int .i64 ma, .int .i64 24] 159)).alloc (.cells #[.slice none 0 0, .int .i64 ms, .int .i64 ma] 61)
 have nx0 := bal (bal (bal nx (.cells #[.int .i64 1, .int .i64 ms, .int .i64 ma, .slice at_ tags.length ct, .slice ab blocks.length cb] 102)) (.cells #[.slice as_ d.safe.length cs, .slice aw d.writes.length cw, .int .i64 ma, .int .i64 24] 159)) (.cells #[.slice none 0 0, .int .i64 ms, .int .i64 ma] 61)
 have s0 : w2.heap.size + 3 <= (((w2.alloc (.cells #[.int .i64 1, .int .i64 ms, .int .i64 ma, .slice at_ tags.length ct, .slice ab blocks.length cb] 102)).alloc (.cells #[.slice as_ d.safe.length cs, .slice aw d.writes.length cw, .int .i64 ma, .int .i64 24] 159)).alloc (.cells #[.slice none 0 0, .int .i64 ms, .int .i64 ma] 61)).heap.size := by simp
 have lw2 := kr.lt
 have hgo0 := hid (show ([] : List Txn) ++ (scanGo (L.length + 1) L ms).1 = G.1 /\ (scanGo (L.length + 1) L ms).2 = G.2 by rw [<- hG0.out]; exact ⟨rfl, rfl⟩)
 clear hat0 kd ot ob hG0 hrd
 go_loopg [9, 10] L.length (fun g _ _ wr => ∃ (r : List ByteArray) (n : Int) (ts : List Txn), g = r.length /\ Hid (sfx d ma r) /\ Hid (∀ s ∈ r, s.size <= 9223372036854775807) /\ Hid (ts ++ (scanGo (r.length + 1) r n).1 = G.1 /\ (scanGo (r.length + 1) r n).2 = G.2) /\ 1 <= n /\ n <= 2147483647 /\ ts.length + r.length <= 24 /\ ∃ vt, OTxns (w2.heap.size + 3) 40 92 3 wr vt ts /\ Blk wr (w2.heap.size + 2) #[vt, .int .i64 n, .int .i64 ((ma + (24 - (r.length : Int))) % 24)] 61 /\ Blk wr (w2.heap.size + 1) (rdrC (.slice as_ d.safe.length cs) (.slice aw d.writes.length cw) ma r.length) 159 /\ Blk wr (w.heap.size + 1) #[.slice none 0 0, .int .i64 0, .int .i64 0] 61 /\ Below w.heap.size w wr /\ w2.heap.size + 3 <= wr.heap.size)
 case atStart => exact ⟨L, ms, [], rfl, hL0, hL1, hgo0, q5, q6, by simp; omega, _, OTxns.nil _ _ _ _ _, kf0, kb0, kr0, nx0, s0⟩
 case round =>
  clear kb0 kf0 kr0 nx0 s0 hgo0 hL0 hL1 kr nx a0 a1 ld lr
  obtain ⟨r, n, ts, rfl, hs, hsz, hgo, b1, b2, hb, vt, hox, kf, kb, kr, nx, hg3⟩ := hrel
  obtain ⟨a, c, rfl⟩ := hox.form
  have lf := kf.lt; have lb := kb.lt; have lr := kr.lt
  have f0 := kf.cell 0; have f1 := kf.cell 1; have f2 := kf.cell 2
  have r0 := kr.cell 0; have r1 := kr.cell 1; have r2 := kr.cell 2
  have z0 := kr.free 0; have z1 := kr.free 1; have z2 := kr.free 2
  simp only [Zga, Zgb, Zgc] at f0 f1 f2 r0 r1 r2
  by_cases hlt : n < 2147483647
  rotate_left
  ·have hFF := hid (show sF = ⟨ts, n, ((ma + (24 - (r.length : Int))) % 24)⟩ by
     obtain ⟨g1, g2⟩ := hgo.out
     rw [scanGo_full hlt] at g1 g2
     rw [hF.out, <- g1, <- g2]
     simp)
   clear hgo hF
   go_wp2
   have oz := ((hox.setCell (p := ⟨w.heap.size + 1, 0, none⟩) (by simp; omega) (.slice a ts.length c)).setCell (p := ⟨w.heap.size + 1, 1, none⟩) (by simp; omega) (.int .i64 n)).setCell (p := ⟨w.heap.size + 1, 2, none⟩) (by simp; omega) (.int .i64 ((ma + (24 - (r.length : Int))) % 24))
   have nz := ((nx.setCell (p := ⟨w.heap.size + 1, 0, none⟩) (by simp) (.slice a ts.length c)).setCell (p := ⟨w.heap.size + 1, 1, none⟩) (by simp) (.int .i64 n)).setCell (p := ⟨w.heap.size + 1, 2, none⟩) (by simp) (.int .i64 ((ma + (24 - (r.length : Int))) % 24))
   exact bodyPost_ret (v := .tuple #[.agg #[.slice a ts.length c, .int .i64 n, .int .i64 ((ma + (24 - (r.length : Int))) % 24)], .int .i64 0]) (by simp [results, Tryz.results75, go_sem, r0, r1, r2]) rfl ⟨_, rfl, by rw [hFF.out]; exact ⟨_, rfl, oz.mono (by omega)⟩, nz⟩
  have hw1 : IntKind.i64.wrap (n + 1) = n + 1 := IntWalk.i64_in _ (by omega)
  cases hp : parseT n 25 r (txn0 n) with
  | none =>
   have hFF := hid (show sF = ⟨ts, n, ((ma + (24 - (r.length : Int))) % 24)⟩ by
    obtain ⟨g1, g2⟩ := hgo.out
    rw [scanGo_stop hp] at g1 g2
    rw [hF.out, <- g1, <- g2]
    simp)
   have hO := hid (one_none hOne d w (w2.heap.size + 1) (.slice as_ d.safe.length cs) (.slice aw d.writes.length cw) ma n r wr nx hd0.out (by omega) hs.out hsz.out kb hp)
   clear hgo hF hp
   go_wp2_with (go_at_call 116; ((with_reducible refine hO.out.mono ?_); rintro e w4 ⟨rfl, n4, kb4, g4⟩; replace hox := hox.grownBlk kb (by decide) (by decide) (by decide) g4; replace kf := kf.grown g4 (by simp); replace kr := kr.grown g4 (by simp; omega); replace nx := gBelow g4 nx nx.size (by omega); clear f0 f1 f2 r0 r1 r2 z0 z1 z2 lf lr; have lf := kf.lt; have lr := kr.lt; have f0 := kf.cell 0; have f1 := kf.cell 1; have f2 := kf.cell 2; have r0 := kr.cell 0; have r1 := kr.cell 1; have r2 := kr.cell 2; have z0 := kr.free 0; have z1 := kr.free 1; have z2 := kr.free 2; simp only [Zga, Zgb, Zgc] at f0 f1 f2 r0 r1 r2))
   have oz := (((hox.setCell (p := ⟨w.heap.size + 1, 0, none⟩) (by simp; omega) (.slice a ts.length c)).setCell (p := ⟨w.heap.size + 1, 1, none⟩) (by simp; omega) (.int .i64 n)).setCell (p := ⟨w.heap.size + 1, 2, none⟩) (by simp; omega) (.int .i64 ((ma + (24 - (r.length : Int))) % 24))).below (bal (b0 _) (.cells #[.int .i64 0, .slice none 0 0, .slice none 0 0, .slice none 0 0, .bool false, .int .i64 0, .bool false, .int .i64 0, .bool false, .int .i64 0] 40))
   have nz := bal (((nx.setCell (p := ⟨w.heap.size + 1, 0, none⟩) (by simp) (.slice a ts.length c)).setCell (p := ⟨w.heap.size + 1, 1, none⟩) (by simp) (.int .i64 n)).setCell (p := ⟨w.heap.size + 1, 2, none⟩) (by simp) (.int .i64 ((ma + (24 - (r.length : Int))) % 24))) (.cells #[.int .i64 0, .slice none 0 0, .slice none 0 0, .slice none 0 0, .bool false, .int .i64 0, .bool false, .int .i64 0, .bool false, .int .i64 0] 40)
   exact bodyPost_ret (v := .tuple #[.agg #[.slice a ts.length c, .int .i64 n, .int .i64 ((ma + (24 - (r.length : Int))) % 24)], .int .i64 0]) (by simp [results, Tryz.results75, go_sem, r0, r1, r2, lr]) rfl ⟨_, rfl, by rw [hFF.out]; exact ⟨_, rfl, oz.mono (by omega)⟩, nz⟩
  | some p =>
   obtain ⟨t, r'⟩ := p
   have hO := hid (one_some hOne d w (w2.heap.size + 1) (.slice as_ d.safe.length cs) (.slice aw d.writes.length cw) ma n r wr nx hd0.out (by omega) hs.out hsz.out kb hp)
   have hlen := parseT_len hp
   have hs2 := hid (parseT_sfx hp hs.out)
   have hsz2 := hid (fun x hx => hsz.out x (parseT_sub hp x hx))
   have hgo2 := hid (show (ts ++ [t]) ++ (scanGo (r'.length + 1) r' (n + 1)).1 = G.1 /\ (scanGo (r'.length + 1) r' (n + 1)).2 = G.2 by
    obtain ⟨g1, g2⟩ := hgo.out
    obtain ⟨g3, g4⟩ := scanGo_step hlt hp
    rw [g3] at g1
    rw [g4] at g2
    exact ⟨by rw [List.append_assoc]; exact g1, g2⟩)
   clear hgo hp hs hsz r0 r1 r2 z0 z1 z2
   obtain ⟨xs, hox1, hxm, hxo⟩ := hox
   have hxl : xs.length = ts.length := by rw [<- hxm]; simp
   replace hxl := hid hxl; replace hxm := hid hxm; replace hxo := hid hxo
   go_wp2_with (first
    | (go_at_call 116; ((with_reducible refine hO.out.mono ?_); rintro e w4 ⟨v4, rfl, ot, kb4, g4⟩; obtain ⟨y, hyt, hv, hoy⟩ := ot.tv; obtain ⟨ty, ⟨q1, q2, q3⟩, ⟨q4, q5, q6⟩, ⟨q7, q8, q9⟩⟩ := y; dsimp only at hyt; subst hyt; dsimp only [TV.val, txnV, SlV.val] at hv; subst hv; have lw4 := g4.size; replace nx := bal (gBelow g4 nx nx.size (by omega)) (.cells #[.int .i64 ty.seq, .slice q1 q2 q3, .slice q4 q5 q6, .slice q7 q8 q9, .bool ty.h0.on, .int .i64 ty.h0.left, .bool ty.h1.on, .int .i64 ty.h1.left, .bool ty.h2.on, .int .i64 ty.h2.left] 40); have hxo4 := hid (fun x hx => ((hxo.out x hx).grownBlk kb (by decide) (by decide) g4).below (bal (b0 w4) (.cells #[.int .i64 ty.seq, .slice q1 q2 q3, .slice q4 q5 q6, .slice q7 q8 q9, .bool ty.h0.on, .int .i64 ty.h0.left, .bool ty.h1.on, .int .i64 ty.h1.left, .bool ty.h2.on, .int .i64 ty.h2.left] 40))); have hox4 := (hox1.grownBlk kb (by decide) g4).alloc (.cells #[.int .i64 ty.seq, .slice q1 q2 q3, .slice q4 q5 q6, .slice q7 q8 q9, .bool ty.h0.on, .int .i64 ty.h0.left, .bool ty.h1.on, .int .i64 ty.h1.left, .bool ty.h2.on, .int .i64 ty.h2.left] 40); replace kf := (kf.grown g4 (by simp)).alloc (.cells #[.int .i64 ty.seq, .slice q1 q2 q3, .slice q4 q5 q6, .slice q7 q8 q9, .bool ty.h0.on, .int .i64 ty.h0.left, .bool ty.h1.on, .int .i64 ty.h1.left, .bool ty.h2.on, .int .i64 ty.h2.left] 40); replace kr := (kr.grown g4 (by simp; omega)).alloc (.cells #[.int .i64 ty.seq, .slice q1 q2 q3, .slice q4 q5 q6, .slice q7 q8 q9, .bool ty.h0.on, .int .i64 ty.h0.left, .bool ty.h1.on, .int .i64 ty.h1.left, .bool ty.h2.on, .int .i64 ty.h2.left] 40); replace kb4 := kb4.alloc (.cells #[.int .i64 ty.seq, .slice q1 q2 q3, .slice q4 q5 q6, .slice q7 q8 q9, .bool ty.h0.on, .int .i64 ty.h0.left, .bool ty.h1.on, .int .i64 ty.h1.left, .bool ty.h2.on, .int .i64 ty.h2.left] 40); have hoy4 := hid ((hoy.mono (b2 := w2.heap.size + 3) (by omega)).below (bal (b0 w4) (.cells #[.int .i64 ty.seq, .slice q1 q2 q3, .slice q4 q5 q6, .slice q7 q8 q9, .bool ty.h0.on, .int .i64 ty.h0.left, .bool ty.h1.on, .int .i64 ty.h1.left, .bool ty.h2.on, .int .i64 ty.h2.left] 40))); clear f0 f1 f2 lf hoy ot; have lf := kf.lt; have f0 := kf.cell 0; simp only [Zga, Zgb, Zgc] at f0; have kt := Blk.new w4 #[.int .i64 ty.seq, .slice q1 q2 q3, .slice q4 q5 q6, .slice q7 q8 q9, .bool ty.h0.on, .int .i64 ty.h0.left, .bool ty.h1.on, .int .i64 ty.h1.left, .bool ty.h2.on, .int .i64 ty.h2.left] 40; have x0 := kt.cell 0; have x1 := kt.cell 1; have x2 := kt.cell 2; have x3 := kt.cell 3; have x4 := kt.cell 4; have x5 := kt.cell 5; have x6 := kt.cell 6; have x7 := kt.cell 7; have x8 := kt.cell 8; have x9 := kt.cell 9; simp only [Zga, Zgb, Zgc] at x0 x1 x2 x3 x4 x5 x6 x7 x8 x9))
    | (at_builtin; (refine wpList_push1 rfl _ _ _ rfl (w2.heap.size + 3) _ 10 128 tvC_flat elemTxn hox4 rfl ⟨ty, ⟨q1, q2, q3⟩, ⟨q4, q5, q6⟩, ⟨q7, q8, q9⟩⟩ rfl rfl ts.length hxl.out (by omega) (by omega) (by simp; omega) ?_; intro a7 c7 w7 hown7 hbel7 hg7; have kf7 := kf.below hbel7 (by omega); have kr7 := kr.below hbel7 (by omega); have kb7 := kb4.below hbel7 (by omega); have nx7 := nx.trans (hbel7.mono (by omega)); have lf7 := kf7.lt; have y0 := kf7.cell 0; have y1 := kf7.cell 1; have y2 := kf7.cell 2; have u0 := kf7.free 0; have u1 := kf7.free 1; have u2 := kf7.free 2; have d2 := kb7.cell 2; simp only [Zga, Zgb, Zgc] at y0 y1 y2; simp only [rdrC, Zga, Zgb, Zgc] at d2)))
   have hp7 := OTxns.pushed hox4 hxo4.out hoy4.out (by decide) (by decide) hown7 hg7
   rw [hxm.out] at hp7
   have oz := (((hp7.setCell (p := ⟨w2.heap.size + 2, 0, none⟩) (by simp) (.slice a7 (ts.length + 1) c7)).setCell (p := ⟨w2.heap.size + 2, 1, none⟩) (by simp) (.int .i64 (n + 1))).setCell (p := ⟨w2.heap.size + 2, 2, none⟩) (by simp) (.int .i64 ((ma + (24 - (r'.length : Int))) % 24))).below (b0 _).drew
   have kz := (((kf7.set 0 (.slice a7 (ts.length + 1) c7)).set 1 (.int .i64 (n + 1))).set 2 (.int .i64 ((ma + (24 - (r'.length : Int))) % 24))).drew
   have kbz := (((kb7.set_other ⟨w2.heap.size + 2, 0, none⟩ (.slice a7 (ts.length + 1) c7) (by simp)).set_other ⟨w2.heap.size + 2, 1, none⟩ (.int .i64 (n + 1)) (by simp)).set_other ⟨w2.heap.size + 2, 2, none⟩ (.int .i64 ((ma + (24 - (r'.length : Int))) % 24)) (by simp)).drew
   have krz := (((kr7.set_other ⟨w2.heap.size + 2, 0, none⟩ (.slice a7 (ts.length + 1) c7) (by simp; omega)).set_other ⟨w2.heap.size + 2, 1, none⟩ (.int .i64 (n + 1)) (by simp; omega)).set_other ⟨w2.heap.size + 2, 2, none⟩ (.int .i64 ((ma + (24 - (r'.length : Int))) % 24)) (by simp; omega)).drew
   have nz := (((nx7.setCell (p := ⟨w2.heap.size + 2, 0, none⟩) (by simp; omega) (.slice a7 (ts.length + 1) c7)).setCell (p := ⟨w2.heap.size + 2, 1, none⟩) (by simp; omega) (.int .i64 (n + 1))).setCell (p := ⟨w2.heap.size + 2, 2, none⟩) (by simp; omega) (.int .i64 ((ma + (24 - (r'.length : Int))) % 24))).drew
   have sz : w2.heap.size + 3 <= w7.heap.size := by have := hbel7.size; simp at this; omega
   replace oz := hid oz; replace kz := hid kz; replace kbz := hid kbz; replace krz := hid krz; replace nz := hid nz; replace sz := hid sz
   clear hp7
   go_region
   all_goals
    go_wp2
    go_roundg r'.length
    case measure => omega
    case rel => exact ⟨r', n + 1, ts ++ [ty], rfl, hs2, hsz2, hgo2, by omega, by omega, by simp; omega, _, oz.out, kz.out, kbz.out, krz.out, nz.out, by simpa using sz.out⟩
def ScanSaid : Prop := ∀ (d : Dsk) (v : Value) (w : World), RDisk w v d -> Calls Tryz.prog 75 #[v] w fun e w' => ∃ v', e = .returned (.tuple #[v', .int .i64 (scanE d)]) /\ OFnd w.heap.size 40 92 3 w' v' (scanF d) /\ Below w.heap.size w w'
theorem jK (hScan : ScanSaid) : JK where
 fit := fun s w h => disk_Fit s w h
 dnew := fun w => disk_New w
 put := fun d n t v w h => disk_PutN d n t v w h
 flush := fun d v w h => disk_FlushN d v w h
 crash := fun d x v w h hx => disk_CrashN d x v w h hx
 read := fun d n v w h => disk_Read d n v w h
 enc := fun m v w h => stamp_Encode m v w h
 free := fun r w h0 h1 => ring_Free r w h0 h1
 give := fun r n w => ring_Give r n w
 beg := fun t h nn fr vm vd vr w ht => txn_Begin t h nn fr vm vd vr w ht
 stop := fun t h vm vd vr w ht => txn_Stop t h vm vd vr w ht
 chg := fun t h b s vm vd vr w ht => txn_Change t h b s vm vd vr w ht
 fil := fun t h b s vm vd vr w ht => txn_Fill t h b s vm vd vr w ht
 rvk := fun t h b vm vd vr w ht => txn_Revoke t h b vm vd vr w ht
 get := fun l b v w h hl => txn_Get l b v w h hl
 opn := fun t v w h => txn_Open t v w h
 com := fun r t v w h hF => seal_Commit r t v w h hF
 newest := fun l hg v w h => seal_Newest l hg v w h
 check := fun l p q v w h hl hF => seal_Check l p q v w h hl hF
 replay := fun l hg v w h => scan_Replay l hg v w h
 scan := fun d v w h => (hScan d v w h).mono fun e w' ⟨v', he, hf, hb⟩ => by
  obtain ⟨vt, hv, ho⟩ := hf
  subst hv
  exact ⟨vt, he, ho, hb⟩
open Go.ChangeShapes Go.WideShapes Go.ChangeAt Go.RowKit Wb
noncomputable def laidWorld (os : Os) : World :=
 { World.holding Tryz.prog os ⟨#[], #[], []⟩ with heap := (World.holding Tryz.prog os ⟨#[], #[], []⟩).heap.modify 0 fun
     | .cells _ t frozen => .cells #[.int .i64 2, .int .i64 0, .string ⟨#[]⟩] t frozen
     | o => o }
theorem flush_laid {W : World} (hL : laidMetH Tryz.prog [("wastebook/seal.flush", .agg [.lit (.int .i64 2), .lit (.int .i64 0), .lit (.string [])])] W) :
    Sl W (flR 0).v 1 (flR 0).cs := by
 have h : laidMet Tryz.prog [("wastebook/seal.flush", .agg [.lit (.int .i64 2), .lit (.int .i64 0), .lit (.string [])])] W := hL
 obtain ⟨ps, ⟨g', t', cs, fuel, p, q, hg', ht', hvar, hd, _, _⟩, _⟩ := h
 have hg : Tryz.prog.globalNamed "wastebook/seal.flush" = some 0 := by kernel_rfl
 have hty : (Tryz.prog.globals[0]?).map (·.type) = some 127 := by kernel_rfl
 obtain rfl := Option.some.inj (hg.symm.trans hg')
 obtain rfl := Option.some.inj (hty.symm.trans ht')
 have hcs : cs.toList = [.int .i64 2, .int .i64 0, .string ⟨#[]⟩] := by
  obtain ⟨xs, m, _, hx, hl, hln, hg⟩ := DataW.trod_struct Tryz.underlying127 hd
  have hl3 : cs.toList.length = 3 := hl.trans (by kernel_rfl)
  generalize cs.toList = ls at *
  match ls, hl3, xs, hln with
  | [u0, u1, u2], _, [y0, y1, y2], _ =>
   have h0 : DataW.trod (fun _ => ()) Tryz.prog W 0 (fun _ => true) false m 3 [u0] = some y0 := hg 0 _ rfl
   have h1 : DataW.trod (fun _ => ()) Tryz.prog W 0 (fun _ => true) false m 3 [u1] = some y1 := hg 1 _ rfl
   have h2 : DataW.trod (fun _ => ()) Tryz.prog W 0 (fun _ => true) false m 9 [u2] = some y2 := hg 2 _ rfl
   obtain ⟨a0, e0, rfl, _⟩ := DataW.trod_int Tryz.underlying3 h0
   obtain ⟨a1, e1, rfl, _⟩ := DataW.trod_int Tryz.underlying3 h1
   obtain ⟨a2, e2, rfl, _⟩ := DataW.trod_string Tryz.underlying9 h2
   simp at e0 e1 e2 hx
   subst e0 e1 e2
   obtain ⟨⟨rfl, rfl, h3⟩, _⟩ := hx
   have : a2 = ⟨#[]⟩ := by
    obtain ⟨⟨l⟩⟩ := a2
    simp at h3
    subst h3
    rfl
   rw [this]
 refine ⟨some ⟨0, 0, none⟩, 1, rfl, Nat.le_refl _, by decide, .inr ⟨0, 0, rfl, fun j u hj => ?_⟩⟩
 have := World.var?_cell hg hvar j
 rw [Nat.zero_add, this]
 have e : cs[j]? = cs.toList[j]? := by simp
 rw [e, hcs]
 exact hj
open Go.RowKit Wb
theorem decodeSaid : DecodeSaid := fun s w h => stamp_DecodeO s w h
theorem oneSaid : OneSaid := fun d W br vs vw A seq r0 w h1 h2 h3 h4 h5 h6 => scan_one decodeSaid d W br vs vw A seq r0 w h1 h2 h3 h4 h5 h6
theorem scanSaid : ScanSaid := fun d v w h => scan_Scan decodeSaid oneSaid d v w h
open Go.ChangeShapes Go.WideShapes Go.ChangeAt Go.RowKit Go.Joins Wb
section
variable {H : Type} {enc : TypeId × Value -> H} {W : World} {base : Nat}
theorem read_intCell {n : Nat} {cs : List Value} {x : DataW H × List MemPlace} (h : DataW.trod enc Tryz.prog W 0 (fun _ => true) true n 3 cs = some x) : ∃ a : Int, cs = intC a /\ a <= 9223372036854775807 := by
 obtain ⟨a, e, _, w⟩ := DataW.trod_int Tryz.underlying3 h
 subst e
 refine ⟨a, rfl, ?_⟩
 unfold Lit.wf at w
 have w5 : decide (a <= IntKind.i64.max) = true := (Bool.and_eq_true _ _ ▸ w).2
 exact of_decide_eq_true w5
theorem open_ints {v : Value} {d : DataW H} {p : List MemPlace} (hv : Value.okWide Tryz.prog W .any base 35 v)
    (h : DataW.Trod enc Tryz.prog W 0 (fun _ => true) true 35 v d p) : ∃ (a : Option Addr) (c : Nat) (l : List Int), v = .slice a l.length c /\ RL intC W (.slice a l.length c) l /\ ∀ o ∈ l, o <= 9223372036854775807 := by
 obtain ⟨a, n, c, rfl⟩ := okWide_slice Tryz.underlying35 hv
 obtain ⟨fuel, hf⟩ := h
 obtain ⟨v', l, hc, hr, hd⟩ := read_RLq (f := intC) (c := 1) (Q := fun z _ => z <= 9223372036854775807) (fun _ => rfl) (by decide) Tryz.underlying35 (by kernel_rfl) (fun n cs' y hy _ => read_intCell hy) (cs := [.slice a n c]) hf
 simp only [List.cons.injEq, and_true] at hc
 subst hc
 obtain ⟨a', c', he, _⟩ := hr.form
 cases he
 refine ⟨_, _, l, rfl, hr, fun o ho => ?_⟩
 rcases hd with ⟨_, rfl⟩ | ⟨el, sp, hy, hel, hq⟩
 ·cases ho
 ·obtain ⟨i, hi, rfl⟩ := List.getElem_of_mem ho
  obtain ⟨y, hy2, hq2⟩ := hq i _ (List.getElem?_eq_getElem hi)
  exact hq2
end
end Go.Proofs.YtjhmfljlclajnacGreatDoor
namespace Wb
open Go Go.RowKit
theorem com_lenZ {r : Ring} {t : Txn} (h : comE r t = 0) : (comL r t).length <= 40 := by
 obtain ⟨h1, g, h3, h4, h5, h6⟩ := comE_zero h
 have hd := (lens g).2.1
 have hb : (bodyT t).length <= 23 := by omega
 rw [comL_split h]
 unfold comA dataS
 have e1 : (if t.dt = [] then ([] : List Stp) else [flushS]).length <= 1 := by split <;> simp
 have e2 : (if bodyT t = [] then ([] : List Stp) else [flushS]).length <= 1 := by split <;> simp
 have e3 : (List.zipWith atW (places r.head (bodyT t).length) (bodyT t)).length <= (bodyT t).length := by rw [List.length_zipWith]; omega
 simp only [List.length_append, List.length_map, List.length_cons, List.length_nil]
 omega
def remJ (j : Jn) : Nat := if j.work = 0 then 0 else j.steps.length
theorem rem_le {j : Jn} (h : InvJ j) : remJ j <= 40 := by
 unfold remJ
 split
 ·exact Nat.zero_le _
 rename_i hw0
 cases h with
 | idle hd hw => exact absurd hw hw0
 | sealing d r us k hd hw hu hn he hq hq2 hr hus hk hdk hst =>
  have := com_lenZ he
  rw [hst, List.length_drop]; omega
 | homing d k hd hw hu hn hs hp ha hk hdk hst hne =>
  have hb := hu.log.bounds
  have := (chk_ok (newestL_copies hu.log.goods) hb.1 hb.2.1).2
  rw [hst, List.length_drop]; omega
 | off hj hu => rw [hj] at hw0; exact absurd rfl hw0
 | rising d k hj hu hk hdk =>
  obtain ⟨h1, h2, h3, h4, h5⟩ := hu.scan
  obtain ⟨b1, b2⟩ := scan_bounds h1
  have := (chk_ok (newestL_copies h2) b1 b2).2
  have e : j.steps = (checkL (newestL (scanF d).txns) (scanF d).at_ (scanF d).next).drop k := by rw [hj]
  rw [e, List.length_drop]; omega
def stepA : Aj := ⟨8, 0, 0, 0, ⟨#[]⟩⟩
theorem do_step {j : Jn} (h : j.acts < 400) : doJ j stepA = stepJ { j with acts := j.acts + 1 } := by
 have hk : stepA.kind = 8 := rfl
 unfold doJ
 rw [if_neg (by omega), if_neg (by omega), if_neg (by omega), if_neg (by omega), if_pos hk]
theorem end_work {j : Jn} : (endJ j).1.work = 0 := by
 unfold endJ
 split
 ·rfl
 split
 ·rfl
 split
 ·rfl
 ·rfl
theorem end_acts {j : Jn} : (endJ j).1.acts = j.acts := by
 unfold endJ
 split
 ·rfl
 split
 ·rfl
 split
 ·rfl
 ·rfl
theorem settle_one {j : Jn} (h : InvJ j) (ha : j.acts < 400) (hw : j.work ≠ 0) : (doJ j stepA).2.code = 0 /\ remJ (doJ j stepA).1 + 1 = remJ j /\ (doJ j stepA).1.acts = j.acts + 1 := by
 rw [do_step ha]
 obtain ⟨s, r, hs, he⟩ := inv_steps h hw
 have e0 : remJ j = r.length + 1 := by unfold remJ; rw [if_neg hw, hs]; rfl
 rw [e0]
 unfold stepJ
 rw [if_neg (by exact hw)]
 dsimp only
 rw [hs]
 dsimp only
 rw [if_neg (by rw [he]; decide)]
 split
 ·rename_i hr
  refine ⟨end_code _, ?_, by rw [end_acts]⟩
  unfold remJ
  rw [if_pos end_work, hr]
  rfl
 ·refine ⟨rfl, ?_, rfl⟩
  unfold remJ
  rw [if_neg (by exact hw)]
theorem LogI.next {d : Dsk} {txs : List Txn} {q a : Int} {u : Nat} (h : LogI d txs q a u) : (scanF d).next = q := by rw [h.found]
theorem off_of {j : Jn} (h : InvJ j) (hd : j.down = true) (hw : j.work = 0) : DnI j.disk j.last := by
 cases h with
 | idle hd2 => rw [hd2] at hd; cases hd
 | sealing _ _ _ _ hd2 => rw [hd2] at hd; cases hd
 | homing _ _ hd2 => rw [hd2] at hd; cases hd
 | off hj hu => exact hu
 | rising d k hj hu => rw [hj] at hw; cases hw
def recA : Aj := ⟨11, 0, 0, 0, ⟨#[]⟩⟩
theorem do_rec {j : Jn} (ha : j.acts < 400) : doJ j recA = noJ (beginJ { j with acts := j.acts + 1 }) := by
 have hk : recA.kind = 11 := rfl
 unfold doJ
 rw [if_neg (by omega), if_neg (by omega), if_neg (by omega), if_pos hk]
theorem rec_ok {j : Jn} (h : InvJ j) (ha : j.acts < 400) (hd : j.down = true) (hw : j.work = 0) : (doJ j recA).2 = ⟨0, 0, ⟨#[]⟩⟩ /\ (doJ j recA).1.work = 3 /\ (doJ j recA).1.acts = j.acts + 1 := by
 obtain ⟨e1, e2, e3, e4, _⟩ := (off_of h hd hw).scan
 rw [do_rec ha]
 unfold beginJ
 rw [if_neg (fun hh => hh.elim (fun h1 => (Bool.false_ne_true (h1.symm.trans hd))) (fun h1 => h1 hw)), if_neg (fun hh => hh e1), if_neg (fun hh => hh e3)]
 exact ⟨rfl, rfl, rfl⟩
def upI (j : Jn) : Prop := j.down = true -> j.work = 3
theorem step_upI {j : Jn} (h : InvJ j) (hu : upI j) : upI (stepJ j).1 := by
 cases hd : j.down with
 | false => intro h2; rw [step_up h hd] at h2; cases h2
 | true =>
  have hw3 := hu hd
  have hw0 : j.work ≠ 0 := by omega
  obtain ⟨s, r, hs, he⟩ := inv_steps h hw0
  intro h2
  unfold stepJ at h2 ⊢
  rw [if_neg hw0, hs] at h2 ⊢
  dsimp only at h2 ⊢
  rw [if_neg (by rw [he]; decide)] at h2 ⊢
  split at h2
  ·rename_i hr
   unfold endJ at h2
   dsimp only at h2
   rw [if_neg (by omega), if_neg (by omega), if_pos hw3] at h2
   cases h2
  ·rename_i hr
   rw [if_neg hr]
   exact hw3
def crashA (x : Int) : Aj := ⟨10, 0, 0, x, ⟨#[]⟩⟩
theorem do_crash {j : Jn} {x : Int} (ha : j.acts < 400) : doJ j (crashA x) = noJ (crashJ { j with acts := j.acts + 1 } x) := by
 have hk : (crashA x).kind = 10 := rfl
 unfold doJ
 rw [if_neg (by omega), if_neg (by omega), if_pos hk]
 rfl
theorem crash_none {d : Dsk} {x : Int} (hg : goodD d = true) (hw : d.writes = []) (hx : 0 <= x) : crashE d x = 0 := by
 have := crash_run (l := []) hg hw (fun s hs => by cases hs) (by simp) hx
 exact this
theorem crash_ok {j : Jn} (h : InvJ j) {x : Int} (hx : 0 <= x) : crashE j.disk x = 0 := by
 cases h with
 | idle hd hw hu hn hs => exact crash_none hu.log.good hu.log.clean hx
 | sealing d r us k hd hw hu hn he hq hq2 hr hus hk hdk hst =>
  obtain ⟨ho, hlen⟩ := com_ok he
  rw [hdk]
  exact crash_run hu.log.good hu.log.clean (fun s hs => ho s (List.mem_of_mem_take hs)) (by rw [List.length_take]; omega) hx
 | homing d k hd hw hu hn hs hp ha hk hdk hst hne =>
  have hb := hu.log.bounds
  obtain ⟨ho, hlen⟩ := chk_ok (newestL_copies hu.log.goods) hb.1 hb.2.1
  rw [hdk]
  exact crash_run hu.log.good hu.log.clean (fun s hs => ho s (List.mem_of_mem_take hs)) (by rw [List.length_take]; omega) hx
 | off hj hu =>
  obtain ⟨⟨txs, q, a, u, hL, _⟩, _⟩ := hu
  exact crash_none hL.good hL.clean hx
 | rising d k hj hu hk hdk =>
  obtain ⟨⟨txs, q, a, u, hL, _⟩, _⟩ := hu
  obtain ⟨b1, b2⟩ := scan_bounds hL.scan
  obtain ⟨ho, hlen⟩ := chk_ok (newestL_copies hL.goods2) b1 b2
  rw [hdk]
  exact crash_run hL.good hL.clean (fun s hs => ho s (List.mem_of_mem_take hs)) (by rw [List.length_take]; omega) hx
theorem crash_down {j : Jn} (h : InvJ j) (ha : j.acts < 400) {x : Int} (hx : 0 <= x) : (doJ j (crashA x)).1.down = true /\ (doJ j (crashA x)).1.work = 0 /\ (doJ j (crashA x)).1.acts = j.acts + 1 /\ (doJ j (crashA x)).2 = noR 0 := by
 rw [do_crash ha]
 have e : crashE { j with acts := j.acts + 1 }.disk x = 0 := crash_ok h hx
 unfold crashJ
 rw [if_pos e]
 exact ⟨rfl, rfl, rfl, rfl⟩
theorem rec_up {j : Jn} (h : InvJ j) (ha : j.acts < 400) (hd : j.down = true) (hw : j.work = 0) : upI (doJ j recA).1 /\ (doJ j recA).1.acts = j.acts + 1 := by
 obtain ⟨h1, h2, h3⟩ := rec_ok h ha hd hw
 exact ⟨fun _ => h2, h3⟩
theorem up_one {j : Jn} (h : InvJ j) (hu : upI j) (hd : j.down = true) (ha : j.acts < 400) : upI (doJ j stepA).1 /\ remJ (doJ j stepA).1 + 1 = remJ j /\ (doJ j stepA).1.acts = j.acts + 1 := by
 have hw : j.work ≠ 0 := by have := hu hd; omega
 obtain ⟨s1, s2, s3⟩ := settle_one h ha hw
 refine ⟨?_, s2, s3⟩
 rw [do_step ha]
 exact step_upI (h.acts _) hu
theorem up_end {j : Jn} (hu : upI j) (h0 : remJ j = 0) (h : InvJ j) : j.down = false := by
 cases hd : j.down with
 | false => rfl
 | true =>
  have hw := hu hd
  obtain ⟨s, r, hs, _⟩ := inv_steps h (by omega)
  unfold remJ at h0
  rw [if_neg (by omega), hs] at h0
  cases h0
open Go Go.RowKit Go.MapKept
theorem perm4K {α : Type} (a b c d : α) (M L : List α) : (a :: b :: c :: d :: (M ++ L)).Perm (M ++ (d :: a :: b :: c :: L)) := (perm4J a b c d M L).trans ((List.perm_append_comm_assoc [a, b, c] [d] L).append_left M)
theorem Under.nilA {S : List Nat} {w0 w : World} {L0 L : List Ent} {R R' : List Rd} (h : Under L0 [] L R) (_ : St S w0 w L R') : Under L0 [] L R' := ⟨h.l, fun _ h => by cases h⟩
theorem Under.of3a {S : List Nat} {w0 w : World} {a b c : Ent} {L : List Ent} {R : List Rd} (_ : St S w0 w (a :: b :: c :: L) R) : Under [a, b, c] [] (a :: b :: c :: L) R := ⟨(((List.nil_sublist _).cons_cons _).cons_cons _).cons_cons _, fun _ h => by cases h⟩
theorem St.gsD {S : List Nat} {w0 w : World} {a : Nat} {ca : List Value} {ta : TypeId} {L : List Ent} {R : List Rd} (_ : St S w0 w (⟨a, ca, ta⟩ :: L) R) : ∃ x1, x1 = a := ⟨_, rfl⟩
end Wb
namespace Go.Proofs.YtjhmfljlclajnacGreatDoor
open Go.RowKit Wb
instance : OneT Tryz.prog 24 := ⟨⟨_, Tryz.underlying24, rfl⟩, by kernel_rfl⟩
instance : ZeroT Tryz.prog 24 [.pointer none] := ⟨by kernel_rfl⟩
instance : OneT Tryz.prog 64 := ⟨⟨_, Tryz.underlying64, rfl⟩, by kernel_rfl⟩
instance : ZeroT Tryz.prog 64 [.pointer none] := ⟨by kernel_rfl⟩
def taE5 (g5 gK : Nat) : Ent := ⟨g5, [.pointer (some ⟨gK, 0, none⟩)], 64⟩
def taE6 (g6 gj : Nat) : Ent := ⟨g6, [.pointer (some ⟨gj, 0, none⟩)], 24⟩
theorem ta_do (K : JK) {S : List Nat} {w0 w : World} {L : List Ent} {R : List Rd} {gj gK g5 g6 : Nat} {j : Jn} {M : List Ent} {Rj : List Rd} (s : BkS) (a : Aj) (hJ : WJ s.k j) (F : JF gj j M Rj) (hW : BkW s w) (hA : ApartB S w0 (bkB s) (M ++ (taE5 g5 gK :: taE6 g6 gj :: bkE gK s :: L))) (X : St S w0 w (M ++ (taE5 g5 gK :: taE6 g6 gj :: bkE gK s :: L)) (Rj ++ R)) (hFm : flR 0 ∈ R) (hs : a.text.size <= 9223372036854775807) (hn : a.n <= 9223372036854775807) (ha : 0 <= j.acts) (vs : List Value) (hv : ajC a = vs) :
    Calls Tryz.prog 23 #[.agg vs.toArray, .pointer (some ⟨g5, 0, none⟩), .pointer (some ⟨g6, 0, none⟩)] w fun e w' => ∃ s' M' Rj', e = .returned (.bool true) /\ WJ s'.k (doJ j a).1 /\ JF gj (doJ j a).1 M' Rj' /\ BkW s' w' /\ ApartB S w0 (bkB s') (M' ++ (taE5 g5 gK :: taE6 g6 gj :: bkE gK s' :: L)) /\ St S w0 w' (M' ++ (taE5 g5 gK :: taE6 g6 gj :: bkE gK s' :: L)) (Rj' ++ R) := by
 subst hv
 obtain ⟨PP, hPP⟩ : ∃ PP : World -> Prop, ∀ w', PP w' ↔ (∃ s' M' Rj', WJ s'.k (doJ j a).1 /\ JF gj (doJ j a).1 M' Rj' /\ BkW s' w' /\ ApartB S w0 (bkB s') (M' ++ (taE5 g5 gK :: taE6 g6 gj :: bkE gK s' :: L)) /\ St S w0 w' (M' ++ (taE5 g5 gK :: taE6 g6 gj :: bkE gK s' :: L)) (Rj' ++ R)) := ⟨_, fun _ => Iff.rfl⟩
 refine Calls.mono (R := fun e w' => e = .returned (.bool true) /\ PP w') ?_ (fun e w' ⟨he, hp⟩ => by
  obtain ⟨s', M', Rj', h⟩ := (hPP w').1 hp
  exact ⟨s', M', Rj', he, h⟩)
 obtain ⟨h1, h2⟩ := whole_do a hJ
 have fin : ∀ (w' : World) (x : Ent) (s' : BkS) (M3 : List Ent) (R3 : List Rd), s'.k = seeB s.k (doJ j a).1 a (doJ j a).2 -> JF gj (doJ j a).1 M3 R3 -> BkW s' w' -> ApartB S w0 (bkB s') (M3 ++ (bkE gK s' :: x :: taE5 g5 gK :: taE6 g6 gj :: L)) -> St S w0 w' (x :: taE5 g5 gK :: taE6 g6 gj :: bkE gK s' :: (M3 ++ L)) (R3 ++ R) -> PP w' := by
  intro w' x s' M3 R3 hk F3 hw ha X
  refine (hPP w').2 ⟨s', M3, R3, by rw [hk]; exact h1, F3, hw, fun b hb => ⟨(ha b hb).1, fun e he => (ha b hb).2 e ?_⟩, (X.sub (.cons _ (List.Sublist.refl _))).perm (perm3J _ _ _ _ _)⟩
  have := (perm3J _ _ _ _ _).mem_iff.2 he
  exact (perm4K x _ _ _ M3 L).mem_iff.1 (.tail _ this)
 clear hPP
 replace X := X.perm (perm3J _ _ _ _ _).symm
 have hall := hW.all
 have hA2 : ∀ b ∈ bkB s, ∀ e ∈ taE5 g5 gK :: taE6 g6 gj :: bkE gK s :: (M ++ L), e.g ≠ b := fun b hb e he => (hA b hb).2 e ((perm3J _ _ _ _ _).mem_iff.1 he)
 have hS0 : ∀ b ∈ bkB s, b ∈ S \/ w0.heap.size <= b := fun b hb => (hA b hb).1
 obtain ⟨SS, hSS⟩ : ∃ SS, (taE5 g5 gK :: taE6 g6 gj :: bkE gK s :: (M ++ L)).map Ent.g = SS := ⟨_, rfl⟩
 have hWf := fun (w' : World) (L' : List Ent) (R' : List Rd) (Y : St SS w w' L' R') => hW.same (w' := w') (fun b hb => (by rw [<- hSS] at Y; exact Y.frame (hall b hb) (hA2 b hb)))
 have hAf := fun (w' : World) (L' : List Ent) (R' : List Rd) (Y : St SS w w' L' R') (b : Nat) (hb : b ∈ bkB s) => (show ∀ e ∈ L', e.g ≠ b by rw [<- hSS] at Y; exact Y.apartB (hall b hb) (hA2 b hb))
 have hBk := fun (w' : World) (L' : List Ent) (R' : List Rd) (Y : St SS w w' L' R') => (show St S w0 w' L' R' by rw [<- hSS] at Y; exact X.back Y)
 replace X := X.root
 obtain ⟨wR, rfl⟩ : ∃ x, x = w := ⟨_, rfl⟩
 rw [hSS] at X
 have hDo := fun (w1 : World) (x : Ent) (Y : St SS wR w1 (x :: taE5 g5 gK :: taE6 g6 gj :: bkE gK s :: (M ++ L)) (Rj ++ R)) => jr_DoA K F (Y.perm (perm4J _ _ _ _ _ _)) hFm a hs hn ha _ rfl (c := (doJ j a).2.code) (n := (doJ j a).2.n) (t := (doJ j a).2.text) rfl
 have hSe := fun (w1 : World) (x : Ent) (M3 : List Ent) (R3 : List Rd) (F3 : JF gj (doJ j a).1 M3 R3) (Y : St SS wR w1 (x :: taE5 g5 gK :: taE6 g6 gj :: bkE gK s :: (M3 ++ L)) (R3 ++ R)) => bk_see (w0 := w0) K s a (doJ j a).2 F3 (hWf _ _ _ Y) (fun b hb => ⟨hS0 b hb, fun e he => hAf _ _ _ Y b hb e ((perm4K _ _ _ _ _ _).mem_iff.2 he)⟩) ((hBk _ _ _ Y).perm (perm4K _ _ _ _ _ _)) h2 hs
 have hsb : bkE gK s = ⟨gK, bkC s, 72⟩ := rfl
 have h5 : taE5 g5 gK = ⟨g5, [.pointer (some ⟨gK, 0, none⟩)], 64⟩ := rfl
 have h6 : taE6 g6 gj = ⟨g6, [.pointer (some ⟨gj, 0, none⟩)], 24⟩ := rfl
 rw [h5, h6] at X hDo hSe fin
 clear hSS hall hA2 hA hW F h1 h2 hWf hAf hBk hS0 hsb h5 h6
 show Calls Tryz.prog _ #[.agg #[.int .i64 a.kind, .int .i64 a.h, .int .i64 a.b, .int .i64 a.n, .string a.text], _, _] wR _
 unfold ajC at hDo hSe
 generalize (doJ j a).1 = J2 at *
 generalize seeB s.k J2 a (doJ j a).2 = UP at *
 generalize (doJ j a).2 = rep at *
 obtain ⟨rc, rn, rt⟩ := rep
 dsimp only at hDo hSe
 generalize a.kind = kd, a.h = hh, a.b = bb, a.n = nn, a.text = tx at *
 replace fin := hid fin; replace hDo := hid hDo; replace hSe := hid hSe; replace hFm := hid hFm; replace hJ := hid hJ
 go_enter Tryz.func23, Tryz.ntmps23
 go_upto_region 1 with (first
  | (refine Zbx ?_; clear X; intro g w X)
  | (refine ZyL ?_) | (refine ZyS ?_; clear X; intro w X) | (refine ZyA ?_; clear X; intro g w X))
 have Xf := X
 replace X := X.rds (R2 := []) (fun r h => by cases h)
 refine q_startS 3 [] [5, 6] [0, 1, 2, 3, 4] [0, 1, 2, 3, 4, 5, 6, 7] X ?_; clear X; intro hQ X hL; simp only [zF, zG] at hL; simp only [zF, zG]
 clear X
 have X := Xf.drew
 replace hL := hL.nilA X
 clear Xf
 refine Zl ?_
 refine Zl ?_
 refine Zl ?_
 refine Zl ?_
 refine Zl ?_
 refine q_callS 11 Tryz.func11 (hDo.out _ _ X) ?_; rintro e w1 ⟨M3, R3, rfl, F3, X2⟩; replace X := X2.perm (perm4J _ _ _ _ _ _).symm; clear X2; replace hL := Under.of3a X; refine Zce ?_; clear hL; intro hL
 refine q_callS 22 Tryz.func22 (hSe.out _ _ _ _ F3 X) ?_; rintro e w1 ⟨s', rfl, hk, hW, hA, X2⟩; clear X; have X := X2.perm (perm4K _ _ _ _ _ _).symm; clear X2; replace hL := Under.of3a X; refine Zce ?_; clear hL; intro hL
 refine Za ?_
 refine q_nil ?_
 go_wp2
 go_ret
 exact ⟨rfl, fin.out _ _ _ _ _ hk F3 hW hA X⟩
end Go.Proofs.YtjhmfljlclajnacGreatDoor
namespace Wb
open Go Go.RowKit Go.MapKept
theorem jAt_le (l : List Aj) : ∀ k, k <= l.length -> (jAt l k).acts <= k := by
 intro k
 induction k with
 | zero => intro _; exact Int.le_refl _
 | succ k ih =>
  intro h
  have h1 := ih (by omega)
  rw [jAt_succ (by omega), acts_do]
  split <;> omega
theorem acts_next {j : Jn} (a : Aj) : (doJ j a).1.acts <= j.acts + 1 /\ j.acts <= (doJ j a).1.acts := by
 rw [acts_do]
 split <;> omega
theorem permTB {α : Type} (a b c : α) (M : List α) : (M ++ [a, b, c]).Perm (a :: c :: (M ++ [b])) := ((((List.Perm.swap c b []).cons a).append_left M)).trans (List.perm_append_comm_assoc M [a, c] [b])
theorem permTA {α : Type} (a x y : α) (M : List α) : (a :: (M ++ [x, y])).Perm (M ++ [y, a, x]) := (List.perm_append_comm_assoc [a] M [x, y]).trans ((List.perm_append_comm (l₁ := [a, x]) (l₂ := [y])).append_left M)
end Wb
namespace Go.Proofs.YtjhmfljlclajnacGreatDoor
open Go.RowKit Wb
def TA (w0 : World) (RR : List Rd) (g5 g6 gK gj : Nat) (w : World) (J : Jn) : Prop :=
 ∃ s M Rj, WJ s.k J /\ JF gj J M Rj /\ BkW s w /\ ApartB [] w0 (bkB s) (M ++ (taE5 g5 gK :: taE6 g6 gj :: bkE gK s :: [])) /\ St [] w0 w (M ++ (taE5 g5 gK :: taE6 g6 gj :: bkE gK s :: [])) (Rj ++ RR)
section
variable {w0 w : World} {RR : List Rd} {g5 g6 gK gj : Nat} {J : Jn}
theorem TA.inv (h : TA w0 RR g5 g6 gK gj w J) : InvJ J := by
 obtain ⟨s, M, Rj, hJ, _⟩ := h
 exact hJ.inv
theorem TA.read (h : TA w0 RR g5 g6 gK gj w J) {α : Type} {f : α -> List Value} {v : Value} {l : List α} (hr : Rd.of f v l ∈ RR) : RL f w v l := by
 obtain ⟨s, M, Rj, hJ, F, hW, hA, X⟩ := h
 exact X.read (List.mem_append_right _ hr)
theorem ta_call (K : JK) (T : TA w0 RR g5 g6 gK gj w J) (hF : flR 0 ∈ RR) (a : Aj) (hs : a.text.size <= 9223372036854775807) (hn : a.n <= 9223372036854775807) (ha : 0 <= J.acts) (vs : List Value) (hv : ajC a = vs) :
    Calls Tryz.prog 23 #[.agg vs.toArray, .pointer (some ⟨g5, 0, none⟩), .pointer (some ⟨g6, 0, none⟩)] w fun e w' => e = .returned (.bool true) /\ TA w0 RR g5 g6 gK gj w' (doJ J a).1 := by
 obtain ⟨s, M, Rj, hJ, F, hW, hA, X⟩ := T
 refine (ta_do K s a hJ F hW hA X hF hs hn ha vs hv).mono fun e w' hh => ?_
 obtain ⟨s', M', Rj', he, h⟩ := hh
 exact ⟨he, s', M', Rj', h⟩
end
theorem law_TopAnywhere (K : JK) (l : List Aj) (hok : ∀ a ∈ l, a.text.size <= 9223372036854775807 /\ a.n <= 9223372036854775807) (ds : List Int) (hds : ∀ x ∈ ds, x <= 9223372036854775807) {al ad : Option Addr} {cl cd : Nat} (w0 : World) (hl : RL ajC w0 (.slice al l.length cl) l) (hd : RL intC w0 (.slice ad ds.length cd) ds) (hF : Sl w0 (flR 0).v 1 (flR 0).cs) :
    Calls Tryz.prog 7 #[.slice al l.length cl, .slice ad ds.length cd] w0 fun e w' => e = .returned (.bool true) /\ Below w0.heap.size w0 w' := by
 have X : St [] w0 w0 [] [Rd.of intC (.slice ad ds.length cd) ds, Rd.of ajC (.slice al l.length cl) l, flR 0] := (((St.start [] w0).addR0 hF).addR0 hl).addR0 hd
 obtain ⟨RR, hRR⟩ : ∃ RR, [Rd.of intC (.slice ad ds.length cd) ds, Rd.of ajC (.slice al l.length cl) l, flR 0] = RR := ⟨_, rfl⟩
 have hFm : flR 0 ∈ RR := by rw [<- hRR]; exact .tail _ (.tail _ (.head _))
 have hlm : Rd.of ajC (.slice al l.length cl) l ∈ RR := by rw [<- hRR]; exact .tail _ (.head _)
 have hdm : Rd.of intC (.slice ad ds.length cd) ds ∈ RR := by rw [<- hRR]; exact .head _
 rw [hRR] at X
 clear hRR hl hd hF
 have hN := hid (tw_newBook X)
 have hPl := hid (fun (w1 : World) (gK g5 : Nat) (s : BkS) (h1 : s.k = bk0) (h2 : BkW s w1) (h3 : ApartB [] w0 (bkB s) [bkE gK s, taE5 g5 gK]) (X : St [] w0 w1 [bkE gK s, taE5 g5 gK] RR) => wh_play K l hok h1 h2 h3 X hFm hlm)
 have hac := jAt_le l (min l.length 150) (Nat.min_le_left _ _)
 have ha0 : 0 <= (jAt l (min l.length 150)).acts /\ (jAt l (min l.length 150)).acts <= 150 := ⟨acts_at l _, by omega⟩
 clear hac
 generalize jAt l (min l.length 150) = J at *
 replace ha0 := hid ha0; replace hFm := hid hFm; replace hdm := hid hdm; replace hlm := hid hlm; replace hds := hid hds
 go_enter Tryz.func7, Tryz.ntmps7
 go_upto_region 2 with (first
  | (refine ZyL ?_) | (refine ZyS ?_; clear X; intro w X) | (refine ZyA ?_; clear X; intro g w X)
  | (go_at_call 20; ((with_reducible refine (hN.out).mono ?_); rintro e w1 ⟨gK, s, rfl, hk, hW, hA, X2⟩; have XB := X2; clear X; have X := XB.root; clear X2)))
 clear hN
 have hWb := hW.same (fun b hb => X.frame (hW.all b hb) (hA b hb).2)
 have hAb := fun b hb => X.apartB (hW.all b hb) (hA b hb).2
 obtain ⟨g5, rfl⟩ := X.gsD
 have X3 : St [] w0 _ [bkE gK s, taE5 g5 gK] RR := (XB.back X).perm (List.Perm.swap _ _ _)
 have hP := hid (hPl.out _ _ _ _ hk hWb (fun b hb => ⟨(hA b hb).1, fun e he => hAb b hb e ((List.Perm.swap _ _ _).mem_iff.1 he)⟩) X3)
 clear hPl hk hWb hAb X3 hA hW
 replace XB := hid XB
 go_upto_region 6 with (first
  | (refine ZyL ?_) | (refine ZyS ?_; clear X; intro w X) | (refine ZyA ?_; clear X; intro g w X)
  | (go_at_call 21; ((with_reducible refine (hP.out).mono ?_); rintro e w1 ⟨gj, M, Rj, s', rfl, F, hJ, hW, hA, X2⟩; clear XB; have XB := X2; clear X; have X := XB.root; clear X2)))
 clear hP
 have hWb := hW.same (fun b hb => X.frame (hW.all b hb) (hA b hb).2)
 have hAb := fun b hb => X.apartB (hW.all b hb) (hA b hb).2
 obtain ⟨g6, rfl⟩ := X.gsD
 have T : TA w0 RR g5 g6 gK gj _ J := ⟨s', M, Rj, hJ, F, hWb, fun b hb => ⟨(hA b hb).1, fun e he => hAb b hb e ((permTA _ _ _ _).mem_iff.2 he)⟩, (XB.back X).perm (permTA _ _ _ _)⟩
 clear hWb hAb F hJ hW hA XB X
 have hC := hid (fun w J (nn : Int) (T : TA w0 RR g5 g6 gK gj w J) (h1 : nn <= 9223372036854775807) (h2 : 0 <= J.acts) => ta_call K T hFm.out (crashA nn) (Nat.zero_le _) h1 h2 [.int .i64 10, .int .i64 0, .int .i64 0, .int .i64 nn, .string ⟨#[]⟩] rfl)
 have hRc := hid (fun w J (T : TA w0 RR g5 g6 gK gj w J) (h2 : 0 <= J.acts) => ta_call K T hFm.out recA (Nat.zero_le _) (show (0 : Int) <= 9223372036854775807 by decide) h2 [.int .i64 11, .int .i64 0, .int .i64 0, .int .i64 0, .string ⟨#[]⟩] rfl)
 have hSp := hid (fun w J (T : TA w0 RR g5 g6 gK gj w J) (h2 : 0 <= J.acts) => ta_call K T hFm.out stepA (Nat.zero_le _) (show (0 : Int) <= 9223372036854775807 by decide) h2 [.int .i64 8, .int .i64 0, .int .i64 0, .int .i64 0, .string ⟨#[]⟩] rfl)
 have hz30 : (30 : Int) ≠ 0 := by decide
 go_wp2
 go_loopw [9, 10] (fun i _ wr => ∃ (n : Nat) (J : Jn), n <= 4 /\ n <= ds.length /\ i = .int .i64 (n : Int) /\ (0 <= J.acts /\ J.acts <= 150 + 31 * (n : Int)) /\ TA w0 RR g5 g6 gK gj wr J) (fun i _ _ => 4 - (intOf i).toNat)
 case atStart => exact ⟨0, J, Nat.zero_le _, Nat.zero_le _, rfl, by have := ha0.out; omega, T⟩
 case round =>
  clear T ha0
  obtain ⟨n, J, hn4, hnl, rfl, hac, T⟩ := hrel
  by_cases hlt : n < ds.length /\ n < 4
  ·obtain ⟨hl1, hl2⟩ := hlt
   obtain ⟨b, off, rfl, hcell⟩ := RL.at1 (Value.int .i64) (fun _ => rfl) (T.read hdm.out) hl1
   have hx := hds.out _ (List.getElem_mem hl1)
   have hgen := fun w J (T : TA w0 RR g5 g6 gK gj w J) => (RL.at1 (Value.int .i64) (fun _ => rfl) (T.read hdm.out) hl1)
   generalize ds[n] = x at *
   obtain ⟨mx, hmx⟩ : ∃ mx, max 0 x = mx := ⟨_, rfl⟩
   have hm1 : mx <= 9223372036854775807 := by omega
   replace hm1 := hid hm1
   replace hx := hid hx; replace hgen := hid hgen
   have c1 : (n : Int) < (ds.length : Int) := by omega
   have c2 : (n : Int) < 4 := by omega
   go_upto_region 11 with (first
    | go_skip
    | (go_at_call 23; ((with_reducible refine (hC.out _ _ _ T hm1.out hac.1).mono ?_); rintro e w1 ⟨rfl, T2⟩; replace T := T2; clear T2; have hac1 := acts_next (j := J) (crashA mx)))
    | (go_at_call 23; ((with_reducible refine (hRc.out _ _ T (by omega)).mono ?_); rintro e w1 ⟨rfl, T2⟩; replace T := T2; clear T2)))
   have hac2 := acts_next (j := (doJ J (crashA mx)).1) recA
   generalize (doJ (doJ J (crashA mx)).1 recA).1 = J1 at *
   generalize (doJ J (crashA mx)).1 = Jx at *
   have hb1 : 0 <= J1.acts /\ J1.acts <= 150 + 31 * (n : Int) + 2 := by omega
   clear hac hac1 hac2 hcell hmx
   obtain ⟨q, hq⟩ : ∃ q, x.tmod 30 = q := ⟨_, rfl⟩
   have hqb : q <= 29 := by have := Int.tmod_lt_of_pos x (show (0 : Int) < 30 by decide); omega
   have hqc : -29 <= q := by have := Int.lt_tmod_of_pos x (show (0 : Int) < 30 by decide); omega
   have hwq : IntKind.i64.wrap q = q := IntWalk.i64_in _ (by omega)
   go_wp2
   obtain ⟨wo, rfl⟩ : ∃ wo : World, wo = w1 := ⟨_, rfl⟩
   go_loopw [10] (fun m wr => ∃ (k : Nat) (J : Jn), k <= 29 /\ m = .int .i64 (k : Int) /\ (0 <= J.acts /\ J.acts <= 150 + 31 * (n : Int) + 2 + k) /\ TA w0 RR g5 g6 gK gj wr J) (fun m _ => 30 - (intOf m).toNat)
   case atStart => exact ⟨0, J1, Nat.zero_le _, rfl, by omega, T⟩
   case round =>
    clear T hb1
    obtain ⟨k, J, hk, rfl, hac, T⟩ := hrel
    obtain ⟨b', off', hbe, hcell⟩ := hgen.out _ _ T
    cases hbe
    by_cases hkq : (k : Int) < q
    ·go_wp2_with (first
       | go_skip
       | (go_at_call 23; ((with_reducible refine (hSp.out _ _ T hac.1).mono ?_); rintro e w2 ⟨rfl, T2⟩; replace T := T2; clear T2)))
     have hac2 := acts_next (j := J) stepA
     go_roundw
     case rel => exact ⟨k + 1, _, by omega, by go_num, by omega, T⟩
     case measure => simp [intOf]; omega
    ·go_wp2
     go_roundw
     case rel => exact ⟨n + 1, J, by omega, by omega, by go_num, by omega, T⟩
     case measure => simp [intOf]; omega
  ·have hcd := crash_down (x := 0) T.inv (by omega) (Int.le_refl 0)
   have hI1 := inv_do (crashA 0) T.inv
   have hru := rec_up hI1 (by omega) hcd.1 hcd.2.1
   have hI2 := inv_do recA hI1
   have hrm := rem_le hI2
   have hb2 : 0 <= (doJ (doJ J (crashA 0)).1 recA).1.acts /\ (doJ (doJ J (crashA 0)).1 recA).1.acts <= 280 := by omega
   have hb1 : 0 <= (doJ J (crashA 0)).1.acts := by omega
   have hup := hru.1
   clear hcd hI1 hru hI2
   have hrm := hid hrm; replace hup := hid hup; replace hb2 := hid hb2
   have hw2 : (¬ (n : Int) < (ds.length : Int)) \/ ((n : Int) < (ds.length : Int) /\ ¬ (n : Int) < 4) := by omega
   rcases hw2 with c1 | ⟨c1, c2⟩
   all_goals
    go_upto_region 18 with (first
     | go_skip
     | (go_at_call 23; ((with_reducible refine (hC.out _ _ 0 T (show (0 : Int) <= 9223372036854775807 by decide) hac.1).mono ?_); rintro e w1 ⟨rfl, T2⟩; replace T := T2; clear T2))
     | (go_at_call 23; ((with_reducible refine (hRc.out _ _ T hb1).mono ?_); rintro e w1 ⟨rfl, T2⟩; replace T := T2; clear T2)))
    generalize (doJ (doJ J (crashA 0)).1 recA).1 = J1 at *
    clear hb1
    go_wp2
    obtain ⟨wo, rfl⟩ : ∃ wo : World, wo = w1 := ⟨_, rfl⟩
    go_loopw [11] (fun m wr => ∃ (k : Nat) (J : Jn), k <= 40 /\ m = .int .i64 (k : Int) /\ upI J /\ (J.down = true -> remJ J + k <= 40) /\ (0 <= J.acts /\ J.acts <= 280 + k) /\ TA w0 RR g5 g6 gK gj wr J) (fun m _ => 41 - (intOf m).toNat)
    case atStart => exact ⟨0, J1, Nat.zero_le _, rfl, hup.out, fun _ => by have := hrm.out; omega, by have := hb2.out; omega, T⟩
    case round =>
     clear T hup hrm hb2 hac
     obtain ⟨k, J, hk, rfl, hup, hrm, hac, T⟩ := hrel
     have hI := T.inv
     have T0 := T
     obtain ⟨s2, M2, R2, hJ2, F2, hW2, hA2, X⟩ := T0
     have hdn := hJ2.dn
     replace X : St [] w0 wr (⟨g5, [.pointer (some ⟨gK, 0, none⟩)], 64⟩ :: ⟨gK, [.map (some s2.gN), .map (some s2.gS), .int .i64 s2.k.sealed, .int .i64 s2.k.told, .bool s2.k.down], 72⟩ :: (M2 ++ [taE6 g6 gj])) (R2 ++ RR) := X.perm (permTB _ _ _ _)
     rw [hdn] at X
     clear hJ2 F2 hW2 hA2 hdn
     by_cases hk40 : k < 40
     ·have c3 : (k : Int) < 40 := by omega
      have hwn : IntKind.i64.wrap ((k : Int) + 1) = (k : Int) + 1 := IntWalk.i64_in _ (by omega)
      cases hdn : J.down with
      | true =>
       obtain ⟨u1, u2, u3⟩ := up_one hI hup hdn (by omega)
       have hrm2 := hrm hdn
       rw [hdn] at X
       replace hdn := hid hdn; replace u1 := hid u1; replace u2 := hid u2; replace u3 := hid u3; replace hrm2 := hid hrm2; replace hup := hid hup; replace hrm := hid hrm; replace hI := hid hI
       go_wp2_with (first
        | go_skip
        | (refine ZyL ?_) | (refine ZyS ?_; clear X; intro w X) | (refine ZyA ?_; clear X; intro g w X)
        | (go_at_call 23; ((with_reducible refine (hSp.out _ _ T hac.1).mono ?_); rintro e w2 ⟨rfl, T2⟩; replace T := T2; clear T2)))
       go_roundw
       case rel => exact ⟨k + 1, _, by omega, by go_num, u1.out, fun _ => by have := u2.out; have := hrm2.out; omega, by have := u3.out; omega, T⟩
       case measure => simp [intOf]; omega
      | false =>
       rw [hdn] at X
       replace hdn := hid hdn; replace hup := hid hup; replace hrm := hid hrm; replace hI := hid hI
       go_wp2_with (first
        | go_skip
        | (refine ZyL ?_) | (refine ZyS ?_; clear X; intro w X) | (refine ZyA ?_; clear X; intro g w X))
       go_ret
       exact ⟨rfl, X.below⟩
     ·have c3 : ¬ (k : Int) < 40 := by omega
      have hdn : J.down = false := by
       cases h : J.down with
       | false => rfl
       | true => have h1 := up_end hup (by have := hrm h; omega) hI; rw [h] at h1; cases h1
      rw [hdn] at X
      replace hdn := hid hdn; replace hup := hid hup; replace hrm := hid hrm; replace hI := hid hI
      go_wp2_with (first
       | go_skip
       | (refine ZyL ?_) | (refine ZyS ?_; clear X; intro w X) | (refine ZyA ?_; clear X; intro g w X))
      go_ret
      exact ⟨rfl, X.below⟩
end Go.Proofs.YtjhmfljlclajnacGreatDoor
