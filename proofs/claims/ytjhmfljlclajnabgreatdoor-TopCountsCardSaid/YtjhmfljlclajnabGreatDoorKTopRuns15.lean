/- Parts of the proof: Scan5 Tells JKi Laid LaidF Saids Play JnM LCnt. -/
import Derived.Test.YtjhmfljlclajnabGreatDoorKTopRuns14
import Derived.Test.YtjhmfljlclajnabGreatDoorKTopRuns13
import Derived.Test.YtjhmfljlclajnabGreatDoorKTopRuns8
import Derived.Test.YtjhmfljlclajnabGreatDoorUEnc
import Derived.Test.YtjhmfljlclajnabGreatDoorUPoke
import Derived.Test.YtjhmfljlclajnabGreatDoorKTopRuns5
import Derived.Test.YtjhmfljlclajnabGreatDoorUFit2
import Derived.Test.YtjhmfljlclajnabGreatDoorKTopRuns9
import Derived.Test.YtjhmfljlclajnabGreatDoorURing
import Derived.Test.YtjhmfljlclajnabGreatDoorKTopRuns10
import Derived.Test.YtjhmfljlclajnabGreatDoorKTopRuns11
import Derived.Test.YtjhmfljlclajnabGreatDoorKTopRuns12
import Derived.Test.YtjhmfljlclajnabGreatDoorKTopRuns0
import Derived.Test.YtjhmfljlclajnabGreatDoorCards
import Derived.Test.YtjhmfljlclajnabGreatDoorTie
import Derived.Test.YtjhmfljlclajnabGreatDoorKTopRuns4
import Derived.Lib.LaidTab
import Derived.Test.YtjhmfljlclajnabGreatDoorKTopRuns6
set_option linter.unusedVariables false
set_option linter.unusedSimpArgs false
namespace Go.Proofs.YtjhmfljlclajnabGreatDoor
open Go.RowKit Wb
set_option maxRecDepth 100000
set_option maxHeartbeats 40000000
theorem scan_Scan (hDec : DecodeSaid) (hOne : OneSaid) (d : Dsk) (v : Value) (w : World) (hd : RDisk w v d) :
    Calls Tryz.prog 32 #[v] w fun e w' => ∃ v', e = .returned (.tuple #[v', .int .i64 (scanE d)]) ∧ OFnd w.heap.size 54 136 3 w' v' (scanF d) ∧ Below w.heap.size w w' := by
  have hd0 := hd
  obtain ⟨vs, vw, rfl, hs, hw, n1, n2⟩ := hd
  obtain ⟨as_, cs, rfl, _⟩ := hs.form
  obtain ⟨aw, cw, rfl, _⟩ := hw.form
  have hR := fun w' (hh : RDisk w' (.agg #[.slice as_ d.safe.length cs, .slice aw d.writes.length cw]) d) => disk_Read d 0 _ w' hh
  have hsz := readD_size d 0
  have hD := fun w' => hDec (readD d 0) w' (by omega)
  have hbd := fun h => dec_bds (s := readD d 0) h
  have hLs := fun A => logL_size d A
  have hLx := fun A => sfx_all d A
  have hLl := fun A => logL_len d A
  have hx2 : readE d 0 ≠ 0 → readE d 0 = 2 ∧ scanE d = 2 ∧ scanF d = ⟨[], 0, 0⟩ := fun h => by
    have h1 : scanE d = 2 := by unfold scanE; rw [if_neg h]
    refine ⟨?_, h1, ?_⟩
    · unfold readE at h ⊢
      split
      · rename_i hh; rw [if_pos hh] at h; exact absurd rfl h
      · rfl
    · unfold scanF; rw [if_neg (by rw [h1]; decide)]
  have hx1 : readE d 0 = 0 → ¬ (decE (readD d 0) = 0 ∧ (decM (readD d 0)).kind = 1) → scanE d = 1 ∧ scanF d = ⟨[], 0, 0⟩ := fun h h2 => by
    have h1 : scanE d = 1 := by unfold scanE; rw [if_pos h, if_neg h2]
    refine ⟨h1, ?_⟩
    unfold scanF; rw [if_neg (by rw [h1]; decide)]
  have hx0 : readE d 0 = 0 → decE (readD d 0) = 0 ∧ (decM (readD d 0)).kind = 1 → scanE d = 0 ∧ scanF d = ⟨(scanGo 25 (logL d (decM (readD d 0)).at_) (decM (readD d 0)).seq).1, (scanGo 25 (logL d (decM (readD d 0)).at_) (decM (readD d 0)).seq).2.1, ((decM (readD d 0)).at_ + (24 - ((scanGo 25 (logL d (decM (readD d 0)).at_) (decM (readD d 0)).seq).2.2.length : Int))) % 24⟩ := fun h h2 => by
    have h1 : scanE d = 0 := by unfold scanE; rw [if_pos h, if_pos h2]
    refine ⟨h1, ?_⟩
    unfold scanF; rw [if_pos h1]
  generalize scanE d = sE at *
  generalize scanF d = sF at *
  generalize readE d 0 = re at *
  generalize readD d 0 = s0 at *
  generalize decE s0 = de at *
  generalize decM s0 = M at *
  obtain ⟨mk, ms, ma, tags, blocks⟩ := M
  dsimp only at *
  have kd : Blk ((w.alloc (.cells #[.slice as_ d.safe.length cs, .slice aw d.writes.length cw] 47)).alloc (.cells #[.slice none 0 0, .int .i64 0, .int .i64 0] 59)) w.heap.size #[.slice as_ d.safe.length cs, .slice aw d.writes.length cw] 47 := (Blk.new w _ _).alloc _
  have kr : Blk ((w.alloc (.cells #[.slice as_ d.safe.length cs, .slice aw d.writes.length cw] 47)).alloc (.cells #[.slice none 0 0, .int .i64 0, .int .i64 0] 59)) (w.heap.size + 1) #[.slice none 0 0, .int .i64 0, .int .i64 0] 59 := Blk.newAt (by simp)
  have nx : Below w.heap.size w ((w.alloc (.cells #[.slice as_ d.safe.length cs, .slice aw d.writes.length cw] 47)).alloc (.cells #[.slice none 0 0, .int .i64 0, .int .i64 0] 59)) := bal (bal (b0 w) _) _
  have a0 := kd.cell 0; have a1 := kd.cell 1
  simp only [Zga, Zgb, Zgc] at a0 a1
  replace hR := hid (hR _ (hd0.below nx)); replace hD := hid hD; replace hLs := hid hLs; replace hLx := hid hLx; replace hLl := hid hLl; replace hd0 := hid hd0
  clear hs hw
  by_cases hre : re = 0
  rotate_left
  · obtain ⟨rfl, rfl, rfl⟩ := hx2 hre
    clear hx1 hx0 hx2 hre hbd
    go_enter Tryz.func32, Tryz.ntmps32
    go_wp2_with (go_at_call 42; go_loud ((with_reducible refine hR.out.mono ?_); rintro e w1 ⟨rfl, hb1⟩; replace kr := kr.step hb1; replace nx := bgo nx hb1; have r0 := kr.cell 0; have r1 := kr.cell 1; have r2 := kr.cell 2; have z0 := kr.free 0; have z1 := kr.free 1; have z2 := kr.free 2; simp only [Zga, Zgb, Zgc] at r0 r1 r2))
    exact bodyPost_ret (v := .tuple #[.agg #[.slice none 0 0, .int .i64 0, .int .i64 0], .int .i64 2]) (by simp [results, Tryz.results32, go_sem, r0, r1, r2]) rfl ⟨_, rfl, ⟨_, rfl, OTxns.nil _ _ _ _ _⟩, ((nx.setCell (by simp) _).setCell (by simp) _).setCell (by simp) _⟩
  by_cases hsu : de = 0 ∧ mk = 1
  rotate_left
  · obtain ⟨rfl, rfl⟩ := hx1 hre hsu
    subst hre
    clear hx1 hx0 hx2 hbd
    by_cases hde : de = 0
    · have hde2 : (de != 0) = false := by rw [hde]; rfl
      have hmk : (mk != 1) = true := bne_iff_ne.2 (fun h => hsu ⟨hde, h⟩)
      clear hsu hde
      go_enter Tryz.func32, Tryz.ntmps32
      go_wp2_with (go_at_call 42; go_loud ((with_reducible refine hR.out.mono ?_); rintro e w1 ⟨rfl, hb1⟩; replace kr := kr.step hb1; replace nx := bgo nx hb1))
      go_wp2_with (go_at_call 58; go_loud ((with_reducible refine (hD.out _).mono ?_); rintro e w2 ⟨v2, rfl, hmk, hb2⟩; obtain ⟨vt, vb, rfl, ot, ob, t1, t2⟩ := hmk; dsimp only at ot ob t1 t2 ⊢; obtain ⟨at_, ct, rfl⟩ := ot.form; obtain ⟨ab, cb, rfl⟩ := ob.form; replace kr := kr.step hb2; replace nx := bgo nx hb2; have r0 := kr.cell 0; have r1 := kr.cell 1; have r2 := kr.cell 2; have z0 := kr.free 0; have z1 := kr.free 1; have z2 := kr.free 2; simp only [Zga, Zgb, Zgc] at r0 r1 r2; have lr := kr.lt))
      exact bodyPost_ret (v := .tuple #[.agg #[.slice none 0 0, .int .i64 0, .int .i64 0], .int .i64 1]) (by simp [results, Tryz.results32, go_sem, r0, r1, r2, lr]) rfl ⟨_, rfl, ⟨_, rfl, OTxns.nil _ _ _ _ _⟩, bal (((nx.setCell (p := ⟨w.heap.size + 1, 0, none⟩) (by simp) _).setCell (p := ⟨w.heap.size + 1, 1, none⟩) (by simp) _).setCell (p := ⟨w.heap.size + 1, 2, none⟩) (by simp) _) _⟩
    · have hde2 : (de != 0) = true := bne_iff_ne.2 hde
      clear hsu hde
      go_enter Tryz.func32, Tryz.ntmps32
      go_wp2_with (go_at_call 42; go_loud ((with_reducible refine hR.out.mono ?_); rintro e w1 ⟨rfl, hb1⟩; replace kr := kr.step hb1; replace nx := bgo nx hb1))
      go_wp2_with (go_at_call 58; go_loud ((with_reducible refine (hD.out _).mono ?_); rintro e w2 ⟨v2, rfl, hmk, hb2⟩; obtain ⟨vt, vb, rfl, ot, ob, t1, t2⟩ := hmk; dsimp only at ot ob t1 t2 ⊢; obtain ⟨at_, ct, rfl⟩ := ot.form; obtain ⟨ab, cb, rfl⟩ := ob.form; replace kr := kr.step hb2; replace nx := bgo nx hb2; have r0 := kr.cell 0; have r1 := kr.cell 1; have r2 := kr.cell 2; have z0 := kr.free 0; have z1 := kr.free 1; have z2 := kr.free 2; simp only [Zga, Zgb, Zgc] at r0 r1 r2; have lr := kr.lt))
      exact bodyPost_ret (v := .tuple #[.agg #[.slice none 0 0, .int .i64 0, .int .i64 0], .int .i64 1]) (by simp [results, Tryz.results32, go_sem, r0, r1, r2, lr]) rfl ⟨_, rfl, ⟨_, rfl, OTxns.nil _ _ _ _ _⟩, bal (((nx.setCell (p := ⟨w.heap.size + 1, 0, none⟩) (by simp) _).setCell (p := ⟨w.heap.size + 1, 1, none⟩) (by simp) _).setCell (p := ⟨w.heap.size + 1, 2, none⟩) (by simp) _) _⟩
  obtain ⟨rfl, hF⟩ := hx0 hre hsu
  obtain ⟨rfl, rfl⟩ := hsu
  subst hre
  obtain ⟨_, _, q3, q4, q5, q6⟩ := hbd rfl
  clear hx0 hx1 hx2 hbd
  have hL0 := hid (hLx.out ma)
  have hL1 := hid (hLs.out ma)
  have hL2 := hLl.out ma
  generalize logL d ma = L at *
  have hG0 := hid (show (scanGo 25 L ms) = scanGo (L.length + 1) L ms by rw [hL2])
  replace hF := hid hF
  generalize hGG : scanGo 25 L ms = G at *
  have hA0 : (ma + (24 - ((24 : Nat) : Int))) % 24 = ma := by omega
  have hrd : rdrC (.slice as_ d.safe.length cs) (.slice aw d.writes.length cw) ma L.length = #[.slice as_ d.safe.length cs, .slice aw d.writes.length cw, .int .i64 ma, .int .i64 24] := by unfold rdrC; rw [hL2, hA0]; rfl
  clear hLs hLx hLl hGG
  replace hrd := hid hrd
  go_enter Tryz.func32, Tryz.ntmps32
  go_wp2_with (go_at_call 42; go_loud ((with_reducible refine hR.out.mono ?_); rintro e w1 ⟨rfl, hb1⟩; replace kr := kr.step hb1; replace kd := kd.step hb1; replace nx := bgo nx hb1))
  go_wp2_with (go_at_call 58; go_loud ((with_reducible refine (hD.out _).mono ?_); rintro e w2 ⟨v2, rfl, hmk, hb2⟩; obtain ⟨vt, vb, rfl, ot, ob, t1, t2⟩ := hmk; dsimp only at ot ob t1 t2 ⊢; obtain ⟨at_, ct, rfl⟩ := ot.form; obtain ⟨ab, cb, rfl⟩ := ob.form; replace kr := kr.step hb2; replace kd := kd.step hb2; replace nx := bgo nx hb2; clear a0 a1; have a0 := kd.cell 0; have a1 := kd.cell 1; simp only [Zga, Zgb, Zgc] at a0 a1; have lr := kr.lt; have ld := kd.lt))
  have hat0 : (ma + (24 - (L.length : Int))) % 24 = ma := by rw [hL2]; omega
  have kb0 : Blk (((w2.alloc (.cells #[.int .i64 1, .int .i64 ms, .int .i64 ma, .slice at_ tags.length ct, .slice ab blocks.length cb] 68)).alloc (.cells #[.slice as_ d.safe.length cs, .slice aw d.writes.length cw, .int .i64 ma, .int .i64 24] 132)).alloc (.cells #[.slice none 0 0, .int .i64 ms, .int .i64 ma] 59)) (w2.heap.size + 1) (rdrC (.slice as_ d.safe.length cs) (.slice aw d.writes.length cw) ma L.length) 132 := by rw [hrd.out]; exact (Blk.newAt (by simp)).alloc _
  have kf0 : Blk (((w2.alloc (.cells #[.int .i64 1, .int .i64 ms, .int .i64 ma, .slice at_ tags.length ct, .slice ab blocks.length cb] 68)).alloc (.cells #[.slice as_ d.safe.length cs, .slice aw d.writes.length cw, .int .i64 ma, .int .i64 24] 132)).alloc (.cells #[.slice none 0 0, .int .i64 ms, .int .i64 ma] 59)) (w2.heap.size + 2) #[.slice none 0 0, .int .i64 ms, .int .i64 ((ma + (24 - (L.length : Int))) % 24)] 59 := by rw [hat0]; exact Blk.newAt (by simp)
  have kr0 := ((kr.alloc (.cells #[.int .i64 1, .int .i64 ms, .int .i64 ma, .slice at_ tags.length ct, .slice ab blocks.length cb] 68)).alloc (.cells #[.slice as_ d.safe.length cs, .slice aw d.writes.length cw, .int .i64 ma, .int .i64 24] 132)).alloc (.cells #[.slice none 0 0, .int .i64 ms, .int .i64 ma] 59)
  have nx0 := bal (bal (bal nx (.cells #[.int .i64 1, .int .i64 ms, .int .i64 ma, .slice at_ tags.length ct, .slice ab blocks.length cb] 68)) (.cells #[.slice as_ d.safe.length cs, .slice aw d.writes.length cw, .int .i64 ma, .int .i64 24] 132)) (.cells #[.slice none 0 0, .int .i64 ms, .int .i64 ma] 59)
  have s0 : w2.heap.size + 3 ≤ (((w2.alloc (.cells #[.int .i64 1, .int .i64 ms, .int .i64 ma, .slice at_ tags.length ct, .slice ab blocks.length cb] 68)).alloc (.cells #[.slice as_ d.safe.length cs, .slice aw d.writes.length cw, .int .i64 ma, .int .i64 24] 132)).alloc (.cells #[.slice none 0 0, .int .i64 ms, .int .i64 ma] 59)).heap.size := by simp
  have lw2 := kr.lt
  have hgo0 := hid (show ([] : List Txn) ++ (scanGo (L.length + 1) L ms).1 = G.1 ∧ (scanGo (L.length + 1) L ms).2 = G.2 by rw [← hG0.out]; exact ⟨rfl, rfl⟩)
  clear hat0 kd ot ob hG0 hrd
  go_loopg [9, 10] L.length (fun g _ _ wr => ∃ (r : List ByteArray) (n : Int) (ts : List Txn), g = r.length ∧ Hid (sfx d ma r) ∧ Hid (∀ s ∈ r, s.size ≤ 9223372036854775807) ∧ Hid (ts ++ (scanGo (r.length + 1) r n).1 = G.1 ∧ (scanGo (r.length + 1) r n).2 = G.2) ∧ 1 ≤ n ∧ n ≤ 2147483647 ∧ ts.length + r.length ≤ 24 ∧ ∃ vt, OTxns (w2.heap.size + 3) 54 136 3 wr vt ts ∧ Blk wr (w2.heap.size + 2) #[vt, .int .i64 n, .int .i64 ((ma + (24 - (r.length : Int))) % 24)] 59 ∧ Blk wr (w2.heap.size + 1) (rdrC (.slice as_ d.safe.length cs) (.slice aw d.writes.length cw) ma r.length) 132 ∧ Blk wr (w.heap.size + 1) #[.slice none 0 0, .int .i64 0, .int .i64 0] 59 ∧ Below w.heap.size w wr ∧ w2.heap.size + 3 ≤ wr.heap.size)
  case atStart => exact ⟨L, ms, [], rfl, hL0, hL1, hgo0, q5, q6, by simp; omega, _, OTxns.nil _ _ _ _ _, kf0, kb0, kr0, nx0, s0⟩
  case round =>
    clear kb0 kf0 kr0 nx0 s0 hgo0 hL0 hL1 kr nx a0 a1 ld lr
    obtain ⟨r, n, ts, rfl, hs, hsz, hgo, b1, b2, hb, vt, hox, kf, kb, kr, nx, hg3⟩ := hrel
    obtain ⟨a, c, rfl⟩ := hox.form
    have lf := kf.lt; have lb := kb.lt; have lr := kr.lt
    have f0 := kf.cell 0; have f1 := kf.cell 1; have f2 := kf.cell 2
    have r0 := kr.cell 0; have r1 := kr.cell 1; have r2 := kr.cell 2
    have z0 := kr.free 0; have z1 := kr.free 1; have z2 := kr.free 2
    simp only [Zga, Zgb, Zgc] at f0 f1 f2 r0 r1 r2
    by_cases hlt : n < 2147483647
    rotate_left
    · have hFF := hid (show sF = ⟨ts, n, ((ma + (24 - (r.length : Int))) % 24)⟩ by
        obtain ⟨g1, g2⟩ := hgo.out
        rw [scanGo_full hlt] at g1 g2
        rw [hF.out, ← g1, ← g2]
        simp)
      clear hgo hF
      go_wp2
      have oz := ((hox.setCell (p := ⟨w.heap.size + 1, 0, none⟩) (by simp; omega) (.slice a ts.length c)).setCell (p := ⟨w.heap.size + 1, 1, none⟩) (by simp; omega) (.int .i64 n)).setCell (p := ⟨w.heap.size + 1, 2, none⟩) (by simp; omega) (.int .i64 ((ma + (24 - (r.length : Int))) % 24))
      have nz := ((nx.setCell (p := ⟨w.heap.size + 1, 0, none⟩) (by simp) (.slice a ts.length c)).setCell (p := ⟨w.heap.size + 1, 1, none⟩) (by simp) (.int .i64 n)).setCell (p := ⟨w.heap.size + 1, 2, none⟩) (by simp) (.int .i64 ((ma + (24 - (r.length : Int))) % 24))
      exact bodyPost_ret (v := .tuple #[.agg #[.slice a ts.length c, .int .i64 n, .int .i64 ((ma + (24 - (r.length : Int))) % 24)], .int .i64 0]) (by simp [results, Tryz.results32, go_sem, r0, r1, r2]) rfl ⟨_, rfl, by rw [hFF.out]; exact ⟨_, rfl, oz.mono (by omega)⟩, nz⟩
    have hw1 : IntKind.i64.wrap (n + 1) = n + 1 := IntWalk.i64_in _ (by omega)
    cases hp : parseT n 25 r (txn0 n) with
    | none =>
      have hFF := hid (show sF = ⟨ts, n, ((ma + (24 - (r.length : Int))) % 24)⟩ by
        obtain ⟨g1, g2⟩ := hgo.out
        rw [scanGo_stop hp] at g1 g2
        rw [hF.out, ← g1, ← g2]
        simp)
      have hO := hid (one_none hOne d w (w2.heap.size + 1) (.slice as_ d.safe.length cs) (.slice aw d.writes.length cw) ma n r wr nx hd0.out (by omega) hs.out hsz.out kb hp)
      clear hgo hF hp
      go_wp2_with (go_at_call 59; go_loud ((with_reducible refine hO.out.mono ?_); rintro e w4 ⟨rfl, n4, kb4, g4⟩; replace hox := hox.grownBlk kb (by decide) (by decide) (by decide) g4; replace kf := kf.grown g4 (by simp); replace kr := kr.grown g4 (by simp; omega); replace nx := gBelow g4 nx nx.size (by omega); clear f0 f1 f2 r0 r1 r2 z0 z1 z2 lf lr; have lf := kf.lt; have lr := kr.lt; have f0 := kf.cell 0; have f1 := kf.cell 1; have f2 := kf.cell 2; have r0 := kr.cell 0; have r1 := kr.cell 1; have r2 := kr.cell 2; have z0 := kr.free 0; have z1 := kr.free 1; have z2 := kr.free 2; simp only [Zga, Zgb, Zgc] at f0 f1 f2 r0 r1 r2))
      have oz := (((hox.setCell (p := ⟨w.heap.size + 1, 0, none⟩) (by simp; omega) (.slice a ts.length c)).setCell (p := ⟨w.heap.size + 1, 1, none⟩) (by simp; omega) (.int .i64 n)).setCell (p := ⟨w.heap.size + 1, 2, none⟩) (by simp; omega) (.int .i64 ((ma + (24 - (r.length : Int))) % 24))).below (bal (b0 _) (.cells #[.int .i64 0, .slice none 0 0, .slice none 0 0, .slice none 0 0, .bool false, .int .i64 0, .bool false, .int .i64 0, .bool false, .int .i64 0] 54))
      have nz := bal (((nx.setCell (p := ⟨w.heap.size + 1, 0, none⟩) (by simp) (.slice a ts.length c)).setCell (p := ⟨w.heap.size + 1, 1, none⟩) (by simp) (.int .i64 n)).setCell (p := ⟨w.heap.size + 1, 2, none⟩) (by simp) (.int .i64 ((ma + (24 - (r.length : Int))) % 24))) (.cells #[.int .i64 0, .slice none 0 0, .slice none 0 0, .slice none 0 0, .bool false, .int .i64 0, .bool false, .int .i64 0, .bool false, .int .i64 0] 54)
      exact bodyPost_ret (v := .tuple #[.agg #[.slice a ts.length c, .int .i64 n, .int .i64 ((ma + (24 - (r.length : Int))) % 24)], .int .i64 0]) (by simp [results, Tryz.results32, go_sem, r0, r1, r2, lr]) rfl ⟨_, rfl, by rw [hFF.out]; exact ⟨_, rfl, oz.mono (by omega)⟩, nz⟩
    | some p =>
      obtain ⟨t, r'⟩ := p
      have hO := hid (one_some hOne d w (w2.heap.size + 1) (.slice as_ d.safe.length cs) (.slice aw d.writes.length cw) ma n r wr nx hd0.out (by omega) hs.out hsz.out kb hp)
      have hlen := parseT_len hp
      have hs2 := hid (parseT_sfx hp hs.out)
      have hsz2 := hid (fun x hx => hsz.out x (parseT_sub hp x hx))
      have hgo2 := hid (show (ts ++ [t]) ++ (scanGo (r'.length + 1) r' (n + 1)).1 = G.1 ∧ (scanGo (r'.length + 1) r' (n + 1)).2 = G.2 by
        obtain ⟨g1, g2⟩ := hgo.out
        obtain ⟨g3, g4⟩ := scanGo_step hlt hp
        rw [g3] at g1
        rw [g4] at g2
        exact ⟨by rw [List.append_assoc]; exact g1, g2⟩)
      clear hgo hp hs hsz r0 r1 r2 z0 z1 z2
      obtain ⟨xs, hox1, hxm, hxo⟩ := hox
      have hxl : xs.length = ts.length := by rw [← hxm]; simp
      replace hxl := hid hxl; replace hxm := hid hxm; replace hxo := hid hxo
      go_wp2_with (first
        | (go_at_call 59; go_loud ((with_reducible refine hO.out.mono ?_); rintro e w4 ⟨v4, rfl, ot, kb4, g4⟩; obtain ⟨y, hyt, hv, hoy⟩ := ot.tv; obtain ⟨ty, ⟨q1, q2, q3⟩, ⟨q4, q5, q6⟩, ⟨q7, q8, q9⟩⟩ := y; dsimp only at hyt; subst hyt; dsimp only [TV.val, txnV, SlV.val] at hv; subst hv; have lw4 := g4.size; replace nx := bal (gBelow g4 nx nx.size (by omega)) (.cells #[.int .i64 ty.seq, .slice q1 q2 q3, .slice q4 q5 q6, .slice q7 q8 q9, .bool ty.h0.on, .int .i64 ty.h0.left, .bool ty.h1.on, .int .i64 ty.h1.left, .bool ty.h2.on, .int .i64 ty.h2.left] 54); have hxo4 := hid (fun x hx => ((hxo.out x hx).grownBlk kb (by decide) (by decide) g4).below (bal (b0 w4) (.cells #[.int .i64 ty.seq, .slice q1 q2 q3, .slice q4 q5 q6, .slice q7 q8 q9, .bool ty.h0.on, .int .i64 ty.h0.left, .bool ty.h1.on, .int .i64 ty.h1.left, .bool ty.h2.on, .int .i64 ty.h2.left] 54))); have hox4 := (hox1.grownBlk kb (by decide) g4).alloc (.cells #[.int .i64 ty.seq, .slice q1 q2 q3, .slice q4 q5 q6, .slice q7 q8 q9, .bool ty.h0.on, .int .i64 ty.h0.left, .bool ty.h1.on, .int .i64 ty.h1.left, .bool ty.h2.on, .int .i64 ty.h2.left] 54); replace kf := (kf.grown g4 (by simp)).alloc (.cells #[.int .i64 ty.seq, .slice q1 q2 q3, .slice q4 q5 q6, .slice q7 q8 q9, .bool ty.h0.on, .int .i64 ty.h0.left, .bool ty.h1.on, .int .i64 ty.h1.left, .bool ty.h2.on, .int .i64 ty.h2.left] 54); replace kr := (kr.grown g4 (by simp; omega)).alloc (.cells #[.int .i64 ty.seq, .slice q1 q2 q3, .slice q4 q5 q6, .slice q7 q8 q9, .bool ty.h0.on, .int .i64 ty.h0.left, .bool ty.h1.on, .int .i64 ty.h1.left, .bool ty.h2.on, .int .i64 ty.h2.left] 54); replace kb4 := kb4.alloc (.cells #[.int .i64 ty.seq, .slice q1 q2 q3, .slice q4 q5 q6, .slice q7 q8 q9, .bool ty.h0.on, .int .i64 ty.h0.left, .bool ty.h1.on, .int .i64 ty.h1.left, .bool ty.h2.on, .int .i64 ty.h2.left] 54); have hoy4 := hid ((hoy.mono (b2 := w2.heap.size + 3) (by omega)).below (bal (b0 w4) (.cells #[.int .i64 ty.seq, .slice q1 q2 q3, .slice q4 q5 q6, .slice q7 q8 q9, .bool ty.h0.on, .int .i64 ty.h0.left, .bool ty.h1.on, .int .i64 ty.h1.left, .bool ty.h2.on, .int .i64 ty.h2.left] 54))); clear f0 f1 f2 lf hoy ot; have lf := kf.lt; have f0 := kf.cell 0; simp only [Zga, Zgb, Zgc] at f0; have kt := Blk.new w4 #[.int .i64 ty.seq, .slice q1 q2 q3, .slice q4 q5 q6, .slice q7 q8 q9, .bool ty.h0.on, .int .i64 ty.h0.left, .bool ty.h1.on, .int .i64 ty.h1.left, .bool ty.h2.on, .int .i64 ty.h2.left] 54; have x0 := kt.cell 0; have x1 := kt.cell 1; have x2 := kt.cell 2; have x3 := kt.cell 3; have x4 := kt.cell 4; have x5 := kt.cell 5; have x6 := kt.cell 6; have x7 := kt.cell 7; have x8 := kt.cell 8; have x9 := kt.cell 9; simp only [Zga, Zgb, Zgc] at x0 x1 x2 x3 x4 x5 x6 x7 x8 x9))
        | (at_builtin; go_loud (refine wpList_push1 rfl _ _ _ rfl (w2.heap.size + 3) _ 10 128 tvC_flat elemTxn hox4 rfl ⟨ty, ⟨q1, q2, q3⟩, ⟨q4, q5, q6⟩, ⟨q7, q8, q9⟩⟩ rfl rfl ts.length hxl.out (by omega) (by omega) (by simp; omega) ?_; intro a7 c7 w7 hown7 hbel7 hg7; have kf7 := kf.below hbel7 (by omega); have kr7 := kr.below hbel7 (by omega); have kb7 := kb4.below hbel7 (by omega); have nx7 := nx.trans (hbel7.mono (by omega)); have lf7 := kf7.lt; have y0 := kf7.cell 0; have y1 := kf7.cell 1; have y2 := kf7.cell 2; have u0 := kf7.free 0; have u1 := kf7.free 1; have u2 := kf7.free 2; have d2 := kb7.cell 2; simp only [Zga, Zgb, Zgc] at y0 y1 y2; simp only [rdrC, Zga, Zgb, Zgc] at d2)))
      have hp7 := OTxns.pushed hox4 hxo4.out hoy4.out (by decide) (by decide) hown7 hg7
      rw [hxm.out] at hp7
      have oz := (((hp7.setCell (p := ⟨w2.heap.size + 2, 0, none⟩) (by simp) (.slice a7 (ts.length + 1) c7)).setCell (p := ⟨w2.heap.size + 2, 1, none⟩) (by simp) (.int .i64 (n + 1))).setCell (p := ⟨w2.heap.size + 2, 2, none⟩) (by simp) (.int .i64 ((ma + (24 - (r'.length : Int))) % 24))).below (b0 _).drew
      have kz := (((kf7.set 0 (.slice a7 (ts.length + 1) c7)).set 1 (.int .i64 (n + 1))).set 2 (.int .i64 ((ma + (24 - (r'.length : Int))) % 24))).drew
      have kbz := (((kb7.set_other ⟨w2.heap.size + 2, 0, none⟩ (.slice a7 (ts.length + 1) c7) (by simp)).set_other ⟨w2.heap.size + 2, 1, none⟩ (.int .i64 (n + 1)) (by simp)).set_other ⟨w2.heap.size + 2, 2, none⟩ (.int .i64 ((ma + (24 - (r'.length : Int))) % 24)) (by simp)).drew
      have krz := (((kr7.set_other ⟨w2.heap.size + 2, 0, none⟩ (.slice a7 (ts.length + 1) c7) (by simp; omega)).set_other ⟨w2.heap.size + 2, 1, none⟩ (.int .i64 (n + 1)) (by simp; omega)).set_other ⟨w2.heap.size + 2, 2, none⟩ (.int .i64 ((ma + (24 - (r'.length : Int))) % 24)) (by simp; omega)).drew
      have nz := (((nx7.setCell (p := ⟨w2.heap.size + 2, 0, none⟩) (by simp; omega) (.slice a7 (ts.length + 1) c7)).setCell (p := ⟨w2.heap.size + 2, 1, none⟩) (by simp; omega) (.int .i64 (n + 1))).setCell (p := ⟨w2.heap.size + 2, 2, none⟩) (by simp; omega) (.int .i64 ((ma + (24 - (r'.length : Int))) % 24))).drew
      have sz : w2.heap.size + 3 ≤ w7.heap.size := by have := hbel7.size; simp at this; omega
      replace oz := hid oz; replace kz := hid kz; replace kbz := hid kbz; replace krz := hid krz; replace nz := hid nz; replace sz := hid sz
      clear hp7
      go_region
      all_goals
        go_wp2
        go_roundg r'.length
        case measure => omega
        case rel => exact ⟨r', n + 1, ts ++ [ty], rfl, hs2, hsz2, hgo2, by omega, by omega, by simp; omega, _, oz.out, kz.out, kbz.out, krz.out, nz.out, by simpa using sz.out⟩
end Go.Proofs.YtjhmfljlclajnabGreatDoor
namespace Go.Proofs.YtjhmfljlclajnabGreatDoor
open Go.RowKit Wb
set_option maxRecDepth 100000
set_option maxHeartbeats 4000000
def ScanSaid : Prop := ∀ (d : Dsk) (v : Value) (w : World), RDisk w v d → Calls Tryz.prog 32 #[v] w fun e w' => ∃ v', e = .returned (.tuple #[v', .int .i64 (scanE d)]) ∧ OFnd w.heap.size 54 136 3 w' v' (scanF d) ∧ Below w.heap.size w w'
end Go.Proofs.YtjhmfljlclajnabGreatDoor
namespace Go.Proofs.YtjhmfljlclajnabGreatDoor
open Go.RowKit Wb
theorem jK (hScan : ScanSaid) : JK where
  fit := fun s w h => disk_Fit s w h
  dnew := fun w => disk_New w
  put := fun d n t v w h => disk_PutN d n t v w h
  flush := fun d v w h => disk_FlushN d v w h
  crash := fun d x v w h hx => disk_CrashN d x v w h hx
  read := fun d n v w h => disk_Read d n v w h
  enc := fun m v w h => stamp_Encode m v w h
  free := fun r w h0 h1 => ring_Free r w h0 h1
  give := fun r n w => ring_Give r n w
  beg := fun t h nn fr vm vd vr w ht => txn_Begin t h nn fr vm vd vr w ht
  stop := fun t h vm vd vr w ht => txn_Stop t h vm vd vr w ht
  chg := fun t h b s vm vd vr w ht => txn_Change t h b s vm vd vr w ht
  fil := fun t h b s vm vd vr w ht => txn_Fill t h b s vm vd vr w ht
  rvk := fun t h b vm vd vr w ht => txn_Revoke t h b vm vd vr w ht
  get := fun l b v w h hl => txn_Get l b v w h hl
  opn := fun t v w h => txn_Open t v w h
  com := fun r t v w h hF => seal_Commit r t v w h hF
  newest := fun l hg v w h => seal_Newest l hg v w h
  check := fun l p q v w h hl hF => seal_Check l p q v w h hl hF
  replay := fun l hg v w h => scan_Replay l hg v w h
  scan := fun d v w h => (hScan d v w h).mono fun e w' ⟨v', he, hf, hb⟩ => by
    obtain ⟨vt, hv, ho⟩ := hf
    subst hv
    exact ⟨vt, he, ho, hb⟩
end Go.Proofs.YtjhmfljlclajnabGreatDoor
namespace Go.Proofs.YtjhmfljlclajnabGreatDoor
open Go.ChangeShapes Go.WideShapes Go.ChangeAt Go.RowKit Wb
noncomputable def laidWorld (os : Os) : World :=
  { World.holding Tryz.prog os ⟨#[], #[], []⟩ with heap := (World.holding Tryz.prog os ⟨#[], #[], []⟩).heap.modify 0 fun
      | .cells _ t frozen => .cells #[.int .i64 2, .int .i64 0, .string ⟨#[]⟩] t frozen
      | o => o }
end Go.Proofs.YtjhmfljlclajnabGreatDoor
namespace Go.Proofs.YtjhmfljlclajnabGreatDoor
open Go.ChangeShapes Go.WideShapes Go.ChangeAt Go.RowKit Wb
set_option maxRecDepth 100000
theorem flush_laid {W : World} (hL : laidMetH Tryz.prog [("wastebook/seal.flush", .agg [.lit (.int .i64 2), .lit (.int .i64 0), .lit (.string [])])] W) :
    Sl W (flR 0).v 1 (flR 0).cs := by
  have h : laidMet Tryz.prog [("wastebook/seal.flush", .agg [.lit (.int .i64 2), .lit (.int .i64 0), .lit (.string [])])] W := hL
  obtain ⟨ps, ⟨g', t', cs, fuel, p, q, hg', ht', hvar, hd, _, _⟩, _⟩ := h
  have hg : Tryz.prog.globalNamed "wastebook/seal.flush" = some 0 := by kernel_rfl
  have hty : (Tryz.prog.globals[0]?).map (·.type) = some 97 := by kernel_rfl
  obtain rfl := Option.some.inj (hg.symm.trans hg')
  obtain rfl := Option.some.inj (hty.symm.trans ht')
  have hcs : cs.toList = [.int .i64 2, .int .i64 0, .string ⟨#[]⟩] := by
    obtain ⟨xs, m, _, hx, hl, hln, hg⟩ := DataW.trod_struct Tryz.underlying97 hd
    have hl3 : cs.toList.length = 3 := hl.trans (by kernel_rfl)
    generalize cs.toList = ls at *
    match ls, hl3, xs, hln with
    | [u0, u1, u2], _, [y0, y1, y2], _ =>
      have h0 : DataW.trod (fun _ => ()) Tryz.prog W 0 (fun _ => true) false m 3 [u0] = some y0 := hg 0 _ rfl
      have h1 : DataW.trod (fun _ => ()) Tryz.prog W 0 (fun _ => true) false m 3 [u1] = some y1 := hg 1 _ rfl
      have h2 : DataW.trod (fun _ => ()) Tryz.prog W 0 (fun _ => true) false m 9 [u2] = some y2 := hg 2 _ rfl
      obtain ⟨a0, e0, rfl, _⟩ := DataW.trod_int Tryz.underlying3 h0
      obtain ⟨a1, e1, rfl, _⟩ := DataW.trod_int Tryz.underlying3 h1
      obtain ⟨a2, e2, rfl, _⟩ := DataW.trod_string Tryz.underlying9 h2
      simp at e0 e1 e2 hx
      subst e0 e1 e2
      obtain ⟨⟨rfl, rfl, h3⟩, _⟩ := hx
      have : a2 = ⟨#[]⟩ := by
        obtain ⟨⟨l⟩⟩ := a2
        simp at h3
        subst h3
        rfl
      rw [this]
  refine ⟨some ⟨0, 0, none⟩, 1, rfl, Nat.le_refl _, by decide, .inr ⟨0, 0, rfl, fun j u hj => ?_⟩⟩
  have := World.var?_cell hg hvar j
  rw [Nat.zero_add, this]
  have e : cs[j]? = cs.toList[j]? := by simp
  rw [e, hcs]
  exact hj
end Go.Proofs.YtjhmfljlclajnabGreatDoor
namespace Go.Proofs.YtjhmfljlclajnabGreatDoor
open Go.RowKit Wb
theorem decodeSaid : DecodeSaid := fun s w h => stamp_DecodeO s w h
theorem oneSaid : OneSaid := fun d W br vs vw A seq r0 w h1 h2 h3 h4 h5 h6 => scan_one decodeSaid d W br vs vw A seq r0 w h1 h2 h3 h4 h5 h6
theorem scanSaid : ScanSaid := fun d v w h => scan_Scan decodeSaid oneSaid d v w h
end Go.Proofs.YtjhmfljlclajnabGreatDoor
namespace Go.Proofs.YtjhmfljlclajnabGreatDoor
open Go.RowKit Wb
set_option maxRecDepth 100000
set_option maxHeartbeats 16000000
def LookF (S : List Nat) (w0 : World) (R : List Rd) {σ : Type} (l : List Aj) (N : FuncId) (caps : Array Value) (T : σ → List Ent → List Rd → Prop) (Ph : Nat → σ → Prop) : Prop :=
  ∀ (k : Nat) (hk : k < l.length), k < 150 → ∀ s, Ph k s → ∀ (L : List Ent) (gj : Nat) (w : World) (M : List Ent) (Rj : List Rd) (Ms : List Ent) (Rs : List Rd), JF gj (jAt l (k + 1)) M Rj → T s Ms Rs → St S w0 w (M ++ (Ms ++ L)) (Rj ++ (Rs ++ R)) →
    Calls Tryz.prog N (#[.pointer (some ⟨gj, 0, none⟩), .agg (ajC l[k]).toArray, .agg #[.int .i64 (doJ (jAt l k) l[k]).2.code, .int .i64 (doJ (jAt l k) l[k]).2.n, .string (doJ (jAt l k) l[k]).2.text]] ++ caps) w fun e w' =>
      ∃ s' M' Rj' Ms' Rs', e = .returned (.bool true) ∧ Ph (k + 1) s' ∧ JF gj (jAt l (k + 1)) M' Rj' ∧ T s' Ms' Rs' ∧ St S w0 w' (M' ++ (Ms' ++ L)) (Rj' ++ (Rs' ++ R))
theorem permG {α : Type} (a : α) (M D L : List α) : (a :: (M ++ (D ++ L))).Perm (M ++ (D ++ (a :: L))) := (perm1J a M (D ++ L)).trans ((perm1J a D L).append_left M)
theorem acts_at (l : List Aj) : ∀ k, 0 ≤ (jAt l k).acts := by
  intro k
  unfold jAt
  generalize hj : newJ = j
  have h0 : 0 ≤ j.acts := by rw [← hj]; exact new_acts
  clear hj
  induction l.take k generalizing j with
  | nil => exact h0
  | cons a r ih => exact ih _ (acts_ge a h0)
theorem jr_play (K : JK) {S : List Nat} {w0 w : World} {L : List Ent} {R : List Rd} {σ : Type} (l : List Aj) (hok : ∀ a ∈ l, a.text.size ≤ 9223372036854775807 ∧ a.n ≤ 9223372036854775807) (N : FuncId) (caps : Array Value) (T : σ → List Ent → List Rd → Prop) (Ph : Nat → σ → Prop) (s0 : σ) (Ms : List Ent) (Rs : List Rd) (hT : T s0 Ms Rs) (hP : Ph 0 s0) (X : St S w0 w (Ms ++ L) (Rs ++ R)) (hF : flR 0 ∈ R) {al : Option Addr} {cl : Nat} (hl : Rd.of ajC (.slice al l.length cl) l ∈ R)
    (hb : ∃ fn c, Tryz.prog.funcs[N]? = some fn ∧ (fn.name == "runtime.NumGoroutine") = false ∧ fn.body = some c) (hLk : LookF S w0 R l N caps T Ph) :
    Calls Tryz.prog 5 #[.slice al l.length cl, .func (.func N) #[] caps] w fun e w' => ∃ gj M Rj s Ms Rs, e = .returned (.tuple #[.pointer (some ⟨gj, 0, none⟩), .bool true]) ∧ JF gj (jAt l (min l.length 150)) M Rj ∧ T s Ms Rs ∧ Ph (min l.length 150) s ∧ St S w0 w' (M ++ (Ms ++ L)) (Rj ++ (Rs ++ R)) := by
  have hAl := hid (jr_alive K X (List.mem_append_right _ hF))
  replace hLk := hid hLk
  replace hok := hid hok
  go_enter Tryz.func5, Tryz.ntmps5
  go_upto_region 3 with (first
    | (refine ZyL ?_) | (refine ZyS ?_; clear X; intro w X) | (refine ZyA ?_; clear X; intro g w X)
    | (go_at_call 8; go_loud ((with_reducible refine (hAl.out).mono ?_); rintro e w1 ⟨rfl, X2⟩; replace X := X2; clear X2)))
  clear hAl
  have hN := hid (jr_New K X)
  go_upto_region 4 with (first
    | (refine ZyL ?_) | (refine ZyS ?_; clear X; intro w X) | (refine ZyA ?_; clear X; intro g w X)
    | (go_at_call 10; go_loud ((with_reducible refine (hN.out).mono ?_); rintro e w1 ⟨gj, M, Rj, rfl, F, X2⟩; replace X := X2; clear X2)))
  clear hN
  go_wp2
  go_loopw [7] (fun i wr => ∃ (k : Nat) (s : _) (M : List Ent) (Rj : List Rd) (Ms : List Ent) (Rs : List Rd), k ≤ l.length ∧ k ≤ 150 ∧ i = .int .i64 k ∧ JF gj (jAt l k) M Rj ∧ T s Ms Rs ∧ Ph k s ∧ St S w0 wr (M ++ (Ms ++ L)) (Rj ++ (Rs ++ R))) (fun i _ => l.length - (intOf i).toNat)
  case atStart => exact ⟨0, s0, M, Rj, Ms, Rs, Nat.zero_le _, Nat.zero_le _, rfl, F, hT, hP, X⟩
  case round =>
    clear X F hP hT Ms Rs s0
    obtain ⟨k, s, M, Rj, Ms, Rs, hk1, hk2, rfl, F, hT, hP, X⟩ := hrel
    by_cases hlt : k < l.length
    · by_cases h150 : k < 150
      · obtain ⟨b4, off4, hb4, d0, d1, d2, d3, d4⟩ := RL.atAj (X.read (List.mem_append_right _ (List.mem_append_right _ hl))) hlt
        subst hb4
        have hoka := hok.out _ (List.getElem_mem hlt)
        have hD := hid (jr_DoA K F X (List.mem_append_right _ hF) l[k] hoka.1 hoka.2 (acts_at l k) [.int .i64 l[k].kind, .int .i64 l[k].h, .int .i64 l[k].b, .int .i64 l[k].n, .string l[k].text] rfl (c := (doJ (jAt l k) l[k]).2.code) (n := (doJ (jAt l k) l[k]).2.n) (t := (doJ (jAt l k) l[k]).2.text) rfl)
        have hD2 := fun L gj w M Rj F X => hLk.out k hlt h150 s hP L gj w M Rj Ms Rs F hT X
        clear hoka
        rw [← jAt_succ hlt] at hD
        replace hD2 := hid hD2
        have c1 : (k : Int) < (l.length : Int) := by omega
        have c2 : (k : Int) < 150 := by omega
        go_upto_region 8 with (first
          | (refine ZyL ?_) | (refine ZyS ?_; clear X; intro w X) | (refine ZyA ?_; clear X; intro g w X)
          | (go_at_call 11; go_loud ((with_reducible refine (hD.out).mono ?_); rintro e w1 ⟨M2, R2, rfl, F2, X2⟩; replace X := X2; clear X2)))
        clear hD
        (refine q_startS 1 [7] [7] [5, 6] [0, 1, 2, 3, 4, 5, 6, 7, 8] X ?_; clear X; intro hQ X hL; simp only [zF, zG] at hL; simp only [zF, zG])
        (refine Zm ?_)
        (refine Zm ?_)
        (refine Zm ?_)
        (refine Zm ?_)
        (refine Zg ?_)
        refine q_elemN ajC_len hlt rfl rfl (List.mem_append_right _ (List.mem_append_right _ hl)) Zev rfl rfl X hL hQ ?_
        (simp only [Act.put, zA, zB, zC, zD, zE, zF, zG, Nat.reduceAdd])
        (refine Zl ?_)
        refine q_callV N _ _ rfl rfl Zev _ rfl hb rfl rfl (hD2.out _ _ _ _ _ F2 (X.perm (permG _ _ _ _))) ?_
        rintro e w1 ⟨s2, M3, R3, Ms2, Rs2, rfl, hP2, F3, hT2, X3⟩
        refine ⟨_, rfl, fun h => absurd h (by decide), ?_⟩
        clear hL X
        have X := X3
        clear X3
        (simp only [Act.put, zA, zB, zC, zD, zE, zF, zG, Nat.reduceAdd])
        (refine Zg ?_)
        refine q_nil ?_
        go_wp2
        go_roundw
        case rel => exact ⟨k + 1, s2, M3, R3, Ms2, Rs2, by omega, by omega, by go_num, F3, hT2, hP2, X.sub ((List.Sublist.refl _).append ((List.Sublist.refl _).append (List.sublist_cons_self _ _)))⟩
        case measure => simp [intOf]; omega
      · have c1 : (k : Int) < (l.length : Int) := by omega
        have c2 : ¬ (k : Int) < 150 := by omega
        have hm : min l.length 150 = k := by omega
        replace hm := hid hm
        go_wp2_with (first
          | (refine ZyL ?_) | (refine ZyS ?_; clear X; intro w X) | (refine ZyA ?_; clear X; intro g w X))
        rw [hm.out]
        first
          | exact bodyPost_ret (results_tmp2 rfl _ _ _) rfl ⟨_, _, _, _, _, _, rfl, F, hT, hP, X⟩
          | exact bodyPost_ret (results_tmp2 rfl _ _ _) rfl ⟨_, rfl, _, _, F, _, _, _, hT, hP, X⟩
    · have hm : min l.length 150 = k := by omega
      replace hm := hid hm
      go_wp2_with (first
        | (refine ZyL ?_) | (refine ZyS ?_; clear X; intro w X) | (refine ZyA ?_; clear X; intro g w X))
      rw [hm.out]
      first
        | exact bodyPost_ret (results_tmp2 rfl _ _ _) rfl ⟨_, _, _, _, _, _, rfl, F, hT, hP, X⟩
        | exact bodyPost_ret (results_tmp2 rfl _ _ _) rfl ⟨_, rfl, _, _, F, _, _, _, hT, hP, X⟩
end Go.Proofs.YtjhmfljlclajnabGreatDoor
namespace Wb
open Go Go.RowKit
theorem DnI.lastB {d : Dsk} {x : Int} (h : DnI d x) : 0 ≤ x ∧ x ≤ 2147483646 := by
  obtain ⟨txs, q, a, u, _, h1, h2⟩ := h.log
  exact ⟨h.last, by omega⟩
theorem InvJ.lastB {j : Jn} (h : InvJ j) : 0 ≤ j.last ∧ j.last ≤ 2147483646 := by
  cases h with
  | idle hd hw hu hn hs => exact ⟨hu.last.1, by have := hu.last.2; omega⟩
  | sealing d r u k hd hw hu => exact ⟨hu.last.1, by have := hu.last.2; omega⟩
  | homing d k hd hw hu => exact ⟨hu.last.1, by have := hu.last.2; omega⟩
  | off hj hu => exact hu.lastB
  | rising d k hj hu => exact hu.lastB
theorem perm4J {α : Type} (a b c d : α) (M L : List α) : (a :: b :: c :: d :: (M ++ L)).Perm (M ++ (a :: b :: c :: d :: L)) := List.perm_append_comm_assoc [a, b, c, d] M L
end Wb
namespace Go.Proofs.YtjhmfljlclajnabGreatDoor
open Go.RowKit Wb
set_option maxRecDepth 100000
set_option maxHeartbeats 16000000
def tcT (gl gd : Nat) (s : Int × Bool) (Ms : List Ent) (Rs : List Rd) : Prop := Ms = [⟨gd, [.bool s.2], 4⟩, ⟨gl, [.int .i64 s.1], 3⟩] ∧ Rs = []
def tcP (l : List Aj) (k : Nat) (s : Int × Bool) : Prop := s = ((jAt l k).last, (jAt l k).down) ∧ InvJ (jAt l k)
theorem tc_look {S : List Nat} {w0 : World} {R : List Rd} (l : List Aj) (gl gd : Nat) : LookF S w0 R l 6 #[.pointer (some ⟨gl, 0, none⟩), .pointer (some ⟨gd, 0, none⟩)] (tcT gl gd) (tcP l) := by
  intro k hk h150 s hP L gj w M Rj Ms Rs F hT X
  obtain ⟨rfl, hI⟩ := hP
  obtain ⟨rfl, rfl⟩ := hT
  have hC := counts l[k] hI
  have hI2 := inv_do l[k] hI
  have hb1 := hI.lastB
  have hb2 := hI2.lastB
  rw [← jAt_succ hk] at hC hI2 hb2
  replace X := X.perm (perm2J _ _ _ _).symm
  dsimp only at X
  show Calls Tryz.prog _ #[.pointer (some ⟨gj, 0, none⟩), .agg #[.int .i64 l[k].kind, .int .i64 l[k].h, .int .i64 l[k].b, .int .i64 l[k].n, .string l[k].text], .agg #[.int .i64 _, .int .i64 _, .string _], .pointer (some ⟨gl, 0, none⟩), .pointer (some ⟨gd, 0, none⟩)] w _
  have fin : ∀ (w' : World) (a b c : Ent), St S w0 w' (a :: b :: c :: ⟨gd, [.bool (jAt l (k + 1)).down], 4⟩ :: ⟨gl, [.int .i64 (jAt l (k + 1)).last], 3⟩ :: (M ++ L)) (Rj ++ ([] ++ R)) → ∃ s' M' Rj' Ms' Rs', tcP l (k + 1) s' ∧ JF gj (jAt l (k + 1)) M' Rj' ∧ tcT gl gd s' Ms' Rs' ∧ St S w0 w' (M' ++ (Ms' ++ L)) (Rj' ++ (Rs' ++ R)) := by
    intro w' a b c X
    refine ⟨_, M, Rj, _, [], ⟨rfl, hI2⟩, F, ⟨rfl, rfl⟩, ?_⟩
    exact (X.sub (.cons _ (.cons _ (.cons _ (List.Sublist.refl _))))).perm (perm2J _ _ _ _)
  generalize hJ : jAt l (k + 1) = J at *
  generalize (jAt l k).last = n0, (jAt l k).down = d0 at *
  generalize (doJ (jAt l k) l[k]).2.code = rc, (doJ (jAt l k) l[k]).2.n = rn, (doJ (jAt l k) l[k]).2.text = rt at *
  generalize l[k].kind = kd at *
  obtain ⟨c1, c2, c3, c4⟩ := hC
  have hRi := fun (w : World) (L : List Ent) (R : List Rd) (X : St S w0 w (M ++ L) (Rj ++ R)) => jr_Ring F X
  unfold Ring.val at hRi
  generalize hn : J.last = n at *
  generalize hdn : J.down = d at *
  have hw1 : IntKind.i64.wrap (n - n0) = n - n0 := IntWalk.i64_in _ (by omega)
  have hw2 : IntKind.i64.wrap (n + 1) = n + 1 := IntWalk.i64_in _ (by omega)
  have hlt : decide (n < n0) = false := decide_eq_false (by omega)
  replace fin := hid fin
  replace hRi := hid hRi
  replace F := hid F
  clear hI hI2 hb1 hb2 hJ
  by_cases k8 : kd = 8
  · have f8 : (kd == 8) = true := by rw [k8]; rfl
    have f6 : (kd == 6) = false := by rw [k8]; rfl
    by_cases hgt : n0 < n
    · have fgt : decide (n0 < n) = true := decide_eq_true hgt
      by_cases h1 : n = n0 + 1
      · have e1 : (n - n0 == 1) = true := by rw [h1]; simp; omega
        have hn8 := c3 k8
        by_cases hp : 0 < rn
        · have e3 : (rn != n) = false := by rw [hn8 hp]; simp
          have fp : decide (0 < rn) = true := decide_eq_true hp
          (try replace k8 := hid k8); (try replace h1 := hid h1); (try replace hp := hid hp); (try replace hgt := hid hgt); (try replace h0 := hid h0); (try replace k6 := hid k6); (try clear e4); (try clear hn8); clear c1 c2 c3 c4
          go_enter Tryz.func6, Tryz.ntmps6
          go_upto_region 1 with (first
            | (refine Zbx ?_; clear X; intro g w X)
            | (refine ZyL ?_) | (refine ZyS ?_; clear X; intro w X) | (refine ZyA ?_; clear X; intro g w X))
          have hR := hid (hRi.out _ _ _ (X.perm (perm4J _ _ _ _ _ _)))
          go_upto_region 2 with (first
            | (refine ZyL ?_) | (refine ZyS ?_; clear X; intro w X) | (refine ZyA ?_; clear X; intro g w X)
            | (go_at_call 7; go_loud ((with_reducible refine (hR.out).mono ?_); rintro e w1 ⟨rfl, X2⟩; replace X := X2.perm (perm4J _ _ _ _ _ _).symm; clear X2 hR)))
          have q1 := X.cell (.tail _ (.tail _ (.tail _ (.tail _ (.head _))))) 0
          have q2 := X.cell (.tail _ (.tail _ (.tail _ (.head _)))) 0
          have q3 := X.cell (.tail _ (.tail _ (.head _))) 0
          have q4 := X.cell (.tail _ (.head _)) 0
          have q5 := X.cell (.tail _ (.head _)) 1
          simp only [List.getElem?_cons_succ, List.getElem?_cons_zero] at q1 q2 q3 q4 q5
          go_upto_region 6 with (first
            | go_guarded)
          clear q1 q2 q3 q4 q5
          go_wp2_with (first
            | (refine ZyL ?_) | (refine ZyS ?_; clear X; intro w X) | (refine ZyA ?_; clear X; intro g w X))
          go_ret
          obtain ⟨s', M', Rj', Ms', Rs', h1, h2, h3, h4⟩ := fin.out _ _ _ _ X
          exact ⟨s', M', Rj', Ms', Rs', rfl, h1, h2, h3, h4⟩
        · have fp : decide (0 < rn) = false := decide_eq_false hp
          (try replace k8 := hid k8); (try replace h1 := hid h1); (try replace hp := hid hp); (try replace hgt := hid hgt); (try replace h0 := hid h0); (try replace k6 := hid k6); (try clear e4); (try clear hn8); clear c1 c2 c3 c4
          go_enter Tryz.func6, Tryz.ntmps6
          go_upto_region 1 with (first
            | (refine Zbx ?_; clear X; intro g w X)
            | (refine ZyL ?_) | (refine ZyS ?_; clear X; intro w X) | (refine ZyA ?_; clear X; intro g w X))
          have hR := hid (hRi.out _ _ _ (X.perm (perm4J _ _ _ _ _ _)))
          go_upto_region 2 with (first
            | (refine ZyL ?_) | (refine ZyS ?_; clear X; intro w X) | (refine ZyA ?_; clear X; intro g w X)
            | (go_at_call 7; go_loud ((with_reducible refine (hR.out).mono ?_); rintro e w1 ⟨rfl, X2⟩; replace X := X2.perm (perm4J _ _ _ _ _ _).symm; clear X2 hR)))
          have q1 := X.cell (.tail _ (.tail _ (.tail _ (.tail _ (.head _))))) 0
          have q2 := X.cell (.tail _ (.tail _ (.tail _ (.head _)))) 0
          have q3 := X.cell (.tail _ (.tail _ (.head _))) 0
          have q4 := X.cell (.tail _ (.head _)) 0
          have q5 := X.cell (.tail _ (.head _)) 1
          simp only [List.getElem?_cons_succ, List.getElem?_cons_zero] at q1 q2 q3 q4 q5
          go_upto_region 6 with (first
            | go_guarded)
          clear q1 q2 q3 q4 q5
          go_wp2_with (first
            | (refine ZyL ?_) | (refine ZyS ?_; clear X; intro w X) | (refine ZyA ?_; clear X; intro g w X))
          go_ret
          obtain ⟨s', M', Rj', Ms', Rs', h1, h2, h3, h4⟩ := fin.out _ _ _ _ X
          exact ⟨s', M', Rj', Ms', Rs', rfl, h1, h2, h3, h4⟩
      · have e1 : (n - n0 == 1) = false := beq_eq_false_iff_ne.2 (by omega)
        obtain ⟨_, hc⟩ := c2 hgt
        obtain ⟨rfl, rfl⟩ := hc.resolve_left h1
        have hn8 := c3 k8
        by_cases hp : 0 < rn
        · have e3 : (rn != n) = false := by rw [hn8 hp]; simp
          have fp : decide (0 < rn) = true := decide_eq_true hp
          (try replace k8 := hid k8); (try replace h1 := hid h1); (try replace hp := hid hp); (try replace hgt := hid hgt); (try replace h0 := hid h0); (try replace k6 := hid k6); (try clear e4); (try clear hn8); clear c1 c2 c3 c4
          go_enter Tryz.func6, Tryz.ntmps6
          go_upto_region 1 with (first
            | (refine Zbx ?_; clear X; intro g w X)
            | (refine ZyL ?_) | (refine ZyS ?_; clear X; intro w X) | (refine ZyA ?_; clear X; intro g w X))
          have hR := hid (hRi.out _ _ _ (X.perm (perm4J _ _ _ _ _ _)))
          go_upto_region 2 with (first
            | (refine ZyL ?_) | (refine ZyS ?_; clear X; intro w X) | (refine ZyA ?_; clear X; intro g w X)
            | (go_at_call 7; go_loud ((with_reducible refine (hR.out).mono ?_); rintro e w1 ⟨rfl, X2⟩; replace X := X2.perm (perm4J _ _ _ _ _ _).symm; clear X2 hR)))
          have q1 := X.cell (.tail _ (.tail _ (.tail _ (.tail _ (.head _))))) 0
          have q2 := X.cell (.tail _ (.tail _ (.tail _ (.head _)))) 0
          have q3 := X.cell (.tail _ (.tail _ (.head _))) 0
          have q4 := X.cell (.tail _ (.head _)) 0
          have q5 := X.cell (.tail _ (.head _)) 1
          simp only [List.getElem?_cons_succ, List.getElem?_cons_zero] at q1 q2 q3 q4 q5
          go_upto_region 6 with (first
            | go_guarded)
          clear q1 q2 q3 q4 q5
          go_wp2_with (first
            | (refine ZyL ?_) | (refine ZyS ?_; clear X; intro w X) | (refine ZyA ?_; clear X; intro g w X))
          go_ret
          obtain ⟨s', M', Rj', Ms', Rs', h1, h2, h3, h4⟩ := fin.out _ _ _ _ X
          exact ⟨s', M', Rj', Ms', Rs', rfl, h1, h2, h3, h4⟩
        · have fp : decide (0 < rn) = false := decide_eq_false hp
          (try replace k8 := hid k8); (try replace h1 := hid h1); (try replace hp := hid hp); (try replace hgt := hid hgt); (try replace h0 := hid h0); (try replace k6 := hid k6); (try clear e4); (try clear hn8); clear c1 c2 c3 c4
          go_enter Tryz.func6, Tryz.ntmps6
          go_upto_region 1 with (first
            | (refine Zbx ?_; clear X; intro g w X)
            | (refine ZyL ?_) | (refine ZyS ?_; clear X; intro w X) | (refine ZyA ?_; clear X; intro g w X))
          have hR := hid (hRi.out _ _ _ (X.perm (perm4J _ _ _ _ _ _)))
          go_upto_region 2 with (first
            | (refine ZyL ?_) | (refine ZyS ?_; clear X; intro w X) | (refine ZyA ?_; clear X; intro g w X)
            | (go_at_call 7; go_loud ((with_reducible refine (hR.out).mono ?_); rintro e w1 ⟨rfl, X2⟩; replace X := X2.perm (perm4J _ _ _ _ _ _).symm; clear X2 hR)))
          have q1 := X.cell (.tail _ (.tail _ (.tail _ (.tail _ (.head _))))) 0
          have q2 := X.cell (.tail _ (.tail _ (.tail _ (.head _)))) 0
          have q3 := X.cell (.tail _ (.tail _ (.head _))) 0
          have q4 := X.cell (.tail _ (.head _)) 0
          have q5 := X.cell (.tail _ (.head _)) 1
          simp only [List.getElem?_cons_succ, List.getElem?_cons_zero] at q1 q2 q3 q4 q5
          go_upto_region 6 with (first
            | go_guarded)
          clear q1 q2 q3 q4 q5
          go_wp2_with (first
            | (refine ZyL ?_) | (refine ZyS ?_; clear X; intro w X) | (refine ZyA ?_; clear X; intro g w X))
          go_ret
          obtain ⟨s', M', Rj', Ms', Rs', h1, h2, h3, h4⟩ := fin.out _ _ _ _ X
          exact ⟨s', M', Rj', Ms', Rs', rfl, h1, h2, h3, h4⟩
    · have fgt : decide (n0 < n) = false := decide_eq_false hgt
      have hn8 := c3 k8
      by_cases hp : 0 < rn
      · have e3 : (rn != n) = false := by rw [hn8 hp]; simp
        have fp : decide (0 < rn) = true := decide_eq_true hp
        (try replace k8 := hid k8); (try replace h1 := hid h1); (try replace hp := hid hp); (try replace hgt := hid hgt); (try replace h0 := hid h0); (try replace k6 := hid k6); (try clear e4); (try clear hn8); clear c1 c2 c3 c4
        go_enter Tryz.func6, Tryz.ntmps6
        go_upto_region 1 with (first
          | (refine Zbx ?_; clear X; intro g w X)
          | (refine ZyL ?_) | (refine ZyS ?_; clear X; intro w X) | (refine ZyA ?_; clear X; intro g w X))
        have hR := hid (hRi.out _ _ _ (X.perm (perm4J _ _ _ _ _ _)))
        go_upto_region 2 with (first
          | (refine ZyL ?_) | (refine ZyS ?_; clear X; intro w X) | (refine ZyA ?_; clear X; intro g w X)
          | (go_at_call 7; go_loud ((with_reducible refine (hR.out).mono ?_); rintro e w1 ⟨rfl, X2⟩; replace X := X2.perm (perm4J _ _ _ _ _ _).symm; clear X2 hR)))
        have q1 := X.cell (.tail _ (.tail _ (.tail _ (.tail _ (.head _))))) 0
        have q2 := X.cell (.tail _ (.tail _ (.tail _ (.head _)))) 0
        have q3 := X.cell (.tail _ (.tail _ (.head _))) 0
        have q4 := X.cell (.tail _ (.head _)) 0
        have q5 := X.cell (.tail _ (.head _)) 1
        simp only [List.getElem?_cons_succ, List.getElem?_cons_zero] at q1 q2 q3 q4 q5
        go_upto_region 6 with (first
          | go_guarded)
        clear q1 q2 q3 q4 q5
        go_wp2_with (first
          | (refine ZyL ?_) | (refine ZyS ?_; clear X; intro w X) | (refine ZyA ?_; clear X; intro g w X))
        go_ret
        obtain ⟨s', M', Rj', Ms', Rs', h1, h2, h3, h4⟩ := fin.out _ _ _ _ X
        exact ⟨s', M', Rj', Ms', Rs', rfl, h1, h2, h3, h4⟩
      · have fp : decide (0 < rn) = false := decide_eq_false hp
        (try replace k8 := hid k8); (try replace h1 := hid h1); (try replace hp := hid hp); (try replace hgt := hid hgt); (try replace h0 := hid h0); (try replace k6 := hid k6); (try clear e4); (try clear hn8); clear c1 c2 c3 c4
        go_enter Tryz.func6, Tryz.ntmps6
        go_upto_region 1 with (first
          | (refine Zbx ?_; clear X; intro g w X)
          | (refine ZyL ?_) | (refine ZyS ?_; clear X; intro w X) | (refine ZyA ?_; clear X; intro g w X))
        have hR := hid (hRi.out _ _ _ (X.perm (perm4J _ _ _ _ _ _)))
        go_upto_region 2 with (first
          | (refine ZyL ?_) | (refine ZyS ?_; clear X; intro w X) | (refine ZyA ?_; clear X; intro g w X)
          | (go_at_call 7; go_loud ((with_reducible refine (hR.out).mono ?_); rintro e w1 ⟨rfl, X2⟩; replace X := X2.perm (perm4J _ _ _ _ _ _).symm; clear X2 hR)))
        have q1 := X.cell (.tail _ (.tail _ (.tail _ (.tail _ (.head _))))) 0
        have q2 := X.cell (.tail _ (.tail _ (.tail _ (.head _)))) 0
        have q3 := X.cell (.tail _ (.tail _ (.head _))) 0
        have q4 := X.cell (.tail _ (.head _)) 0
        have q5 := X.cell (.tail _ (.head _)) 1
        simp only [List.getElem?_cons_succ, List.getElem?_cons_zero] at q1 q2 q3 q4 q5
        go_upto_region 6 with (first
          | go_guarded)
        clear q1 q2 q3 q4 q5
        go_wp2_with (first
          | (refine ZyL ?_) | (refine ZyS ?_; clear X; intro w X) | (refine ZyA ?_; clear X; intro g w X))
        go_ret
        obtain ⟨s', M', Rj', Ms', Rs', h1, h2, h3, h4⟩ := fin.out _ _ _ _ X
        exact ⟨s', M', Rj', Ms', Rs', rfl, h1, h2, h3, h4⟩
  · have f8 : (kd == 8) = false := beq_eq_false_iff_ne.2 k8
    have hgt : ¬ n0 < n := fun h => k8 (c2 h).1
    have fgt : decide (n0 < n) = false := decide_eq_false hgt
    by_cases k6 : kd = 6
    · have f6 : (kd == 6) = true := by rw [k6]; rfl
      by_cases h0 : rc = 0
      · have f0 : (rc == 0) = true := by rw [h0]; rfl
        have e4 := c4 k6 h0
        have e5 : (rn != n + 1) = false := by rw [e4]; simp
        (try replace k8 := hid k8); (try replace h1 := hid h1); (try replace hp := hid hp); (try replace hgt := hid hgt); (try replace h0 := hid h0); (try replace k6 := hid k6); (try clear e4); (try clear hn8); clear c1 c2 c3 c4
        go_enter Tryz.func6, Tryz.ntmps6
        go_upto_region 1 with (first
          | (refine Zbx ?_; clear X; intro g w X)
          | (refine ZyL ?_) | (refine ZyS ?_; clear X; intro w X) | (refine ZyA ?_; clear X; intro g w X))
        have hR := hid (hRi.out _ _ _ (X.perm (perm4J _ _ _ _ _ _)))
        go_upto_region 2 with (first
          | (refine ZyL ?_) | (refine ZyS ?_; clear X; intro w X) | (refine ZyA ?_; clear X; intro g w X)
          | (go_at_call 7; go_loud ((with_reducible refine (hR.out).mono ?_); rintro e w1 ⟨rfl, X2⟩; replace X := X2.perm (perm4J _ _ _ _ _ _).symm; clear X2 hR)))
        have q1 := X.cell (.tail _ (.tail _ (.tail _ (.tail _ (.head _))))) 0
        have q2 := X.cell (.tail _ (.tail _ (.tail _ (.head _)))) 0
        have q3 := X.cell (.tail _ (.tail _ (.head _))) 0
        have q4 := X.cell (.tail _ (.head _)) 0
        have q5 := X.cell (.tail _ (.head _)) 1
        simp only [List.getElem?_cons_succ, List.getElem?_cons_zero] at q1 q2 q3 q4 q5
        go_upto_region 6 with (first
          | go_guarded)
        clear q1 q2 q3 q4 q5
        go_wp2_with (first
          | (refine ZyL ?_) | (refine ZyS ?_; clear X; intro w X) | (refine ZyA ?_; clear X; intro g w X))
        go_ret
        obtain ⟨s', M', Rj', Ms', Rs', h1, h2, h3, h4⟩ := fin.out _ _ _ _ X
        exact ⟨s', M', Rj', Ms', Rs', rfl, h1, h2, h3, h4⟩
      · have f0 : (rc == 0) = false := beq_eq_false_iff_ne.2 h0
        (try replace k8 := hid k8); (try replace h1 := hid h1); (try replace hp := hid hp); (try replace hgt := hid hgt); (try replace h0 := hid h0); (try replace k6 := hid k6); (try clear e4); (try clear hn8); clear c1 c2 c3 c4
        go_enter Tryz.func6, Tryz.ntmps6
        go_upto_region 1 with (first
          | (refine Zbx ?_; clear X; intro g w X)
          | (refine ZyL ?_) | (refine ZyS ?_; clear X; intro w X) | (refine ZyA ?_; clear X; intro g w X))
        have hR := hid (hRi.out _ _ _ (X.perm (perm4J _ _ _ _ _ _)))
        go_upto_region 2 with (first
          | (refine ZyL ?_) | (refine ZyS ?_; clear X; intro w X) | (refine ZyA ?_; clear X; intro g w X)
          | (go_at_call 7; go_loud ((with_reducible refine (hR.out).mono ?_); rintro e w1 ⟨rfl, X2⟩; replace X := X2.perm (perm4J _ _ _ _ _ _).symm; clear X2 hR)))
        have q1 := X.cell (.tail _ (.tail _ (.tail _ (.tail _ (.head _))))) 0
        have q2 := X.cell (.tail _ (.tail _ (.tail _ (.head _)))) 0
        have q3 := X.cell (.tail _ (.tail _ (.head _))) 0
        have q4 := X.cell (.tail _ (.head _)) 0
        have q5 := X.cell (.tail _ (.head _)) 1
        simp only [List.getElem?_cons_succ, List.getElem?_cons_zero] at q1 q2 q3 q4 q5
        go_upto_region 6 with (first
          | go_guarded)
        clear q1 q2 q3 q4 q5
        go_wp2_with (first
          | (refine ZyL ?_) | (refine ZyS ?_; clear X; intro w X) | (refine ZyA ?_; clear X; intro g w X))
        go_ret
        obtain ⟨s', M', Rj', Ms', Rs', h1, h2, h3, h4⟩ := fin.out _ _ _ _ X
        exact ⟨s', M', Rj', Ms', Rs', rfl, h1, h2, h3, h4⟩
    · have f6 : (kd == 6) = false := beq_eq_false_iff_ne.2 k6
      (try replace k8 := hid k8); (try replace h1 := hid h1); (try replace hp := hid hp); (try replace hgt := hid hgt); (try replace h0 := hid h0); (try replace k6 := hid k6); (try clear e4); (try clear hn8); clear c1 c2 c3 c4
      go_enter Tryz.func6, Tryz.ntmps6
      go_upto_region 1 with (first
        | (refine Zbx ?_; clear X; intro g w X)
        | (refine ZyL ?_) | (refine ZyS ?_; clear X; intro w X) | (refine ZyA ?_; clear X; intro g w X))
      have hR := hid (hRi.out _ _ _ (X.perm (perm4J _ _ _ _ _ _)))
      go_upto_region 2 with (first
        | (refine ZyL ?_) | (refine ZyS ?_; clear X; intro w X) | (refine ZyA ?_; clear X; intro g w X)
        | (go_at_call 7; go_loud ((with_reducible refine (hR.out).mono ?_); rintro e w1 ⟨rfl, X2⟩; replace X := X2.perm (perm4J _ _ _ _ _ _).symm; clear X2 hR)))
      have q1 := X.cell (.tail _ (.tail _ (.tail _ (.tail _ (.head _))))) 0
      have q2 := X.cell (.tail _ (.tail _ (.tail _ (.head _)))) 0
      have q3 := X.cell (.tail _ (.tail _ (.head _))) 0
      have q4 := X.cell (.tail _ (.head _)) 0
      have q5 := X.cell (.tail _ (.head _)) 1
      simp only [List.getElem?_cons_succ, List.getElem?_cons_zero] at q1 q2 q3 q4 q5
      go_upto_region 6 with (first
        | go_guarded)
      clear q1 q2 q3 q4 q5
      go_wp2_with (first
        | (refine ZyL ?_) | (refine ZyS ?_; clear X; intro w X) | (refine ZyA ?_; clear X; intro g w X))
      go_ret
      obtain ⟨s', M', Rj', Ms', Rs', h1, h2, h3, h4⟩ := fin.out _ _ _ _ X
      exact ⟨s', M', Rj', Ms', Rs', rfl, h1, h2, h3, h4⟩
theorem law_TopCounts (K : JK) (l : List Aj) (hok : ∀ a ∈ l, a.text.size ≤ 9223372036854775807 ∧ a.n ≤ 9223372036854775807) {al : Option Addr} {cl : Nat} (w : World) (hl : RL ajC w (.slice al l.length cl) l) (hF : Sl w (flR 0).v 1 (flR 0).cs) :
    Calls Tryz.prog 3 #[.slice al l.length cl] w fun e w' => e = .returned (.bool true) ∧ Below w.heap.size w w' := by
  have X : St [] w w [] [Rd.of ajC (.slice al l.length cl) l, flR 0] := ((St.start [] w).addR0 hF).addR0 hl
  have hP := fun (w1 : World) (gl gd : Nat) (X : St [] w w1 [⟨gd, [.bool false], 4⟩, ⟨gl, [.int .i64 0], 3⟩] [Rd.of ajC (.slice al l.length cl) l, flR 0]) => jr_play (L := []) K l hok 6 #[.pointer (some ⟨gl, 0, none⟩), .pointer (some ⟨gd, 0, none⟩)] (tcT gl gd) (tcP l) (0, false) [⟨gd, [.bool false], 4⟩, ⟨gl, [.int .i64 0], 3⟩] [] ⟨rfl, rfl⟩ ⟨rfl, inv_new⟩ X (.tail _ (.head _)) (.head _) ⟨_, _, Tryz.func6, by kernel_rfl, rfl⟩ (tc_look l gl gd)
  replace hP := hid hP
  go_enter Tryz.func3, Tryz.ntmps3
  go_upto_region 3 with (first
    | (refine ZyL ?_) | (refine ZyS ?_; clear X; intro w X) | (refine ZyA ?_; clear X; intro g w X))
  replace hP := hid (hP.out _ _ _ X)
  go_wp2_with (first
    | (refine ZyL ?_) | (refine ZyS ?_; clear X; intro w X) | (refine ZyA ?_; clear X; intro g w X)
    | (go_at_call 5; go_loud ((with_reducible refine (hP.out).mono ?_); rintro e w1 ⟨gj, M, Rj, s, Ms, Rs, rfl, F1, hT1, hP1, X2⟩; replace X := X2; clear X2)))
  go_ret
  exact ⟨rfl, X.below⟩
end Go.Proofs.YtjhmfljlclajnabGreatDoor
