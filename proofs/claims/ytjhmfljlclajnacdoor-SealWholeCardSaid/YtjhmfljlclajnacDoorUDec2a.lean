/- Part of the proof: Dec2a. -/
import Derived.Test.YtjhmfljlclajnacDoorUDecA
import Derived.Test.YtjhmfljlclajnacDoorUBits
import Derived.Test.YtjhmfljlclajnacDoorUEnc
import Derived.Test.YtjhmfljlclajnacDoorUPoke
import Derived.Test.YtjhmfljlclajnacDoorURegCall
import Derived.Test.YtjhmfljlclajnacDoorURing
import Derived.Test.YtjhmfljlclajnacDoorUMarks
import Derived.Deep.CutBlock
import Derived.Deep.DeepCutAuto
set_option linter.unusedVariables false
set_option linter.unusedSimpArgs false
namespace Go.Proofs.YtjhmfljlclajnacDoor
open Go.RowKit Wb
set_option maxRecDepth 100000
set_option maxHeartbeats 4000000
theorem stamp_Decode_1 (s : ByteArray) (w : World) (hs : okS s) (kk0 : nb s 4 = 1) :
    Calls Tryd.prog 22 #[.string s] w fun e w' => ∃ v, e = .returned (.tuple #[v, .int .i64 (decE s)]) ∧ OMark w.heap.size w' v (decM s) ∧ Below w.heap.size w w' := by
 have kk := hid kk0
 clear kk0
 have hE := fun v w (hm : RMark w v (rawM s)) => stamp_Encode (rawM s) v w hm
 have hdn := fun h => dec_no2 (s := s) h hs
 have hd1 := fun h => dec_yes (s := s) h
 have hd0 := fun h => dec_no (s := s) h
 have h1 := hs.1
 have e1 : ((s.size : Int) != 32) = false := by rw [h1]; rfl
 have e2 := ok_ext hs
 have hbt := fun i (h : i < s.size) => bt_get s i h
 have hnb : ∀ i, ((bt s i).toNat : Int) = nb s i := fun _ => rfl
 have hor := or_seq s
 have n0 := nb_nonneg s 5; have n1 := nb_nonneg s 6; have n2 := nb_nonneg s 7; have n3 := nb_nonneg s 8; have n4 := nb_nonneg s 9; have n5 := nb_nonneg s 4
 have l0 := nb_lt s 5; have l1 := nb_lt s 6; have l2 := nb_lt s 7; have l3 := nb_lt s 8; have l4 := nb_lt s 9; have l5 := nb_lt s 4
 have hP := fun w' => OMark.plain w.heap.size w' 0 0 0
 have r1 := fun (h : nb s 4 = 1) => (raw1 h).trans (by rw [← h] : _ = (⟨nb s 4, seqOf s, nb s 9, [], []⟩ : Mrk))
 have r2 := fun (h : nb s 4 = 2) => (raw2 h).trans (by rw [← h] : _ = (⟨nb s 4, seqOf s, 0, rawTags s (min (cnt s) 11), []⟩ : Mrk))
 have r3 := fun (h : nb s 4 = 3) => (raw3 h).trans (by rw [← h] : _ = (⟨nb s 4, seqOf s, 0, [], rawBlks s (min (cnt s) 22)⟩ : Mrk))
 have r4 := fun h1 h2 h3 => raw4 (s := s) h1 h2 h3
 have hcl : cnt s = (nb s 9).toNat := by have := cnt_nb s; omega
 generalize seqOf s = q at *
 replace hE := hid hE; replace hdn := hid hdn; replace hd1 := hid hd1; replace hd0 := hid hd0; replace hP := hid hP; replace r1 := hid r1; replace r2 := hid r2; replace r3 := hid r3; replace r4 := hid r4; replace hcl := hid hcl
 clear hs
 go_enter Tryd.func22, Tryd.ntmps22
 go_wp2
 go_region
 clear hor n0 n1 n2 n3 l0 l1 l2 l3
 have k0 : Blk ((w.alloc (.cells #[.int .i64 0, .int .i64 0, .int .i64 0, .slice none 0 0, .slice none 0 0] 69)).alloc (.cells #[.int .i64 (nb s 4), .int .i64 q, .int .i64 0, .slice none 0 0, .slice none 0 0] 69)).drew w.heap.size #[.int .i64 0, .int .i64 0, .int .i64 0, .slice none 0 0, .slice none 0 0] 69 := ((Blk.new w _ _).alloc _).drew
 have k1 : Blk ((w.alloc (.cells #[.int .i64 0, .int .i64 0, .int .i64 0, .slice none 0 0, .slice none 0 0] 69)).alloc (.cells #[.int .i64 (nb s 4), .int .i64 q, .int .i64 0, .slice none 0 0, .slice none 0 0] 69)).drew (w.heap.size + 1) #[.int .i64 (nb s 4), .int .i64 q, .int .i64 0, .slice none 0 0, .slice none 0 0] 69 := (Blk.newAt (w := w.alloc _) (by simp)).drew
 have nx : Below w.heap.size w ((w.alloc (.cells #[.int .i64 0, .int .i64 0, .int .i64 0, .slice none 0 0, .slice none 0 0] 69)).alloc (.cells #[.int .i64 (nb s 4), .int .i64 q, .int .i64 0, .slice none 0 0, .slice none 0 0] 69)).drew := (bal (bal (b0 w) _) _).drew
 generalize ((w.alloc (.cells #[.int .i64 0, .int .i64 0, .int .i64 0, .slice none 0 0, .slice none 0 0] 69)).alloc (.cells #[.int .i64 (nb s 4), .int .i64 q, .int .i64 0, .slice none 0 0, .slice none 0 0] 69)).drew = wa at *
 have ltm := k1.lt
 have m0 := k1.cell 0; have m1 := k1.cell 1; have m2 := k1.cell 2; have m3 := k1.cell 3; have m4 := k1.cell 4
 have f0 := k1.free 0; have f1 := k1.free 1; have f2 := k1.free 2; have f3 := k1.free 3; have f4 := k1.free 4
 simp only [Zga, Zgb, Zgc] at m0 m1 m2 m3 m4
 go_upto_block 0 with fail
 go_cut [] (fun wx => DecAt s w wx)
 case first =>
  have k1' := kk.out
  have hR := hid (r1.out k1')
  have b1 : (nb s 4 == 1) = true := beq_iff_eq.2 k1'
  replace k1' := hid k1'
  go_wp2
  go_meet
  have hF := nx.setCell (p := ⟨w.heap.size + 1, 2, none⟩) (by simp) (.int .i64 (nb s 9))
  have h0 := k0.set_other ⟨w.heap.size + 1, 2, none⟩ (.int .i64 (nb s 9)) (by simp)
  have h1' := k1.set 2 (.int .i64 (nb s 9))
  exact DecAt.of hR.out (Own.nil _ _ _ _ _) (Own.nil _ _ _ _ _) h0 h1' hF
 case rest =>
  obtain ⟨vt, vb, o1, o2, kr, km, nx⟩ := hcut
  obtain ⟨at1, ct1, rfl⟩ := o1.form
  obtain ⟨ab1, cb1, rfl⟩ := o2.form
  have hq1 : (rawM s).tags.length ≤ 11 := by
   show (if nb s 4 = 2 then rawTags s (min (cnt s) 11) else []).length ≤ 11
   split
   ·rw [rawTags_len]; omega
   ·exact Nat.zero_le _
  have hq2 : (rawM s).blocks.length ≤ 22 := by
   show (if nb s 4 = 3 then rawBlks s (min (cnt s) 22) else []).length ≤ 22
   split
   ·rw [rawBlks_len]; omega
   ·exact Nat.zero_le _
  clear hbt hnb e1 e2 h1 n4 n5 l4 l5 r1 r2 r3 r4 hcl k0 k1 m0 m1 m2 m3 m4 f0 f1 f2 f3 f4 ltm
  have hrm : ∀ w', Wb.Own tagC (w.heap.size + 2) 103 2 w' (.slice at1 (rawM s).tags.length ct1) (rawM s).tags → Wb.Own intC (w.heap.size + 2) 3 1 w' (.slice ab1 (rawM s).blocks.length cb1) (rawM s).blocks → RMark w' (.agg #[.int .i64 (rawM s).kind, .int .i64 (rawM s).seq, .int .i64 (rawM s).at_, .slice at1 (rawM s).tags.length ct1, .slice ab1 (rawM s).blocks.length cb1]) (rawM s) := fun _ h1 h2 => ⟨_, _, rfl, h1.reads, h2.reads, by omega, by omega⟩
  have hom : ∀ w', Wb.Own tagC (w.heap.size + 2) 103 2 w' (.slice at1 (rawM s).tags.length ct1) (rawM s).tags → Wb.Own intC (w.heap.size + 2) 3 1 w' (.slice ab1 (rawM s).blocks.length cb1) (rawM s).blocks → OMark w.heap.size w' (.agg #[.int .i64 (rawM s).kind, .int .i64 (rawM s).seq, .int .i64 (rawM s).at_, .slice at1 (rawM s).tags.length ct1, .slice ab1 (rawM s).blocks.length cb1]) (rawM s) := fun _ h1 h2 => ⟨_, _, rfl, h1.mono (by omega), h2.mono (by omega), by omega, by omega⟩
  have hE := hE.out
  have hdn := hdn.out
  have hd1 := hd1.out
  generalize rawM s = M at *
  obtain ⟨mk, mq, ma, tags, blocks⟩ := M
  dsimp only at *
  have hle : ∀ m : Mrk, m = ⟨mk, mq, ma, tags, blocks⟩ → True := fun _ _ => trivial
  clear hle
  generalize hMM : (⟨mk, mq, ma, tags, blocks⟩ : Mrk) = M at *
  clear hMM
  replace hE := hid hE
  replace hdn := hid hdn
  replace hd1 := hid hd1
  replace hrm := hid hrm
  replace hom := hid hom
  have ltm := km.lt
  have m0 := km.cell 0; have m1 := km.cell 1; have m2 := km.cell 2; have m3 := km.cell 3; have m4 := km.cell 4
  simp only [Zga, Zgb, Zgc] at m0 m1 m2 m3 m4
  by_cases hd : decOk s
  ·obtain ⟨dM, dE, f1, f2⟩ := hd1.out hd
   replace hE := hE.out
   rw [f1, f2] at hE
   replace hE := hid hE
   replace dM := hid dM
   replace dE := hid dE
   clear f1 f2 hd hd1 hd0 hdn
   go_wp2_with (go_at_call 24; go_loud ((with_reducible refine (hE.out _ _ (hrm.out _ o1 o2)).mono ?_); rintro e w1 ⟨rfl, hb1⟩; replace o1 := o1.below hb1; replace o2 := o2.below hb1; replace km := km.step hb1; replace kr := kr.step hb1; have nx := bgo nx hb1; (try clear m0 m1 m2 m3 m4); have m0 := km.cell 0; have m1 := km.cell 1; have m2 := km.cell 2; have m3 := km.cell 3; have m4 := km.cell 4; have r0 := kr.cell 0; have r1 := kr.cell 1; have r2 := kr.cell 2; have r3 := kr.cell 3; have r4 := kr.cell 4; have z0 := kr.free 0; have z1 := kr.free 1; have z2 := kr.free 2; have z3 := kr.free 3; have z4 := kr.free 4; simp only [Zga, Zgb, Zgc] at m0 m1 m2 m3 m4 r0 r1 r2 r3 r4))
   have p1 := ((((o1.setCell (p := ⟨w.heap.size, 0, none⟩) (by simp) (.int .i64 mk)).setCell (p := ⟨w.heap.size, 1, none⟩) (by simp) (.int .i64 mq)).setCell (p := ⟨w.heap.size, 2, none⟩) (by simp) (.int .i64 ma)).setCell (p := ⟨w.heap.size, 3, none⟩) (by simp) (.slice at1 tags.length ct1)).setCell (p := ⟨w.heap.size, 4, none⟩) (by simp) (.slice ab1 blocks.length cb1)
   have p2 := ((((o2.setCell (p := ⟨w.heap.size, 0, none⟩) (by simp) (.int .i64 mk)).setCell (p := ⟨w.heap.size, 1, none⟩) (by simp) (.int .i64 mq)).setCell (p := ⟨w.heap.size, 2, none⟩) (by simp) (.int .i64 ma)).setCell (p := ⟨w.heap.size, 3, none⟩) (by simp) (.slice at1 tags.length ct1)).setCell (p := ⟨w.heap.size, 4, none⟩) (by simp) (.slice ab1 blocks.length cb1)
   refine bodyPost_ret (v := .tuple #[.agg #[.int .i64 mk, .int .i64 mq, .int .i64 ma, .slice at1 tags.length ct1, .slice ab1 blocks.length cb1], .int .i64 0]) (by simp [results, Tryd.results22, go_sem, r0, r1, r2, r3, r4]) rfl ⟨_, by rw [dE.out], by rw [dM.out]; exact hom.out _ p1 p2, ?_⟩
   exact ((((nx.setCell (by simp) _).setCell (by simp) _).setCell (by simp) _).setCell (by simp) _).setCell (by simp) _
  ·obtain ⟨dM, dE⟩ := hd0.out hd
   replace dM := hid dM
   replace dE := hid dE
   rcases hdn.out hd with h | ⟨h0, h⟩
   ·have hne : (markE M != 0) = true := bne_iff_ne.2 h
    clear h hd hd1 hd0 hdn
    go_wp2_with (go_at_call 24; go_loud ((with_reducible refine (hE.out _ _ (hrm.out _ o1 o2)).mono ?_); rintro e w1 ⟨rfl, hb1⟩; replace o1 := o1.below hb1; replace o2 := o2.below hb1; replace km := km.step hb1; replace kr := kr.step hb1; have nx := bgo nx hb1; (try clear m0 m1 m2 m3 m4); have m0 := km.cell 0; have m1 := km.cell 1; have m2 := km.cell 2; have m3 := km.cell 3; have m4 := km.cell 4; have r0 := kr.cell 0; have r1 := kr.cell 1; have r2 := kr.cell 2; have r3 := kr.cell 3; have r4 := kr.cell 4; have z0 := kr.free 0; have z1 := kr.free 1; have z2 := kr.free 2; have z3 := kr.free 3; have z4 := kr.free 4; simp only [Zga, Zgb, Zgc] at m0 m1 m2 m3 m4 r0 r1 r2 r3 r4))
    refine bodyPost_ret (v := .tuple #[.agg #[.int .i64 0, .int .i64 0, .int .i64 0, .slice none 0 0, .slice none 0 0], .int .i64 1]) (by simp [results, Tryd.results22, go_sem, r0, r1, r2, r3, r4]) rfl ⟨_, by rw [dE.out], by rw [dM.out]; exact hP.out _, ?_⟩
    exact ((((nx.setCell (by simp) _).setCell (by simp) _).setCell (by simp) _).setCell (by simp) _).setCell (by simp) _
   ·replace h := ba_ne h
    have hme : (markE M != 0) = false := by rw [h0]; rfl
    clear h0 hd hd1 hd0 hdn
    go_wp2_with (go_at_call 24; go_loud ((with_reducible refine (hE.out _ _ (hrm.out _ o1 o2)).mono ?_); rintro e w1 ⟨rfl, hb1⟩; replace o1 := o1.below hb1; replace o2 := o2.below hb1; replace km := km.step hb1; replace kr := kr.step hb1; have nx := bgo nx hb1; (try clear m0 m1 m2 m3 m4); have m0 := km.cell 0; have m1 := km.cell 1; have m2 := km.cell 2; have m3 := km.cell 3; have m4 := km.cell 4; have r0 := kr.cell 0; have r1 := kr.cell 1; have r2 := kr.cell 2; have r3 := kr.cell 3; have r4 := kr.cell 4; have z0 := kr.free 0; have z1 := kr.free 1; have z2 := kr.free 2; have z3 := kr.free 3; have z4 := kr.free 4; simp only [Zga, Zgb, Zgc] at m0 m1 m2 m3 m4 r0 r1 r2 r3 r4))
    refine bodyPost_ret (v := .tuple #[.agg #[.int .i64 0, .int .i64 0, .int .i64 0, .slice none 0 0, .slice none 0 0], .int .i64 1]) (by simp [results, Tryd.results22, go_sem, r0, r1, r2, r3, r4]) rfl ⟨_, by rw [dE.out], by rw [dM.out]; exact hP.out _, ?_⟩
    exact ((((nx.setCell (by simp) _).setCell (by simp) _).setCell (by simp) _).setCell (by simp) _).setCell (by simp) _
end Go.Proofs.YtjhmfljlclajnacDoor
