/- Part of the proof: Dec2b. -/
import Derived.Test.YtjhmfljlclajnacDoorUDecA
import Derived.Test.YtjhmfljlclajnacDoorUBits
import Derived.Test.YtjhmfljlclajnacDoorUEnc
import Derived.Test.YtjhmfljlclajnacDoorUPoke
import Derived.Test.YtjhmfljlclajnacDoorURegCall
import Derived.Test.YtjhmfljlclajnacDoorURing
import Derived.Test.YtjhmfljlclajnacDoorUMarks
import Derived.Deep.CutBlock
import Derived.Deep.DeepCutAuto
set_option linter.unusedVariables false
set_option linter.unusedSimpArgs false
namespace Go.Proofs.YtjhmfljlclajnacDoor
open Go.RowKit Wb
set_option maxRecDepth 100000
set_option maxHeartbeats 40000000
theorem stamp_Decode_2 (s : ByteArray) (w : World) (hs : okS s) (kk0 : nb s 4 = 2) :
    Calls Tryd.prog 22 #[.string s] w fun e w' => ∃ v, e = .returned (.tuple #[v, .int .i64 (decE s)]) ∧ OMark w.heap.size w' v (decM s) ∧ Below w.heap.size w w' := by
 have kk := hid kk0
 clear kk0
 have hE := fun v w (hm : RMark w v (rawM s)) => stamp_Encode (rawM s) v w hm
 have hdn := fun h => dec_no2 (s := s) h hs
 have hd1 := fun h => dec_yes (s := s) h
 have hd0 := fun h => dec_no (s := s) h
 have h1 := hs.1
 have e1 : ((s.size : Int) != 32) = false := by rw [h1]; rfl
 have e2 := ok_ext hs
 have hbt := fun i (h : i < s.size) => bt_get s i h
 have hnb : ∀ i, ((bt s i).toNat : Int) = nb s i := fun _ => rfl
 have hor := or_seq s
 have n0 := nb_nonneg s 5; have n1 := nb_nonneg s 6; have n2 := nb_nonneg s 7; have n3 := nb_nonneg s 8; have n4 := nb_nonneg s 9; have n5 := nb_nonneg s 4
 have l0 := nb_lt s 5; have l1 := nb_lt s 6; have l2 := nb_lt s 7; have l3 := nb_lt s 8; have l4 := nb_lt s 9; have l5 := nb_lt s 4
 have hP := fun w' => OMark.plain w.heap.size w' 0 0 0
 have r1 := fun (h : nb s 4 = 1) => (raw1 h).trans (by rw [← h] : _ = (⟨nb s 4, seqOf s, nb s 9, [], []⟩ : Mrk))
 have r2 := fun (h : nb s 4 = 2) => (raw2 h).trans (by rw [← h] : _ = (⟨nb s 4, seqOf s, 0, rawTags s (min (cnt s) 11), []⟩ : Mrk))
 have r3 := fun (h : nb s 4 = 3) => (raw3 h).trans (by rw [← h] : _ = (⟨nb s 4, seqOf s, 0, [], rawBlks s (min (cnt s) 22)⟩ : Mrk))
 have r4 := fun h1 h2 h3 => raw4 (s := s) h1 h2 h3
 have hcl : cnt s = (nb s 9).toNat := by have := cnt_nb s; omega
 generalize seqOf s = q at *
 replace hE := hid hE; replace hdn := hid hdn; replace hd1 := hid hd1; replace hd0 := hid hd0; replace hP := hid hP; replace r1 := hid r1; replace r2 := hid r2; replace r3 := hid r3; replace r4 := hid r4; replace hcl := hid hcl
 clear hs
 go_enter Tryd.func22, Tryd.ntmps22
 go_wp2
 go_region
 clear hor n0 n1 n2 n3 l0 l1 l2 l3
 have k0 : Blk ((w.alloc (.cells #[.int .i64 0, .int .i64 0, .int .i64 0, .slice none 0 0, .slice none 0 0] 69)).alloc (.cells #[.int .i64 (nb s 4), .int .i64 q, .int .i64 0, .slice none 0 0, .slice none 0 0] 69)).drew w.heap.size #[.int .i64 0, .int .i64 0, .int .i64 0, .slice none 0 0, .slice none 0 0] 69 := ((Blk.new w _ _).alloc _).drew
 have k1 : Blk ((w.alloc (.cells #[.int .i64 0, .int .i64 0, .int .i64 0, .slice none 0 0, .slice none 0 0] 69)).alloc (.cells #[.int .i64 (nb s 4), .int .i64 q, .int .i64 0, .slice none 0 0, .slice none 0 0] 69)).drew (w.heap.size + 1) #[.int .i64 (nb s 4), .int .i64 q, .int .i64 0, .slice none 0 0, .slice none 0 0] 69 := (Blk.newAt (w := w.alloc _) (by simp)).drew
 have nx : Below w.heap.size w ((w.alloc (.cells #[.int .i64 0, .int .i64 0, .int .i64 0, .slice none 0 0, .slice none 0 0] 69)).alloc (.cells #[.int .i64 (nb s 4), .int .i64 q, .int .i64 0, .slice none 0 0, .slice none 0 0] 69)).drew := (bal (bal (b0 w) _) _).drew
 generalize ((w.alloc (.cells #[.int .i64 0, .int .i64 0, .int .i64 0, .slice none 0 0, .slice none 0 0] 69)).alloc (.cells #[.int .i64 (nb s 4), .int .i64 q, .int .i64 0, .slice none 0 0, .slice none 0 0] 69)).drew = wa at *
 have ltm := k1.lt
 have m0 := k1.cell 0; have m1 := k1.cell 1; have m2 := k1.cell 2; have m3 := k1.cell 3; have m4 := k1.cell 4
 have f0 := k1.free 0; have f1 := k1.free 1; have f2 := k1.free 2; have f3 := k1.free 3; have f4 := k1.free 4
 simp only [Zga, Zgb, Zgc] at m0 m1 m2 m3 m4
 go_upto_block 0 with fail
 go_cut [] (fun wx => DecAt s w wx)
 case first =>
  have k2' := kk.out
  have k1' : nb s 4 ≠ 1 := by omega
  have b1 : (nb s 4 == 1) = false := beq_eq_false_iff_ne.2 k1'
  have hR := hid (r2.out k2')
  have b2 : (nb s 4 == 2) = true := beq_iff_eq.2 k2'
  replace k2' := hid k2'
  clear k1'
  go_wp2
  go_loopw [5, 6] (fun n i wr => ∃ k : Nat, k ≤ 11 ∧ (k : Int) ≤ nb s 9 ∧ i = .int .i64 ((10 + 2 * k : Nat) : Int) ∧ n = .int .i64 (nb s 9 - k) ∧ ∃ vo, Wb.Own tagC (w.heap.size + 2) 103 2 wr vo (rawTags s k) ∧ Blk wr w.heap.size #[.int .i64 0, .int .i64 0, .int .i64 0, .slice none 0 0, .slice none 0 0] 69 ∧ Blk wr (w.heap.size + 1) #[.int .i64 (nb s 4), .int .i64 q, .int .i64 0, vo, .slice none 0 0] 69 ∧ Below w.heap.size w wr) (fun _ i _ => 33 - (intOf i).toNat)
  case atStart => exact ⟨0, by decide, n4, rfl, (by congr 1 <;> omega), _, Own.nil _ _ _ _ _, k0, k1, nx⟩
  case round => as_aux_lemma =>
   obtain ⟨k, j1, j2, rfl, rfl, vo, hown, kr, km, nxr⟩ := hrel
   obtain ⟨ao, capo, rfl⟩ := hown.form
   have hjl := rawTags_len s k
   rw [hjl] at hown km
   have ltr := kr.lt
   have ltm2 := km.lt
   clear m0 m1 m2 m3 m4 f0 f1 f2 f3 f4 k0 k1 nx ltm
   have m0 := km.cell 0; have m1 := km.cell 1; have m2 := km.cell 2; have m3 := km.cell 3; have m4 := km.cell 4
   simp only [Zga, Zgb, Zgc] at m0 m1 m2 m3 m4
   have f3 := km.free 3
   by_cases hC : (k : Int) < nb s 9 ∧ k < 11
   ·obtain ⟨hA, hB⟩ := hC
    have hst := hid (tags_step s k)
    have hjl := hid hjl
    have nj := nb_nonneg s (10 + 2 * k)
    have lj := nb_lt s (10 + 2 * k)
    have hjz : 10 + 2 * k < s.size := by omega
    have hjz1 : 11 + 2 * k < s.size := by omega
    generalize rawTags s k = L at *
    have hwj : IntKind.i64.wrap (nb s (10 + 2 * k)) = nb s (10 + 2 * k) := IntWalk.i64_in _ (by omega)
    have hwk : IntKind.i64.wrap (((10 + 2 * k : Nat) : Int) + 1) = ((10 + 2 * k : Nat) : Int) + 1 := IntWalk.i64_in _ (by omega)
    have hnn : ((((10 + 2 * k : Nat) : Int) + 1)).toNat = 10 + 2 * k + 1 := by omega
    have hg1 : 0 < nb s 9 - (k : Int) := by omega
    generalize hp : 10 + 2 * k = p at *
    have hg2 : (p : Int) + 1 < 32 := by omega
    have hg3 : p < 32 := by omega
    have hg4 : p + 1 < 32 := by omega
    have hg5 : (p : Int) < 32 := by omega
    have hg6 : 0 ≤ (p : Int) + 1 := by omega
    have hjz1 : p + 1 < s.size := by omega
    replace hp := hid hp
    go_wp2
    go_region_law (first | go_loud (refine step_push (by rfl) _ _ 67 (by rfl) (w.heap.size + 2) _ 2 16 tagC_flat elemTag ((hown.alloc _).drew) (by rfl) ⟨nb s p, nb s (p + 1) == 1⟩ wr.heap.size ((Blk.newAt (w := wr) rfl).drew) (by rfl) (by rfl) k hjl.out (by omega) (by omega) (by (try simp); omega) ?_; intro a4 cap4 w4 hown4 hb4 _; have k4 := ((km.alloc _).drew).below hb4 (by omega); have g4 := k4.cell 3; simp only [Zga, Zgb, Zgc] at g4; have f4 := k4.free 3; have kr4 := ((kr.alloc _).drew).below hb4 (by omega); have nx4 := ((bal nxr _).drew).trans (hb4.mono (by omega))))
    all_goals
     go_wp2
     have htag : (⟨nb s p, nb s (p + 1) == 1⟩ : Tag) = tagAt s k := by
      unfold tagAt; rw [← hp.out, show 10 + 2 * k + 1 = 11 + 2 * k by omega]; rfl
     rw [htag, ← hst.out] at hown4
     have hpk := hp.out
     go_roundw
     case rel =>
      exact ⟨k + 1, by omega, by omega, (by congr 1; omega), (by congr 1 <;> omega), _, hown4.setCell (p := ⟨w.heap.size + 1, 3, none⟩) (by simp) _, kr4.set_other _ _ (by simp), k4.set 3 _, nx4.setCell (by simp) _⟩
     case measure => simp [intOf]; omega
   ·have hfin : k = min (cnt s) 11 := by
      have := hcl.out
      omega
    have hg : nb s 9 - (k : Int) ≤ 0 ∨ (0 < nb s 9 - (k : Int) ∧ k = 11) := by omega
    clear hC
    have hD : DecAt s w wr := DecAt.of hR.out (by rw [← hfin]; exact hown) (Own.nil _ _ _ _ _) kr km nxr
    replace hfin := hid hfin
    replace hD := hid hD
    rcases hg with hg | ⟨hg, hg2⟩
    ·go_wp2
     go_meet
     exact hD.out
    ·subst hg2
     go_wp2
     go_meet
     exact hD.out
 case rest => as_aux_lemma =>
  obtain ⟨vt, vb, o1, o2, kr, km, nx⟩ := hcut
  obtain ⟨at1, ct1, rfl⟩ := o1.form
  obtain ⟨ab1, cb1, rfl⟩ := o2.form
  have hq1 : (rawM s).tags.length ≤ 11 := by
   show (if nb s 4 = 2 then rawTags s (min (cnt s) 11) else []).length ≤ 11
   split
   ·rw [rawTags_len]; omega
   ·exact Nat.zero_le _
  have hq2 : (rawM s).blocks.length ≤ 22 := by
   show (if nb s 4 = 3 then rawBlks s (min (cnt s) 22) else []).length ≤ 22
   split
   ·rw [rawBlks_len]; omega
   ·exact Nat.zero_le _
  clear hbt hnb e1 e2 h1 n4 n5 l4 l5 r1 r2 r3 r4 hcl k0 k1 m0 m1 m2 m3 m4 f0 f1 f2 f3 f4 ltm
  have hrm : ∀ w', Wb.Own tagC (w.heap.size + 2) 103 2 w' (.slice at1 (rawM s).tags.length ct1) (rawM s).tags → Wb.Own intC (w.heap.size + 2) 3 1 w' (.slice ab1 (rawM s).blocks.length cb1) (rawM s).blocks → RMark w' (.agg #[.int .i64 (rawM s).kind, .int .i64 (rawM s).seq, .int .i64 (rawM s).at_, .slice at1 (rawM s).tags.length ct1, .slice ab1 (rawM s).blocks.length cb1]) (rawM s) := fun _ h1 h2 => ⟨_, _, rfl, h1.reads, h2.reads, by omega, by omega⟩
  have hom : ∀ w', Wb.Own tagC (w.heap.size + 2) 103 2 w' (.slice at1 (rawM s).tags.length ct1) (rawM s).tags → Wb.Own intC (w.heap.size + 2) 3 1 w' (.slice ab1 (rawM s).blocks.length cb1) (rawM s).blocks → OMark w.heap.size w' (.agg #[.int .i64 (rawM s).kind, .int .i64 (rawM s).seq, .int .i64 (rawM s).at_, .slice at1 (rawM s).tags.length ct1, .slice ab1 (rawM s).blocks.length cb1]) (rawM s) := fun _ h1 h2 => ⟨_, _, rfl, h1.mono (by omega), h2.mono (by omega), by omega, by omega⟩
  have hE := hE.out
  have hdn := hdn.out
  have hd1 := hd1.out
  generalize rawM s = M at *
  obtain ⟨mk, mq, ma, tags, blocks⟩ := M
  dsimp only at *
  have hle : ∀ m : Mrk, m = ⟨mk, mq, ma, tags, blocks⟩ → True := fun _ _ => trivial
  clear hle
  generalize hMM : (⟨mk, mq, ma, tags, blocks⟩ : Mrk) = M at *
  clear hMM
  replace hE := hid hE
  replace hdn := hid hdn
  replace hd1 := hid hd1
  replace hrm := hid hrm
  replace hom := hid hom
  have ltm := km.lt
  have m0 := km.cell 0; have m1 := km.cell 1; have m2 := km.cell 2; have m3 := km.cell 3; have m4 := km.cell 4
  simp only [Zga, Zgb, Zgc] at m0 m1 m2 m3 m4
  by_cases hd : decOk s
  ·obtain ⟨dM, dE, f1, f2⟩ := hd1.out hd
   replace hE := hE.out
   rw [f1, f2] at hE
   replace hE := hid hE
   replace dM := hid dM
   replace dE := hid dE
   clear f1 f2 hd hd1 hd0 hdn
   go_wp2_with (go_at_call 24; go_loud ((with_reducible refine (hE.out _ _ (hrm.out _ o1 o2)).mono ?_); rintro e w1 ⟨rfl, hb1⟩; replace o1 := o1.below hb1; replace o2 := o2.below hb1; replace km := km.step hb1; replace kr := kr.step hb1; have nx := bgo nx hb1; (try clear m0 m1 m2 m3 m4); have m0 := km.cell 0; have m1 := km.cell 1; have m2 := km.cell 2; have m3 := km.cell 3; have m4 := km.cell 4; have r0 := kr.cell 0; have r1 := kr.cell 1; have r2 := kr.cell 2; have r3 := kr.cell 3; have r4 := kr.cell 4; have z0 := kr.free 0; have z1 := kr.free 1; have z2 := kr.free 2; have z3 := kr.free 3; have z4 := kr.free 4; simp only [Zga, Zgb, Zgc] at m0 m1 m2 m3 m4 r0 r1 r2 r3 r4))
   have p1 := ((((o1.setCell (p := ⟨w.heap.size, 0, none⟩) (by simp) (.int .i64 mk)).setCell (p := ⟨w.heap.size, 1, none⟩) (by simp) (.int .i64 mq)).setCell (p := ⟨w.heap.size, 2, none⟩) (by simp) (.int .i64 ma)).setCell (p := ⟨w.heap.size, 3, none⟩) (by simp) (.slice at1 tags.length ct1)).setCell (p := ⟨w.heap.size, 4, none⟩) (by simp) (.slice ab1 blocks.length cb1)
   have p2 := ((((o2.setCell (p := ⟨w.heap.size, 0, none⟩) (by simp) (.int .i64 mk)).setCell (p := ⟨w.heap.size, 1, none⟩) (by simp) (.int .i64 mq)).setCell (p := ⟨w.heap.size, 2, none⟩) (by simp) (.int .i64 ma)).setCell (p := ⟨w.heap.size, 3, none⟩) (by simp) (.slice at1 tags.length ct1)).setCell (p := ⟨w.heap.size, 4, none⟩) (by simp) (.slice ab1 blocks.length cb1)
   refine bodyPost_ret (v := .tuple #[.agg #[.int .i64 mk, .int .i64 mq, .int .i64 ma, .slice at1 tags.length ct1, .slice ab1 blocks.length cb1], .int .i64 0]) (by simp [results, Tryd.results22, go_sem, r0, r1, r2, r3, r4]) rfl ⟨_, by rw [dE.out], by rw [dM.out]; exact hom.out _ p1 p2, ?_⟩
   exact ((((nx.setCell (by simp) _).setCell (by simp) _).setCell (by simp) _).setCell (by simp) _).setCell (by simp) _
  ·obtain ⟨dM, dE⟩ := hd0.out hd
   replace dM := hid dM
   replace dE := hid dE
   rcases hdn.out hd with h | ⟨h0, h⟩
   ·have hne : (markE M != 0) = true := bne_iff_ne.2 h
    clear h hd hd1 hd0 hdn
    go_wp2_with (go_at_call 24; go_loud ((with_reducible refine (hE.out _ _ (hrm.out _ o1 o2)).mono ?_); rintro e w1 ⟨rfl, hb1⟩; replace o1 := o1.below hb1; replace o2 := o2.below hb1; replace km := km.step hb1; replace kr := kr.step hb1; have nx := bgo nx hb1; (try clear m0 m1 m2 m3 m4); have m0 := km.cell 0; have m1 := km.cell 1; have m2 := km.cell 2; have m3 := km.cell 3; have m4 := km.cell 4; have r0 := kr.cell 0; have r1 := kr.cell 1; have r2 := kr.cell 2; have r3 := kr.cell 3; have r4 := kr.cell 4; have z0 := kr.free 0; have z1 := kr.free 1; have z2 := kr.free 2; have z3 := kr.free 3; have z4 := kr.free 4; simp only [Zga, Zgb, Zgc] at m0 m1 m2 m3 m4 r0 r1 r2 r3 r4))
    refine bodyPost_ret (v := .tuple #[.agg #[.int .i64 0, .int .i64 0, .int .i64 0, .slice none 0 0, .slice none 0 0], .int .i64 1]) (by simp [results, Tryd.results22, go_sem, r0, r1, r2, r3, r4]) rfl ⟨_, by rw [dE.out], by rw [dM.out]; exact hP.out _, ?_⟩
    exact ((((nx.setCell (by simp) _).setCell (by simp) _).setCell (by simp) _).setCell (by simp) _).setCell (by simp) _
   ·replace h := ba_ne h
    have hme : (markE M != 0) = false := by rw [h0]; rfl
    clear h0 hd hd1 hd0 hdn
    go_wp2_with (go_at_call 24; go_loud ((with_reducible refine (hE.out _ _ (hrm.out _ o1 o2)).mono ?_); rintro e w1 ⟨rfl, hb1⟩; replace o1 := o1.below hb1; replace o2 := o2.below hb1; replace km := km.step hb1; replace kr := kr.step hb1; have nx := bgo nx hb1; (try clear m0 m1 m2 m3 m4); have m0 := km.cell 0; have m1 := km.cell 1; have m2 := km.cell 2; have m3 := km.cell 3; have m4 := km.cell 4; have r0 := kr.cell 0; have r1 := kr.cell 1; have r2 := kr.cell 2; have r3 := kr.cell 3; have r4 := kr.cell 4; have z0 := kr.free 0; have z1 := kr.free 1; have z2 := kr.free 2; have z3 := kr.free 3; have z4 := kr.free 4; simp only [Zga, Zgb, Zgc] at m0 m1 m2 m3 m4 r0 r1 r2 r3 r4))
    refine bodyPost_ret (v := .tuple #[.agg #[.int .i64 0, .int .i64 0, .int .i64 0, .slice none 0 0, .slice none 0 0], .int .i64 1]) (by simp [results, Tryd.results22, go_sem, r0, r1, r2, r3, r4]) rfl ⟨_, by rw [dE.out], by rw [dM.out]; exact hP.out _, ?_⟩
    exact ((((nx.setCell (by simp) _).setCell (by simp) _).setCell (by simp) _).setCell (by simp) _).setCell (by simp) _
end Go.Proofs.YtjhmfljlclajnacDoor
