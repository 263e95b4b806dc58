/- The walk of the law DiskDoes. -/
import Derived.Test.YtjhmfljlclajnaaKDisk
namespace Go.Proofs.Ytjhmfljlclajnaa
open Go.RowKit Wb
set_option linter.unusedVariables false
set_option linter.unusedSimpArgs false
set_option maxRecDepth 100000
set_option maxHeartbeats 4000000

theorem newDisk_reads {b : Nat} {w : World} {vs : Value} (h : Own strC b 9 1 w vs (List.replicate 37 (fit ⟨#[]⟩))) : RDisk w (.agg #[vs, .slice none 0 0]) newDisk := ⟨_, _, rfl, h.reads, RL.nil _ _, by simp [newDisk], by simp [newDisk]⟩

theorem law_DiskDoes (d : Dsk) (n : Int) (s : ByteArray) (v : Value) (w : World) (hd : RDisk w v d) (hsz : s.size ≤ 9223372036854775807) :
    Calls Try.prog 10 #[v, .int .i64 n, .string s] w fun e w' => e = .returned (.bool true) ∧ Below w.heap.size w w' := by
  have hC := fun w (h : RDisk w v d) => ref_CopyDisk d v w h
  have hR := fun v w (h : RDisk w v d) => disk_Read d n v w h
  have hRr := fun v w (h : RDisk w v d) => ref_ReadDisk d n v w h
  have hP := fun v w (h : RDisk w v d) => disk_Put d n s v w h
  have hPr := fun v w (h : RDisk w v d) => ref_PutDisk d n s v w h
  have hF := fun v w (h : RDisk w v d) => disk_Flush d v w h
  have hFr := fun v w (h : RDisk w v d) => ref_FlushDisk d v w h
  have hG := fun v w (h : RDisk w v d) => disk_Good d v w h
  have hGr := fun v w (h : RDisk w v d) => ref_GoodDisk d v w h
  have hSa := fun v1 v2 w h1 h2 => ref_SameDisk (putD d n s) v1 v2 w h1 h2
  have hSb := fun v1 v2 w h1 h2 => ref_SameDisk (flushD d) v1 v2 w h1 h2
  have hSc := fun v1 v2 w h1 h2 => ref_SameDisk newDisk v1 v2 w h1 h2
  have hSd := fun v1 v2 w h1 h2 => ref_SameDisk d v1 v2 w h1 h2
  have hFit := fun w => disk_Fit s w hsz
  have hFitr := fun w => ref_FitText s w hsz
  have hN := fun w => disk_New w
  have hNr := fun w => ref_NewDisk w
  have hT := fun w => law_turns w
  have hnew := fun b w vs h => newDisk_reads (b := b) (w := w) (vs := vs) h
  generalize readD d n = rd at *
  generalize readE d n = re at *
  generalize putD d n s = pd at *
  generalize putE d n s = pe at *
  generalize flushD d = fd at *
  generalize flushE d = fe at *
  generalize goodD d = gd at *
  generalize fit s = fs at *
  generalize newDisk = nd at *
  have hd2 := hid hd
  obtain ⟨vs, vw, rfl, hs, hw, n1, n2⟩ := hd
  obtain ⟨a, cap, rfl, _⟩ := hs.form
  obtain ⟨b, bcap, rfl, _⟩ := hw.form
  clear hs hw hsz
  replace hC := hid hC; replace hR := hid hR; replace hRr := hid hRr; replace hP := hid hP; replace hPr := hid hPr; replace hF := hid hF; replace hFr := hid hFr; replace hG := hid hG; replace hGr := hid hGr
  replace hSa := hid hSa; replace hSb := hid hSb; replace hSc := hid hSc; replace hSd := hid hSd; replace hFit := hid hFit; replace hFitr := hid hFitr; replace hN := hid hN; replace hNr := hid hNr; replace hT := hid hT; replace hnew := hid hnew
  have k0 := Blk.new w #[.slice a d.safe.length cap, .slice b d.writes.length bcap] 56
  go_enter Try.func10, Try.ntmps10
  go_wp2_with (first
    | (go_at_call 44; go_loud (refine (hC.out _ (hd2.out.below (by repeat (first | exact Below.refl _ _ | with_reducible assumption | (refine allocB ?_ (by first | omega | (simp; done) | (simp; omega)) _) | (refine Below.setCell ?_ (by first | omega | (simp; done) | (simp; omega)) _) | refine Below.drew ?_ | (refine Below.trans ?_ (Below.mono (by with_reducible assumption) (by first | omega | (simp; done) | (simp; omega)))))))).mono ?_; rintro e w1 ⟨vs1, vw1, rfl, os1, ow1, _, hb1⟩; obtain ⟨a1, c1, rfl⟩ := os1.form; obtain ⟨b1, e1, rfl⟩ := ow1.form; have hc1 := hid (show RDisk w1 (.agg #[.slice a1 d.safe.length c1, .slice b1 d.writes.length e1]) d from ⟨_, _, rfl, os1.reads, ow1.reads, n1, n2⟩); (try clear k0_0); (try clear k0_1); replace k0 := (by with_reducible (first | exact Blk.step k0 hb1 | exact Blk.step (Blk.alloc k0 _) hb1 | exact Blk.step (Blk.alloc (Blk.alloc k0 _) _) hb1)); have k0_0 := k0.cell 0; have k0_1 := k0.cell 1; simp only [List.getElem?_toArray, List.getElem?_cons_zero, List.getElem?_cons_succ] at k0_0 k0_1; have nx1 := bgo (bal (b0 w) _) hb1; have l0 := k0.lt; have kc := Blk.new w1 #[.slice a1 d.safe.length c1, .slice b1 d.writes.length e1] 56; have l1 := Nat.lt_succ_self w1.heap.size; clear hb1 os1 ow1))
    | (go_at_call 42; go_loud (refine (hR.out _ _ (hc1.out.below (bal (b0 w1) _))).mono ?_; rintro e w2 ⟨rfl, hb2⟩; (try clear k0_0); (try clear k0_1); (try clear kc_0); (try clear kc_1); replace k0 := (by with_reducible (first | exact Blk.step k0 hb2 | exact Blk.step (Blk.alloc k0 _) hb2 | exact Blk.step (Blk.alloc (Blk.alloc k0 _) _) hb2)); have k0_0 := k0.cell 0; have k0_1 := k0.cell 1; replace kc := (by with_reducible (first | exact Blk.step kc hb2 | exact Blk.step (Blk.alloc kc _) hb2 | exact Blk.step (Blk.alloc (Blk.alloc kc _) _) hb2)); have kc_0 := kc.cell 0; have kc_1 := kc.cell 1; simp only [List.getElem?_toArray, List.getElem?_cons_zero, List.getElem?_cons_succ] at k0_0 k0_1 kc_0 kc_1; have nc2 := bgo (bal (b0 w1) _) hb2; have nx2 := nx1.trans (nc2.mono nx1.size); have l0 := k0.lt; have l1 := kc.lt; clear hb2))
    | (go_at_call 45; go_loud (refine (hRr.out _ _ (hd2.out.below nx2)).mono ?_; rintro e w3 ⟨rfl, hb3⟩; (try clear k0_0); (try clear k0_1); (try clear kc_0); (try clear kc_1); replace k0 := (by with_reducible (first | exact Blk.step k0 hb3 | exact Blk.step (Blk.alloc k0 _) hb3 | exact Blk.step (Blk.alloc (Blk.alloc k0 _) _) hb3)); have k0_0 := k0.cell 0; have k0_1 := k0.cell 1; replace kc := (by with_reducible (first | exact Blk.step kc hb3 | exact Blk.step (Blk.alloc kc _) hb3 | exact Blk.step (Blk.alloc (Blk.alloc kc _) _) hb3)); have kc_0 := kc.cell 0; have kc_1 := kc.cell 1; simp only [List.getElem?_toArray, List.getElem?_cons_zero, List.getElem?_cons_succ] at k0_0 k0_1 kc_0 kc_1; have nc3 := bgo nc2 hb3; have nx3 := bgo nx2 hb3; have l0 := k0.lt; have l1 := kc.lt; clear hb3))
    | (go_at_call 39; go_loud (refine (hP.out _ _ (hc1.out.below nc3)).mono ?_; rintro e w4 ⟨v4, rfl, h4, hb4⟩; have r4 := hid h4; obtain ⟨vs4, vw4, rfl, hs4, hw4, n14, n24⟩ := h4; obtain ⟨a4, c4, rfl, _⟩ := hs4.form; obtain ⟨b4, e4, rfl, _⟩ := hw4.form; (try clear k0_0); (try clear k0_1); (try clear kc_0); (try clear kc_1); replace k0 := (by with_reducible (first | exact Blk.step k0 hb4 | exact Blk.step (Blk.alloc k0 _) hb4 | exact Blk.step (Blk.alloc (Blk.alloc k0 _) _) hb4)); have k0_0 := k0.cell 0; have k0_1 := k0.cell 1; replace kc := (by with_reducible (first | exact Blk.step kc hb4 | exact Blk.step (Blk.alloc kc _) hb4 | exact Blk.step (Blk.alloc (Blk.alloc kc _) _) hb4)); have kc_0 := kc.cell 0; have kc_1 := kc.cell 1; simp only [List.getElem?_toArray, List.getElem?_cons_zero, List.getElem?_cons_succ] at k0_0 k0_1 kc_0 kc_1; have nc4 := bgo nc3 hb4; have nx4 := bgo nx3 hb4; have l0 := k0.lt; have l1 := kc.lt; have ka := Blk.new w4 #[.slice a4 pd.safe.length c4, .slice b4 pd.writes.length e4] 56; clear hb4 hs4 hw4))
    | (go_at_call 46; go_loud (refine (hPr.out _ _ (hd2.out.below (bal nx4 _))).mono ?_; rintro e w5 ⟨v5, rfl, h5, hb5⟩; have r5 := hid h5; obtain ⟨vs5, vw5, rfl, hs5, hw5, n15, n25⟩ := h5; obtain ⟨a5, c5, rfl, _⟩ := hs5.form; obtain ⟨b5, e5, rfl, _⟩ := hw5.form; (try clear k0_0); (try clear k0_1); (try clear kc_0); (try clear kc_1); (try clear ka_0); (try clear ka_1); replace k0 := (by with_reducible (first | exact Blk.step k0 hb5 | exact Blk.step (Blk.alloc k0 _) hb5 | exact Blk.step (Blk.alloc (Blk.alloc k0 _) _) hb5)); have k0_0 := k0.cell 0; have k0_1 := k0.cell 1; replace kc := (by with_reducible (first | exact Blk.step kc hb5 | exact Blk.step (Blk.alloc kc _) hb5 | exact Blk.step (Blk.alloc (Blk.alloc kc _) _) hb5)); have kc_0 := kc.cell 0; have kc_1 := kc.cell 1; replace ka := (by with_reducible (first | exact Blk.step ka hb5 | exact Blk.step (Blk.alloc ka _) hb5 | exact Blk.step (Blk.alloc (Blk.alloc ka _) _) hb5)); have ka_0 := ka.cell 0; have ka_1 := ka.cell 1; simp only [List.getElem?_toArray, List.getElem?_cons_zero, List.getElem?_cons_succ] at k0_0 k0_1 kc_0 kc_1 ka_0 ka_1; have nc5 := bgo (bal nc4 _) hb5; have nx5 := bgo (bal nx4 _) hb5; replace r4 := hid (r4.out.below (bgo (bal (b0 w4) _) hb5)); have l0 := k0.lt; have l1 := kc.lt; have l2 := ka.lt; have kb := Blk.new w5 #[.slice a5 pd.safe.length c5, .slice b5 pd.writes.length e5] 56; clear hb5 hs5 hw5))
    | (go_at_call 47; go_loud (refine (hF.out _ _ (hc1.out.below (bal nc5 _))).mono ?_; rintro e w6 ⟨v6, rfl, h6, hb6⟩; have r6 := hid h6; obtain ⟨vs6, vw6, rfl, hs6, hw6, n16, n26⟩ := h6; obtain ⟨a6, c6, rfl, _⟩ := hs6.form; obtain ⟨b6, e6, rfl, _⟩ := hw6.form; (try clear k0_0); (try clear k0_1); (try clear kc_0); (try clear kc_1); (try clear ka_0); (try clear ka_1); (try clear kb_0); (try clear kb_1); replace k0 := (by with_reducible (first | exact Blk.step k0 hb6 | exact Blk.step (Blk.alloc k0 _) hb6 | exact Blk.step (Blk.alloc (Blk.alloc k0 _) _) hb6)); have k0_0 := k0.cell 0; have k0_1 := k0.cell 1; replace kc := (by with_reducible (first | exact Blk.step kc hb6 | exact Blk.step (Blk.alloc kc _) hb6 | exact Blk.step (Blk.alloc (Blk.alloc kc _) _) hb6)); have kc_0 := kc.cell 0; have kc_1 := kc.cell 1; replace ka := (by with_reducible (first | exact Blk.step ka hb6 | exact Blk.step (Blk.alloc ka _) hb6 | exact Blk.step (Blk.alloc (Blk.alloc ka _) _) hb6)); have ka_0 := ka.cell 0; have ka_1 := ka.cell 1; replace kb := (by with_reducible (first | exact Blk.step kb hb6 | exact Blk.step (Blk.alloc kb _) hb6 | exact Blk.step (Blk.alloc (Blk.alloc kb _) _) hb6)); have kb_0 := kb.cell 0; have kb_1 := kb.cell 1; simp only [List.getElem?_toArray, List.getElem?_cons_zero, List.getElem?_cons_succ] at k0_0 k0_1 kc_0 kc_1 ka_0 ka_1 kb_0 kb_1; have nc6 := bgo (bal nc5 _) hb6; have nx6 := bgo (bal nx5 _) hb6; replace r4 := hid (r4.out.below (bgo (bal (b0 w5) _) hb6)); replace r5 := hid (r5.out.below (bgo (bal (b0 w5) _) hb6)); have l0 := k0.lt; have l1 := kc.lt; have l2 := ka.lt; have l3 := kb.lt; have ku := Blk.new w6 #[.slice a6 fd.safe.length c6, .slice b6 fd.writes.length e6] 56; clear hb6 hs6 hw6))
    | (go_at_call 48; go_loud (refine (hFr.out _ _ (hd2.out.below (bal nx6 _))).mono ?_; rintro e w7 ⟨v7, rfl, h7, hb7⟩; have r7 := hid h7; obtain ⟨vs7, vw7, rfl, hs7, hw7, n17, n27⟩ := h7; obtain ⟨a7, c7, rfl, _⟩ := hs7.form; obtain ⟨b7, e7, rfl, _⟩ := hw7.form; (try clear k0_0); (try clear k0_1); (try clear kc_0); (try clear kc_1); (try clear ka_0); (try clear ka_1); (try clear kb_0); (try clear kb_1); (try clear ku_0); (try clear ku_1); replace k0 := (by with_reducible (first | exact Blk.step k0 hb7 | exact Blk.step (Blk.alloc k0 _) hb7 | exact Blk.step (Blk.alloc (Blk.alloc k0 _) _) hb7)); have k0_0 := k0.cell 0; have k0_1 := k0.cell 1; replace kc := (by with_reducible (first | exact Blk.step kc hb7 | exact Blk.step (Blk.alloc kc _) hb7 | exact Blk.step (Blk.alloc (Blk.alloc kc _) _) hb7)); have kc_0 := kc.cell 0; have kc_1 := kc.cell 1; replace ka := (by with_reducible (first | exact Blk.step ka hb7 | exact Blk.step (Blk.alloc ka _) hb7 | exact Blk.step (Blk.alloc (Blk.alloc ka _) _) hb7)); have ka_0 := ka.cell 0; have ka_1 := ka.cell 1; replace kb := (by with_reducible (first | exact Blk.step kb hb7 | exact Blk.step (Blk.alloc kb _) hb7 | exact Blk.step (Blk.alloc (Blk.alloc kb _) _) hb7)); have kb_0 := kb.cell 0; have kb_1 := kb.cell 1; replace ku := (by with_reducible (first | exact Blk.step ku hb7 | exact Blk.step (Blk.alloc ku _) hb7 | exact Blk.step (Blk.alloc (Blk.alloc ku _) _) hb7)); have ku_0 := ku.cell 0; have ku_1 := ku.cell 1; simp only [List.getElem?_toArray, List.getElem?_cons_zero, List.getElem?_cons_succ] at k0_0 k0_1 kc_0 kc_1 ka_0 ka_1 kb_0 kb_1 ku_0 ku_1; have nc7 := bgo (bal nc6 _) hb7; have nx7 := bgo (bal nx6 _) hb7; replace r4 := hid (r4.out.below (bgo (bal (b0 w6) _) hb7)); replace r5 := hid (r5.out.below (bgo (bal (b0 w6) _) hb7)); replace r6 := hid (r6.out.below (bgo (bal (b0 w6) _) hb7)); have l0 := k0.lt; have l1 := kc.lt; have l2 := ka.lt; have l3 := kb.lt; have l4 := ku.lt; have kv := Blk.new w7 #[.slice a7 fd.safe.length c7, .slice b7 fd.writes.length e7] 56; clear hb7 hs7 hw7)))
  replace k0 := k0.alloc (.cells #[.slice a7 fd.safe.length c7, .slice b7 fd.writes.length e7] 56)
  replace kc := kc.alloc (.cells #[.slice a7 fd.safe.length c7, .slice b7 fd.writes.length e7] 56)
  replace ka := ka.alloc (.cells #[.slice a7 fd.safe.length c7, .slice b7 fd.writes.length e7] 56)
  replace kb := kb.alloc (.cells #[.slice a7 fd.safe.length c7, .slice b7 fd.writes.length e7] 56)
  replace ku := ku.alloc (.cells #[.slice a7 fd.safe.length c7, .slice b7 fd.writes.length e7] 56)
  have nx8 := bal nx7 (.cells #[.slice a7 fd.safe.length c7, .slice b7 fd.writes.length e7] 56)
  have nc8 := bal nc7 (.cells #[.slice a7 fd.safe.length c7, .slice b7 fd.writes.length e7] 56)
  have nz8 := bal (b0 w7) (.cells #[.slice a7 fd.safe.length c7, .slice b7 fd.writes.length e7] 56)
  replace r4 := hid (r4.out.below nz8)
  replace r5 := hid (r5.out.below nz8)
  replace r6 := hid (r6.out.below nz8)
  replace r7 := hid (r7.out.below nz8)
  clear nz8 k0_0 k0_1 kc_0 kc_1 ka_0 ka_1 kb_0 kb_1 ku_0 ku_1
  generalize w7.alloc (.cells #[.slice a7 fd.safe.length c7, .slice b7 fd.writes.length e7] 56) = wB at *
  replace hc1 := hid (hc1.out.below nc8)
  have q0 := k0.lt; have q1 := kc.lt; have q2 := ka.lt; have q3 := kb.lt; have q4 := ku.lt; have q5 := kv.lt
  have u0 := k0.cell 0; have u1 := k0.cell 1; have u2 := kc.cell 0; have u3 := kc.cell 1; have u4 := ka.cell 0; have u5 := ka.cell 1; have u6 := kb.cell 0; have u7 := kb.cell 1; have u8 := ku.cell 0; have u9 := ku.cell 1; have ux := kv.cell 0; have uy := kv.cell 1
  simp only [List.getElem?_toArray, List.getElem?_cons_zero, List.getElem?_cons_succ] at u0 u1 u2 u3 u4 u5 u6 u7 u8 u9 ux uy
  go_region_held3 (fun w' => Below (wB).heap.size (wB) w' ∧ ∀ k o, k < (wB).heap.size → w'.cell? ⟨k, o, none⟩ = (wB).cell? ⟨k, o, none⟩) (first | exact held0 _ | exact heldB (by assumption) hb | exact heldA (by assumption) _) (first
    | (go_at_call_of 49 (Value.slice b5 pd.writes.length e5); refine (hSa.out _ _ _ (r4.out.below (And.left (by assumption))) (r5.out.below (And.left (by assumption)))).mono ?_; rintro e w9 ⟨rfl, hb⟩)
    | (go_at_call_of 49 (Value.slice b7 fd.writes.length e7); refine (hSb.out _ _ _ (r6.out.below (And.left (by assumption))) (r7.out.below (And.left (by assumption)))).mono ?_; rintro e w9 ⟨rfl, hb⟩)
    | (go_at_call_of 49 (Value.slice b d.writes.length bcap); refine (hSd.out _ _ _ (hc1.out.below (And.left (by assumption))) (hd2.out.below (bgo nx8 (And.left (by assumption))))).mono ?_; rintro e w9 ⟨rfl, hb⟩)
    | (go_at_call 52; refine (hN.out _).mono ?_; rintro e w9 ⟨vN, rfl, oN, hb⟩; have rN := hid (hnew.out _ _ _ oN); obtain ⟨aN, cN, rfl⟩ := oN.form; clear oN)
    | (go_at_call 53; refine (hNr.out _).mono ?_; rintro e w9 ⟨vM, rfl, oM, hb⟩; have rM := hid (hnew.out _ _ _ oM); replace rN := hid (rN.out.below hb); obtain ⟨aM, cM, rfl⟩ := oM.form; clear oM)
    | (go_at_call 49; refine (hSc.out _ _ _ rN.out rM.out).mono ?_; rintro e w9 ⟨rfl, hb⟩)
    | (go_at_call 50; refine (hFit.out _).mono ?_; rintro e w9 ⟨rfl, hb⟩)
    | (go_at_call 51; refine (hFitr.out _).mono ?_; rintro e w9 ⟨rfl, hb⟩)
    | (go_at_call 43; refine (hG.out _ _ (hc1.out.below (And.left (by assumption)))).mono ?_; rintro e w9 ⟨rfl, hb⟩)
    | (go_at_call 54; refine (hGr.out _ _ (hd2.out.below (bgo nx8 (And.left (by assumption))))).mono ?_; rintro e w9 ⟨rfl, hb⟩)
    | (go_at_call 55; refine (hT.out _).mono ?_; rintro e w9 ⟨rfl, hb⟩))
  go_wp2
  go_ret
  exact ⟨rfl, bgo nx8 (And.left (by assumption))⟩
end Go.Proofs.Ytjhmfljlclajnaa
