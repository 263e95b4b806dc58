/- The walk of the law DiskCrashes. -/
import Derived.Test.YtjhmfljlclajnabCrash
import Derived.Test.YtjhmfljlclajnabCrashR
import Derived.Test.YtjhmfljlclajnabDisk6
import Derived.Test.YtjhmfljlclajnabTurns
namespace Go.Proofs.Ytjhmfljlclajnab
open Go.RowKit Wb
set_option linter.unusedVariables false
set_option linter.unusedSimpArgs false
set_option maxRecDepth 100000
set_option maxHeartbeats 2000000

theorem law_DiskCrashes (d : Dsk) (n : Int) (v : Value) (w : World) (hd : RDisk w v d) (hn : n ≤ 9223372036854775807) :
    Calls Try.prog 3 #[v, .int .i64 n] w fun e w' => e = .returned (.bool true) ∧ Below w.heap.size w w' := by
  have hC := fun w (h : RDisk w v d) => ref_CopyDisk d v w h
  have hP := fun v w (h : RDisk w v d) => disk_Crash d n v w h hn
  have hPr := fun v w (h : RDisk w v d) => ref_CrashDisk d n v w h hn
  have hSa := fun v1 v2 w h1 h2 => ref_SameDisk (crashD d n) v1 v2 w h1 h2
  have hSd := fun v1 v2 w h1 h2 => ref_SameDisk d v1 v2 w h1 h2
  have hT := fun w => law_turns w
  generalize crashD d n = pd at *
  generalize crashE d n = pe at *
  have hd2 := hid hd
  obtain ⟨vs, vw, rfl, hs, hw, n1, n2⟩ := hd
  obtain ⟨a, cap, rfl, _⟩ := hs.form
  obtain ⟨b, bcap, rfl, _⟩ := hw.form
  clear hs hw hn
  have hee : (pe == pe) = true := beq_self_eq_true _
  replace hC := hid hC; replace hP := hid hP; replace hPr := hid hPr; replace hSa := hid hSa; replace hSd := hid hSd; replace hT := hid hT
  have k0 := Blk.new w #[.slice a d.safe.length cap, .slice b d.writes.length bcap] 25
  go_enter Try.func3, Try.ntmps3
  go_wp2_with (first
    | (go_at_call 9; go_loud (refine (hC.out _ (hd2.out.below (by repeat (first | exact Below.refl _ _ | with_reducible assumption | (refine allocB ?_ (by first | omega | (simp; done) | (simp; omega)) _) | (refine Below.setCell ?_ (by first | omega | (simp; done) | (simp; omega)) _) | refine Below.drew ?_ | (refine Below.trans ?_ (Below.mono (by with_reducible assumption) (by first | omega | (simp; done) | (simp; omega)))))))).mono ?_; rintro e w1 ⟨vs1, vw1, rfl, os1, ow1, _, hb1⟩; obtain ⟨a1, c1, rfl⟩ := os1.form; obtain ⟨b1, e1, rfl⟩ := ow1.form; have hc1 := hid (show RDisk w1 (.agg #[.slice a1 d.safe.length c1, .slice b1 d.writes.length e1]) d from ⟨_, _, rfl, os1.reads, ow1.reads, n1, n2⟩); (try clear k0_0); (try clear k0_1); replace k0 := (by with_reducible (first | exact Blk.step k0 hb1 | exact Blk.step (Blk.alloc k0 _) hb1 | exact Blk.step (Blk.alloc (Blk.alloc k0 _) _) hb1)); have k0_0 := k0.cell 0; have k0_1 := k0.cell 1; simp only [List.getElem?_toArray, List.getElem?_cons_zero, List.getElem?_cons_succ] at k0_0 k0_1; have nx1 := bgo (bal (b0 w) _) hb1; have l0 := k0.lt; have kc := Blk.new w1 #[.slice a1 d.safe.length c1, .slice b1 d.writes.length e1] 25; have l1 := Nat.lt_succ_self w1.heap.size; clear hb1 os1 ow1))
    | (go_at_call 10; go_loud (refine (hP.out _ _ (hc1.out.below (bal (b0 w1) _))).mono ?_; rintro e w4 ⟨v4, rfl, h4, hb4⟩; have r4 := hid h4; obtain ⟨vs4, vw4, rfl, hs4, hw4, n14, n24⟩ := h4; obtain ⟨a4, c4, rfl, _⟩ := hs4.form; obtain ⟨b4, e4, rfl, _⟩ := hw4.form; (try clear k0_0); (try clear k0_1); (try clear kc_0); (try clear kc_1); replace k0 := (by with_reducible (first | exact Blk.step k0 hb4 | exact Blk.step (Blk.alloc k0 _) hb4 | exact Blk.step (Blk.alloc (Blk.alloc k0 _) _) hb4)); have k0_0 := k0.cell 0; have k0_1 := k0.cell 1; replace kc := (by with_reducible (first | exact Blk.step kc hb4 | exact Blk.step (Blk.alloc kc _) hb4 | exact Blk.step (Blk.alloc (Blk.alloc kc _) _) hb4)); have kc_0 := kc.cell 0; have kc_1 := kc.cell 1; simp only [List.getElem?_toArray, List.getElem?_cons_zero, List.getElem?_cons_succ] at k0_0 k0_1 kc_0 kc_1; have nc4 := bgo (bal (b0 w1) _) hb4; have nx4 := bgo (bal nx1 _) hb4; have l0 := k0.lt; have l1 := kc.lt; have ka := Blk.new w4 #[.slice a4 pd.safe.length c4, .slice b4 pd.writes.length e4] 25; clear hb4 hs4 hw4))
    | (go_at_call 11; go_loud (refine (hPr.out _ _ (hd2.out.below (bal nx4 _))).mono ?_; rintro e w5 ⟨v5, rfl, h5, hb5⟩; have r5 := hid h5; obtain ⟨vs5, vw5, rfl, hs5, hw5, n15, n25⟩ := h5; obtain ⟨a5, c5, rfl, _⟩ := hs5.form; obtain ⟨b5, e5, rfl, _⟩ := hw5.form; (try clear k0_0); (try clear k0_1); (try clear kc_0); (try clear kc_1); (try clear ka_0); (try clear ka_1); replace k0 := (by with_reducible (first | exact Blk.step k0 hb5 | exact Blk.step (Blk.alloc k0 _) hb5 | exact Blk.step (Blk.alloc (Blk.alloc k0 _) _) hb5)); have k0_0 := k0.cell 0; have k0_1 := k0.cell 1; replace kc := (by with_reducible (first | exact Blk.step kc hb5 | exact Blk.step (Blk.alloc kc _) hb5 | exact Blk.step (Blk.alloc (Blk.alloc kc _) _) hb5)); have kc_0 := kc.cell 0; have kc_1 := kc.cell 1; replace ka := (by with_reducible (first | exact Blk.step ka hb5 | exact Blk.step (Blk.alloc ka _) hb5 | exact Blk.step (Blk.alloc (Blk.alloc ka _) _) hb5)); have ka_0 := ka.cell 0; have ka_1 := ka.cell 1; simp only [List.getElem?_toArray, List.getElem?_cons_zero, List.getElem?_cons_succ] at k0_0 k0_1 kc_0 kc_1 ka_0 ka_1; have nc5 := bgo (bal nc4 _) hb5; have nx5 := bgo (bal nx4 _) hb5; replace r4 := hid (r4.out.below (bgo (bal (b0 w4) _) hb5)); have l0 := k0.lt; have l1 := kc.lt; have l2 := ka.lt; clear hb5 hs5 hw5))
    | (go_at_call_of 12 (Value.slice b5 pd.writes.length e5); go_loud (refine (hSa.out _ _ _ (r4.out.below (bal (b0 w5) _)) (r5.out.below (bal (b0 w5) _))).mono ?_; rintro e w6 ⟨rfl, hb6⟩; (try clear k0_0); (try clear k0_1); (try clear kc_0); (try clear kc_1); replace k0 := (by with_reducible (first | exact Blk.step k0 hb6 | exact Blk.step (Blk.alloc k0 _) hb6 | exact Blk.step (Blk.alloc (Blk.alloc k0 _) _) hb6)); have k0_0 := k0.cell 0; have k0_1 := k0.cell 1; replace kc := (by with_reducible (first | exact Blk.step kc hb6 | exact Blk.step (Blk.alloc kc _) hb6 | exact Blk.step (Blk.alloc (Blk.alloc kc _) _) hb6)); have kc_0 := kc.cell 0; have kc_1 := kc.cell 1; simp only [List.getElem?_toArray, List.getElem?_cons_zero, List.getElem?_cons_succ] at k0_0 k0_1 kc_0 kc_1; have nc6 := bgo (bal nc5 _) hb6; have nx6 := bgo (bal nx5 _) hb6; have l0 := k0.lt; have l1 := kc.lt))
    | (go_at_call_of 12 (Value.slice b d.writes.length bcap); go_loud (refine (hSd.out _ _ _ (hc1.out.below nc6) (hd2.out.below nx6)).mono ?_; rintro e w7 ⟨rfl, hb7⟩; have nx7 := bgo nx6 hb7))
    | (go_at_call 13; go_loud (refine (hT.out _).mono ?_; rintro e w8 ⟨rfl, hb8⟩; have nx8 := bgo nx7 hb8)))
  go_ret
  exact ⟨rfl, nx8⟩
end Go.Proofs.Ytjhmfljlclajnab
