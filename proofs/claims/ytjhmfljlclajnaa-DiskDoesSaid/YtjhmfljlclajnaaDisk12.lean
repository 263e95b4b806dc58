/- The walk of the reference's PutDisk. -/
import Derived.Test.YtjhmfljlclajnaaDisk11
namespace Go.Proofs.Ytjhmfljlclajnaa
open Go.RowKit Wb
set_option linter.unusedVariables false
set_option linter.unusedSimpArgs false
set_option maxRecDepth 100000
set_option maxHeartbeats 1000000

theorem ref_PutDisk_good (d : Dsk) (n : Int) (t : ByteArray) (v : Value) (w : World) (hd : RDisk w v d) (hg : goodD d = true) (ha : isAt n = true) (h32 : t.size = 32) (h200 : ¬ 200 ≤ d.writes.length) :
    Calls Try.prog 46 #[v, .int .i64 n, .string t] w fun e w' => ∃ v', e = .returned (.tuple #[v', .int .i64 0]) ∧ RDisk w' v' ⟨d.safe, d.writes ++ [⟨n, t⟩]⟩ ∧ Below w.heap.size w w' := by
  have hG := fun w (hh : RDisk w v d) => ref_GoodDisk d v w hh
  have hA := fun w => ref_isAt n w
  have hC := fun w (hh : RDisk w v d) => ref_CopyDisk d v w hh
  rw [hg] at hG
  rw [ha] at hA
  have g2 := ((goodD_iff d).1 hg).2.1
  have e1 : ((t.size : Int) != 32) = false := by rw [h32]; rfl
  have e2 : ((d.writes.length : Int) == 200) = false := beq_eq_false_iff_ne.2 (by omega)
  have hd2 := hd
  obtain ⟨vs, vw, rfl, hs, hw, n1, n2⟩ := hd
  obtain ⟨a, cap, rfl, ca1, ca2⟩ := hs.form
  obtain ⟨b, bcap, rfl, cb1, cb2⟩ := hw.form
  replace hd2 := hid hd2
  clear hg ha h32 hs hw
  obtain ⟨safe, writes⟩ := d
  dsimp only at *
  replace hG := hid hG
  replace hA := hid hA
  replace hC := hid hC
  go_enter Try.func46, Try.ntmps46
  go_wp2_with (first
    | (go_at_call 54; refine (hG.out _ (hd2.out.below (by repeat (first | exact Below.refl _ _ | with_reducible assumption | (refine allocB ?_ (by first | omega | (simp; done) | (simp; omega)) _) | (refine Below.setCell ?_ (by first | omega | (simp; done) | (simp; omega)) _) | refine Below.drew ?_ | (refine Below.trans ?_ (Below.mono (by with_reducible assumption) (by first | omega | (simp; done) | (simp; omega)))))))).mono ?_; rintro e w1 ⟨rfl, hb1⟩; obtain ⟨hbc, hbf⟩ := bcell hb1; have hbz := hb1.size; try simp only [World.size_alloc, World.size_setCell, World.size_drew] at hbz; have hz0 := Nat.lt_of_lt_of_le (n := w.heap.size) (by omega) hbz; have hz1 := Nat.lt_of_lt_of_le (n := w.heap.size + 1) (by omega) hbz)
    | (go_at_call 70; refine (hA.out _).mono ?_; rintro e w2 ⟨rfl, rfl⟩)
    | (go_at_call 44; go_loud (refine (hC.out _ (hd2.out.below (by repeat (first | exact Below.refl _ _ | with_reducible assumption | (refine allocB ?_ (by first | omega | (simp; done) | (simp; omega)) _) | (refine Below.setCell ?_ (by first | omega | (simp; done) | (simp; omega)) _) | refine Below.drew ?_ | (refine Below.trans ?_ (Below.mono (by with_reducible assumption) (by first | omega | (simp; done) | (simp; omega)))))))).mono ?_; rintro e w3 ⟨vs3, vw3, rfl, os3, ow3, hsep, hb3⟩; obtain ⟨as3, cs3, rfl⟩ := os3.form; obtain ⟨aw3, cw3, rfl⟩ := ow3.form; have hnx : Below w.heap.size w w1 := (by repeat (first | exact Below.refl _ _ | with_reducible assumption | (refine allocB ?_ (by first | omega | (simp; done) | (simp; omega)) _) | (refine Below.setCell ?_ (by first | omega | (simp; done) | (simp; omega)) _) | refine Below.drew ?_ | (refine Below.trans ?_ (Below.mono (by with_reducible assumption) (by first | omega | (simp; done) | (simp; omega)))))); have hnx3 := hnx.trans (hb3.mono (by omega)); have k1 : Blk w3 (w.heap.size + 1) #[.slice none 0 0, .slice none 0 0] 56 := ((Blk.newAt (w := w.alloc _) (by simp)).step hb1).step hb3; have lt1 := k1.lt; have hz3 := hb3.size; have c0 := k1.cell 0; have c1 := k1.cell 1; simp only [List.getElem?_toArray, List.getElem?_cons_zero, List.getElem?_cons_succ] at c0 c1; have f0 := k1.free 0; have f1 := k1.free 1; clear hb1 hbc hbf hb3))
    | (at_builtin; go_loud (refine wpList_push1 rfl _ _ _ rfl w1.heap.size _ 2 24 wrC_flat elemWr (ow3.alloc _) rfl ⟨n, t⟩ rfl rfl _ rfl (by omega) (by omega) (by simp; omega) ?_; intro a4 cap4 w4 hown4 hb4 hg4; have os4 := (os3.alloc _).grown hg4 hsep; have k4 : Blk w4 w3.heap.size #[.slice as3 safe.length cs3, .slice aw3 writes.length cw3] 56 := (Blk.new w3 _ _).grown hg4 (own_new ow3 _ (Nat.le_refl _)); have k1 := (k1.alloc _).below hb4 (by omega); have hnx4 := (allocB hnx3 (by omega) _).trans (hb4.mono (by omega)); have g0 := k4.cell 0; have g1 := k4.cell 1; have g2 := k4.free 1; have c0 := k1.cell 0; have c1 := k1.cell 1; simp only [List.getElem?_toArray, List.getElem?_cons_zero, List.getElem?_cons_succ] at c0 c1 g0 g1; have f0 := k1.free 0; have f1 := k1.free 1; have ltg := k4.lt)))
  have o1 := os4.setBlk k4 (by decide) 1 (.slice a4 (writes.length + 1) cap4)
  have o2 := hown4.setBlk k4 (by decide) 1 (.slice a4 (writes.length + 1) cap4)
  have hnx5 := hnx4.setCell (p := ⟨w3.heap.size, 1, none⟩) (by simp; omega) (.slice a4 (writes.length + 1) cap4)
  have k5 := k1.set_other ⟨w3.heap.size, 1, none⟩ (.slice a4 (writes.length + 1) cap4) (by simp; omega)
  generalize w4.setCell ⟨w3.heap.size, 1, none⟩ (.slice a4 (writes.length + 1) cap4) = w5 at *
  have d0 := k5.cell 0
  have d1 := k5.cell 1
  simp only [List.getElem?_toArray, List.getElem?_cons_zero, List.getElem?_cons_succ] at d0 d1
  have o3 := (o1.setCell (p := ⟨w.heap.size + 1, 0, none⟩) (by simp; omega) (.slice as3 safe.length cs3)).setCell (p := ⟨w.heap.size + 1, 1, none⟩) (by simp; omega) (.slice a4 (writes.length + 1) cap4)
  have o4 := (o2.setCell (p := ⟨w.heap.size + 1, 0, none⟩) (by simp; omega) (.slice as3 safe.length cs3)).setCell (p := ⟨w.heap.size + 1, 1, none⟩) (by simp; omega) (.slice a4 (writes.length + 1) cap4)
  exact bodyPost_ret (v := .tuple #[.agg #[.slice as3 safe.length cs3, .slice a4 (writes.length + 1) cap4], .int .i64 0]) (by simp [results, Try.results46, go_sem, d0, d1]) rfl ⟨_, rfl, ⟨_, _, rfl, o3.reads, o4.reads, n1, by simp; omega⟩, (hnx5.setCell (by simp) _).setCell (by simp) _⟩

theorem ref_PutDisk (d : Dsk) (n : Int) (t : ByteArray) (v : Value) (w : World) (hd : RDisk w v d) :
    Calls Try.prog 46 #[v, .int .i64 n, .string t] w fun e w' => ∃ v', e = .returned (.tuple #[v', .int .i64 (putE d n t)]) ∧ RDisk w' v' (putD d n t) ∧ Below w.heap.size w w' := by
  have hG := fun w (hh : RDisk w v d) => ref_GoodDisk d v w hh
  have hA := fun w => ref_isAt n w
  by_cases hp : putE d n t = 0
  · obtain ⟨hg, ha, h32, h200⟩ := putE_zero hp
    unfold putD
    rw [if_pos hp, hp]
    exact ref_PutDisk_good d n t v w hd hg ha h32 h200
  have hv : putD d n t = d := by unfold putD; rw [if_neg hp]
  rw [hv]
  have hd2 := hd
  obtain ⟨vs, vw, rfl, hs, hw, n1, n2⟩ := hd
  obtain ⟨a, cap, rfl, _⟩ := hs.form
  obtain ⟨b, bcap, rfl, _⟩ := hw.form
  replace hd2 := hid hd2
  clear hs hw hv
  by_cases hg : goodD d = true
  · rw [hg] at hG
    have hle := ((goodD_iff d).1 hg).2.1
    by_cases ha : isAt n = true
    · rw [ha] at hA
      by_cases h32 : t.size = 32
      · have e1 : ((t.size : Int) != 32) = false := by rw [h32]; rfl
        have h200 : 200 ≤ d.writes.length := by
          refine Decidable.not_not.1 fun h => hp ?_
          unfold putE; rw [if_neg (not_not_intro ⟨hg, ha⟩), if_neg (not_not_intro h32), if_neg h]
        have he : putE d n t = 11 := by unfold putE; rw [if_neg (not_not_intro ⟨hg, ha⟩), if_neg (not_not_intro h32), if_pos h200]
        have e2 : ((d.writes.length : Int) == 200) = true := beq_iff_eq.2 (by omega)
        rw [he]
        clear he ha hg h32 hp h200 hle
        replace hG := hid hG
        replace hA := hid hA
        go_enter Try.func46, Try.ntmps46
        go_wp2_with (first
          | (go_at_call 54; refine (hG.out _ (hd2.out.below (by repeat (first | exact Below.refl _ _ | with_reducible assumption | (refine allocB ?_ (by first | omega | (simp; done) | (simp; omega)) _) | (refine Below.setCell ?_ (by first | omega | (simp; done) | (simp; omega)) _) | refine Below.drew ?_ | (refine Below.trans ?_ (Below.mono (by with_reducible assumption) (by first | omega | (simp; done) | (simp; omega)))))))).mono ?_; rintro e w1 ⟨rfl, hb1⟩; obtain ⟨hbc, hbf⟩ := bcell hb1; have hbz := hb1.size; try simp only [World.size_alloc, World.size_setCell, World.size_drew] at hbz; have hz0 := Nat.lt_of_lt_of_le (n := w.heap.size) (by omega) hbz; have hz1 := Nat.lt_of_lt_of_le (n := w.heap.size + 1) (by omega) hbz)
          | (go_at_call 70; refine (hA.out _).mono ?_; rintro e w2 ⟨rfl, rfl⟩))
        exact bodyPost_ret (v := .tuple #[.agg #[.slice a d.safe.length cap, .slice b d.writes.length bcap], .int .i64 11]) (by simp [results, Try.results46, go_sem, hbc]) rfl ⟨_, rfl, hd2.out.below (by repeat (first | exact Below.refl _ _ | with_reducible assumption | (refine allocB ?_ (by first | omega | (simp; done) | (simp; omega)) _) | (refine Below.setCell ?_ (by first | omega | (simp; done) | (simp; omega)) _) | refine Below.drew ?_ | (refine Below.trans ?_ (Below.mono (by with_reducible assumption) (by first | omega | (simp; done) | (simp; omega)))))), by repeat (first | exact Below.refl _ _ | with_reducible assumption | (refine allocB ?_ (by first | omega | (simp; done) | (simp; omega)) _) | (refine Below.setCell ?_ (by first | omega | (simp; done) | (simp; omega)) _) | refine Below.drew ?_ | (refine Below.trans ?_ (Below.mono (by with_reducible assumption) (by first | omega | (simp; done) | (simp; omega)))))⟩
      · have e1 : ((t.size : Int) != 32) = true := bne_iff_ne.2 (by omega)
        have he : putE d n t = 1 := by unfold putE; rw [if_neg (not_not_intro ⟨hg, ha⟩), if_pos h32]
        rw [he]
        clear he ha hg h32 hp hle
        replace hG := hid hG
        replace hA := hid hA
        go_enter Try.func46, Try.ntmps46
        go_wp2_with (first
          | (go_at_call 54; refine (hG.out _ (hd2.out.below (by repeat (first | exact Below.refl _ _ | with_reducible assumption | (refine allocB ?_ (by first | omega | (simp; done) | (simp; omega)) _) | (refine Below.setCell ?_ (by first | omega | (simp; done) | (simp; omega)) _) | refine Below.drew ?_ | (refine Below.trans ?_ (Below.mono (by with_reducible assumption) (by first | omega | (simp; done) | (simp; omega)))))))).mono ?_; rintro e w1 ⟨rfl, hb1⟩; obtain ⟨hbc, hbf⟩ := bcell hb1; have hbz := hb1.size; try simp only [World.size_alloc, World.size_setCell, World.size_drew] at hbz; have hz0 := Nat.lt_of_lt_of_le (n := w.heap.size) (by omega) hbz; have hz1 := Nat.lt_of_lt_of_le (n := w.heap.size + 1) (by omega) hbz)
          | (go_at_call 70; refine (hA.out _).mono ?_; rintro e w2 ⟨rfl, rfl⟩))
        exact bodyPost_ret (v := .tuple #[.agg #[.slice a d.safe.length cap, .slice b d.writes.length bcap], .int .i64 1]) (by simp [results, Try.results46, go_sem, hbc]) rfl ⟨_, rfl, hd2.out.below (by repeat (first | exact Below.refl _ _ | with_reducible assumption | (refine allocB ?_ (by first | omega | (simp; done) | (simp; omega)) _) | (refine Below.setCell ?_ (by first | omega | (simp; done) | (simp; omega)) _) | refine Below.drew ?_ | (refine Below.trans ?_ (Below.mono (by with_reducible assumption) (by first | omega | (simp; done) | (simp; omega)))))), by repeat (first | exact Below.refl _ _ | with_reducible assumption | (refine allocB ?_ (by first | omega | (simp; done) | (simp; omega)) _) | (refine Below.setCell ?_ (by first | omega | (simp; done) | (simp; omega)) _) | refine Below.drew ?_ | (refine Below.trans ?_ (Below.mono (by with_reducible assumption) (by first | omega | (simp; done) | (simp; omega)))))⟩
    · have he : putE d n t = 2 := by unfold putE; rw [if_pos (fun hh => ha hh.2)]
      rw [he]
      rw [Bool.not_eq_true _ |>.mp ha] at hA
      clear ha hg he hp hle
      replace hG := hid hG
      replace hA := hid hA
      go_enter Try.func46, Try.ntmps46
      go_wp2_with (first
        | (go_at_call 54; refine (hG.out _ (hd2.out.below (by repeat (first | exact Below.refl _ _ | with_reducible assumption | (refine allocB ?_ (by first | omega | (simp; done) | (simp; omega)) _) | (refine Below.setCell ?_ (by first | omega | (simp; done) | (simp; omega)) _) | refine Below.drew ?_ | (refine Below.trans ?_ (Below.mono (by with_reducible assumption) (by first | omega | (simp; done) | (simp; omega)))))))).mono ?_; rintro e w1 ⟨rfl, hb1⟩; obtain ⟨hbc, hbf⟩ := bcell hb1; have hbz := hb1.size; try simp only [World.size_alloc, World.size_setCell, World.size_drew] at hbz; have hz0 := Nat.lt_of_lt_of_le (n := w.heap.size) (by omega) hbz; have hz1 := Nat.lt_of_lt_of_le (n := w.heap.size + 1) (by omega) hbz)
        | (go_at_call 70; refine (hA.out _).mono ?_; rintro e w2 ⟨rfl, rfl⟩))
      exact bodyPost_ret (v := .tuple #[.agg #[.slice a d.safe.length cap, .slice b d.writes.length bcap], .int .i64 2]) (by simp [results, Try.results46, go_sem, hbc]) rfl ⟨_, rfl, hd2.out.below (by repeat (first | exact Below.refl _ _ | with_reducible assumption | (refine allocB ?_ (by first | omega | (simp; done) | (simp; omega)) _) | (refine Below.setCell ?_ (by first | omega | (simp; done) | (simp; omega)) _) | refine Below.drew ?_ | (refine Below.trans ?_ (Below.mono (by with_reducible assumption) (by first | omega | (simp; done) | (simp; omega)))))), by repeat (first | exact Below.refl _ _ | with_reducible assumption | (refine allocB ?_ (by first | omega | (simp; done) | (simp; omega)) _) | (refine Below.setCell ?_ (by first | omega | (simp; done) | (simp; omega)) _) | refine Below.drew ?_ | (refine Below.trans ?_ (Below.mono (by with_reducible assumption) (by first | omega | (simp; done) | (simp; omega)))))⟩
  · have he : putE d n t = 2 := by unfold putE; rw [if_pos (fun hh => hg hh.1)]
    rw [he]
    rw [Bool.not_eq_true _ |>.mp hg] at hG
    clear hg he hp
    replace hG := hid hG
    go_enter Try.func46, Try.ntmps46
    go_wp2_with (go_at_call 54; refine (hG.out _ (hd2.out.below (by repeat (first | exact Below.refl _ _ | with_reducible assumption | (refine allocB ?_ (by first | omega | (simp; done) | (simp; omega)) _) | (refine Below.setCell ?_ (by first | omega | (simp; done) | (simp; omega)) _) | refine Below.drew ?_ | (refine Below.trans ?_ (Below.mono (by with_reducible assumption) (by first | omega | (simp; done) | (simp; omega)))))))).mono ?_; rintro e w1 ⟨rfl, hb1⟩; obtain ⟨hbc, hbf⟩ := bcell hb1; have hbz := hb1.size; try simp only [World.size_alloc, World.size_setCell, World.size_drew] at hbz; have hz0 := Nat.lt_of_lt_of_le (n := w.heap.size) (by omega) hbz; have hz1 := Nat.lt_of_lt_of_le (n := w.heap.size + 1) (by omega) hbz)
    exact bodyPost_ret (v := .tuple #[.agg #[.slice a d.safe.length cap, .slice b d.writes.length bcap], .int .i64 2]) (by simp [results, Try.results46, go_sem, hbc]) rfl ⟨_, rfl, hd2.out.below (by repeat (first | exact Below.refl _ _ | with_reducible assumption | (refine allocB ?_ (by first | omega | (simp; done) | (simp; omega)) _) | (refine Below.setCell ?_ (by first | omega | (simp; done) | (simp; omega)) _) | refine Below.drew ?_ | (refine Below.trans ?_ (Below.mono (by with_reducible assumption) (by first | omega | (simp; done) | (simp; omega)))))), by repeat (first | exact Below.refl _ _ | with_reducible assumption | (refine allocB ?_ (by first | omega | (simp; done) | (simp; omega)) _) | (refine Below.setCell ?_ (by first | omega | (simp; done) | (simp; omega)) _) | refine Below.drew ?_ | (refine Below.trans ?_ (Below.mono (by with_reducible assumption) (by first | omega | (simp; done) | (simp; omega)))))⟩
end Go.Proofs.Ytjhmfljlclajnaa
