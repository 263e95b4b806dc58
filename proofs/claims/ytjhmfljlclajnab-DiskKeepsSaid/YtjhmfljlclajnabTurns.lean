/- The walks of turns. -/
import Derived.Test.YtjhmfljlclajnabDisk12
import Derived.Test.YtjhmfljlclajnabDisk2
import Derived.Test.YtjhmfljlclajnabDisk6
namespace Go.Proofs.Ytjhmfljlclajnab
open Go.RowKit Wb
set_option linter.unusedVariables false
set_option linter.unusedSimpArgs false
set_option maxRecDepth 100000
set_option maxHeartbeats 1000000
def newDisk : Dsk := ⟨List.replicate 37 (fit ⟨#[]⟩), []⟩
theorem newDisk_good : goodD newDisk = true := by
  refine (goodD_iff _).2 ⟨by simp [newDisk], by simp [newDisk], ?_, by simp [newDisk]⟩
  rw [List.all_eq_true]
  intro x hx
  rw [show x = fit ⟨#[]⟩ from List.eq_of_mem_replicate hx]
  exact decide_eq_true (fit_size _)
theorem turn_put : putE newDisk 3 (fit ⟨#[97]⟩) = 0 := putE_one newDisk_good (by decide) (fit_size _) (by simp [newDisk])

theorem keep_turns (w : World) : Calls Try.prog 19 #[] w fun e w' => e = .returned (.bool true) ∧ Below w.heap.size w w' := by
  have hN := fun w => disk_New w
  have hF := fun w => disk_Fit ⟨#[97]⟩ w (by decide)
  have hP := fun v w (h : RDisk w v newDisk) => disk_Put newDisk 3 (fit ⟨#[97]⟩) v w h
  have hR := fun v w (h : RDisk w v (putD newDisk 3 (fit ⟨#[97]⟩))) => disk_Read (putD newDisk 3 (fit ⟨#[97]⟩)) 3 v w h
  have hr := put_read turn_put
  have hre := put_readE turn_put 3
  have hre0 : readE newDisk 3 = 0 := by unfold readE; rw [if_pos ⟨newDisk_good, by decide⟩]
  have hwl : (putD newDisk 3 (fit ⟨#[97]⟩)).writes.length = 1 := by rw [putD_one turn_put]; rfl
  rw [hre0] at hre
  rw [turn_put] at hP
  simp only [hr, hre] at hR
  have hs := fit_size ⟨#[97]⟩
  have h0 : ∀ h : 0 < (fit ⟨#[97]⟩).size, (fit ⟨#[97]⟩)[0] = 97 := fun _ => rfl
  have hnew : ∀ b w vs, Own strC b 9 1 w vs (List.replicate 37 (fit ⟨#[]⟩)) → RDisk w (.agg #[vs, .slice none 0 0]) newDisk := fun b w vs h => ⟨_, _, rfl, h.reads, RL.nil _ _, by simp [newDisk], by simp [newDisk]⟩
  generalize putD newDisk 3 (fit ⟨#[97]⟩) = d at *
  generalize fit ⟨#[97]⟩ = t at *
  replace hN := hid hN
  replace hF := hid hF
  replace hP := hid hP
  replace hR := hid hR
  replace hnew := hid hnew
  have e2 : ((d.writes.length : Int) == 1) = true := by rw [hwl]; rfl
  clear hwl
  have e1 : ((t.size : Int) == 32) = true := by rw [hs]; rfl
  have ht0 : 0 < t.size := by omega
  clear hr hre hre0 hs
  go_enter Try.func19, Try.ntmps19
  go_wp2_with (first
    | (go_at_call 49; go_loud (refine (hN.out _).mono ?_; rintro e w1 ⟨vs1, rfl, o1, hb1⟩; obtain ⟨a1, cap1, rfl⟩ := o1.form))
    | (go_at_call 50; go_loud (refine (hF.out _).mono ?_; rintro e w2 ⟨rfl, hb2⟩; have o2 := o1.below hb2))
    | (go_at_call 48; go_loud (refine (hP.out _ _ (hnew.out _ _ _ o2)).mono ?_; rintro e w3 ⟨v3, rfl, hr3, hb3⟩; have hr3' := hid hr3; obtain ⟨vs3, vw3, rfl, hs3, hw3, n13, n23⟩ := hr3; obtain ⟨as3, cs3, rfl, _⟩ := hs3.form; obtain ⟨aw3, cw3, rfl, _⟩ := hw3.form))
    | (go_at_call 21; go_loud (refine (hR.out _ _ (hr3'.out.below (by repeat (first | exact Below.refl _ _ | with_reducible assumption | (refine allocB ?_ (by first | omega | (simp; done) | (simp; omega)) _) | (refine Below.setCell ?_ (by first | omega | (simp; done) | (simp; omega)) _) | refine Below.drew ?_ | (refine Below.trans ?_ (Below.mono (by with_reducible assumption) (by first | omega | (simp; done) | (simp; omega)))))))).mono ?_; rintro e w4 ⟨rfl, hb4⟩; have k4 : Blk w4 w3.heap.size #[.slice as3 d.safe.length cs3, .slice aw3 d.writes.length cw3] 25 := (Blk.new w3 _ _).step hb4; have d0 := k4.cell 0; have d1 := k4.cell 1; simp only [List.getElem?_toArray, List.getElem?_cons_zero, List.getElem?_cons_succ] at d0 d1)))
  have z1 := hb1.size
  have z2 := hb2.size
  have z3 := hb3.size
  go_ret
  exact ⟨rfl, by repeat (first | exact Below.refl _ _ | with_reducible assumption | (refine allocB ?_ (by first | omega | (simp; done) | (simp; omega)) _) | (refine Below.setCell ?_ (by first | omega | (simp; done) | (simp; omega)) _) | refine Below.drew ?_ | (refine Below.trans ?_ (Below.mono (by with_reducible assumption) (by first | omega | (simp; done) | (simp; omega)))))⟩
theorem law_turns (w : World) : Calls Try.prog 13 #[] w fun e w' => e = .returned (.bool true) ∧ Below w.heap.size w w' := by
  have hN := fun w => disk_New w
  have hF := fun w => disk_Fit ⟨#[97]⟩ w (by decide)
  have hP := fun v w (h : RDisk w v newDisk) => disk_Put newDisk 3 (fit ⟨#[97]⟩) v w h
  have hR := fun v w (h : RDisk w v (putD newDisk 3 (fit ⟨#[97]⟩))) => disk_Read (putD newDisk 3 (fit ⟨#[97]⟩)) 3 v w h
  have hr := put_read turn_put
  have hre := put_readE turn_put 3
  have hre0 : readE newDisk 3 = 0 := by unfold readE; rw [if_pos ⟨newDisk_good, by decide⟩]
  have hwl : (putD newDisk 3 (fit ⟨#[97]⟩)).writes.length = 1 := by rw [putD_one turn_put]; rfl
  rw [hre0] at hre
  rw [turn_put] at hP
  simp only [hr, hre] at hR
  have hs := fit_size ⟨#[97]⟩
  have h0 : ∀ h : 0 < (fit ⟨#[97]⟩).size, (fit ⟨#[97]⟩)[0] = 97 := fun _ => rfl
  have hnew : ∀ b w vs, Own strC b 9 1 w vs (List.replicate 37 (fit ⟨#[]⟩)) → RDisk w (.agg #[vs, .slice none 0 0]) newDisk := fun b w vs h => ⟨_, _, rfl, h.reads, RL.nil _ _, by simp [newDisk], by simp [newDisk]⟩
  generalize putD newDisk 3 (fit ⟨#[97]⟩) = d at *
  generalize fit ⟨#[97]⟩ = t at *
  replace hN := hid hN
  replace hF := hid hF
  replace hP := hid hP
  replace hR := hid hR
  replace hnew := hid hnew
  have e2 : ((d.writes.length : Int) == 1) = true := by rw [hwl]; rfl
  clear hwl
  have e1 : ((t.size : Int) == 32) = true := by rw [hs]; rfl
  have ht0 : 0 < t.size := by omega
  clear hr hre hre0 hs
  go_enter Try.func13, Try.ntmps13
  go_wp2_with (first
    | (go_at_call 49; go_loud (refine (hN.out _).mono ?_; rintro e w1 ⟨vs1, rfl, o1, hb1⟩; obtain ⟨a1, cap1, rfl⟩ := o1.form))
    | (go_at_call 50; go_loud (refine (hF.out _).mono ?_; rintro e w2 ⟨rfl, hb2⟩; have o2 := o1.below hb2))
    | (go_at_call 48; go_loud (refine (hP.out _ _ (hnew.out _ _ _ o2)).mono ?_; rintro e w3 ⟨v3, rfl, hr3, hb3⟩; have hr3' := hid hr3; obtain ⟨vs3, vw3, rfl, hs3, hw3, n13, n23⟩ := hr3; obtain ⟨as3, cs3, rfl, _⟩ := hs3.form; obtain ⟨aw3, cw3, rfl, _⟩ := hw3.form))
    | (go_at_call 21; go_loud (refine (hR.out _ _ (hr3'.out.below (by repeat (first | exact Below.refl _ _ | with_reducible assumption | (refine allocB ?_ (by first | omega | (simp; done) | (simp; omega)) _) | (refine Below.setCell ?_ (by first | omega | (simp; done) | (simp; omega)) _) | refine Below.drew ?_ | (refine Below.trans ?_ (Below.mono (by with_reducible assumption) (by first | omega | (simp; done) | (simp; omega)))))))).mono ?_; rintro e w4 ⟨rfl, hb4⟩; have k4 : Blk w4 w3.heap.size #[.slice as3 d.safe.length cs3, .slice aw3 d.writes.length cw3] 25 := (Blk.new w3 _ _).step hb4; have d0 := k4.cell 0; have d1 := k4.cell 1; simp only [List.getElem?_toArray, List.getElem?_cons_zero, List.getElem?_cons_succ] at d0 d1)))
  have z1 := hb1.size
  have z2 := hb2.size
  have z3 := hb3.size
  go_ret
  exact ⟨rfl, by repeat (first | exact Below.refl _ _ | with_reducible assumption | (refine allocB ?_ (by first | omega | (simp; done) | (simp; omega)) _) | (refine Below.setCell ?_ (by first | omega | (simp; done) | (simp; omega)) _) | refine Below.drew ?_ | (refine Below.trans ?_ (Below.mono (by with_reducible assumption) (by first | omega | (simp; done) | (simp; omega)))))⟩
end Go.Proofs.Ytjhmfljlclajnab
