/- The law on marks. -/
import Derived.Test.YtjhmfljlclajnaaMarks
import Derived.Test.YtjhmfljlclajnaaStampR3
import Derived.Deep.RegionWith
namespace Go.Proofs.Ytjhmfljlclajnaa
open Go.RowKit Wb
set_option linter.unusedVariables false
set_option linter.unusedSimpArgs false
set_option maxRecDepth 100000
set_option maxHeartbeats 4000000

def mk0 : Mrk := ⟨4, 258, 0, [], []⟩
theorem mk0_E : markE mk0 = 0 := by decide
theorem mk0_S : markS mk0 = ⟨#[87, 66, 75, 49, 4, 0, 0, 1, 2, 0, 0, 0, 0, 0, 0, 0, 0, 0, 0, 0, 0, 0, 0, 0, 0, 0, 0, 0, 0, 0, 0, 0]⟩ := by
  unfold markS; rw [if_pos mk0_E]; rfl

theorem law_marks (w : World) : Calls Try.prog 34 #[] w fun e w' => e = .returned (.bool true) ∧ Below w.heap.size w w' := by
  have hE := fun w => stamp_Encode mk0 _ w ⟨_, _, rfl, RL.nil _ _, RL.nil _ _, by decide, by decide⟩
  rw [mk0_E, mk0_S] at hE
  unfold mk0 at hE
  dsimp only at hE
  replace hE := hid hE
  have hx : (⟨#[87, 66, 75, 49, 4, 0, 0, 1, 2, 0, 0, 0, 0, 0, 0, 0, 0, 0, 0, 0, 0, 0, 0, 0, 0, 0, 0, 0, 0, 0, 0, 0]⟩ : ByteArray).extract 0 10 = ⟨#[87, 66, 75, 49, 4, 0, 0, 1, 2, 0]⟩ := by
    apply ba_ext; rw [Lib.extract_data]; rfl
  go_enter Try.func34, Try.ntmps34
  go_wp2_with (go_at_call 29; refine (hE.out _).mono ?_; rintro e w1 ⟨rfl, hb1⟩)
  go_ret
  exact ⟨rfl, by repeat (first | exact Below.refl _ _ | with_reducible assumption | (refine allocB ?_ (by first | omega | (simp; done) | (simp; omega)) _) | (refine Below.setCell ?_ (by first | omega | (simp; done) | (simp; omega)) _) | refine Below.drew ?_ | (refine Below.trans ?_ (Below.mono (by with_reducible assumption) (by first | omega | (simp; done) | (simp; omega)))))⟩

theorem law_FormMarks (m : Mrk) (v : Value) (w : World) (hm : RMark w v m) :
    Calls Try.prog 7 #[v] w fun e w' => e = .returned (.bool true) ∧ Below w.heap.size w w' := by
  have hM := fun w (hh : RMark w v m) => law_mark m v w hh
  have hE := fun v w (hh : RMark w v m) => stamp_Encode m v w hh
  have hR := fun v w (hh : RMark w v m) => ref_EncodeMark m v w hh
  have hG := fun v w (hh : RMark w v m) => stamp_Good m v w hh
  have hGr := fun v w (hh : RMark w v m) => ref_GoodMark m v w hh
  have hK := fun w => law_marks w
  generalize markS m = ms at *
  generalize markE m = er at *
  have hm2 := hm
  obtain ⟨vt, vb, rfl, ht, hbk, n1, n2⟩ := hm
  replace hM := hid hM; replace hE := hid hE; replace hR := hid hR; replace hG := hid hG; replace hGr := hid hGr; replace hK := hid hK; replace hm2 := hid hm2
  obtain ⟨ta, tcap, rfl, _⟩ := ht.form
  obtain ⟨ba, bcap, rfl, _⟩ := hbk.form
  clear ht hbk n1 n2
  go_enter Try.func7, Try.ntmps7
  go_wp2_with (first
    | (go_at_call 30; refine (hM.out _ (hm2.out.below (by repeat (first | exact Below.refl _ _ | with_reducible assumption | (refine allocB ?_ (by first | omega | (simp; done) | (simp; omega)) _) | (refine Below.setCell ?_ (by first | omega | (simp; done) | (simp; omega)) _) | refine Below.drew ?_ | (refine Below.trans ?_ (Below.mono (by with_reducible assumption) (by first | omega | (simp; done) | (simp; omega)))))))).mono ?_; rintro e w1 ⟨v1, rfl, hr1, hb1⟩; obtain ⟨va1, vb1, rfl, hr1⟩ := hr1; replace hr1 := hid hr1; obtain ⟨hbc, hbf⟩ := bcell hb1; have hbz := hb1.size; try simp only [World.size_alloc, World.size_setCell, World.size_drew] at hbz; have hz0 := Nat.lt_of_lt_of_le (n := w.heap.size) (by omega) hbz)
    | (go_at_call 29; refine (hE.out _ _ ⟨_, _, rfl, hr1.out⟩).mono ?_; rintro e w2 ⟨rfl, hb2⟩; obtain ⟨hbc2, hbf2⟩ := bcell hb2; have hz2 := hb2.size)
    | (go_at_call 31; refine (hR.out _ _ (hm2.out.below (by repeat (first | exact Below.refl _ _ | with_reducible assumption | (refine allocB ?_ (by first | omega | (simp; done) | (simp; omega)) _) | (refine Below.setCell ?_ (by first | omega | (simp; done) | (simp; omega)) _) | refine Below.drew ?_ | (refine Below.trans ?_ (Below.mono (by with_reducible assumption) (by first | omega | (simp; done) | (simp; omega)))))))).mono ?_; rintro e w3 ⟨rfl, hb3⟩; obtain ⟨hbc3, hbf3⟩ := bcell hb3; have hz3 := hb3.size))
  have kb : Blk w3 w.heap.size _ 43 := (((Blk.new w _ _).step hb1).step hb2).step hb3
  have hnx : Below w.heap.size w w3 := by repeat (first | exact Below.refl _ _ | with_reducible assumption | (refine allocB ?_ (by first | omega | (simp; done) | (simp; omega)) _) | (refine Below.setCell ?_ (by first | omega | (simp; done) | (simp; omega)) _) | refine Below.drew ?_ | (refine Below.trans ?_ (Below.mono (by with_reducible assumption) (by first | omega | (simp; done) | (simp; omega)))))
  clear hbc hbf hbc2 hbf2 hbc3 hbf3 hb1 hb2 hb3 hr1
  have lt0 := kb.lt
  have c0 := kb.cell 0
  have c1 := kb.cell 1
  have c2 := kb.cell 2
  have c3 := kb.cell 3
  have c4 := kb.cell 4
  simp only [List.getElem?_toArray, List.getElem?_cons_zero, List.getElem?_cons_succ] at c0 c1 c2 c3 c4
  go_region_with (first
    | (go_at_call 30; refine (hM.out _ (hm2.out.below (by repeat (first | exact Below.refl _ _ | with_reducible assumption | (refine allocB ?_ (by first | omega | (simp; done) | (simp; omega)) _) | (refine Below.setCell ?_ (by first | omega | (simp; done) | (simp; omega)) _) | refine Below.drew ?_ | (refine Below.trans ?_ (Below.mono (by with_reducible assumption) (by first | omega | (simp; done) | (simp; omega)))))))).mono ?_; rintro e w4 ⟨v1, rfl, hr1, hb4⟩; obtain ⟨va1, vb1, rfl, hr1⟩ := hr1; replace hr1 := hid hr1; have k4 := kb.drew.step hb4; have ltk4 := k4.lt; have k4c0 := k4.cell 0; have k4c1 := k4.cell 1; have k4c2 := k4.cell 2; have k4c3 := k4.cell 3; have k4c4 := k4.cell 4; simp only [List.getElem?_toArray, List.getElem?_cons_zero, List.getElem?_cons_succ] at k4c0 k4c1 k4c2 k4c3 k4c4)
    | (go_at_call 32; refine (hG.out _ _ ⟨_, _, rfl, hr1.out⟩).mono ?_; rintro e w5 ⟨rfl, hb5⟩; have k5 := k4.step hb5; have ltk5 := k5.lt; have k5c0 := k5.cell 0; have k5c1 := k5.cell 1; have k5c2 := k5.cell 2; have k5c3 := k5.cell 3; have k5c4 := k5.cell 4; simp only [List.getElem?_toArray, List.getElem?_cons_zero, List.getElem?_cons_succ] at k5c0 k5c1 k5c2 k5c3 k5c4)
    | (go_at_call 33; refine (hGr.out _ _ (hm2.out.below (by repeat (first | exact Below.refl _ _ | with_reducible assumption | (refine allocB ?_ (by first | omega | (simp; done) | (simp; omega)) _) | (refine Below.setCell ?_ (by first | omega | (simp; done) | (simp; omega)) _) | refine Below.drew ?_ | (refine Below.trans ?_ (Below.mono (by with_reducible assumption) (by first | omega | (simp; done) | (simp; omega)))))))).mono ?_; rintro e w6 ⟨rfl, hb6⟩; have ltk6 := (k5.step hb6).lt)
    | (go_at_call 34; refine (hK.out _).mono ?_; rintro e w7 ⟨rfl, hb7⟩))
  all_goals
    go_wp2
    go_ret
    exact ⟨rfl, by repeat (first | exact Below.refl _ _ | with_reducible assumption | (refine allocB ?_ (by first | omega | (simp; done) | (simp; omega)) _) | (refine Below.setCell ?_ (by first | omega | (simp; done) | (simp; omega)) _) | refine Below.drew ?_ | (refine Below.trans ?_ (Below.mono (by with_reducible assumption) (by first | omega | (simp; done) | (simp; omega)))))⟩
end Go.Proofs.Ytjhmfljlclajnaa
