/- The walks of the reference's GoodMark. -/
import Derived.Test.YtjhmfljlclajnabDoorStampR
namespace Go.Proofs.YtjhmfljlclajnabDoor
open Go.RowKit Wb
set_option linter.unusedVariables false
set_option linter.unusedSimpArgs false
set_option maxRecDepth 100000
set_option maxHeartbeats 8000000

theorem ref_GoodMark_bad (m : Mrk) (v : Value) (w : World) (hm : RMark w v m) (hbad : badKind m ∨ badNum m ∨ badForm m) :
    Calls Tryd.prog 76 #[v] w fun e w' => e = .returned (.int .i64 (markE m)) ∧ Below w.heap.size w w' := by
  obtain ⟨vt, vb, rfl, ht, hbk, n1, n2⟩ := hm
  obtain ⟨ta, tcap, rfl, tc1, tc2⟩ := ht.form
  obtain ⟨ba, bcap, rfl, bc1, bc2⟩ := hbk.form
  unfold maxLen at tc2 bc2
  clear ht hbk
  by_cases hA : badKind m
  · rw [markE_kind hA]
    obtain ⟨kd, sq, at_, tags, blks⟩ := m
    clear hbad
    unfold badKind at hA
    dsimp only at *
    go_enter Tryd.func76, Tryd.ntmps76
    go_wp2
    all_goals
      go_ret
      exact ⟨rfl, by repeat (first | exact Below.refl _ _ | with_reducible assumption | (refine allocB ?_ (by first | omega | (simp; done) | (simp; omega)) _) | (refine Below.setCell ?_ (by first | omega | (simp; done) | (simp; omega)) _) | refine Below.drew ?_ | (refine Below.trans ?_ (Below.mono (by with_reducible assumption) (by first | omega | (simp; done) | (simp; omega)))))⟩
  · by_cases hB : badNum m
    · rw [markE_num hA hB]
      obtain ⟨kd, sq, at_, tags, blks⟩ := m
      clear hbad
      unfold badKind at hA
      unfold badNum at hB
      dsimp only at *
      go_enter Tryd.func76, Tryd.ntmps76
      go_wp2
      all_goals
        go_ret
        exact ⟨rfl, by repeat (first | exact Below.refl _ _ | with_reducible assumption | (refine allocB ?_ (by first | omega | (simp; done) | (simp; omega)) _) | (refine Below.setCell ?_ (by first | omega | (simp; done) | (simp; omega)) _) | refine Below.drew ?_ | (refine Below.trans ?_ (Below.mono (by with_reducible assumption) (by first | omega | (simp; done) | (simp; omega)))))⟩
    · by_cases hC : badForm m
      · rw [markE_form hA hB hC]
        obtain ⟨kd, sq, at_, tags, blks⟩ := m
        clear hbad
        unfold badKind at hA
        unfold badNum at hB
        unfold badForm at hC
        dsimp only at *
        have hk : kd = 1 ∨ kd = 2 ∨ kd = 3 ∨ kd = 4 := by omega
        obtain ⟨q1, q2, q3, q4⟩ : 1 ≤ sq ∧ sq ≤ 2147483647 ∧ 0 ≤ at_ ∧ at_ < 24 := by omega
        clear hA hB
        by_cases g1 : kd ≠ 1 ∧ at_ ≠ 0
        · obtain ⟨g1, g2⟩ := g1
          have g2' : (at_ != 0) = true := bne_iff_ne.2 g2
          clear hC g2
          rcases hk with rfl | rfl | rfl | rfl
          · exact absurd rfl g1
          all_goals
            clear g1
            go_enter Tryd.func76, Tryd.ntmps76; go_wp2; all_goals (go_ret; exact ⟨rfl, by repeat (first | exact Below.refl _ _ | with_reducible assumption | (refine allocB ?_ (by first | omega | (simp; done) | (simp; omega)) _) | (refine Below.setCell ?_ (by first | omega | (simp; done) | (simp; omega)) _) | refine Below.drew ?_ | (refine Below.trans ?_ (Below.mono (by with_reducible assumption) (by first | omega | (simp; done) | (simp; omega)))))⟩)
        · have g1' : kd = 1 ∨ at_ = 0 := by omega
          by_cases g3 : kd ≠ 2 ∧ tags.length ≠ 0
          · obtain ⟨g3, g4⟩ := g3
            have g4' : 0 < tags.length := by omega
            have g5' : ((tags.length : Int) != 0) = true := bne_iff_ne.2 (by omega)
            clear hC g1 g4
            rcases hk with rfl | rfl | rfl | rfl
            · clear g1' g3
              go_enter Tryd.func76, Tryd.ntmps76; go_wp2; all_goals (go_ret; exact ⟨rfl, by repeat (first | exact Below.refl _ _ | with_reducible assumption | (refine allocB ?_ (by first | omega | (simp; done) | (simp; omega)) _) | (refine Below.setCell ?_ (by first | omega | (simp; done) | (simp; omega)) _) | refine Below.drew ?_ | (refine Below.trans ?_ (Below.mono (by with_reducible assumption) (by first | omega | (simp; done) | (simp; omega)))))⟩)
            · exact absurd rfl g3
            all_goals
              obtain rfl : at_ = 0 := by omega
              clear g1' g3
              go_enter Tryd.func76, Tryd.ntmps76; go_wp2; all_goals (go_ret; exact ⟨rfl, by repeat (first | exact Below.refl _ _ | with_reducible assumption | (refine allocB ?_ (by first | omega | (simp; done) | (simp; omega)) _) | (refine Below.setCell ?_ (by first | omega | (simp; done) | (simp; omega)) _) | refine Below.drew ?_ | (refine Below.trans ?_ (Below.mono (by with_reducible assumption) (by first | omega | (simp; done) | (simp; omega)))))⟩)
          · obtain ⟨g5, g6⟩ : kd ≠ 3 ∧ blks.length ≠ 0 := by omega
            have g6' : 0 < blks.length := by omega
            have g5' : ((blks.length : Int) != 0) = true := bne_iff_ne.2 (by omega)
            have g3' : kd = 2 ∨ tags.length = 0 := by omega
            clear hC g1 g3 g6
            rcases hk with rfl | rfl | rfl | rfl
            · have t0 : tags.length ≤ 0 := by omega
              have t1 : ((tags.length : Int) != 0) = false := by rw [bne_eq_false_iff_eq]; omega
              clear g1' g3' g5
              go_enter Tryd.func76, Tryd.ntmps76; go_wp2; all_goals (go_ret; exact ⟨rfl, by repeat (first | exact Below.refl _ _ | with_reducible assumption | (refine allocB ?_ (by first | omega | (simp; done) | (simp; omega)) _) | (refine Below.setCell ?_ (by first | omega | (simp; done) | (simp; omega)) _) | refine Below.drew ?_ | (refine Below.trans ?_ (Below.mono (by with_reducible assumption) (by first | omega | (simp; done) | (simp; omega)))))⟩)
            · obtain rfl : at_ = 0 := by omega
              clear g1' g3' g5
              go_enter Tryd.func76, Tryd.ntmps76; go_wp2; all_goals (go_ret; exact ⟨rfl, by repeat (first | exact Below.refl _ _ | with_reducible assumption | (refine allocB ?_ (by first | omega | (simp; done) | (simp; omega)) _) | (refine Below.setCell ?_ (by first | omega | (simp; done) | (simp; omega)) _) | refine Below.drew ?_ | (refine Below.trans ?_ (Below.mono (by with_reducible assumption) (by first | omega | (simp; done) | (simp; omega)))))⟩)
            · exact absurd rfl g5
            · obtain rfl : at_ = 0 := by omega
              have t0 : tags.length ≤ 0 := by omega
              have t1 : ((tags.length : Int) != 0) = false := by rw [bne_eq_false_iff_eq]; omega
              clear g1' g3' g5
              go_enter Tryd.func76, Tryd.ntmps76; go_wp2; all_goals (go_ret; exact ⟨rfl, by repeat (first | exact Below.refl _ _ | with_reducible assumption | (refine allocB ?_ (by first | omega | (simp; done) | (simp; omega)) _) | (refine Below.setCell ?_ (by first | omega | (simp; done) | (simp; omega)) _) | refine Below.drew ?_ | (refine Below.trans ?_ (Below.mono (by with_reducible assumption) (by first | omega | (simp; done) | (simp; omega)))))⟩)
      · exact absurd hbad (by simp [hA, hB, hC])
end Go.Proofs.YtjhmfljlclajnabDoor
