/- The walk of disk.Put. -/
import Derived.Test.YtjhmfljlclajnabDisk8
import Derived.Test.YtjhmfljlclajnabRegCall
import Derived.Deep.CutBlock
import Derived.Deep.DeepCutAuto
namespace Go.Proofs.Ytjhmfljlclajnab
open Go.RowKit Wb
set_option linter.unusedVariables false
set_option linter.unusedSimpArgs false
set_option maxRecDepth 100000
set_option maxHeartbeats 1000000

theorem disk_Put (d : Dsk) (n : Int) (t : ByteArray) (v : Value) (w : World) (hd : RDisk w v d) :
    Calls Try.prog 48 #[v, .int .i64 n, .string t] w fun e w' => ∃ v', e = .returned (.tuple #[v', .int .i64 (putE d n t)]) ∧ RDisk w' v' (putD d n t) ∧ Below w.heap.size w w' := by
  have hG := fun w (hh : RDisk w v d) => disk_Good d v w hh
  have hA := fun w => disk_at n w
  have hd2 := hd
  obtain ⟨vs, vw, rfl, hs, hw, n1, n2⟩ := hd
  obtain ⟨a, cap, rfl, _⟩ := hs.form
  obtain ⟨b, bcap, rfl, _⟩ := hw.form
  replace hd2 := hid hd2
  by_cases hg : goodD d = true
  · rw [hg] at hG
    by_cases ha : isAt n = true
    · have hg0 := hg
      have ha0 := ha
      rw [ha] at hA
      have hgood : goodD d = true ∧ isAt n = true := ⟨hg, ha⟩
      by_cases h32 : t.size = 32
      · have e1 : ((t.size : Int) != 32) = false := by rw [h32]; rfl
        by_cases h200 : 200 ≤ d.writes.length
        · have he : putE d n t = 11 := by unfold putE; rw [if_neg (not_not_intro hgood), if_neg (not_not_intro h32), if_pos h200]
          have hv : putD d n t = d := by unfold putD; rw [he, if_neg (by decide)]
          rw [hv, he]
          clear ha hg hv he hs hw hgood h32
          replace hG := hid hG
          replace hA := hid hA
          go_enter Try.func48, Try.ntmps48
          go_wp2_with (first
            | (go_at_call 20; refine (hG.out _ (hd2.out.below (by repeat (first | exact Below.refl _ _ | with_reducible assumption | (refine allocB ?_ (by first | omega | (simp; done) | (simp; omega)) _) | (refine Below.setCell ?_ (by first | omega | (simp; done) | (simp; omega)) _) | refine Below.drew ?_ | (refine Below.trans ?_ (Below.mono (by with_reducible assumption) (by first | omega | (simp; done) | (simp; omega)))))))).mono ?_; rintro e w1 ⟨rfl, hb1⟩; obtain ⟨hbc, hbf⟩ := bcell hb1; have hbz := hb1.size; try simp only [World.size_alloc, World.size_setCell, World.size_drew] at hbz; have hz0 := Nat.lt_of_lt_of_le (n := w.heap.size) (by omega) hbz; have hz1 := Nat.lt_of_lt_of_le (n := w.heap.size + 1) (by omega) hbz)
            | (go_at_call 53; refine (hA.out _).mono ?_; rintro e w2 ⟨rfl, rfl⟩))
          exact bodyPost_ret (v := .tuple #[.agg #[.slice a d.safe.length cap, .slice b d.writes.length bcap], .int .i64 11]) (by simp [results, Try.results48, go_sem, hbc]) rfl ⟨_, rfl, hd2.out.below (by repeat (first | exact Below.refl _ _ | with_reducible assumption | (refine allocB ?_ (by first | omega | (simp; done) | (simp; omega)) _) | (refine Below.setCell ?_ (by first | omega | (simp; done) | (simp; omega)) _) | refine Below.drew ?_ | (refine Below.trans ?_ (Below.mono (by with_reducible assumption) (by first | omega | (simp; done) | (simp; omega)))))), by repeat (first | exact Below.refl _ _ | with_reducible assumption | (refine allocB ?_ (by first | omega | (simp; done) | (simp; omega)) _) | (refine Below.setCell ?_ (by first | omega | (simp; done) | (simp; omega)) _) | refine Below.drew ?_ | (refine Below.trans ?_ (Below.mono (by with_reducible assumption) (by first | omega | (simp; done) | (simp; omega)))))⟩
        · have he : putE d n t = 0 := by unfold putE; rw [if_neg (not_not_intro hgood), if_neg (not_not_intro h32), if_neg h200]
          have hv : putD d n t = ⟨d.safe, d.writes ++ [⟨n, t⟩]⟩ := by unfold putD; rw [if_pos he]
          rw [hv, he]
          clear ha hg hv he hgood
          exact disk_Put_good d n t _ w hd2.out hg0 ha0 h32 h200
      · have e1 : ((t.size : Int) != 32) = true := bne_iff_ne.2 (by omega)
        have he : putE d n t = 1 := by unfold putE; rw [if_neg (not_not_intro hgood), if_pos h32]
        have hv : putD d n t = d := by unfold putD; rw [he, if_neg (by decide)]
        rw [hv, he]
        clear ha hg hv he hs hw hgood h32
        replace hG := hid hG
        replace hA := hid hA
        go_enter Try.func48, Try.ntmps48
        go_wp2_with (first
          | (go_at_call 20; refine (hG.out _ (hd2.out.below (by repeat (first | exact Below.refl _ _ | with_reducible assumption | (refine allocB ?_ (by first | omega | (simp; done) | (simp; omega)) _) | (refine Below.setCell ?_ (by first | omega | (simp; done) | (simp; omega)) _) | refine Below.drew ?_ | (refine Below.trans ?_ (Below.mono (by with_reducible assumption) (by first | omega | (simp; done) | (simp; omega)))))))).mono ?_; rintro e w1 ⟨rfl, hb1⟩; obtain ⟨hbc, hbf⟩ := bcell hb1; have hbz := hb1.size; try simp only [World.size_alloc, World.size_setCell, World.size_drew] at hbz; have hz0 := Nat.lt_of_lt_of_le (n := w.heap.size) (by omega) hbz; have hz1 := Nat.lt_of_lt_of_le (n := w.heap.size + 1) (by omega) hbz)
          | (go_at_call 53; refine (hA.out _).mono ?_; rintro e w2 ⟨rfl, rfl⟩))
        exact bodyPost_ret (v := .tuple #[.agg #[.slice a d.safe.length cap, .slice b d.writes.length bcap], .int .i64 1]) (by simp [results, Try.results48, go_sem, hbc]) rfl ⟨_, rfl, hd2.out.below (by repeat (first | exact Below.refl _ _ | with_reducible assumption | (refine allocB ?_ (by first | omega | (simp; done) | (simp; omega)) _) | (refine Below.setCell ?_ (by first | omega | (simp; done) | (simp; omega)) _) | refine Below.drew ?_ | (refine Below.trans ?_ (Below.mono (by with_reducible assumption) (by first | omega | (simp; done) | (simp; omega)))))), by repeat (first | exact Below.refl _ _ | with_reducible assumption | (refine allocB ?_ (by first | omega | (simp; done) | (simp; omega)) _) | (refine Below.setCell ?_ (by first | omega | (simp; done) | (simp; omega)) _) | refine Below.drew ?_ | (refine Below.trans ?_ (Below.mono (by with_reducible assumption) (by first | omega | (simp; done) | (simp; omega)))))⟩
    · have he : putE d n t = 2 := by unfold putE; rw [if_pos (fun hh => ha hh.2)]
      have hv : putD d n t = d := by unfold putD; rw [he, if_neg (by decide)]
      rw [hv, he]
      rw [Bool.not_eq_true _ |>.mp ha] at hA
      clear ha hg hv he
      replace hG := hid hG
      replace hA := hid hA
      replace hs := hid hs
      replace hw := hid hw
      go_enter Try.func48, Try.ntmps48
      go_wp2_with (first
        | (go_at_call 20; refine (hG.out _ (hd2.out.below (by repeat (first | exact Below.refl _ _ | with_reducible assumption | (refine allocB ?_ (by first | omega | (simp; done) | (simp; omega)) _) | (refine Below.setCell ?_ (by first | omega | (simp; done) | (simp; omega)) _) | refine Below.drew ?_ | (refine Below.trans ?_ (Below.mono (by with_reducible assumption) (by first | omega | (simp; done) | (simp; omega)))))))).mono ?_; rintro e w1 ⟨rfl, hb1⟩; obtain ⟨hbc, hbf⟩ := bcell hb1; have hbz := hb1.size; try simp only [World.size_alloc, World.size_setCell, World.size_drew] at hbz; have hz0 := Nat.lt_of_lt_of_le (n := w.heap.size) (by omega) hbz; have hz1 := Nat.lt_of_lt_of_le (n := w.heap.size + 1) (by omega) hbz)
        | (go_at_call 53; refine (hA.out _).mono ?_; rintro e w2 ⟨rfl, rfl⟩))
      exact bodyPost_ret (v := .tuple #[.agg #[.slice a d.safe.length cap, .slice b d.writes.length bcap], .int .i64 2]) (by simp [results, Try.results48, go_sem, hbc]) rfl ⟨_, rfl, hd2.out.below (by repeat (first | exact Below.refl _ _ | with_reducible assumption | (refine allocB ?_ (by first | omega | (simp; done) | (simp; omega)) _) | (refine Below.setCell ?_ (by first | omega | (simp; done) | (simp; omega)) _) | refine Below.drew ?_ | (refine Below.trans ?_ (Below.mono (by with_reducible assumption) (by first | omega | (simp; done) | (simp; omega)))))), by repeat (first | exact Below.refl _ _ | with_reducible assumption | (refine allocB ?_ (by first | omega | (simp; done) | (simp; omega)) _) | (refine Below.setCell ?_ (by first | omega | (simp; done) | (simp; omega)) _) | refine Below.drew ?_ | (refine Below.trans ?_ (Below.mono (by with_reducible assumption) (by first | omega | (simp; done) | (simp; omega)))))⟩
  · have he : putE d n t = 2 := by unfold putE; rw [if_pos (fun hh => hg hh.1)]
    have hv : putD d n t = d := by unfold putD; rw [he, if_neg (by decide)]
    rw [hv, he]
    rw [Bool.not_eq_true _ |>.mp hg] at hG
    clear hg hv he hs hw
    replace hG := hid hG
    go_enter Try.func48, Try.ntmps48
    go_wp2_with (go_at_call 20; refine (hG.out _ (hd2.out.below (by repeat (first | exact Below.refl _ _ | with_reducible assumption | (refine allocB ?_ (by first | omega | (simp; done) | (simp; omega)) _) | (refine Below.setCell ?_ (by first | omega | (simp; done) | (simp; omega)) _) | refine Below.drew ?_ | (refine Below.trans ?_ (Below.mono (by with_reducible assumption) (by first | omega | (simp; done) | (simp; omega)))))))).mono ?_; rintro e w1 ⟨rfl, hb1⟩; obtain ⟨hbc, hbf⟩ := bcell hb1; have hbz := hb1.size; try simp only [World.size_alloc, World.size_setCell, World.size_drew] at hbz; have hz0 := Nat.lt_of_lt_of_le (n := w.heap.size) (by omega) hbz; have hz1 := Nat.lt_of_lt_of_le (n := w.heap.size + 1) (by omega) hbz)
    exact bodyPost_ret (v := .tuple #[.agg #[.slice a d.safe.length cap, .slice b d.writes.length bcap], .int .i64 2]) (by simp [results, Try.results48, go_sem, hbc]) rfl ⟨_, rfl, hd2.out.below (by repeat (first | exact Below.refl _ _ | with_reducible assumption | (refine allocB ?_ (by first | omega | (simp; done) | (simp; omega)) _) | (refine Below.setCell ?_ (by first | omega | (simp; done) | (simp; omega)) _) | refine Below.drew ?_ | (refine Below.trans ?_ (Below.mono (by with_reducible assumption) (by first | omega | (simp; done) | (simp; omega)))))), by repeat (first | exact Below.refl _ _ | with_reducible assumption | (refine allocB ?_ (by first | omega | (simp; done) | (simp; omega)) _) | (refine Below.setCell ?_ (by first | omega | (simp; done) | (simp; omega)) _) | refine Below.drew ?_ | (refine Below.trans ?_ (Below.mono (by with_reducible assumption) (by first | omega | (simp; done) | (simp; omega)))))⟩
end Go.Proofs.Ytjhmfljlclajnab
