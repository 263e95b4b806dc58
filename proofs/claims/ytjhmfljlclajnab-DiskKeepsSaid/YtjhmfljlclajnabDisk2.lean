/- The walk of disk.Read. -/
import Derived.Test.YtjhmfljlclajnabDisk
namespace Go.Proofs.Ytjhmfljlclajnab
open Go.RowKit Wb
set_option linter.unusedVariables false
set_option linter.unusedSimpArgs false
set_option maxRecDepth 100000
set_option maxHeartbeats 4000000

theorem disk_Read (d : Dsk) (n : Int) (v : Value) (w : World) (hd : RDisk w v d) :
    Calls Try.prog 21 #[v, .int .i64 n] w fun e w' => e = .returned (.tuple #[.string (readD d n), .int .i64 (readE d n)]) ∧ Below w.heap.size w w' := by
  have hG := fun w (hh : RDisk w v d) => disk_Good d v w hh
  have hA := fun w => disk_at n w
  have hd2 := hd
  obtain ⟨vs, vw, rfl, hs, hw, n1, n2⟩ := hd
  obtain ⟨a, cap, rfl, _⟩ := hs.form
  obtain ⟨b, bcap, rfl, _⟩ := hw.form
  replace hd2 := hid hd2
  by_cases hg : goodD d = true
  · rw [hg] at hG
    by_cases ha : isAt n = true
    · rw [ha] at hA
      have hr : readD d n = lastT (safeAt d n) n (d.writes.take d.writes.length) := by unfold readD; rw [if_pos ⟨hg, ha⟩, List.take_length]
      have he : readE d n = 0 := by unfold readE; rw [if_pos ⟨hg, ha⟩]
      rw [he]
      obtain ⟨g1, g2, _, _⟩ := (goodD_iff d).1 hg
      obtain ⟨h0, h1⟩ : 0 ≤ n ∧ n < 37 := of_decide_eq_true ha
      obtain ⟨m, rfl⟩ : ∃ m : Nat, n = m := ⟨n.toNat, by omega⟩
      have hm : m < d.safe.length := by omega
      have hsf : safeAt d m = d.safe[m] := by simp [safeAt, hm]
      rw [hsf] at hr
      clear hg ha he hsf
      generalize readD d m = r at *
      obtain ⟨safe, writes⟩ := d
      dsimp only at *
      have hlast := fun (k : Nat) (hk : k < writes.length) => lastT_hit safe[m] m hk
      have hmiss := fun (k : Nat) (hk : k < writes.length) => lastT_miss safe[m] m hk
      have hl0 := lastT_nil safe[m] m
      have hm3 : m < safe.length := hm
      replace hs := hid hs
      replace hw := hid hw
      replace hG := hid hG
      replace hA := hid hA
      replace hr := hid hr
      replace g1 := hid g1
      replace hlast := hid hlast
      replace hmiss := hid hmiss
      replace hl0 := hid hl0
      replace hm3 := hid hm3
      go_enter Try.func21, Try.ntmps21
      go_wp2_with (first
        | (go_at_call 20; refine (hG.out _ (hd2.out.below (by repeat (first | exact Below.refl _ _ | with_reducible assumption | (refine allocB ?_ (by first | omega | (simp; done) | (simp; omega)) _) | (refine Below.setCell ?_ (by first | omega | (simp; done) | (simp; omega)) _) | refine Below.drew ?_ | (refine Below.trans ?_ (Below.mono (by with_reducible assumption) (by first | omega | (simp; done) | (simp; omega)))))))).mono ?_; rintro e w1 ⟨rfl, hb1⟩; obtain ⟨hbc, hbf⟩ := bcell hb1; have hbz := hb1.size; try simp only [World.size_alloc, World.size_setCell, World.size_drew] at hbz; have hz0 := Nat.lt_of_lt_of_le (n := w.heap.size) (by omega) hbz)
        | (go_at_call 53; refine (hA.out _).mono ?_; rintro e w2 ⟨rfl, rfl⟩))
      have kb : Blk w1 w.heap.size #[.slice a safe.length cap, .slice b writes.length bcap] 25 := (Blk.new w _ _).step hb1
      have hnx : Below w.heap.size w w1 := by repeat (first | exact Below.refl _ _ | with_reducible assumption | (refine allocB ?_ (by first | omega | (simp; done) | (simp; omega)) _) | (refine Below.setCell ?_ (by first | omega | (simp; done) | (simp; omega)) _) | refine Below.drew ?_ | (refine Below.trans ?_ (Below.mono (by with_reducible assumption) (by first | omega | (simp; done) | (simp; omega)))))
      clear hb1 hbc hbf
      have lt0 := kb.lt
      have c0 := kb.cell 0
      have c1 := kb.cell 1
      simp only [List.getElem?_toArray, List.getElem?_cons_zero, List.getElem?_cons_succ] at c0 c1
      go_loop [6] (fun i => ∃ k : Nat, k ≤ writes.length ∧ i = .int .i64 ((k : Int) - 1) ∧ Hid (r = lastT safe[m] m (writes.take k))) (fun i => (intOf i + 1).toNat)
      case atStart => exact ⟨writes.length, Nat.le_refl _, rfl, hr.out⟩
      case round =>
        obtain ⟨k, hk, rfl, hrk⟩ := hrel
        rcases Nat.eq_zero_or_pos k with hk0 | hk0
        · subst hk0
          obtain ⟨b2, off, rfl, d0⟩ := RL.at1 (fun x => .string x) (fun _ => rfl) (hs.out.below hnx) hm3.out
          have hrs : r = safe[m] := by rw [hrk.out, List.take_zero]; exact hl0.out
          replace hrs := hid hrs
          clear hrk
          generalize safe[m] = sm at *
          go_wp2
          go_ret2
          exact ⟨ret_st hrs.out.symm, hnx⟩
        · obtain ⟨j, rfl⟩ : ∃ j, k = j + 1 := ⟨k - 1, by omega⟩
          have hj : j < writes.length := by omega
          obtain ⟨b2, off, rfl, d0, d1⟩ := RL.at2 (fun x => .int .i64 x.at_) (fun x => .string x.text) (fun _ => rfl) (hw.out.below hnx) hj
          by_cases heq : writes[j].at_ = m
          · have hrs : r = writes[j].text := by rw [hrk.out]; exact hlast.out j hj heq
            replace hrs := hid hrs
            have e1 : (writes[j].at_ == (m : Int)) = true := beq_iff_eq.2 heq
            clear hrk heq
            generalize writes[j] = x at *
            go_wp2
            go_ret2
            exact ⟨ret_st hrs.out.symm, hnx⟩
          · have hrs : r = lastT safe[m] m (writes.take j) := by rw [hrk.out]; exact hmiss.out j hj heq
            replace hrs := hid hrs
            have e1 : (writes[j].at_ == (m : Int)) = false := beq_eq_false_iff_ne.2 heq
            clear hrk heq
            generalize writes[j] = x at *
            go_wp2
            go_round
            case rel => exact ⟨j, by omega, by go_num, hrs⟩
            case measure => simp [intOf]
    · have hr : readD d n = ⟨#[]⟩ := by unfold readD; rw [if_neg (fun hh => ha hh.2)]
      have he : readE d n = 2 := by unfold readE; rw [if_neg (fun hh => ha hh.2)]
      rw [hr, he]
      rw [Bool.not_eq_true _ |>.mp ha] at hA
      clear hs hw ha hg hr he
      replace hG := hid hG
      replace hA := hid hA
      go_enter Try.func21, Try.ntmps21
      go_wp2_with (first
        | (go_at_call 20; refine (hG.out _ (hd2.out.below (by repeat (first | exact Below.refl _ _ | with_reducible assumption | (refine allocB ?_ (by first | omega | (simp; done) | (simp; omega)) _) | (refine Below.setCell ?_ (by first | omega | (simp; done) | (simp; omega)) _) | refine Below.drew ?_ | (refine Below.trans ?_ (Below.mono (by with_reducible assumption) (by first | omega | (simp; done) | (simp; omega)))))))).mono ?_; rintro e w1 ⟨rfl, hb1⟩; obtain ⟨hbc, hbf⟩ := bcell hb1; have hbz := hb1.size; try simp only [World.size_alloc, World.size_setCell, World.size_drew] at hbz; have hz0 := Nat.lt_of_lt_of_le (n := w.heap.size) (by omega) hbz)
        | (go_at_call 53; refine (hA.out _).mono ?_; rintro e w2 ⟨rfl, rfl⟩))
      go_ret2
      exact ⟨rfl, by repeat (first | exact Below.refl _ _ | with_reducible assumption | (refine allocB ?_ (by first | omega | (simp; done) | (simp; omega)) _) | (refine Below.setCell ?_ (by first | omega | (simp; done) | (simp; omega)) _) | refine Below.drew ?_ | (refine Below.trans ?_ (Below.mono (by with_reducible assumption) (by first | omega | (simp; done) | (simp; omega)))))⟩
  · have hr : readD d n = ⟨#[]⟩ := by unfold readD; rw [if_neg (fun hh => hg hh.1)]
    have he : readE d n = 2 := by unfold readE; rw [if_neg (fun hh => hg hh.1)]
    rw [hr, he]
    rw [Bool.not_eq_true _ |>.mp hg] at hG
    clear hs hw hg hr he
    replace hG := hid hG
    go_enter Try.func21, Try.ntmps21
    go_wp2_with (go_at_call 20; refine (hG.out _ (hd2.out.below (by repeat (first | exact Below.refl _ _ | with_reducible assumption | (refine allocB ?_ (by first | omega | (simp; done) | (simp; omega)) _) | (refine Below.setCell ?_ (by first | omega | (simp; done) | (simp; omega)) _) | refine Below.drew ?_ | (refine Below.trans ?_ (Below.mono (by with_reducible assumption) (by first | omega | (simp; done) | (simp; omega)))))))).mono ?_; rintro e w1 ⟨rfl, hb1⟩; obtain ⟨hbc, hbf⟩ := bcell hb1; have hbz := hb1.size; try simp only [World.size_alloc, World.size_setCell, World.size_drew] at hbz; have hz0 := Nat.lt_of_lt_of_le (n := w.heap.size) (by omega) hbz)
    go_ret2
    exact ⟨rfl, by repeat (first | exact Below.refl _ _ | with_reducible assumption | (refine allocB ?_ (by first | omega | (simp; done) | (simp; omega)) _) | (refine Below.setCell ?_ (by first | omega | (simp; done) | (simp; omega)) _) | refine Below.drew ?_ | (refine Below.trans ?_ (Below.mono (by with_reducible assumption) (by first | omega | (simp; done) | (simp; omega)))))⟩
end Go.Proofs.Ytjhmfljlclajnab
