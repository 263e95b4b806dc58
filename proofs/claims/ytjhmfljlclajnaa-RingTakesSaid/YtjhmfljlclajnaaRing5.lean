/- The law on Take and Give. -/
import Derived.Test.YtjhmfljlclajnaaRing4
namespace Go.Proofs.Ytjhmfljlclajnaa
open Go.RowKit Wb
set_option linter.unusedVariables false
set_option linter.unusedSimpArgs false
set_option maxRecDepth 100000

theorem law_RingTakes (r : Ring) (n : Int) (w : World) :
    Calls Try.prog 4 #[r.val, .int .i64 n] w fun e w' => e = .returned (.bool true) ∧ Below w.heap.size w w' := by
  obtain ⟨p, u⟩ := r
  have hT := fun w => ring_Take ⟨p, u⟩ n w
  have hU := fun w => ref_TakeRing ⟨p, u⟩ n w
  have hGi := fun w => ring_Give ⟨p, u⟩ n w
  have hGr := fun w => ref_GiveRing ⟨p, u⟩ n w
  have hG := fun w => ring_Good ⟨p, u⟩ w
  have hG2 := fun w => ring_GoodRing ⟨p, u⟩ w
  have hgi := goodR_iff ⟨p, u⟩
  have hF := fun w => ring_Free ⟨p, u⟩ w
  have hTl := fun w => ring_Tail ⟨p, u⟩ w
  generalize takeR ⟨p, u⟩ n = tr at *
  have htl := takeL_len ⟨p, u⟩ n
  generalize takeL ⟨p, u⟩ n = tl at *
  generalize takeE ⟨p, u⟩ n = te at *
  generalize giveR ⟨p, u⟩ n = gr at *
  generalize giveE ⟨p, u⟩ n = ge at *
  generalize goodR ⟨p, u⟩ = g at *
  obtain ⟨tp, tu⟩ := tr
  obtain ⟨gp, gu⟩ := gr
  unfold Ring.val at *
  dsimp only at *
  replace hT := hid hT; replace hU := hid hU; replace hGi := hid hGi; replace hGr := hid hGr; replace hG := hid hG; replace hG2 := hid hG2; replace hF := hid hF; replace hTl := hid hTl; replace hgi := hid hgi
  go_enter Try.func4, Try.ntmps4
  go_wp2_with (first
    | (go_at_call 14; refine (hT.out _).mono ?_; rintro e w1 ⟨v1, rfl, hown1, hb1⟩; obtain ⟨a1, cap1, rfl⟩ := hown1.form; have hA := hb1; obtain ⟨hbc, hbf⟩ := bcell hb1; have hbz := hb1.size; try simp only [World.size_alloc, World.size_setCell, World.size_drew] at hbz; have hz0 := Nat.lt_of_lt_of_le (n := w.heap.size) (by omega) hbz)
    | (go_at_call 15; refine (hU.out _).mono ?_; rintro e w2 ⟨v2, rfl, hown2, hb1⟩; obtain ⟨a2, cap2, rfl⟩ := hown2.form; have hB := hb1; obtain ⟨hbc, hbf⟩ := bcell hb1; have hbz := hb1.size; try simp only [World.size_alloc, World.size_setCell, World.size_drew] at hbz; have hz0 := Nat.lt_of_lt_of_le (n := w.heap.size) (by omega) hbz; have hz1 := Nat.lt_of_lt_of_le (n := w1.heap.size) (by omega) hbz)
    )
  have k0 : Blk (w2.alloc (.cells #[.int .i64 tp, .int .i64 tu] 24)) w.heap.size #[.int .i64 p, .int .i64 u] 24 := ((((Blk.new w _ _).step hA).alloc _).step hB).alloc _
  have k1 : Blk (w2.alloc (.cells #[.int .i64 tp, .int .i64 tu] 24)) w1.heap.size #[.int .i64 tp, .int .i64 tu] 24 := ((Blk.new w1 _ _).step hB).alloc _
  have k2 : Blk (w2.alloc (.cells #[.int .i64 tp, .int .i64 tu] 24)) w2.heap.size #[.int .i64 tp, .int .i64 tu] 24 := Blk.new w2 _ _
  have h1 : Below w1.heap.size w1 (w2.alloc (.cells #[.int .i64 tp, .int .i64 tu] 24)) := allocB ((allocB (Below.refl _ _) (Nat.le_refl _) _).trans (hB.mono (by simp))) (Nat.le_refl _) _
  have h2 : Below w2.heap.size w2 (w2.alloc (.cells #[.int .i64 tp, .int .i64 tu] 24)) := allocB (Below.refl _ _) (Nat.le_refl _) _
  have h0 : Below w.heap.size w (w2.alloc (.cells #[.int .i64 tp, .int .i64 tu] 24)) := ((allocB (Below.refl _ _) (Nat.le_refl _) _).trans (hA.mono (by simp))).trans (h1.mono (by omega))
  clear hbc hbf
  go_loopw [11, 43] (fun _ i wr => ∃ k : Nat, k ≤ tl.length ∧ i = .int .i64 k ∧ Blk wr w.heap.size #[.int .i64 p, .int .i64 u] 24 ∧ Blk wr w1.heap.size #[.int .i64 tp, .int .i64 tu] 24 ∧ Blk wr w2.heap.size #[.int .i64 tp, .int .i64 tu] 24 ∧ Below w1.heap.size w1 wr ∧ Below w2.heap.size w2 wr ∧ Below w.heap.size w wr) (fun _ i _ => tl.length - (intOf i).toNat)
  case atStart => exact ⟨0, Nat.zero_le _, rfl, k0, k1, k2, h1, h2, h0⟩
  case round =>
    obtain ⟨k, hk, rfl, k0, k1, k2, h1, h2, h0⟩ := hrel
    by_cases hlt : k < tl.length
    · obtain ⟨b, off, rfl, c0⟩ := RL.at1 (fun x => .int .i64 x) (fun _ => rfl) (hown1.reads.below h1) hlt
      obtain ⟨b', off', rfl, c1⟩ := RL.at1 (fun x => .int .i64 x) (fun _ => rfl) (hown2.reads.below h2) hlt
      generalize tl[k] = x at *
      go_wp2
      go_quiet (fail)
      go_wp2
      go_roundw
      case rel => exact ⟨k + 1, by omega, by go_num, k0, k1, k2, belowDrewN h1, belowDrewN h2, belowDrewN h0⟩
      case measure => simp [intOf]; omega
    · have n0 := h0.size
      have l0 := k0.lt
      have l1 := k1.lt
      have l2 := k2.lt
      have ne1 : w.heap.size ≠ w1.heap.size := by omega
      have ne2 : w.heap.size ≠ w2.heap.size := by omega
      have ne3 : w1.heap.size ≠ w2.heap.size := by omega
      have ne4 := ne1.symm
      have ne5 := ne2.symm
      have ne6 := ne3.symm
      obtain ⟨c0, c1, f0, f1⟩ := k0.two
      clear h1 h2
      have l0' := hid l0; have l1' := hid l1; have l2' := hid l2
      go_wp2_with (first
        | (go_at_call 16; refine (hGi.out _).mono ?_; rintro e w3 ⟨rfl, hb1⟩; have hC := hb1; have m0 := k0.step hb1; have m1 := k1.step hb1; have m2 := k2.step hb1; obtain ⟨c0, c1, f0, f1⟩ := m0.two; obtain ⟨c2, c3, f2, f3⟩ := m1.two; obtain ⟨c4, c5, f4, f5⟩ := m2.two)
        | (go_at_call 17; refine (hGr.out _).mono ?_; rintro e w4 ⟨rfl, hb1⟩; have hD := hb1; have m0' := ((m0.set_other _ _ ne1).set_other _ _ ne1).step hb1; have m1' := ((m1.set 0 _).set 1 _).step hb1; have m2' := ((m2.set_other _ _ ne6).set_other _ _ ne6).step hb1; obtain ⟨c0, c1, f0, f1⟩ := m0'.two; obtain ⟨c2, c3, f2, f3⟩ := Blk.two (x := .int .i64 gp) (y := .int .i64 gu) m1'; obtain ⟨c4, c5, f4, f5⟩ := m2'.two))
      have m0 := (m0'.set_other ⟨w2.heap.size, 0, none⟩ (.int .i64 gp) ne2).set_other ⟨w2.heap.size, 1, none⟩ (.int .i64 gu) ne2
      have m1 := (m1'.set_other ⟨w2.heap.size, 0, none⟩ (.int .i64 gp) ne3).set_other ⟨w2.heap.size, 1, none⟩ (.int .i64 gu) ne3
      have m2 := (m2'.set 0 (.int .i64 gp)).set 1 (.int .i64 gu)
      have hE : Below w.heap.size w ((w4.setCell ⟨w2.heap.size, 0, none⟩ (.int .i64 gp)).setCell ⟨w2.heap.size, 1, none⟩ (.int .i64 gu)) := by
        refine Below.setCell (Below.setCell (Below.trans ?_ (hD.mono (by have := hC.size; simp; omega))) (by simp; omega) _) (by simp; omega) _
        exact Below.setCell (Below.setCell (h0.trans (hC.mono (by omega))) (by simp; omega) _) (by simp; omega) _
      generalize (w4.setCell ⟨w2.heap.size, 0, none⟩ (.int .i64 gp)).setCell ⟨w2.heap.size, 1, none⟩ (.int .i64 gu) = w5 at *
      obtain ⟨c0, c1, f0, f1⟩ := m0.two
      obtain ⟨c2, c3, f2, f3⟩ := Blk.two (x := .int .i64 gp) (y := .int .i64 gu) m1
      obtain ⟨c4, c5, f4, f5⟩ := Blk.two (x := .int .i64 gp) (y := .int .i64 gu) m2
      have l0 := m0.lt
      have l1 := m1.lt
      have l2 := m2.lt
      clear hC hD hb1
      refine wp_region_below (by kernel_rfl) (by kernel_rfl) ?_
      repeat (go_big_quiet_step ((first | (go_at_call 18; exact BW.call (hG.out _)) | (go_at_call 19; exact BW.call (hG2.out _)))))
      refine wpQuiet_nil ?_
      intro _ hw'
      obtain ⟨⟨wq, hq⟩, rfl⟩ := hw'
      obtain ⟨c0, c1, f0, f1⟩ := (m0.step hq).two
      have l0' := (m0.step hq).lt
      have lq := hq.size
      go_wp2
      by_cases hgg : g = true
      · obtain ⟨g1, g2, g3, g4⟩ := hgi.out.1 hgg
        subst hgg
        have e2 : ((24 - u) == 24 - u) = true := beq_self_eq_true _
        refine wp_region_below (by kernel_rfl) (by kernel_rfl) ?_
        repeat (go_big_quiet_step ((first | (go_at_call 20; exact BW.call (hF.out _ g3 g4)) | (go_at_call 21; exact BW.call (hTl.out _ g1 g2 g3 g4)) | (go_at_call 19; exact BW.call (hG2.out _)) | (go_at_call 22; exact BW.call (law_rings _)))))
        refine wpQuiet_nil ?_
        intro _ hw'
        obtain ⟨⟨wz, hz⟩, rfl⟩ := hw'
        go_wp2
        go_ret
        exact ⟨ret_b rfl, (hE.trans (hq.mono (by omega))).trans (hz.mono (by omega))⟩
      · replace hgg : g = false := by simpa using hgg
        subst hgg
        refine wp_region_below (by kernel_rfl) (by kernel_rfl) ?_
        repeat (go_big_quiet_step ((first | (go_at_call 19; exact BW.call (hG2.out _)))))
        refine wpQuiet_nil ?_
        intro _ hw'
        obtain ⟨⟨wz, hz⟩, rfl⟩ := hw'
        go_wp2
        go_ret
        exact ⟨ret_b rfl, (hE.trans (hq.mono (by omega))).trans (hz.mono (by omega))⟩
end Go.Proofs.Ytjhmfljlclajnaa
