/- Part of the proof: Stamp2. -/
import Derived.Test.YtjhmfljlclajnacDoorUStamp
import Derived.Deep.CutBlock
import Derived.Deep.DeepCutAuto
set_option linter.unusedVariables false
set_option linter.unusedSimpArgs false
namespace Go.Proofs.YtjhmfljlclajnacDoor
open Go.RowKit Wb
set_option maxRecDepth 100000
set_option maxHeartbeats 4000000
theorem map_getD {tags : List Tag} {k : Nat} (hk : k < tags.length) : (tags.map (·.block)).getD k 0 = tags[k].block := by simp [hk]
theorem list_getD {l : List Int} {k : Nat} (hk : k < l.length) : l.getD k 0 = l[k] := by simp [hk]
theorem stamp_Good_ok (m : Mrk) (v : Value) (w : World) (hm : RMark w v m) (hA : ¬ badKind m) (hB : ¬ badNum m) (hC : ¬ badForm m) (hD : ¬ badLen m) :
    Calls Tryd.prog 44 #[v] w fun e w' => e = .returned (.int .i64 (markE m)) ∧ Below w.heap.size w w' := by
 obtain ⟨vt, vb, rfl, ht, hbk, n1, n2⟩ := hm
 have hE1 : badRise m → markE m = 2 := fun h => markE_rise hA hB hC h
 have hE0 : ¬ badRise m → markE m = 0 := fun h => markE_ok hA hB hC hD h
 generalize markE m = er at *
 obtain ⟨kd, sq, at_, tags, blks⟩ := m
 unfold badKind at hA
 unfold badNum at hB
 unfold badForm at hC
 unfold badLen at hD
 unfold badRise at hE1 hE0
 dsimp only at *
 replace hE1 := hid hE1
 replace hE0 := hid hE0
 obtain ⟨ta, tcap, rfl, tc1, tc2⟩ := ht.form
 obtain ⟨ba, bcap, rfl, bc1, bc2⟩ := hbk.form
 unfold maxLen at tc2 bc2
 have hk : kd = 1 ∨ kd = 2 ∨ kd = 3 ∨ kd = 4 := by omega
 obtain ⟨q1, q2, q3, q4⟩ : 1 ≤ sq ∧ sq ≤ 2147483647 ∧ 0 ≤ at_ ∧ at_ < 24 := by omega
 have g1 : kd = 1 ∨ at_ = 0 := by omega
 have g2 : kd = 2 ∨ tags.length ≤ 0 := by omega
 have g3 : kd = 3 ∨ blks.length ≤ 0 := by omega
 have g4 : tags.length ≤ 10 ∧ blks.length ≤ 20 ∧ (kd = 2 → 0 < tags.length) ∧ (kd = 3 → 0 < blks.length) := by omega
 obtain ⟨g4, g5, g6, g7⟩ := g4
 have e1 : kd = 2 → ((tags.length : Int) == 0) = false := fun h => beq_eq_false_iff_ne.2 (by have := g6 h; omega)
 have e2 : kd = 3 → ((blks.length : Int) == 0) = false := fun h => beq_eq_false_iff_ne.2 (by have := g7 h; omega)
 clear hA hB hC hD
 have nf : 0 < w.heap.size + 1 := by omega
 go_enter Tryd.func44, Tryd.ntmps44
 go_upto_block 0 with fail
 go_cut [2] (fun s2 wx => wx = w.alloc (.cells #[.int .i64 kd, .int .i64 sq, .int .i64 at_, .slice ta tags.length tcap, .slice ba blks.length bcap] 69))
 case first =>
  clear hE0 hE1 n1 n2 tc1 tc2 bc1 bc2 nf
  rcases hk with rfl | rfl | rfl | rfl
  ·replace g2 : tags.length ≤ 0 := by omega
   replace g3 : blks.length ≤ 0 := by omega
   clear g1 g6 g7 e1 e2
   go_wp2
   go_meet
   exact rfl
  ·replace g3 : blks.length ≤ 0 := by omega
   replace e1 := e1 rfl
   obtain rfl : at_ = 0 := by omega
   clear g1 g2 g6 g7 e2
   go_wp2
   go_meet
   exact rfl
  ·replace g2 : tags.length ≤ 0 := by omega
   replace e2 := e2 rfl
   obtain rfl : at_ = 0 := by omega
   clear g1 g3 g6 g7 e1
   go_wp2
   go_meet
   exact rfl
  ·replace g2 : tags.length ≤ 0 := by omega
   replace g3 : blks.length ≤ 0 := by omega
   obtain rfl : at_ = 0 := by omega
   clear g1 g6 g7 e1 e2
   go_wp2
   go_meet
   exact rfl
 case rest =>
  subst hcut
  have kb : Blk (w.alloc (.cells #[.int .i64 kd, .int .i64 sq, .int .i64 at_, .slice ta tags.length tcap, .slice ba blks.length bcap] 69)) w.heap.size #[.int .i64 kd, .int .i64 sq, .int .i64 at_, .slice ta tags.length tcap, .slice ba blks.length bcap] 69 := Blk.new w _ _
  go_wp2
  go_loopw [2, 3, 4, 102] (fun _ _ _ i wr => ∃ k : Nat, k ≤ tags.length ∧ i = .int .i64 k ∧ riseTo (tags.map (·.block)) k ∧ Blk wr w.heap.size #[.int .i64 kd, .int .i64 sq, .int .i64 at_, .slice ta tags.length tcap, .slice ba blks.length bcap] 69 ∧ Below w.heap.size w wr) (fun _ _ _ i _ => tags.length - (intOf i).toNat)
  case atStart => exact ⟨0, Nat.zero_le _, rfl, fun j hj => absurd hj (Nat.not_lt_zero j), kb, by exact Zlo⟩
  case round =>
   obtain ⟨k, hk, rfl, hr, kb, hnx⟩ := hrel
   have c3 := kb.cell 3
   have c4 := kb.cell 4
   simp only [Zga, Zgb, Zgc] at c3 c4
   have lt0 := kb.lt
   by_cases hlt : k < tags.length
   ·have hx := map_getD hlt
    obtain ⟨b, off, rfl, d0, d1⟩ := RL.at2 (fun x => .int .i64 x.block) (fun x => .bool x.esc) (fun _ => rfl) (ht.below hnx) hlt
    have lt1 := World.block_lt_of_cell? _ _ d0
    dsimp only at lt1
    have lt2 : b < wr.heap.size + 1 := by omega
    have lt3 : w.heap.size < wr.heap.size + 1 := by omega
    have hs : ∀ (P : Prop), riseAt (tags.map (·.block)) k → (riseTo (tags.map (·.block)) (k + 1) → P) → P := fun P h1 h2 => h2 (riseTo_succ hr h1)
    have hno : ¬ riseAt (tags.map (·.block)) k → er = 2 := fun hh => hE1.out (.inl (rise_no (by simpa using hlt) hh))
    by_cases hb : isBlk tags[k].block = true
    ·have hb' : 0 ≤ tags[k].block ∧ tags[k].block < 12 := by simpa [isBlk] using hb
     have hsb := fun w => stamp_block tags[k].block w
     rw [hb] at hsb
     replace hsb := hid hsb
     rcases Nat.eq_zero_or_pos k with hk0 | hk0
     ·subst hk0
      have hA : riseAt (tags.map (·.block)) 0 := by unfold riseAt; rw [hx]; exact ⟨hb'.1, hb'.2, fun h => absurd h (Nat.lt_irrefl 0)⟩
      have hr1 := riseTo_succ hr hA
      replace hr1 := hid hr1
      simp only [Nat.zero_mul, Nat.add_zero] at d0 d1
      generalize tags[0] = x at *
      clear hs hno hE0 hE1 hr hx hb' hb
      go_wp2
      refine wp_region_below (by kernel_rfl) (by kernel_rfl) ?_
      repeat (go_big_quiet_step ((go_at_call 58; exact BW.call_same (hsb.out _))))
      refine wpQuiet_nil ?_
      intro _ hw'
      obtain ⟨⟨wq, hq⟩, rfl⟩ := hw'
      go_wp2
      go_roundw
      case rel => exact ⟨1, by omega, by go_num, hr1.out, (kb.alloc _).step hq, (allocB hnx (Nat.le_refl _) _).trans (hq.mono (by simp; omega))⟩
      case measure => simp [intOf]; omega
     ·obtain ⟨j, rfl⟩ : ∃ j, k = j + 1 := ⟨k - 1, by omega⟩
      have hlj : j < tags.length := by omega
      have hy := map_getD hlj
      obtain ⟨b2, off2, hbb, d2, d3⟩ := RL.at2 (fun x => .int .i64 x.block) (fun x => .bool x.esc) (fun _ => rfl) (ht.below hnx) hlj
      simp only [Option.some.injEq, Addr.mk.injEq] at hbb
      obtain ⟨rfl, rfl, _⟩ := hbb
      have hiff : riseAt (tags.map (·.block)) (j + 1) ↔ tags[j].block < tags[j + 1].block := by
       unfold riseAt
       rw [hx, Nat.add_sub_cancel, hy]
       exact ⟨fun h => h.2.2 (by omega), fun h => ⟨hb'.1, hb'.2, fun _ => h⟩⟩
      by_cases hlt2 : tags[j].block < tags[j + 1].block
      ·have hr1 := riseTo_succ hr (hiff.2 hlt2)
       replace hr1 := hid hr1
       generalize tags[j + 1] = x at *
       generalize tags[j] = y at *
       clear hs hno hE0 hE1 hr hx hb' hb hiff hy
       go_wp2
       refine wp_region_below (by kernel_rfl) (by kernel_rfl) ?_
       repeat (go_big_quiet_step ((go_at_call 58; exact BW.call_same (hsb.out _))))
       refine wpQuiet_nil ?_
       intro _ hw'
       obtain ⟨⟨wq, hq⟩, rfl⟩ := hw'
       go_wp2
       go_roundw
       case rel => exact ⟨j + 1 + 1, by omega, by go_num, hr1.out, (kb.alloc _).step hq, (allocB hnx (Nat.le_refl _) _).trans (hq.mono (by simp; omega))⟩
       case measure => simp [intOf]; omega
      ·obtain rfl := hno (fun hh => hlt2 (hiff.1 hh))
       generalize tags[j + 1] = x at *
       generalize tags[j] = y at *
       clear hs hno hE0 hE1 hr hx hb' hb hiff hy
       go_wp2
       refine wp_region_below (by kernel_rfl) (by kernel_rfl) ?_
       repeat (go_big_quiet_step ((go_at_call 58; exact BW.call_same (hsb.out _))))
       refine wpQuiet_nil ?_
       intro _ hw'
       obtain ⟨⟨wq, hq⟩, rfl⟩ := hw'
       go_wp2
       go_ret
       exact ⟨rfl, (allocB hnx (Nat.le_refl _) _).trans (hq.mono (by simp; omega))⟩
    ·replace hb : isBlk tags[k].block = false := by simpa using hb
     obtain rfl := hno (fun hh => by unfold riseAt at hh; rw [hx] at hh; simp [isBlk] at hb; omega)
     have hsb := fun w => stamp_block tags[k].block w
     rw [hb] at hsb
     replace hsb := hid hsb
     clear hb
     generalize tags[k] = x at *
     clear hs hno hE0 hE1 hr hx
     go_wp2
     refine wp_region_below (by kernel_rfl) (by kernel_rfl) ?_
     repeat (go_big_quiet_step ((go_at_call 58; exact BW.call_same (hsb.out _))))
     refine wpQuiet_nil ?_
     intro _ hw'
     obtain ⟨⟨wq, hq⟩, rfl⟩ := hw'
     go_wp2
     go_ret
     exact ⟨rfl, (allocB hnx (Nat.le_refl _) _).trans (hq.mono (by simp; omega))⟩
   ·have hfull : riseTo (tags.map (·.block)) tags.length := by
      obtain rfl : k = tags.length := by omega
      exact hr
    have hT : rise (tags.map (·.block)) = true := (rise_iff _).2 (by simpa using hfull)
    replace hT := hid hT
    clear hr hfull
    go_wp2
    go_loop [2, 5, 6, 131] (fun _ _ _ i => ∃ k : Nat, k ≤ blks.length ∧ i = .int .i64 k ∧ riseTo blks k) (fun _ _ _ i => blks.length - (intOf i).toNat)
    case atStart => exact ⟨0, Nat.zero_le _, rfl, fun j hj => absurd hj (Nat.not_lt_zero j)⟩
    case round =>
     obtain ⟨k, hk, rfl, hr⟩ := hrel
     by_cases hlt : k < blks.length
     ·have hx := list_getD hlt
      obtain ⟨b, off, rfl, d0⟩ := RL.at1 (fun x => .int .i64 x) (fun _ => rfl) (hbk.below hnx) hlt
      have hno : ¬ riseAt blks k → er = 2 := fun hh => hE1.out (.inr (rise_no hlt hh))
      by_cases hb : isBlk blks[k] = true
      ·have hb' : 0 ≤ blks[k] ∧ blks[k] < 12 := by simpa [isBlk] using hb
       have hsb := fun w => stamp_block blks[k] w
       rw [hb] at hsb
       replace hsb := hid hsb
       rcases Nat.eq_zero_or_pos k with hk0 | hk0
       ·subst hk0
        have hA : riseAt blks 0 := by unfold riseAt; rw [hx]; exact ⟨hb'.1, hb'.2, fun h => absurd h (Nat.lt_irrefl 0)⟩
        have hr1 := riseTo_succ hr hA
        replace hr1 := hid hr1
        simp only [Nat.add_zero] at d0
        generalize blks[0] = x at *
        clear hno hE0 hE1 hr hx hb' hb
        go_wp2_with (go_at_call 58; refine (hsb.out _).mono ?_; rintro e w' ⟨rfl, rfl⟩)
        go_round
        case rel => exact ⟨1, by omega, by go_num, hr1.out⟩
        case measure => simp [intOf]; omega
       ·obtain ⟨j, rfl⟩ : ∃ j, k = j + 1 := ⟨k - 1, by omega⟩
        have hlj : j < blks.length := by omega
        have hy := list_getD hlj
        obtain ⟨b2, off2, hbb, d2⟩ := RL.at1 (fun x => .int .i64 x) (fun _ => rfl) (hbk.below hnx) hlj
        simp only [Option.some.injEq, Addr.mk.injEq] at hbb
        obtain ⟨rfl, rfl, _⟩ := hbb
        have hiff : riseAt blks (j + 1) ↔ blks[j] < blks[j + 1] := by
         unfold riseAt
         rw [hx, Nat.add_sub_cancel, hy]
         exact ⟨fun h => h.2.2 (by omega), fun h => ⟨hb'.1, hb'.2, fun _ => h⟩⟩
        by_cases hlt2 : blks[j] < blks[j + 1]
        ·have hr1 := riseTo_succ hr (hiff.2 hlt2)
         replace hr1 := hid hr1
         generalize blks[j + 1] = x at *
         generalize blks[j] = y at *
         clear hno hE0 hE1 hr hx hb' hiff hy hb
         go_wp2_with (go_at_call 58; refine (hsb.out _).mono ?_; rintro e w' ⟨rfl, rfl⟩)
         go_round
         case rel => exact ⟨j + 1 + 1, by omega, by go_num, hr1.out⟩
         case measure => simp [intOf]; omega
        ·obtain rfl := hno (fun hh => hlt2 (hiff.1 hh))
         generalize blks[j + 1] = x at *
         generalize blks[j] = y at *
         clear hno hE0 hE1 hr hx hb' hiff hy hb
         go_wp2_with (go_at_call 58; refine (hsb.out _).mono ?_; rintro e w' ⟨rfl, rfl⟩)
         go_ret
         exact ⟨rfl, hnx⟩
      ·replace hb : isBlk blks[k] = false := by simpa using hb
       obtain rfl := hno (fun hh => by unfold riseAt at hh; rw [hx] at hh; simp [isBlk] at hb; omega)
       have hsb := fun w => stamp_block blks[k] w
       rw [hb] at hsb
       replace hsb := hid hsb
       clear hb
       generalize blks[k] = x at *
       clear hno hE0 hE1 hr hx
       go_wp2_with (go_at_call 58; refine (hsb.out _).mono ?_; rintro e w' ⟨rfl, rfl⟩)
       go_ret
       exact ⟨rfl, hnx⟩
     ·have hfull : riseTo blks blks.length := by
        obtain rfl : k = blks.length := by omega
        exact hr
      have hT2 : rise blks = true := (rise_iff _).2 hfull
      obtain rfl := hE0.out (by rw [hT.out, hT2]; simp)
      clear hr hfull hT2
      go_wp2
      go_ret
      exact ⟨rfl, hnx⟩
theorem stamp_Good (m : Mrk) (v : Value) (w : World) (hm : RMark w v m) :
    Calls Tryd.prog 44 #[v] w fun e w' => e = .returned (.int .i64 (markE m)) ∧ Below w.heap.size w w' := by
 by_cases hbad : badKind m ∨ badNum m ∨ badForm m ∨ badLen m
 ·exact stamp_Good_bad m v w hm hbad
 ·simp only [not_or] at hbad
  exact stamp_Good_ok m v w hm hbad.1 hbad.2.1 hbad.2.2.1 hbad.2.2.2
end Go.Proofs.YtjhmfljlclajnacDoor
