/- Part of the proof: Stamp. -/
import Derived.Test.YtjhmfljlclajnacDoorRows
import Derived.Test.YtjhmfljlclajnacDoorUPure
set_option linter.unusedVariables false
set_option linter.unusedSimpArgs false
namespace Go.Proofs.YtjhmfljlclajnacDoor
open Go.RowKit Wb
set_option maxRecDepth 100000
set_option maxHeartbeats 4000000
theorem stamp_block (b : Int) (w : World) :
    Calls Tryd.prog 58 #[.int .i64 b] w fun e w' => e = .returned (.bool (isBlk b)) ∧ w = w' := by
 have hi : isBlk b = true ↔ 0 ≤ b ∧ b < 12 := by simp [isBlk]
 generalize isBlk b = x at *
 replace hi := hid hi
 go_enter Tryd.func58, Tryd.ntmps58
 go_wp2
 all_goals
  go_ret
  refine ⟨ret_b ?_, rfl⟩
  have hh := hi.out
  clear hi
  cases x <;> simp at hh <;> simp <;> omega
theorem stamp_Good_bad (m : Mrk) (v : Value) (w : World) (hm : RMark w v m) (hbad : badKind m ∨ badNum m ∨ badForm m ∨ badLen m) :
    Calls Tryd.prog 44 #[v] w fun e w' => e = .returned (.int .i64 (markE m)) ∧ Below w.heap.size w w' := by
 obtain ⟨vt, vb, rfl, ht, hbk, n1, n2⟩ := hm
 obtain ⟨ta, tcap, rfl, tc1, tc2⟩ := ht.form
 obtain ⟨ba, bcap, rfl, bc1, bc2⟩ := hbk.form
 unfold maxLen at tc2 bc2
 clear ht hbk
 by_cases hA : badKind m
 ·rw [markE_kind hA]
  obtain ⟨kd, sq, at_, tags, blks⟩ := m
  clear hbad
  unfold badKind at hA
  dsimp only at *
  go_enter Tryd.func44, Tryd.ntmps44
  go_wp2
  all_goals
   go_ret
   exact ⟨rfl, by exact Zlo⟩
 ·by_cases hB : badNum m
  ·rw [markE_num hA hB]
   obtain ⟨kd, sq, at_, tags, blks⟩ := m
   clear hbad
   unfold badKind at hA
   unfold badNum at hB
   dsimp only at *
   go_enter Tryd.func44, Tryd.ntmps44
   go_wp2
   all_goals
    go_ret
    exact ⟨rfl, by exact Zlo⟩
  ·by_cases hC : badForm m
   ·rw [markE_form hA hB hC]
    obtain ⟨kd, sq, at_, tags, blks⟩ := m
    clear hbad
    unfold badKind at hA
    unfold badNum at hB
    unfold badForm at hC
    dsimp only at *
    have hk : kd = 1 ∨ kd = 2 ∨ kd = 3 ∨ kd = 4 := by omega
    obtain ⟨q1, q2, q3, q4⟩ : 1 ≤ sq ∧ sq ≤ 2147483647 ∧ 0 ≤ at_ ∧ at_ < 24 := by omega
    clear hA hB
    by_cases g1 : kd ≠ 1 ∧ at_ ≠ 0
    ·obtain ⟨g1, g2⟩ := g1
     have g2' : (at_ != 0) = true := bne_iff_ne.2 g2
     clear hC g2
     rcases hk with rfl | rfl | rfl | rfl
     ·exact absurd rfl g1
     all_goals
      clear g1
      go_enter Tryd.func44, Tryd.ntmps44; go_wp2; all_goals (go_ret; exact ⟨rfl, by exact Zlo⟩)
    ·have g1' : kd = 1 ∨ at_ = 0 := by omega
     by_cases g3 : kd ≠ 2 ∧ tags.length ≠ 0
     ·obtain ⟨g3, g4⟩ := g3
      have g4' : 0 < tags.length := by omega
      have g5' : ((tags.length : Int) != 0) = true := bne_iff_ne.2 (by omega)
      clear hC g1 g4
      rcases hk with rfl | rfl | rfl | rfl
      ·clear g1' g3
       go_enter Tryd.func44, Tryd.ntmps44; go_wp2; all_goals (go_ret; exact ⟨rfl, by exact Zlo⟩)
      ·exact absurd rfl g3
      all_goals
       obtain rfl : at_ = 0 := by omega
       clear g1' g3
       go_enter Tryd.func44, Tryd.ntmps44; go_wp2; all_goals (go_ret; exact ⟨rfl, by exact Zlo⟩)
     ·obtain ⟨g5, g6⟩ : kd ≠ 3 ∧ blks.length ≠ 0 := by omega
      have g6' : 0 < blks.length := by omega
      have g5' : ((blks.length : Int) != 0) = true := bne_iff_ne.2 (by omega)
      have g3' : kd = 2 ∨ tags.length = 0 := by omega
      clear hC g1 g3 g6
      rcases hk with rfl | rfl | rfl | rfl
      ·have t0 : tags.length ≤ 0 := by omega
       have t1 : ((tags.length : Int) != 0) = false := by rw [bne_eq_false_iff_eq]; omega
       clear g1' g3' g5
       go_enter Tryd.func44, Tryd.ntmps44; go_wp2; all_goals (go_ret; exact ⟨rfl, by exact Zlo⟩)
      ·obtain rfl : at_ = 0 := by omega
       clear g1' g3' g5
       go_enter Tryd.func44, Tryd.ntmps44; go_wp2; all_goals (go_ret; exact ⟨rfl, by exact Zlo⟩)
      ·exact absurd rfl g5
      ·obtain rfl : at_ = 0 := by omega
       have t0 : tags.length ≤ 0 := by omega
       have t1 : ((tags.length : Int) != 0) = false := by rw [bne_eq_false_iff_eq]; omega
       clear g1' g3' g5
       go_enter Tryd.func44, Tryd.ntmps44; go_wp2; all_goals (go_ret; exact ⟨rfl, by exact Zlo⟩)
   ·have hD : badLen m := by rcases hbad with h | h | h | h <;> first | exact absurd h hA | exact absurd h hB | exact absurd h hC | exact h
    rw [markE_len hA hB hC hD]
    obtain ⟨kd, sq, at_, tags, blks⟩ := m
    clear hbad
    unfold badKind at hA
    unfold badNum at hB
    unfold badForm at hC
    unfold badLen at hD
    dsimp only at *
    have hk : kd = 1 ∨ kd = 2 ∨ kd = 3 ∨ kd = 4 := by omega
    obtain ⟨q1, q2, q3, q4⟩ : 1 ≤ sq ∧ sq ≤ 2147483647 ∧ 0 ≤ at_ ∧ at_ < 24 := by omega
    have g1 : kd = 1 ∨ at_ = 0 := by omega
    have g2 : kd = 2 ∨ tags.length ≤ 0 := by omega
    have g3 : kd = 3 ∨ blks.length ≤ 0 := by omega
    have g4 : (kd = 2 ∧ (tags.length > 10 ∨ tags.length = 0)) ∨ (kd = 3 ∧ (blks.length > 20 ∨ blks.length = 0)) := by omega
    clear hA hB hC hD hk
    rcases g4 with ⟨rfl, g4⟩ | ⟨rfl, g4⟩
    ·obtain rfl : at_ = 0 := by omega
     replace g3 : blks.length ≤ 0 := by omega
     clear g1 g2
     rcases g4 with g4 | g4
     ·go_enter Tryd.func44, Tryd.ntmps44; go_wp2; all_goals (go_ret; exact ⟨rfl, by exact Zlo⟩)
     ·have e1 : ((tags.length : Int) == 0) = true := beq_iff_eq.2 (by omega)
      replace g4 : tags.length ≤ 0 := by omega
      go_enter Tryd.func44, Tryd.ntmps44; go_wp2; all_goals (go_ret; exact ⟨rfl, by exact Zlo⟩)
    ·obtain rfl : at_ = 0 := by omega
     replace g2 : tags.length ≤ 0 := by omega
     have e0 : ((tags.length : Int) == 0) = true := beq_iff_eq.2 (by omega)
     clear g1 g3
     rcases g4 with g4 | g4
     ·go_enter Tryd.func44, Tryd.ntmps44; go_wp2; all_goals (go_ret; exact ⟨rfl, by exact Zlo⟩)
     ·have e1 : ((blks.length : Int) == 0) = true := beq_iff_eq.2 (by omega)
      replace g4 : blks.length ≤ 0 := by omega
      go_enter Tryd.func44, Tryd.ntmps44; go_wp2; all_goals (go_ret; exact ⟨rfl, by exact Zlo⟩)
end Go.Proofs.YtjhmfljlclajnacDoor
