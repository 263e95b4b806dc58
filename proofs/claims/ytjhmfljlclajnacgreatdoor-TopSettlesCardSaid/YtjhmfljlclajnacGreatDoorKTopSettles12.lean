/- Parts of the proof: TxnS Pay SlcD Chg Fil SlcE SlcF Rvk Get Chunk. -/
import Derived.Test.YtjhmfljlclajnacGreatDoorKTopSettles11
import Derived.Test.YtjhmfljlclajnacGreatDoorKTopSettles0
import Derived.Test.YtjhmfljlclajnacGreatDoorKTopSettles4
import Derived.Test.YtjhmfljlclajnacGreatDoorKTopSettles8
import Derived.Test.YtjhmfljlclajnacGreatDoorKTopSettles3
import Derived.Test.YtjhmfljlclajnacGreatDoorKTopSettles9
import Derived.Test.YtjhmfljlclajnacGreatDoorKTopSettles5
import Derived.Shelf.Abstract
import Derived.OwnWalkIn
import Derived.TacticsInMore
import Derived.LoopNIn
import Derived.LoopIn
set_option linter.unusedVariables false
set_option linter.unusedSimpArgs false
namespace Go.Proofs.YtjhmfljlclajnacGreatDoor
open Go.RowKit Wb
set_option maxRecDepth 100000
set_option maxHeartbeats 8000000
theorem txn_pay_free0 (seq : Int) (mt dt : List Cpy) (rev : List Int) (o0 o1 o2 : Bool) (l0 l1 l2 : Int) (am ad ar : Option Addr) (cm cd cr : Nat) (b : Int) (g : Nat) (w : World) (k0 : Blk w g #[.int .i64 seq, .slice am mt.length cm, .slice ad dt.length cd, .slice ar rev.length cr, .bool o0, .int .i64 l0, .bool o1, .int .i64 l1, .bool o2, .int .i64 l2] 40) (hs : rise (blks mt) = true) (hm : RL cpyC w (.slice am mt.length cm) mt) (hr : RL intC w (.slice ar rev.length cr) rev) (n1 : mt.length ≤ 5864062014805) (n3 : rev.length ≤ 17592186044160) (hf : (hasB mt b || inI rev b) = true) :
    Calls Tryz.prog 128 #[.pointer (some ⟨g, 0, none⟩), .int .i64 0, .int .i64 b] w fun e w' => e = .returned (.int .i64 0) ∧ Below w.heap.size w w' := by
 have hM := txn_has mt b _ w hs hm n1
 have hC := hid (fun w' (hh : RL intC w' (.slice ar rev.length cr) rev) => slices_ContainsI rev b _ w' hh n3)
 replace hr := hid hr
 have e0 := k0.cell 0; have e1 := k0.cell 1; have e2 := k0.cell 2; have e3 := k0.cell 3; have e4 := k0.cell 4; have e5 := k0.cell 5; have e6 := k0.cell 6; have e7 := k0.cell 7; have e8 := k0.cell 8; have e9 := k0.cell 9; simp only [Zga, Zgb, Zgc] at e0 e1 e2 e3 e4 e5 e6 e7 e8 e9; have l0' := k0.lt; have f5 := k0.free 5; have f7 := k0.free 7; have f9 := k0.free 9
 clear hm hs
 cases hb : hasB mt b with
 | true =>
  rw [hb] at hM
  replace hM := hid hM
  clear hb hf
  go_enter Tryz.func128, Tryz.ntmps128
  go_wp2_with (go_at_call 72; go_loud ((with_reducible refine hM.out.mono ?_); rintro e w1 ⟨rfl, hb1⟩; replace k0 := k0.step hb1; have nx := hb1; have hr1 := hid (hr.out.below hb1); replace hC := hid (hC.out _ hr1.out); clear e0 e1 e2 e3 e4 e5 e6 e7 e8 e9 l0' f5 f7 f9; have e0 := k0.cell 0; have e1 := k0.cell 1; have e2 := k0.cell 2; have e3 := k0.cell 3; have e4 := k0.cell 4; have e5 := k0.cell 5; have e6 := k0.cell 6; have e7 := k0.cell 7; have e8 := k0.cell 8; have e9 := k0.cell 9; simp only [Zga, Zgb, Zgc] at e0 e1 e2 e3 e4 e5 e6 e7 e8 e9; have l0' := k0.lt; have f5 := k0.free 5; have f7 := k0.free 7; have f9 := k0.free 9))
  go_ret
  exact ⟨rfl, nx⟩
 | false =>
  rw [hb] at hM hf
  rw [Bool.false_or] at hf
  rw [hf] at hC
  replace hM := hid hM
  clear hb hf
  go_enter Tryz.func128, Tryz.ntmps128
  go_wp2_with (first | (go_at_call 72; go_loud ((with_reducible refine hM.out.mono ?_); rintro e w1 ⟨rfl, hb1⟩; replace k0 := k0.step hb1; have nx := hb1; have hr1 := hid (hr.out.below hb1); replace hC := hid (hC.out _ hr1.out); clear e0 e1 e2 e3 e4 e5 e6 e7 e8 e9 l0' f5 f7 f9; have e0 := k0.cell 0; have e1 := k0.cell 1; have e2 := k0.cell 2; have e3 := k0.cell 3; have e4 := k0.cell 4; have e5 := k0.cell 5; have e6 := k0.cell 6; have e7 := k0.cell 7; have e8 := k0.cell 8; have e9 := k0.cell 9; simp only [Zga, Zgb, Zgc] at e0 e1 e2 e3 e4 e5 e6 e7 e8 e9; have l0' := k0.lt; have f5 := k0.free 5; have f7 := k0.free 7; have f9 := k0.free 9)) | (go_at_call 125; go_loud ((with_reducible refine hC.out.mono ?_); rintro e w2 ⟨rfl, rfl⟩)))
  go_ret
  exact ⟨rfl, nx⟩
theorem txn_pay_none0 (seq : Int) (mt dt : List Cpy) (rev : List Int) (o0 o1 o2 : Bool) (l0 l1 l2 : Int) (am ad ar : Option Addr) (cm cd cr : Nat) (b : Int) (g : Nat) (w : World) (k0 : Blk w g #[.int .i64 seq, .slice am mt.length cm, .slice ad dt.length cd, .slice ar rev.length cr, .bool o0, .int .i64 l0, .bool o1, .int .i64 l1, .bool o2, .int .i64 l2] 40) (hs : rise (blks mt) = true) (hm : RL cpyC w (.slice am mt.length cm) mt) (hr : RL intC w (.slice ar rev.length cr) rev) (n1 : mt.length ≤ 5864062014805) (n3 : rev.length ≤ 17592186044160) (hf : (hasB mt b || inI rev b) = false) (h0 : l0 = 0) :
    Calls Tryz.prog 128 #[.pointer (some ⟨g, 0, none⟩), .int .i64 0, .int .i64 b] w fun e w' => e = .returned (.int .i64 7) ∧ Below w.heap.size w w' := by
 have hM := txn_has mt b _ w hs hm n1
 have hC := hid (fun w' (hh : RL intC w' (.slice ar rev.length cr) rev) => slices_ContainsI rev b _ w' hh n3)
 replace hr := hid hr
 have e0 := k0.cell 0; have e1 := k0.cell 1; have e2 := k0.cell 2; have e3 := k0.cell 3; have e4 := k0.cell 4; have e5 := k0.cell 5; have e6 := k0.cell 6; have e7 := k0.cell 7; have e8 := k0.cell 8; have e9 := k0.cell 9; simp only [Zga, Zgb, Zgc] at e0 e1 e2 e3 e4 e5 e6 e7 e8 e9; have l0' := k0.lt; have f5 := k0.free 5; have f7 := k0.free 7; have f9 := k0.free 9
 clear hm hs
 obtain ⟨hb, hf⟩ := Bool.or_eq_false_iff.1 hf
 rw [hb] at hM
 rw [hf] at hC
 replace hM := hid hM
 subst h0
 clear hb hf
 go_enter Tryz.func128, Tryz.ntmps128
 go_wp2_with (first | (go_at_call 72; go_loud ((with_reducible refine hM.out.mono ?_); rintro e w1 ⟨rfl, hb1⟩; replace k0 := k0.step hb1; have nx := hb1; have hr1 := hid (hr.out.below hb1); replace hC := hid (hC.out _ hr1.out); clear e0 e1 e2 e3 e4 e5 e6 e7 e8 e9 l0' f5 f7 f9; have e0 := k0.cell 0; have e1 := k0.cell 1; have e2 := k0.cell 2; have e3 := k0.cell 3; have e4 := k0.cell 4; have e5 := k0.cell 5; have e6 := k0.cell 6; have e7 := k0.cell 7; have e8 := k0.cell 8; have e9 := k0.cell 9; simp only [Zga, Zgb, Zgc] at e0 e1 e2 e3 e4 e5 e6 e7 e8 e9; have l0' := k0.lt; have f5 := k0.free 5; have f7 := k0.free 7; have f9 := k0.free 9)) | (go_at_call 125; go_loud ((with_reducible refine hC.out.mono ?_); rintro e w2 ⟨rfl, rfl⟩)))
 go_ret
 exact ⟨rfl, nx⟩
theorem txn_pay_one0 (seq : Int) (mt dt : List Cpy) (rev : List Int) (o0 o1 o2 : Bool) (l0 l1 l2 : Int) (am ad ar : Option Addr) (cm cd cr : Nat) (b : Int) (g : Nat) (w : World) (k0 : Blk w g #[.int .i64 seq, .slice am mt.length cm, .slice ad dt.length cd, .slice ar rev.length cr, .bool o0, .int .i64 l0, .bool o1, .int .i64 l1, .bool o2, .int .i64 l2] 40) (hs : rise (blks mt) = true) (hm : RL cpyC w (.slice am mt.length cm) mt) (hr : RL intC w (.slice ar rev.length cr) rev) (n1 : mt.length ≤ 5864062014805) (n3 : rev.length ≤ 17592186044160) (hf : (hasB mt b || inI rev b) = false) (h0 : 0 < l0) (h1 : l0 ≤ 24) :
    Calls Tryz.prog 128 #[.pointer (some ⟨g, 0, none⟩), .int .i64 0, .int .i64 b] w fun e w' => e = .returned (.int .i64 0) ∧ ∃ w1, Below w.heap.size w w1 ∧ w' = w1.setCell ⟨g, 5, none⟩ (.int .i64 (l0 - 1)) := by
 have hM := txn_has mt b _ w hs hm n1
 have hC := hid (fun w' (hh : RL intC w' (.slice ar rev.length cr) rev) => slices_ContainsI rev b _ w' hh n3)
 replace hr := hid hr
 have e0 := k0.cell 0; have e1 := k0.cell 1; have e2 := k0.cell 2; have e3 := k0.cell 3; have e4 := k0.cell 4; have e5 := k0.cell 5; have e6 := k0.cell 6; have e7 := k0.cell 7; have e8 := k0.cell 8; have e9 := k0.cell 9; simp only [Zga, Zgb, Zgc] at e0 e1 e2 e3 e4 e5 e6 e7 e8 e9; have l0' := k0.lt; have f5 := k0.free 5; have f7 := k0.free 7; have f9 := k0.free 9
 clear hm hs
 obtain ⟨hb, hf⟩ := Bool.or_eq_false_iff.1 hf
 have hnz : ¬ l0 = 0 := by omega
 have hwr : IntKind.i64.wrap (l0 - 1) = l0 - 1 := IntWalk.i64_in _ (by omega)
 rw [hb] at hM
 rw [hf] at hC
 replace hM := hid hM
 clear hb hf
 go_enter Tryz.func128, Tryz.ntmps128
 go_wp2_with (first | (go_at_call 72; go_loud ((with_reducible refine hM.out.mono ?_); rintro e w1 ⟨rfl, hb1⟩; replace k0 := k0.step hb1; have nx := hb1; have hr1 := hid (hr.out.below hb1); replace hC := hid (hC.out _ hr1.out); clear e0 e1 e2 e3 e4 e5 e6 e7 e8 e9 l0' f5 f7 f9; have e0 := k0.cell 0; have e1 := k0.cell 1; have e2 := k0.cell 2; have e3 := k0.cell 3; have e4 := k0.cell 4; have e5 := k0.cell 5; have e6 := k0.cell 6; have e7 := k0.cell 7; have e8 := k0.cell 8; have e9 := k0.cell 9; simp only [Zga, Zgb, Zgc] at e0 e1 e2 e3 e4 e5 e6 e7 e8 e9; have l0' := k0.lt; have f5 := k0.free 5; have f7 := k0.free 7; have f9 := k0.free 9)) | (go_at_call 125; go_loud ((with_reducible refine hC.out.mono ?_); rintro e w2 ⟨rfl, rfl⟩)))
 go_region_law (fail "no call")
 all_goals go_wp2
 all_goals go_ret
 all_goals exact ⟨rfl, _, nx.drew, rfl⟩
theorem txn_pay_free1 (seq : Int) (mt dt : List Cpy) (rev : List Int) (o0 o1 o2 : Bool) (l0 l1 l2 : Int) (am ad ar : Option Addr) (cm cd cr : Nat) (b : Int) (g : Nat) (w : World) (k0 : Blk w g #[.int .i64 seq, .slice am mt.length cm, .slice ad dt.length cd, .slice ar rev.length cr, .bool o0, .int .i64 l0, .bool o1, .int .i64 l1, .bool o2, .int .i64 l2] 40) (hs : rise (blks mt) = true) (hm : RL cpyC w (.slice am mt.length cm) mt) (hr : RL intC w (.slice ar rev.length cr) rev) (n1 : mt.length ≤ 5864062014805) (n3 : rev.length ≤ 17592186044160) (hf : (hasB mt b || inI rev b) = true) :
    Calls Tryz.prog 128 #[.pointer (some ⟨g, 0, none⟩), .int .i64 1, .int .i64 b] w fun e w' => e = .returned (.int .i64 0) ∧ Below w.heap.size w w' := by
 have hM := txn_has mt b _ w hs hm n1
 have hC := hid (fun w' (hh : RL intC w' (.slice ar rev.length cr) rev) => slices_ContainsI rev b _ w' hh n3)
 replace hr := hid hr
 have e0 := k0.cell 0; have e1 := k0.cell 1; have e2 := k0.cell 2; have e3 := k0.cell 3; have e4 := k0.cell 4; have e5 := k0.cell 5; have e6 := k0.cell 6; have e7 := k0.cell 7; have e8 := k0.cell 8; have e9 := k0.cell 9; simp only [Zga, Zgb, Zgc] at e0 e1 e2 e3 e4 e5 e6 e7 e8 e9; have l0' := k0.lt; have f5 := k0.free 5; have f7 := k0.free 7; have f9 := k0.free 9
 clear hm hs
 cases hb : hasB mt b with
 | true =>
  rw [hb] at hM
  replace hM := hid hM
  clear hb hf
  go_enter Tryz.func128, Tryz.ntmps128
  go_wp2_with (go_at_call 72; go_loud ((with_reducible refine hM.out.mono ?_); rintro e w1 ⟨rfl, hb1⟩; replace k0 := k0.step hb1; have nx := hb1; have hr1 := hid (hr.out.below hb1); replace hC := hid (hC.out _ hr1.out); clear e0 e1 e2 e3 e4 e5 e6 e7 e8 e9 l0' f5 f7 f9; have e0 := k0.cell 0; have e1 := k0.cell 1; have e2 := k0.cell 2; have e3 := k0.cell 3; have e4 := k0.cell 4; have e5 := k0.cell 5; have e6 := k0.cell 6; have e7 := k0.cell 7; have e8 := k0.cell 8; have e9 := k0.cell 9; simp only [Zga, Zgb, Zgc] at e0 e1 e2 e3 e4 e5 e6 e7 e8 e9; have l0' := k0.lt; have f5 := k0.free 5; have f7 := k0.free 7; have f9 := k0.free 9))
  go_ret
  exact ⟨rfl, nx⟩
 | false =>
  rw [hb] at hM hf
  rw [Bool.false_or] at hf
  rw [hf] at hC
  replace hM := hid hM
  clear hb hf
  go_enter Tryz.func128, Tryz.ntmps128
  go_wp2_with (first | (go_at_call 72; go_loud ((with_reducible refine hM.out.mono ?_); rintro e w1 ⟨rfl, hb1⟩; replace k0 := k0.step hb1; have nx := hb1; have hr1 := hid (hr.out.below hb1); replace hC := hid (hC.out _ hr1.out); clear e0 e1 e2 e3 e4 e5 e6 e7 e8 e9 l0' f5 f7 f9; have e0 := k0.cell 0; have e1 := k0.cell 1; have e2 := k0.cell 2; have e3 := k0.cell 3; have e4 := k0.cell 4; have e5 := k0.cell 5; have e6 := k0.cell 6; have e7 := k0.cell 7; have e8 := k0.cell 8; have e9 := k0.cell 9; simp only [Zga, Zgb, Zgc] at e0 e1 e2 e3 e4 e5 e6 e7 e8 e9; have l0' := k0.lt; have f5 := k0.free 5; have f7 := k0.free 7; have f9 := k0.free 9)) | (go_at_call 125; go_loud ((with_reducible refine hC.out.mono ?_); rintro e w2 ⟨rfl, rfl⟩)))
  go_ret
  exact ⟨rfl, nx⟩
theorem txn_pay_none1 (seq : Int) (mt dt : List Cpy) (rev : List Int) (o0 o1 o2 : Bool) (l0 l1 l2 : Int) (am ad ar : Option Addr) (cm cd cr : Nat) (b : Int) (g : Nat) (w : World) (k0 : Blk w g #[.int .i64 seq, .slice am mt.length cm, .slice ad dt.length cd, .slice ar rev.length cr, .bool o0, .int .i64 l0, .bool o1, .int .i64 l1, .bool o2, .int .i64 l2] 40) (hs : rise (blks mt) = true) (hm : RL cpyC w (.slice am mt.length cm) mt) (hr : RL intC w (.slice ar rev.length cr) rev) (n1 : mt.length ≤ 5864062014805) (n3 : rev.length ≤ 17592186044160) (hf : (hasB mt b || inI rev b) = false) (h0 : l1 = 0) :
    Calls Tryz.prog 128 #[.pointer (some ⟨g, 0, none⟩), .int .i64 1, .int .i64 b] w fun e w' => e = .returned (.int .i64 7) ∧ Below w.heap.size w w' := by
 have hM := txn_has mt b _ w hs hm n1
 have hC := hid (fun w' (hh : RL intC w' (.slice ar rev.length cr) rev) => slices_ContainsI rev b _ w' hh n3)
 replace hr := hid hr
 have e0 := k0.cell 0; have e1 := k0.cell 1; have e2 := k0.cell 2; have e3 := k0.cell 3; have e4 := k0.cell 4; have e5 := k0.cell 5; have e6 := k0.cell 6; have e7 := k0.cell 7; have e8 := k0.cell 8; have e9 := k0.cell 9; simp only [Zga, Zgb, Zgc] at e0 e1 e2 e3 e4 e5 e6 e7 e8 e9; have l0' := k0.lt; have f5 := k0.free 5; have f7 := k0.free 7; have f9 := k0.free 9
 clear hm hs
 obtain ⟨hb, hf⟩ := Bool.or_eq_false_iff.1 hf
 rw [hb] at hM
 rw [hf] at hC
 replace hM := hid hM
 subst h0
 clear hb hf
 go_enter Tryz.func128, Tryz.ntmps128
 go_wp2_with (first | (go_at_call 72; go_loud ((with_reducible refine hM.out.mono ?_); rintro e w1 ⟨rfl, hb1⟩; replace k0 := k0.step hb1; have nx := hb1; have hr1 := hid (hr.out.below hb1); replace hC := hid (hC.out _ hr1.out); clear e0 e1 e2 e3 e4 e5 e6 e7 e8 e9 l0' f5 f7 f9; have e0 := k0.cell 0; have e1 := k0.cell 1; have e2 := k0.cell 2; have e3 := k0.cell 3; have e4 := k0.cell 4; have e5 := k0.cell 5; have e6 := k0.cell 6; have e7 := k0.cell 7; have e8 := k0.cell 8; have e9 := k0.cell 9; simp only [Zga, Zgb, Zgc] at e0 e1 e2 e3 e4 e5 e6 e7 e8 e9; have l0' := k0.lt; have f5 := k0.free 5; have f7 := k0.free 7; have f9 := k0.free 9)) | (go_at_call 125; go_loud ((with_reducible refine hC.out.mono ?_); rintro e w2 ⟨rfl, rfl⟩)))
 go_ret
 exact ⟨rfl, nx⟩
theorem txn_pay_one1 (seq : Int) (mt dt : List Cpy) (rev : List Int) (o0 o1 o2 : Bool) (l0 l1 l2 : Int) (am ad ar : Option Addr) (cm cd cr : Nat) (b : Int) (g : Nat) (w : World) (k0 : Blk w g #[.int .i64 seq, .slice am mt.length cm, .slice ad dt.length cd, .slice ar rev.length cr, .bool o0, .int .i64 l0, .bool o1, .int .i64 l1, .bool o2, .int .i64 l2] 40) (hs : rise (blks mt) = true) (hm : RL cpyC w (.slice am mt.length cm) mt) (hr : RL intC w (.slice ar rev.length cr) rev) (n1 : mt.length ≤ 5864062014805) (n3 : rev.length ≤ 17592186044160) (hf : (hasB mt b || inI rev b) = false) (h0 : 0 < l1) (h1 : l1 ≤ 24) :
    Calls Tryz.prog 128 #[.pointer (some ⟨g, 0, none⟩), .int .i64 1, .int .i64 b] w fun e w' => e = .returned (.int .i64 0) ∧ ∃ w1, Below w.heap.size w w1 ∧ w' = w1.setCell ⟨g, 7, none⟩ (.int .i64 (l1 - 1)) := by
 have hM := txn_has mt b _ w hs hm n1
 have hC := hid (fun w' (hh : RL intC w' (.slice ar rev.length cr) rev) => slices_ContainsI rev b _ w' hh n3)
 replace hr := hid hr
 have e0 := k0.cell 0; have e1 := k0.cell 1; have e2 := k0.cell 2; have e3 := k0.cell 3; have e4 := k0.cell 4; have e5 := k0.cell 5; have e6 := k0.cell 6; have e7 := k0.cell 7; have e8 := k0.cell 8; have e9 := k0.cell 9; simp only [Zga, Zgb, Zgc] at e0 e1 e2 e3 e4 e5 e6 e7 e8 e9; have l0' := k0.lt; have f5 := k0.free 5; have f7 := k0.free 7; have f9 := k0.free 9
 clear hm hs
 obtain ⟨hb, hf⟩ := Bool.or_eq_false_iff.1 hf
 have hnz : ¬ l1 = 0 := by omega
 have hwr : IntKind.i64.wrap (l1 - 1) = l1 - 1 := IntWalk.i64_in _ (by omega)
 rw [hb] at hM
 rw [hf] at hC
 replace hM := hid hM
 clear hb hf
 go_enter Tryz.func128, Tryz.ntmps128
 go_wp2_with (first | (go_at_call 72; go_loud ((with_reducible refine hM.out.mono ?_); rintro e w1 ⟨rfl, hb1⟩; replace k0 := k0.step hb1; have nx := hb1; have hr1 := hid (hr.out.below hb1); replace hC := hid (hC.out _ hr1.out); clear e0 e1 e2 e3 e4 e5 e6 e7 e8 e9 l0' f5 f7 f9; have e0 := k0.cell 0; have e1 := k0.cell 1; have e2 := k0.cell 2; have e3 := k0.cell 3; have e4 := k0.cell 4; have e5 := k0.cell 5; have e6 := k0.cell 6; have e7 := k0.cell 7; have e8 := k0.cell 8; have e9 := k0.cell 9; simp only [Zga, Zgb, Zgc] at e0 e1 e2 e3 e4 e5 e6 e7 e8 e9; have l0' := k0.lt; have f5 := k0.free 5; have f7 := k0.free 7; have f9 := k0.free 9)) | (go_at_call 125; go_loud ((with_reducible refine hC.out.mono ?_); rintro e w2 ⟨rfl, rfl⟩)))
 go_region_law (fail "no call")
 all_goals go_wp2
 all_goals go_ret
 all_goals exact ⟨rfl, _, nx.drew, rfl⟩
theorem txn_pay_free2 (seq : Int) (mt dt : List Cpy) (rev : List Int) (o0 o1 o2 : Bool) (l0 l1 l2 : Int) (am ad ar : Option Addr) (cm cd cr : Nat) (b : Int) (g : Nat) (w : World) (k0 : Blk w g #[.int .i64 seq, .slice am mt.length cm, .slice ad dt.length cd, .slice ar rev.length cr, .bool o0, .int .i64 l0, .bool o1, .int .i64 l1, .bool o2, .int .i64 l2] 40) (hs : rise (blks mt) = true) (hm : RL cpyC w (.slice am mt.length cm) mt) (hr : RL intC w (.slice ar rev.length cr) rev) (n1 : mt.length ≤ 5864062014805) (n3 : rev.length ≤ 17592186044160) (hf : (hasB mt b || inI rev b) = true) :
    Calls Tryz.prog 128 #[.pointer (some ⟨g, 0, none⟩), .int .i64 2, .int .i64 b] w fun e w' => e = .returned (.int .i64 0) ∧ Below w.heap.size w w' := by
 have hM := txn_has mt b _ w hs hm n1
 have hC := hid (fun w' (hh : RL intC w' (.slice ar rev.length cr) rev) => slices_ContainsI rev b _ w' hh n3)
 replace hr := hid hr
 have e0 := k0.cell 0; have e1 := k0.cell 1; have e2 := k0.cell 2; have e3 := k0.cell 3; have e4 := k0.cell 4; have e5 := k0.cell 5; have e6 := k0.cell 6; have e7 := k0.cell 7; have e8 := k0.cell 8; have e9 := k0.cell 9; simp only [Zga, Zgb, Zgc] at e0 e1 e2 e3 e4 e5 e6 e7 e8 e9; have l0' := k0.lt; have f5 := k0.free 5; have f7 := k0.free 7; have f9 := k0.free 9
 clear hm hs
 cases hb : hasB mt b with
 | true =>
  rw [hb] at hM
  replace hM := hid hM
  clear hb hf
  go_enter Tryz.func128, Tryz.ntmps128
  go_wp2_with (go_at_call 72; go_loud ((with_reducible refine hM.out.mono ?_); rintro e w1 ⟨rfl, hb1⟩; replace k0 := k0.step hb1; have nx := hb1; have hr1 := hid (hr.out.below hb1); replace hC := hid (hC.out _ hr1.out); clear e0 e1 e2 e3 e4 e5 e6 e7 e8 e9 l0' f5 f7 f9; have e0 := k0.cell 0; have e1 := k0.cell 1; have e2 := k0.cell 2; have e3 := k0.cell 3; have e4 := k0.cell 4; have e5 := k0.cell 5; have e6 := k0.cell 6; have e7 := k0.cell 7; have e8 := k0.cell 8; have e9 := k0.cell 9; simp only [Zga, Zgb, Zgc] at e0 e1 e2 e3 e4 e5 e6 e7 e8 e9; have l0' := k0.lt; have f5 := k0.free 5; have f7 := k0.free 7; have f9 := k0.free 9))
  go_ret
  exact ⟨rfl, nx⟩
 | false =>
  rw [hb] at hM hf
  rw [Bool.false_or] at hf
  rw [hf] at hC
  replace hM := hid hM
  clear hb hf
  go_enter Tryz.func128, Tryz.ntmps128
  go_wp2_with (first | (go_at_call 72; go_loud ((with_reducible refine hM.out.mono ?_); rintro e w1 ⟨rfl, hb1⟩; replace k0 := k0.step hb1; have nx := hb1; have hr1 := hid (hr.out.below hb1); replace hC := hid (hC.out _ hr1.out); clear e0 e1 e2 e3 e4 e5 e6 e7 e8 e9 l0' f5 f7 f9; have e0 := k0.cell 0; have e1 := k0.cell 1; have e2 := k0.cell 2; have e3 := k0.cell 3; have e4 := k0.cell 4; have e5 := k0.cell 5; have e6 := k0.cell 6; have e7 := k0.cell 7; have e8 := k0.cell 8; have e9 := k0.cell 9; simp only [Zga, Zgb, Zgc] at e0 e1 e2 e3 e4 e5 e6 e7 e8 e9; have l0' := k0.lt; have f5 := k0.free 5; have f7 := k0.free 7; have f9 := k0.free 9)) | (go_at_call 125; go_loud ((with_reducible refine hC.out.mono ?_); rintro e w2 ⟨rfl, rfl⟩)))
  go_ret
  exact ⟨rfl, nx⟩
theorem txn_pay_none2 (seq : Int) (mt dt : List Cpy) (rev : List Int) (o0 o1 o2 : Bool) (l0 l1 l2 : Int) (am ad ar : Option Addr) (cm cd cr : Nat) (b : Int) (g : Nat) (w : World) (k0 : Blk w g #[.int .i64 seq, .slice am mt.length cm, .slice ad dt.length cd, .slice ar rev.length cr, .bool o0, .int .i64 l0, .bool o1, .int .i64 l1, .bool o2, .int .i64 l2] 40) (hs : rise (blks mt) = true) (hm : RL cpyC w (.slice am mt.length cm) mt) (hr : RL intC w (.slice ar rev.length cr) rev) (n1 : mt.length ≤ 5864062014805) (n3 : rev.length ≤ 17592186044160) (hf : (hasB mt b || inI rev b) = false) (h0 : l2 = 0) :
    Calls Tryz.prog 128 #[.pointer (some ⟨g, 0, none⟩), .int .i64 2, .int .i64 b] w fun e w' => e = .returned (.int .i64 7) ∧ Below w.heap.size w w' := by
 have hM := txn_has mt b _ w hs hm n1
 have hC := hid (fun w' (hh : RL intC w' (.slice ar rev.length cr) rev) => slices_ContainsI rev b _ w' hh n3)
 replace hr := hid hr
 have e0 := k0.cell 0; have e1 := k0.cell 1; have e2 := k0.cell 2; have e3 := k0.cell 3; have e4 := k0.cell 4; have e5 := k0.cell 5; have e6 := k0.cell 6; have e7 := k0.cell 7; have e8 := k0.cell 8; have e9 := k0.cell 9; simp only [Zga, Zgb, Zgc] at e0 e1 e2 e3 e4 e5 e6 e7 e8 e9; have l0' := k0.lt; have f5 := k0.free 5; have f7 := k0.free 7; have f9 := k0.free 9
 clear hm hs
 obtain ⟨hb, hf⟩ := Bool.or_eq_false_iff.1 hf
 rw [hb] at hM
 rw [hf] at hC
 replace hM := hid hM
 subst h0
 clear hb hf
 go_enter Tryz.func128, Tryz.ntmps128
 go_wp2_with (first | (go_at_call 72; go_loud ((with_reducible refine hM.out.mono ?_); rintro e w1 ⟨rfl, hb1⟩; replace k0 := k0.step hb1; have nx := hb1; have hr1 := hid (hr.out.below hb1); replace hC := hid (hC.out _ hr1.out); clear e0 e1 e2 e3 e4 e5 e6 e7 e8 e9 l0' f5 f7 f9; have e0 := k0.cell 0; have e1 := k0.cell 1; have e2 := k0.cell 2; have e3 := k0.cell 3; have e4 := k0.cell 4; have e5 := k0.cell 5; have e6 := k0.cell 6; have e7 := k0.cell 7; have e8 := k0.cell 8; have e9 := k0.cell 9; simp only [Zga, Zgb, Zgc] at e0 e1 e2 e3 e4 e5 e6 e7 e8 e9; have l0' := k0.lt; have f5 := k0.free 5; have f7 := k0.free 7; have f9 := k0.free 9)) | (go_at_call 125; go_loud ((with_reducible refine hC.out.mono ?_); rintro e w2 ⟨rfl, rfl⟩)))
 go_ret
 exact ⟨rfl, nx⟩
theorem txn_pay_one2 (seq : Int) (mt dt : List Cpy) (rev : List Int) (o0 o1 o2 : Bool) (l0 l1 l2 : Int) (am ad ar : Option Addr) (cm cd cr : Nat) (b : Int) (g : Nat) (w : World) (k0 : Blk w g #[.int .i64 seq, .slice am mt.length cm, .slice ad dt.length cd, .slice ar rev.length cr, .bool o0, .int .i64 l0, .bool o1, .int .i64 l1, .bool o2, .int .i64 l2] 40) (hs : rise (blks mt) = true) (hm : RL cpyC w (.slice am mt.length cm) mt) (hr : RL intC w (.slice ar rev.length cr) rev) (n1 : mt.length ≤ 5864062014805) (n3 : rev.length ≤ 17592186044160) (hf : (hasB mt b || inI rev b) = false) (h0 : 0 < l2) (h1 : l2 ≤ 24) :
    Calls Tryz.prog 128 #[.pointer (some ⟨g, 0, none⟩), .int .i64 2, .int .i64 b] w fun e w' => e = .returned (.int .i64 0) ∧ ∃ w1, Below w.heap.size w w1 ∧ w' = w1.setCell ⟨g, 9, none⟩ (.int .i64 (l2 - 1)) := by
 have hM := txn_has mt b _ w hs hm n1
 have hC := hid (fun w' (hh : RL intC w' (.slice ar rev.length cr) rev) => slices_ContainsI rev b _ w' hh n3)
 replace hr := hid hr
 have e0 := k0.cell 0; have e1 := k0.cell 1; have e2 := k0.cell 2; have e3 := k0.cell 3; have e4 := k0.cell 4; have e5 := k0.cell 5; have e6 := k0.cell 6; have e7 := k0.cell 7; have e8 := k0.cell 8; have e9 := k0.cell 9; simp only [Zga, Zgb, Zgc] at e0 e1 e2 e3 e4 e5 e6 e7 e8 e9; have l0' := k0.lt; have f5 := k0.free 5; have f7 := k0.free 7; have f9 := k0.free 9
 clear hm hs
 obtain ⟨hb, hf⟩ := Bool.or_eq_false_iff.1 hf
 have hnz : ¬ l2 = 0 := by omega
 have hwr : IntKind.i64.wrap (l2 - 1) = l2 - 1 := IntWalk.i64_in _ (by omega)
 rw [hb] at hM
 rw [hf] at hC
 replace hM := hid hM
 clear hb hf
 go_enter Tryz.func128, Tryz.ntmps128
 go_wp2_with (first | (go_at_call 72; go_loud ((with_reducible refine hM.out.mono ?_); rintro e w1 ⟨rfl, hb1⟩; replace k0 := k0.step hb1; have nx := hb1; have hr1 := hid (hr.out.below hb1); replace hC := hid (hC.out _ hr1.out); clear e0 e1 e2 e3 e4 e5 e6 e7 e8 e9 l0' f5 f7 f9; have e0 := k0.cell 0; have e1 := k0.cell 1; have e2 := k0.cell 2; have e3 := k0.cell 3; have e4 := k0.cell 4; have e5 := k0.cell 5; have e6 := k0.cell 6; have e7 := k0.cell 7; have e8 := k0.cell 8; have e9 := k0.cell 9; simp only [Zga, Zgb, Zgc] at e0 e1 e2 e3 e4 e5 e6 e7 e8 e9; have l0' := k0.lt; have f5 := k0.free 5; have f7 := k0.free 7; have f9 := k0.free 9)) | (go_at_call 125; go_loud ((with_reducible refine hC.out.mono ?_); rintro e w2 ⟨rfl, rfl⟩)))
 go_region_law (fail "no call")
 all_goals go_wp2
 all_goals go_ret
 all_goals exact ⟨rfl, _, nx.drew, rfl⟩
end Go.Proofs.YtjhmfljlclajnacGreatDoor
namespace Wb
open Go Go.RowKit
def txnL (t : Txn) (vm vd vr : Value) : List Value := [.int .i64 t.seq, vm, vd, vr, .bool t.h0.on, .int .i64 t.h0.left, .bool t.h1.on, .int .i64 t.h1.left, .bool t.h2.on, .int .i64 t.h2.left]
end Wb
namespace Go.Proofs.YtjhmfljlclajnacGreatDoor
open Go.RowKit Wb
set_option maxRecDepth 100000
set_option maxHeartbeats 8000000
theorem txn_pay (t : Txn) (am ad ar : Option Addr) (cm cd cr : Nat) (h b : Int) (g : Nat) (w : World) (k0 : Blk w g (txnL t (.slice am t.mt.length cm) (.slice ad t.dt.length cd) (.slice ar t.rev.length cr)).toArray 40)
    (hg : GoodT t) (hm : RL cpyC w (.slice am t.mt.length cm) t.mt) (hr : RL intC w (.slice ar t.rev.length cr) t.rev) (hh : 0 ≤ h ∧ h ≤ 2) :
    Calls Tryz.prog 128 #[.pointer (some ⟨g, 0, none⟩), .int .i64 h, .int .i64 b] w fun e w' => e = .returned (.int .i64 (payE t h b)) ∧ Blk w' g (txnL (payU t h b) (.slice am t.mt.length cm) (.slice ad t.dt.length cd) (.slice ar t.rev.length cr)).toArray 40 ∧ Mv [g] w w' := by
 obtain ⟨n1, _, n3⟩ := lens hg
 have hs := copies_rise hg.mt
 obtain ⟨l0, l1, l2⟩ := hnds_bd hg
 have hlt := k0.lt
 obtain ⟨seq, mt, dt, rev, ⟨o0, x0⟩, ⟨o1, x1⟩, ⟨o2, x2⟩⟩ := t
 dsimp only [txnL] at *
 unfold payU payE payT owed
 dsimp only
 cases hf : (hasB mt b || inI rev b) with
 | true =>
  rw [if_neg (by simp), if_pos rfl, if_neg (by simp)]
  obtain (rfl | rfl | rfl) : h = 0 ∨ h = 1 ∨ h = 2 := by omega
  ·refine (txn_pay_free0 seq mt dt rev o0 o1 o2 x0 x1 x2 am ad ar cm cd cr b g w k0 hs hm hr (by omega) (by omega) hf).mono ?_
   rintro e w' ⟨rfl, hb⟩
   exact ⟨rfl, k0.step hb, Mv.ofBelow hb⟩
  ·refine (txn_pay_free1 seq mt dt rev o0 o1 o2 x0 x1 x2 am ad ar cm cd cr b g w k0 hs hm hr (by omega) (by omega) hf).mono ?_
   rintro e w' ⟨rfl, hb⟩
   exact ⟨rfl, k0.step hb, Mv.ofBelow hb⟩
  ·refine (txn_pay_free2 seq mt dt rev o0 o1 o2 x0 x1 x2 am ad ar cm cd cr b g w k0 hs hm hr (by omega) (by omega) hf).mono ?_
   rintro e w' ⟨rfl, hb⟩
   exact ⟨rfl, k0.step hb, Mv.ofBelow hb⟩
 | false =>
  obtain (rfl | rfl | rfl) : h = 0 ∨ h = 1 ∨ h = 2 := by omega
  ·by_cases hz : x0 = 0
   ·rw [if_pos ⟨rfl, hz⟩, if_neg (by decide)]
    refine (txn_pay_none0 seq mt dt rev o0 o1 o2 x0 x1 x2 am ad ar cm cd cr b g w k0 hs hm hr (by omega) (by omega) hf hz).mono ?_
    rintro e w' ⟨rfl, hb⟩
    exact ⟨rfl, k0.step hb, Mv.ofBelow hb⟩
   ·rw [if_neg (fun hh => hz hh.2), if_pos rfl, if_pos (by simp)]
    refine (txn_pay_one0 seq mt dt rev o0 o1 o2 x0 x1 x2 am ad ar cm cd cr b g w k0 hs hm hr (by omega) (by omega) hf (by omega) (by omega)).mono ?_
    rintro e w' ⟨rfl, w1, hb, rfl⟩
    exact ⟨rfl, by simpa [setH, getH] using (k0.step hb).set 5 (.int .i64 (x0 - 1)), (Mv.ofBelow hb).then (Mv.set w1 ⟨g, 5, none⟩ _) (by simp)⟩
  ·by_cases hz : x1 = 0
   ·rw [if_pos ⟨rfl, hz⟩, if_neg (by decide)]
    refine (txn_pay_none1 seq mt dt rev o0 o1 o2 x0 x1 x2 am ad ar cm cd cr b g w k0 hs hm hr (by omega) (by omega) hf hz).mono ?_
    rintro e w' ⟨rfl, hb⟩
    exact ⟨rfl, k0.step hb, Mv.ofBelow hb⟩
   ·rw [if_neg (fun hh => hz hh.2), if_pos rfl, if_pos (by simp)]
    refine (txn_pay_one1 seq mt dt rev o0 o1 o2 x0 x1 x2 am ad ar cm cd cr b g w k0 hs hm hr (by omega) (by omega) hf (by omega) (by omega)).mono ?_
    rintro e w' ⟨rfl, w1, hb, rfl⟩
    exact ⟨rfl, by simpa [setH, getH] using (k0.step hb).set 7 (.int .i64 (x1 - 1)), (Mv.ofBelow hb).then (Mv.set w1 ⟨g, 7, none⟩ _) (by simp)⟩
  ·by_cases hz : x2 = 0
   ·rw [if_pos ⟨rfl, hz⟩, if_neg (by decide)]
    refine (txn_pay_none2 seq mt dt rev o0 o1 o2 x0 x1 x2 am ad ar cm cd cr b g w k0 hs hm hr (by omega) (by omega) hf hz).mono ?_
    rintro e w' ⟨rfl, hb⟩
    exact ⟨rfl, k0.step hb, Mv.ofBelow hb⟩
   ·rw [if_neg (fun hh => hz hh.2), if_pos rfl, if_pos (by simp)]
    refine (txn_pay_one2 seq mt dt rev o0 o1 o2 x0 x1 x2 am ad ar cm cd cr b g w k0 hs hm hr (by omega) (by omega) hf (by omega) (by omega)).mono ?_
    rintro e w' ⟨rfl, w1, hb, rfl⟩
    exact ⟨rfl, by simpa [setH, getH] using (k0.step hb).set 9 (.int .i64 (x2 - 1)), (Mv.ofBelow hb).then (Mv.set w1 ⟨g, 9, none⟩ _) (by simp)⟩
theorem slices_DeleteFuncI (l : List Int) (b : Int) (v : Value) (gb base : Nat) (w : World) (h : Wb.Own intC base 3 1 w v l) (hbase : base ≤ w.heap.size) (hgb : gb < base) (hc : w.cell? ⟨gb, 0, none⟩ = some (.int .i64 b)) (hl : l.length ≤ 17592186044160) :
    Calls Tryz.prog 129 #[v, .func (.func 130) #[] #[.pointer (some ⟨gb, 0, none⟩)]] w fun e w' => ∃ v', e = .returned v' ∧ Wb.Own intC base 3 1 w' v' (l.filter (fun x => !(x == b))) ∧ Below base w w' := by
 have hIF := slices_IndexFuncI l b v gb w h.reads hc hl
 rcases idxK_spec (fun x => x) l b with ⟨e1, hno⟩ | ⟨k, e1, hk, hkb, hno⟩
 ·rw [e1] at hIF
  have e2 : l.filter (fun x => !(x == b)) = l := filter_all (fun i hi => by simpa using hno i hi)
  rw [e2]
  obtain ⟨a, cap, rfl⟩ := h.form
  replace hIF := hid hIF; replace h := hid h
  clear e1 e2 hno
  go_enter Tryz.func129, Tryz.ntmps129
  go_wp2_with (go_at_call 164; go_loud ((with_reducible refine hIF.out.mono ?_); rintro e w1 ⟨rfl, hb1⟩))
  go_ret
  exact ⟨_, rfl, h.out.below hb1, hb1.mono hbase⟩
 ·rw [e1] at hIF
  have hK0 : KeptI (fun x => !(x == b)) l (k + 1) k l := KeptI.start hk (fun i hi h2 => by simpa using hno i h2) (by simpa using hkb)
  obtain ⟨g, cap, cur, rfl, hbg, hkk, hcap, hmax, hsz, htk⟩ := h.row (by omega)
  have hC := hid (fun x w hc => txn_Change1 x b gb w hc)
  have hne1 : ((k : Int) == -1) = false := beq_eq_false_iff_ne.2 (by omega)
  have hKp : Hid (KeptI (fun x => !(x == b)) l (k + 1) k l) := hid hK0
  have hle := hKp.out.le
  replace hIF := hid hIF; replace h := hid h; replace hc := hid hc
  clear e1 hno hkb hK0 hkk hsz htk cur
  go_enter Tryz.func129, Tryz.ntmps129
  go_wp2_with (go_at_call 164; go_loud ((with_reducible refine hIF.out.mono ?_); rintro e w1 ⟨rfl, hb1⟩; have h1 := hid (h.out.below hb1); have hc1 := hid (cell_below hb1 hc.out); have nx := hb1.mono hbase; clear h hc hIF))
  go_loopg [5, 6, 7] l.length (fun gg s5 s6 _ wr => ∃ (i j : Nat) (lk : List Int), s5 = .int .i64 i ∧ s6 = .int .i64 j ∧ j ≤ l.length ∧ i < j ∧ l.length - j ≤ gg ∧ Below base w wr ∧ Hid (wr.cell? ⟨gb, 0, none⟩ = some (.int .i64 b)) ∧ Hid (Wb.Own intC base 3 1 wr (.slice (some ⟨g, 0, none⟩) l.length cap) lk) ∧ Hid (KeptI (fun x => !(x == b)) l j i lk))
  case atStart => exact ⟨k, k + 1, l, rfl, by go_num, by omega, by omega, by omega, nx, hc1, h1, hKp⟩
  case round =>
   clear nx hc1 h1 hKp hb1
   obtain ⟨i, j, lk, rfl, rfl, hjl, hij, hgg, nx, hcw, ho, hK⟩ := hrel
   by_cases hlt : j < l.length
   ·obtain ⟨hjk, hje⟩ := hK.out.get hlt
    obtain ⟨b1, o1, hae, c0⟩ := RL.at1 (fun x => .int .i64 x) (fun _ => rfl) ho.out.reads hjk
    simp only [Option.some.injEq, Addr.mk.injEq, and_true] at hae
    obtain ⟨rfl, rfl⟩ := hae
    rw [hje] at c0
    simp only [Nat.zero_add] at c0
    have hCx := hC.out l[j] wr hcw.out
    by_cases hb : l[j] = b
    ·have hK2 := hid (hK.out.skip hlt (by simpa using hb))
     have e1 : (l[j] == b) = true := beq_iff_eq.2 hb
     rw [e1] at hCx
     replace hCx := hid hCx
     clear hb e1 hK hje
     generalize l[j] = x at *
     go_wp2_with (go_at_call 130; go_loud ((with_reducible refine hCx.out.mono ?_); rintro e w1 ⟨rfl, hb1⟩; have ho2 := hid (ho.out.below hb1); have hcw2 := hid (cell_below hb1 hcw.out); have nx2 := nx.trans (hb1.mono (Nat.le_trans hbase nx.size))))
     go_roundg (l.length - (j + 1))
     case measure => omega
     case rel => exact ⟨i, j + 1, lk, rfl, by go_num, by omega, by omega, Nat.le_refl _, nx2, hcw2, ho2, hK2⟩
    ·have hK2 := hid (hK.out.keep hlt (by simpa using hb))
     have hil : i < lk.length := by omega
     have e1 : (l[j] == b) = false := beq_eq_false_iff_ne.2 hb
     rw [e1] at hCx
     replace hCx := hid hCx
     clear hb e1 hK hje
     have hin : i < l.length := by omega
     generalize l[j] = x at *
     go_wp2_with (go_at_call 130; go_loud ((with_reducible refine hCx.out.mono ?_); rintro e w1 ⟨rfl, hb1⟩; have ho2 := ho.out.below hb1; have hcw2 := hid (cell_below hb1 hcw.out); have nx2 := nx.trans (hb1.mono (Nat.le_trans hbase nx.size)); obtain ⟨g2, cap2, hv2, hb2, hg2, hq, hnew⟩ := Own.poke intC_flat ho2 hil; simp only [Value.slice.injEq, Option.some.injEq, Addr.mk.injEq, and_true, true_and] at hv2; obtain ⟨rfl, -, rfl⟩ := hv2; have q0 := (hq 0 (by decide)).1; have q1 := (hq 0 (by decide)).2; simp only [intC, Nat.mul_one, Nat.add_zero, List.getElem?_cons_zero] at q0 q1; replace hnew := hid hnew; clear hq))
     go_roundg (l.length - (j + 1))
     case measure => omega
     case rel => exact ⟨i + 1, j + 1, lk.set i x, by go_num, by go_num, by omega, by omega, Nat.le_refl _, nx2.setCell hbg _, hid (by rw [World.cell?_setCell_other _ _ _ _ (fun hh => by simp only [Addr.mk.injEq] at hh; omega)]; exact hcw2.out), hid (by have := hnew.out 0 x (.int .i64 x) (by decide) rfl; rw [Nat.mul_one, Nat.add_zero] at this; exact this), hK2⟩
   ·obtain rfl : j = l.length := by omega
    obtain ⟨hd1, hd2⟩ := hK.out.done (Nat.le_refl _)
    have hlk := hK.out.1
    have hcut := hid (fun zs hz => Own.cut (i := i) intC_flat (by rw [hlk]; exact ho.out) (by omega) zs hz)
    obtain ⟨g', cap', cur', hv', hbg', hkk, hcap', hmax', hsz, htk⟩ := ho.out.row (by omega)
    simp only [Value.slice.injEq, Option.some.injEq, Addr.mk.injEq, and_true, true_and] at hv'
    obtain ⟨rfl, -, rfl⟩ := hv'
    have hcl : ∀ ty, (Builtin.clear_ #[35] ty #[.slice (some ⟨g, i, none⟩) (l.length - i) (cap - i)]).run Tryz.prog wr = .ok (.tuple #[]) (wr.setCells g (i) (Builtin.zeroCells (.int .i64 0 : Value).cells (l.length - i)).toList) :=
     fun ty => run_clear_c wr _ _ ty (.int .i64 0) elemIntT.under (fun _ => rfl) (by decide) (by decide) g _ _ _ (by omega)
      (fun t ht => by rw [hkk.cell, Array.getElem?_eq_getElem (by rw [hsz]; simp [Value.cells] at ht; omega)]; rfl) (fun t ht => hkk.free _)
    have hzl : i * 1 + (Builtin.zeroCells (.int .i64 0 : Value).cells (l.length - i)).toList.length ≤ l.length * 1 := by
     rw [Array.length_toList, size_zeroCells]
     have := mul_split (c := 1) (n := l.length) (i := i) (by omega)
     simp only [Value.cells] at this ⊢
     simp
     omega
    have hfin := hcut.out _ (by rw [hlk]; exact hzl)
    rw [hd1] at hfin
    have nz := Wb.Below.sets g hbg (Builtin.zeroCells (.int .i64 0 : Value).cells (l.length - i)).toList (i * 1) _ nx
    simp only [Nat.mul_one] at hfin nz
    replace hfin := hid hfin; replace nz := hid nz
    clear hcut hkk hsz htk hzl hK ho hd1 hd2 hlk
    generalize (Builtin.zeroCells (.int .i64 0 : Value).cells (l.length - i)).toList = zs at *
    have hil : (i : Int) ≤ (l.length : Int) := by omega
    have hci : ¬ (cap = i) := by omega
    go_wp2
    go_ret
    exact ⟨_, rfl, hfin.out, nz.out⟩
theorem txn_Change_no (t : Txn) (h b : Int) (s : ByteArray) (v : Value) (w : World) (ht : RTxn w v t) (hz : ¬ mayE t h b = 0) :
    Calls Tryz.prog 86 #[v, .int .i64 h, .int .i64 b, .string s] w fun e w' => e = .returned (.tuple #[v, .int .i64 (mayE t h b)]) ∧ Below w.heap.size w w' := by
 have hMay := fun w' (hb : Below w.heap.size w w') => txn_may t h b _ w' (ht.below hb)
 obtain ⟨vm, vd, vr, rfl, hm, hd, hr, n1, n2, n3⟩ := ht
 obtain ⟨am, cm, rfl, _⟩ := hm.form
 obtain ⟨ad, cd, rfl, _⟩ := hd.form
 obtain ⟨ar, cr, rfl, _⟩ := hr.form
 generalize mayE t h b = E at *
 replace hMay := hid hMay
 clear hm hd hr
 unfold txnV at hMay ⊢
 have X := St.start [] w
 go_enter Tryz.func86, Tryz.ntmps86
 go_wp2_with (first | (refine ZcL ?_) | (refine ZcS ?_; clear X; intro w X) | (refine ZcA ?_; clear X; intro g w X) | (go_at_call 127; go_loud ((with_reducible refine (hMay.out _ X.below).mono ?_); rintro e w1 ⟨rfl, hb1⟩; replace X := X.call hb1; clear hb1)))
 exact m_ret2 rfl (.tmp rfl rfl) (.tmp rfl rfl) X (.head _) rfl rfl ⟨rfl, X.below⟩
theorem txn_Change_go (t : Txn) (h b : Int) (s : ByteArray) (vm vd vr : Value) (w : World) (ht : RTxn w (txnV t vm vd vr) t) (hz : mayE t h b = 0) :
    Calls Tryz.prog 86 #[txnV t vm vd vr, .int .i64 h, .int .i64 b, .string s] w fun e w' => ∃ vm' vd' vr', e = .returned (.tuple #[txnV (chgT t h b s) vm' vd' vr', .int .i64 (chgE t h b s)]) ∧ NewT w.heap.size w' vm vd vr vm' vd' vr' t (chgT t h b s) ∧ Below w.heap.size w w' := by
 have hMay := fun w' (hb : Below w.heap.size w w') => txn_may t h b _ w' (ht.below hb)
 rw [hz] at hMay
 obtain ⟨hgt, hh, ho, hb⟩ := may_zero hz
 have hg := goodT_of.1 hgt
 obtain ⟨vm', vd', vr', hvv, hm, hd, hr, n1, n2, n3⟩ := ht
 simp only [txnV, Value.agg.injEq, Array.mk.injEq, List.cons.injEq, and_true, true_and] at hvv
 obtain ⟨rfl, rfl, rfl⟩ := hvv
 obtain ⟨am, cm, rfl, _⟩ := hm.form
 obtain ⟨ad, cd, rfl, _⟩ := hd.form
 obtain ⟨ar, cr, rfl, _⟩ := hr.form
 obtain ⟨l1, l2, l3⟩ := lens hg
 have hHas := fun w' (hb : Below w.heap.size w w') => txn_has t.dt b _ w' (copies_rise hg.dt) (hd.below hb) (by omega)
 have hPay := fun w' g (hb : Below w.heap.size w w') k0 => txn_pay t am ad ar cm cd cr h b g w' k0 hg (hm.below hb) (hr.below hb) hh
 have hCl := fun w' (hb : Below w.heap.size w w') => slices_CloneI t.rev _ w' (hr.below hb) (by omega)
 have hDel := fun v w' gb base h1 h2 h3 h4 => slices_DeleteFuncI t.rev b v gb base w' h1 h2 h3 h4 (by omega)
 have hPut := fun w' (hb : Below w.heap.size w w') => txn_put t.mt b s _ w' (copies_rise hg.mt) (hm.below hb) (by omega)
 have hoff : t.rev.filter (fun x => !(x == b)) = offI t.rev b := by unfold offI; congr 1
 obtain ⟨D, hD⟩ : ∃ D, hasB t.dt b = D := ⟨_, rfl⟩
 obtain ⟨E, hE⟩ : ∃ E, payE t h b = E := ⟨_, rfl⟩
 rw [hD] at hHas
 rw [hE] at hPay
 simp only [txnL] at hPay
 simp only [hoff] at hDel
 obtain ⟨_, pm, pd, pr⟩ := payU_same t h b
 generalize hU : payU t h b = U at *
 replace hMay := hid hMay; replace hHas := hid hHas; replace hPay := hid hPay; replace hCl := hid hCl; replace hDel := hid hDel; replace hPut := hid hPut; replace hD := hid hD; replace hE := hid hE; replace hz := hid hz; replace hd := hid hd; replace hU := hid hU; replace pd := hid pd
 clear hm hr hgt ho hb hoff pm pr
 unfold txnV at hMay ⊢
 have X := St.start [] w
 go_enter Tryz.func86, Tryz.ntmps86
 go_wp2_with (first
  | (refine ZcL ?_) | (refine ZcS ?_; clear X; intro w X) | (refine ZcA ?_; clear X; intro g w X)
  | (go_at_call 127; go_loud ((with_reducible refine (hMay.out _ X.below).mono ?_); rintro e w1 ⟨rfl, hb1⟩; replace X := X.call hb1; clear hb1))
  | (go_at_call 72; go_loud ((with_reducible refine (hHas.out _ X.below).mono ?_); rintro e w1 ⟨rfl, hb1⟩; replace X := X.call hb1; clear hb1))
  | (go_at_call 128; go_loud ((with_reducible refine (hPay.out _ _ X.below X.k0).mono ?_); rintro e w1 ⟨rfl, hk1, hm1⟩; have X2 := St.calledOn [] _ X hm1 hk1; clear hm1 hk1; replace X := X2; clear X2; simp only [List.nil_append] at X))
  | (go_at_call 44; go_loud ((with_reducible refine (hCl.out _ X.below).mono ?_); rintro e w1 ⟨v2, rfl, ho2, hb1⟩; obtain ⟨a2, c2, rfl⟩ := ho2.form; replace hDel := hid (hDel.out _ _ _ _ ho2 hb1.size X.k2.lt ((X.call hb1).k2.cell 0)); replace hb1 := hid hb1; clear ho2))
  | (go_at_call 129; go_loud ((with_reducible refine hDel.out.mono ?_); rintro e w2 ⟨v3, rfl, ho3, hb3⟩; obtain ⟨a3, c3, rfl⟩ := ho3.form; have f3 := hid (ho3.fresh X.mv.size); replace X := X.addOwn (hb1.out.trans hb3) ho3; clear hb1 hb3 ho3))
  | (go_at_call 131; go_loud ((with_reducible refine (hPut.out _ X.below).mono ?_); rintro e w1 ⟨v4, rfl, ho4, hb4⟩; obtain ⟨a4, c4, rfl⟩ := ho4.form; have f4 := hid (ho4.fresh X.mv.size); replace X := X.addOwn hb4 ho4; clear hb4 ho4)))
 ·obtain ⟨e1, e2⟩ := chg_form (s := s) hz.out (ne32' (by assumption))
  rw [e1, e2]
  exact m_ret2 rfl (.tmp rfl rfl) (.tmp rfl rfl) X (.head _) rfl rfl ⟨_, _, _, rfl, .same _ _ _ _ _ _, X.below⟩
 all_goals have hs32 : s.size = 32 := ne32 (by assumption)
 ·obtain ⟨e1, e2⟩ := chg_role hz.out hs32 (hD.out.trans ‹D = true›)
  rw [e1, e2]
  exact m_ret2 rfl (.tmp rfl rfl) (.tmp rfl rfl) X (.head _) rfl rfl ⟨_, _, _, rfl, .same _ _ _ _ _ _, X.below⟩
 ·obtain ⟨e1, e2⟩ := chg_broke hz.out hs32 (hD.out.trans ‹D = false›) (by rw [hE.out]; simpa using ‹(E != 0) = true›)
  rw [e1, e2, hE.out]
  exact m_ret2 rfl (.tmp rfl rfl) (.tmp rfl rfl) X (.tail _ (.head _)) rfl rfl ⟨_, _, _, rfl, .same _ _ _ _ _ _, X.below⟩
 ·have hE0 : E = 0 := by simpa using ‹(E != 0) = false›
  obtain ⟨e1, e2⟩ := chg_ok hz.out hs32 (hD.out.trans ‹D = false›) (hE.out.trans hE0)
  rw [e1, e2, hU.out]
  exact m_ret2 rfl (.tmp rfl rfl) (.tmp rfl rfl) X (.tail _ (.head _)) rfl rfl ⟨_, _, _, rfl, ⟨.inr ⟨X.r0, f4.out⟩, .inl ⟨rfl, pd.out⟩, .inr ⟨X.r1, f3.out⟩⟩, X.below⟩
theorem txn_Change (t : Txn) (h b : Int) (s : ByteArray) (vm vd vr : Value) (w : World) (ht : RTxn w (txnV t vm vd vr) t) :
    Calls Tryz.prog 86 #[txnV t vm vd vr, .int .i64 h, .int .i64 b, .string s] w fun e w' => ∃ vm' vd' vr', e = .returned (.tuple #[txnV (chgT t h b s) vm' vd' vr', .int .i64 (chgE t h b s)]) ∧ NewT w.heap.size w' vm vd vr vm' vd' vr' t (chgT t h b s) ∧ Below w.heap.size w w' := by
 by_cases hz : mayE t h b = 0
 ·exact txn_Change_go t h b s vm vd vr w ht hz
 ·obtain ⟨e1, e2⟩ := chg_may (s := s) hz
  refine (txn_Change_no t h b s _ w ht hz).mono ?_
  rintro e w' ⟨rfl, hb⟩
  rw [e1, e2]
  exact ⟨_, _, _, rfl, .same _ _ _ _ _ _, hb⟩
theorem txn_Fill (t : Txn) (h b : Int) (s : ByteArray) (vm vd vr : Value) (w : World) (ht : RTxn w (txnV t vm vd vr) t) :
    Calls Tryz.prog 87 #[txnV t vm vd vr, .int .i64 h, .int .i64 b, .string s] w fun e w' => ∃ vm' vd' vr', e = .returned (.tuple #[txnV (filT t h b s) vm' vd' vr', .int .i64 (filE t h b s)]) ∧ NewT w.heap.size w' vm vd vr vm' vd' vr' t (filT t h b s) ∧ Below w.heap.size w w' := by
 have hMay := fun w' (hb : Below w.heap.size w w') => txn_may t h b _ w' (ht.below hb)
 obtain ⟨vm', vd', vr', hvv, hm, hd, hr, n1, n2, n3⟩ := ht
 simp only [txnV, Value.agg.injEq, Array.mk.injEq, List.cons.injEq, and_true, true_and] at hvv
 obtain ⟨rfl, rfl, rfl⟩ := hvv
 obtain ⟨am, cm, rfl, _⟩ := hm.form
 obtain ⟨ad, cd, rfl, _⟩ := hd.form
 obtain ⟨ar, cr, rfl, _⟩ := hr.form
 by_cases hz : mayE t h b = 0
 rotate_left
 ·obtain ⟨e1, e2⟩ := fil_may (s := s) hz
  rw [e1, e2]
  clear e1 e2
  generalize mayE t h b = E at *
  replace hMay := hid hMay
  clear hm hd hr
  unfold txnV at hMay ⊢
  have X := St.start [] w
  go_enter Tryz.func87, Tryz.ntmps87
  go_wp2_with (first
   | (refine ZcL ?_) | (refine ZcS ?_; clear X; intro w X) | (refine ZcA ?_; clear X; intro g w X)
   | (go_at_call 127; go_loud ((with_reducible refine (hMay.out _ X.below).mono ?_); rintro e w1 ⟨rfl, hb1⟩; replace X := X.call hb1; clear hb1)))
  exact m_ret2 rfl (.tmp rfl rfl) (.tmp rfl rfl) X (.head _) rfl rfl ⟨_, _, _, rfl, .same _ _ _ _ _ _, X.below⟩
 rw [hz] at hMay
 obtain ⟨hgt, hh, ho, hb⟩ := may_zero hz
 have hg := goodT_of.1 hgt
 obtain ⟨l1, l2, l3⟩ := lens hg
 have hHas := fun w' (hb : Below w.heap.size w w') => txn_has t.mt b _ w' (copies_rise hg.mt) (hm.below hb) (by omega)
 have hCon := fun w' (hb : Below w.heap.size w w') => slices_ContainsI t.rev b _ w' (hr.below hb) (by omega)
 have hPut := fun w' (hb : Below w.heap.size w w') => txn_put t.dt b s _ w' (copies_rise hg.dt) (hd.below hb) (by omega)
 obtain ⟨M, hM⟩ : ∃ M, hasB t.mt b = M := ⟨_, rfl⟩
 obtain ⟨V, hV⟩ : ∃ V, inI t.rev b = V := ⟨_, rfl⟩
 rw [hM] at hHas
 rw [hV] at hCon
 replace hMay := hid hMay; replace hHas := hid hHas; replace hCon := hid hCon; replace hPut := hid hPut; replace hM := hid hM; replace hV := hid hV; replace hz := hid hz
 clear hm hd hr hgt ho hb
 unfold txnV at hMay ⊢
 have X := St.start [] w
 cases M
 all_goals
  go_enter Tryz.func87, Tryz.ntmps87
  go_wp2_with (first
   | (refine ZcL ?_) | (refine ZcS ?_; clear X; intro w X) | (refine ZcA ?_; clear X; intro g w X)
   | (go_at_call 127; go_loud ((with_reducible refine (hMay.out _ X.below).mono ?_); rintro e w1 ⟨rfl, hb1⟩; replace X := X.call hb1; clear hb1))
   | (go_at_call 72; go_loud ((with_reducible refine (hHas.out _ X.below).mono ?_); rintro e w1 ⟨rfl, hb1⟩; replace X := X.call hb1; clear hb1))
   | (go_at_call 125; go_loud ((with_reducible refine (hCon.out _ X.below).mono ?_); rintro e w1 ⟨rfl, rfl⟩))
   | (go_at_call 131; go_loud ((with_reducible refine (hPut.out _ X.below).mono ?_); rintro e w1 ⟨v4, rfl, ho4, hb4⟩; obtain ⟨a4, c4, rfl⟩ := ho4.form; have f4 := hid (ho4.fresh X.mv.size); replace X := X.addOwn hb4 ho4; clear hb4 ho4)))
 ·obtain ⟨e1, e2⟩ := fil_form (s := s) hz.out (ne32' (by assumption))
  rw [e1, e2]
  exact m_ret2 rfl (.tmp rfl rfl) (.tmp rfl rfl) X (.head _) rfl rfl ⟨_, _, _, rfl, .same _ _ _ _ _ _, X.below⟩
 ·obtain ⟨e1, e2⟩ := fil_role (s := s) hz.out (ne32 (by assumption)) (by rw [hM.out, hV.out, ‹V = true›]; rfl)
  rw [e1, e2]
  exact m_ret2 rfl (.tmp rfl rfl) (.tmp rfl rfl) X (.head _) rfl rfl ⟨_, _, _, rfl, .same _ _ _ _ _ _, X.below⟩
 ·obtain ⟨e1, e2⟩ := fil_ok (s := s) hz.out (ne32 (by assumption)) (by rw [hM.out, hV.out, ‹V = false›]; rfl)
  rw [e1, e2]
  exact m_ret2 rfl (.tmp rfl rfl) (.tmp rfl rfl) X (.head _) rfl rfl ⟨_, _, _, rfl, ⟨.inl ⟨rfl, rfl⟩, .inr ⟨X.r0, f4.out⟩, .inl ⟨rfl, rfl⟩⟩, X.below⟩
 ·obtain ⟨e1, e2⟩ := fil_form (s := s) hz.out (ne32' (by assumption))
  rw [e1, e2]
  exact m_ret2 rfl (.tmp rfl rfl) (.tmp rfl rfl) X (.head _) rfl rfl ⟨_, _, _, rfl, .same _ _ _ _ _ _, X.below⟩
 ·obtain ⟨e1, e2⟩ := fil_role (s := s) hz.out (ne32 (by assumption)) (by rw [hM.out]; rfl)
  rw [e1, e2]
  exact m_ret2 rfl (.tmp rfl rfl) (.tmp rfl rfl) X (.head _) rfl rfl ⟨_, _, _, rfl, .same _ _ _ _ _ _, X.below⟩
end Go.Proofs.YtjhmfljlclajnacGreatDoor
namespace Wb
open Go Go.RowKit
theorem Own.pokeC {base : Nat} {e : TypeId} {w : World} {v : Value} {l : List Cpy} (h : Own cpyC base e 2 w v l) {k : Nat} (hk : k < l.length) (x : Cpy) :
    ∃ g cap, v = .slice (some ⟨g, 0, none⟩) l.length cap ∧ base ≤ g ∧ g < w.heap.size ∧ (w.frozen? ⟨g, k * 2, none⟩ = false ∧ w.cell? ⟨g, k * 2, none⟩ = some (.int .i64 l[k].block)) ∧ (w.frozen? ⟨g, k * 2 + 1, none⟩ = false ∧ w.cell? ⟨g, k * 2 + 1, none⟩ = some (.string l[k].text)) ∧
      Own cpyC base e 2 ((w.setCell ⟨g, k * 2, none⟩ (.int .i64 x.block)).setCell ⟨g, k * 2 + 1, none⟩ (.string x.text)) v (l.set k x) := by
 obtain ⟨g, cap, rfl, hb, hg, hq, hnew⟩ := Own.poke cpyC_flat h hk
 have h1 := hnew 0 ⟨x.block, l[k].text⟩ (.int .i64 x.block) (by decide) rfl
 rw [Nat.add_zero] at h1
 have hk2 : k < (l.set k ⟨x.block, l[k].text⟩).length := by simpa using hk
 obtain ⟨g2, cap2, hv, _, _, _, hnew2⟩ := Own.poke cpyC_flat h1 hk2
 simp only [Value.slice.injEq, Option.some.injEq, Addr.mk.injEq, and_true, true_and] at hv
 obtain ⟨rfl, -, rfl⟩ := hv
 have h2 := hnew2 1 x (.string x.text) (by decide) (by simp [cpyC])
 rw [List.set_set] at h2
 have q0 := hq 0 (by decide)
 have q1 := hq 1 (by decide)
 rw [Nat.add_zero] at q0
 exact ⟨g, cap, rfl, hb, hg, ⟨q0.1, q0.2⟩, ⟨q1.1, q1.2⟩, h2⟩
end Wb
namespace Go.Proofs.YtjhmfljlclajnacGreatDoor
open Go.RowKit Wb
set_option maxRecDepth 100000
set_option maxHeartbeats 8000000
theorem slices_DeleteFuncC (l : List Cpy) (b : Int) (v : Value) (gb base : Nat) (w : World) (h : Wb.Own cpyC base 92 2 w v l) (hbase : base ≤ w.heap.size) (hgb : gb < base) (hc : w.cell? ⟨gb, 0, none⟩ = some (.int .i64 b)) (hl : l.length ≤ 5864062014805) :
    Calls Tryz.prog 166 #[v, .func (.func 167) #[] #[.pointer (some ⟨gb, 0, none⟩)]] w fun e w' => ∃ v', e = .returned v' ∧ Wb.Own cpyC base 92 2 w' v' (l.filter (fun x => !(x.block == b))) ∧ Below base w w' := by
 have hIF := slices_IndexFuncC l b v gb w h.reads hc hl
 rcases idxK_spec (fun x => x.block) l b with ⟨e1, hno⟩ | ⟨k, e1, hk, hkb, hno⟩
 ·rw [e1] at hIF
  have e2 : l.filter (fun x => !(x.block == b)) = l := filter_all (fun i hi => by simpa using hno i hi)
  rw [e2]
  obtain ⟨a, cap, rfl⟩ := h.form
  replace hIF := hid hIF; replace h := hid h
  clear e1 e2 hno
  go_enter Tryz.func166, Tryz.ntmps166
  go_wp2_with (go_at_call 182; go_loud ((with_reducible refine hIF.out.mono ?_); rintro e w1 ⟨rfl, hb1⟩))
  go_ret
  exact ⟨_, rfl, h.out.below hb1, hb1.mono hbase⟩
 ·rw [e1] at hIF
  have hK0 : KeptI (fun x => !(x.block == b)) l (k + 1) k l := KeptI.start hk (fun i hi h2 => by simpa using hno i h2) (by simpa using hkb)
  obtain ⟨g, cap, cur, rfl, hbg, hkk, hcap, hmax, hsz, htk⟩ := h.row (by omega)
  have hC := hid (fun x w hc => txn_drop1 x b gb w hc)
  have hne1 : ((k : Int) == -1) = false := beq_eq_false_iff_ne.2 (by omega)
  have hKp : Hid (KeptI (fun x => !(x.block == b)) l (k + 1) k l) := hid hK0
  have hle := hKp.out.le
  replace hIF := hid hIF; replace h := hid h; replace hc := hid hc
  clear e1 hno hkb hK0 hkk hsz htk cur
  go_enter Tryz.func166, Tryz.ntmps166
  go_wp2_with (go_at_call 182; go_loud ((with_reducible refine hIF.out.mono ?_); rintro e w1 ⟨rfl, hb1⟩; have h1 := hid (h.out.below hb1); have hc1 := hid (cell_below hb1 hc.out); have nx := hb1.mono hbase; clear h hc hIF))
  go_loopg [5, 6, 7] l.length (fun gg s5 s6 _ wr => ∃ (i j : Nat) (lk : List Cpy), s5 = .int .i64 i ∧ s6 = .int .i64 j ∧ j ≤ l.length ∧ i < j ∧ l.length - j ≤ gg ∧ Below base w wr ∧ Hid (wr.cell? ⟨gb, 0, none⟩ = some (.int .i64 b)) ∧ Hid (Wb.Own cpyC base 92 2 wr (.slice (some ⟨g, 0, none⟩) l.length cap) lk) ∧ Hid (KeptI (fun x => !(x.block == b)) l j i lk))
  case atStart => exact ⟨k, k + 1, l, rfl, by go_num, by omega, by omega, by omega, nx, hc1, h1, hKp⟩
  case round =>
   clear nx hc1 h1 hKp hb1
   obtain ⟨i, j, lk, rfl, rfl, hjl, hij, hgg, nx, hcw, ho, hK⟩ := hrel
   by_cases hlt : j < l.length
   ·obtain ⟨hjk, hje⟩ := hK.out.get hlt
    obtain ⟨b1, o1, hae, c0, c1⟩ := RL.at2 (fun x => .int .i64 x.block) (fun x => .string x.text) (fun _ => rfl) ho.out.reads hjk
    simp only [Option.some.injEq, Addr.mk.injEq, and_true] at hae
    obtain ⟨rfl, rfl⟩ := hae
    rw [hje] at c0 c1
    simp only [Nat.zero_add] at c0 c1
    have hCx := fun w' hc => hC.out l[j] w' hc
    by_cases hb : l[j].block = b
    ·have hK2 := hid (hK.out.skip hlt (by simpa using hb))
     have e1 : (l[j].block == b) = true := beq_iff_eq.2 hb
     rw [e1] at hCx
     replace hCx := hid hCx
     clear hb e1 hK hje
     generalize l[j] = x at *
     go_wp2_with (go_at_call 167; go_loud ((with_reducible refine (hCx.out _ (cell_below (bal (b0 wr) (.cells #[.int .i64 x.block, .string x.text] 92)) hcw.out)).mono ?_); rintro e w1 ⟨rfl, hb1⟩; have hb2 := bgo (bal (b0 wr) (.cells #[.int .i64 x.block, .string x.text] 92)) hb1; have ho2 := hid (ho.out.below hb2); have hcw2 := hid (cell_below hb2 hcw.out); have nx2 := nx.trans (hb2.mono (Nat.le_trans hbase nx.size))))
     go_roundg (l.length - (j + 1))
     case measure => omega
     case rel => exact ⟨i, j + 1, lk, rfl, by go_num, by omega, by omega, Nat.le_refl _, nx2, hcw2, ho2, hK2⟩
    ·have hK2 := hid (hK.out.keep hlt (by simpa using hb))
     have hil : i < lk.length := by omega
     have e1 : (l[j].block == b) = false := beq_eq_false_iff_ne.2 hb
     rw [e1] at hCx
     replace hCx := hid hCx
     clear hb e1 hK hje
     have hin : i < l.length := by omega
     generalize l[j] = x at *
     go_wp2_with (go_at_call 167; go_loud ((with_reducible refine (hCx.out _ (cell_below (bal (b0 wr) (.cells #[.int .i64 x.block, .string x.text] 92)) hcw.out)).mono ?_); rintro e w1 ⟨rfl, hb1⟩; have hb2 := bgo (bal (b0 wr) (.cells #[.int .i64 x.block, .string x.text] 92)) hb1; have kb := (Blk.new wr #[.int .i64 x.block, .string x.text] 92).step hb1; have p0 := kb.cell 0; have p1 := kb.cell 1; simp only [Zga, Zgb, Zgc] at p0 p1; have ho2 := ho.out.below hb2; have hcw2 := hid (cell_below hb2 hcw.out); have nx2 := nx.trans (hb2.mono (Nat.le_trans hbase nx.size)); obtain ⟨g2, cap2, hv2, hbb2, hgg2, ⟨z0, y0⟩, ⟨z1, y1⟩, hnew⟩ := Own.pokeC ho2 hil x; simp only [Value.slice.injEq, Option.some.injEq, Addr.mk.injEq, and_true, true_and] at hv2; obtain ⟨rfl, -, rfl⟩ := hv2; replace hnew := hid hnew; clear kb ho2 ho))
     go_roundg (l.length - (j + 1))
     case measure => omega
     case rel => exact ⟨i + 1, j + 1, lk.set i x, by go_num, by go_num, by omega, by omega, Nat.le_refl _, (nx2.setCell hbg _).setCell hbg _, hid (by rw [World.cell?_setCell_other _ _ _ _ (fun hh => by simp only [Addr.mk.injEq] at hh; omega), World.cell?_setCell_other _ _ _ _ (fun hh => by simp only [Addr.mk.injEq] at hh; omega)]; exact hcw2.out), hid (hnew.out), hK2⟩
   ·obtain rfl : j = l.length := by omega
    obtain ⟨hd1, hd2⟩ := hK.out.done (Nat.le_refl _)
    have hlk := hK.out.1
    have hcut := hid (fun zs hz => Own.cut (i := i) cpyC_flat (by rw [hlk]; exact ho.out) (by omega) zs hz)
    obtain ⟨g', cap', cur', hv', hbg', hkk, hcap', hmax', hsz, htk⟩ := ho.out.row (by omega)
    simp only [Value.slice.injEq, Option.some.injEq, Addr.mk.injEq, and_true, true_and] at hv'
    obtain ⟨rfl, -, rfl⟩ := hv'
    have hcl : ∀ ty, (Builtin.clear_ #[34] ty #[.slice (some ⟨g, i * 2, none⟩) (l.length - i) (cap - i)]).run Tryz.prog wr = .ok (.tuple #[]) (wr.setCells g (i * 2) (Builtin.zeroCells (.agg #[.int .i64 0, .string ⟨#[]⟩] : Value).cells (l.length - i)).toList) :=
     fun ty => run_clear_c wr _ _ ty (.agg #[.int .i64 0, .string ⟨#[]⟩]) elemCpy.under (fun _ => rfl) (by decide) (by decide) g _ _ _ (by omega)
      (fun t ht => by rw [hkk.cell, Array.getElem?_eq_getElem (by rw [hsz]; simp [Value.cells] at ht; omega)]; rfl) (fun t ht => hkk.free _)
    have hzl : i * 2 + (Builtin.zeroCells (.agg #[.int .i64 0, .string ⟨#[]⟩] : Value).cells (l.length - i)).toList.length ≤ l.length * 2 := by
     rw [Array.length_toList, size_zeroCells]
     have := mul_split (c := 2) (n := l.length) (i := i) (by omega)
     simp only [Value.cells] at this ⊢
     simp
     omega
    have hfin := hcut.out _ (by rw [hlk]; exact hzl)
    rw [hd1] at hfin
    have nz := Wb.Below.sets g hbg (Builtin.zeroCells (.agg #[.int .i64 0, .string ⟨#[]⟩] : Value).cells (l.length - i)).toList (i * 2) _ nx
    skip
    replace hfin := hid hfin; replace nz := hid nz
    clear hcut hkk hsz htk hzl hK ho hd1 hd2 hlk
    generalize (Builtin.zeroCells (.agg #[.int .i64 0, .string ⟨#[]⟩] : Value).cells (l.length - i)).toList = zs at *
    have hil : (i : Int) ≤ (l.length : Int) := by omega
    have hci : ¬ (cap = i) := by omega
    go_wp2
    go_ret
    exact ⟨_, rfl, hfin.out, nz.out⟩
end Go.Proofs.YtjhmfljlclajnacGreatDoor
namespace Wb
open Go Go.RowKit
theorem posI_of {l : List Int} {b : Int} {i : Nat} (hi : i ≤ l.length) (h1 : ∀ k (hk : k < l.length), k < i → l[k] < b) (h2 : ∀ k (hk : k < l.length), i ≤ k → b ≤ l[k]) : posI l b = i := by
 unfold posI
 have e : l.filter (fun x => decide (x < b)) = l.take i := by
  conv => lhs; rw [← List.take_append_drop i l, List.filter_append]
  rw [List.filter_eq_self.2, List.filter_eq_nil_iff.2, List.append_nil]
  ·intro c hc
   obtain ⟨k, hk, rfl⟩ := List.mem_iff_getElem.1 hc
   rw [List.getElem_drop]
   rw [List.length_drop] at hk
   have := h2 (i + k) (by omega) (by omega)
   simpa using this
  ·intro c hc
   obtain ⟨k, hk, rfl⟩ := List.mem_iff_getElem.1 hc
   rw [List.getElem_take]
   rw [List.length_take] at hk
   exact decide_eq_true (h1 k (by omega) (by omega))
 rw [e, List.length_take]
 omega
theorem inI_of {l : List Int} {b : Int} {i : Nat} (hs : l.Pairwise (· < ·)) (h1 : ∀ k (hk : k < l.length), k < i → l[k] < b) (h2 : ∀ k (hk : k < l.length), i ≤ k → b ≤ l[k]) :
    inI l b = true ↔ ∃ h : i < l.length, l[i] = b := by
 rw [inI_iff]
 constructor
 ·intro hb
  obtain ⟨k, hk, hb⟩ := List.mem_iff_getElem.1 hb
  have hik : i ≤ k := by
   by_cases hki : k < i
   ·have := h1 k hk hki; omega
   ·omega
  refine ⟨by omega, ?_⟩
  by_cases e : i = k
  ·subst e; exact hb
  ·have := List.pairwise_iff_getElem.1 hs i k (by omega) hk (by omega)
   have := h2 i (by omega) (Nat.le_refl _)
   omega
 ·rintro ⟨h, hb⟩
  exact hb ▸ List.getElem_mem h
end Wb
namespace Go.Proofs.YtjhmfljlclajnacGreatDoor
open Go.RowKit Wb
set_option maxRecDepth 100000
set_option maxHeartbeats 8000000
theorem cmp_isNaN (x : Int) (w : World) : Calls Tryz.prog 179 #[.int .i64 x] w fun e w' => e = .returned (.bool false) ∧ w = w' := by
 go_enter Tryz.func179, Tryz.ntmps179
 go_wp2
 go_ret
 exact ⟨by simp, rfl⟩
theorem slices_isNaN (x : Int) (w : World) : Calls Tryz.prog 169 #[.int .i64 x] w fun e w' => e = .returned (.bool false) ∧ w = w' := by
 go_enter Tryz.func169, Tryz.ntmps169
 go_wp2
 go_ret
 exact ⟨by simp, rfl⟩
theorem cmp_Less (x y : Int) (w : World) : Calls Tryz.prog 168 #[.int .i64 x, .int .i64 y] w fun e w' => e = .returned (.bool (decide (x < y))) ∧ w = w' := by
 have h1 := fun x w => cmp_isNaN x w
 replace h1 := hid h1
 go_enter Tryz.func168, Tryz.ntmps168
 go_wp2_with (go_at_call 179; refine (h1.out _ _).mono ?_; rintro e w1 ⟨rfl, rfl⟩)
 all_goals go_ret
 all_goals exact ⟨by simp, rfl⟩
theorem slices_BinarySearchI (l : List Int) (b : Int) (v : Value) (w : World) (hs : l.Pairwise (· < ·)) (h : RL intC w v l) (hl : l.length ≤ 17592186044160) :
    Calls Tryz.prog 133 #[v, .int .i64 b] w fun e w' => e = .returned (.tuple #[.int .i64 (posI l b : Nat), .bool (inI l b)]) ∧ w = w' := by
 obtain ⟨a, cap, rfl, _⟩ := h.form
 have hr := hid (fun k (hk : k < l.length) i (hi : i < k) => List.pairwise_iff_getElem.1 hs i k (by omega) hk hi)
 have hpo := hid (fun i h0 h1 h2 => posI_of (l := l) (b := b) (i := i) h0 h1 h2)
 have hha := hid (fun i h1 h2 => inI_of (l := l) (b := b) (i := i) hs h1 h2)
 generalize posI l b = p at *
 generalize inI l b = hb at *
 have hC := hid (fun x y w => cmp_Less x y w)
 have hN := hid (fun x w => slices_isNaN x w)
 replace h := hid h
 clear hs
 go_enter Tryz.func133, Tryz.ntmps133
 go_wp2
 go_loop [7, 8, 9] (fun s7 s8 _ => ∃ lo hi : Nat, s7 = .int .i64 lo ∧ s8 = .int .i64 hi ∧ lo ≤ hi ∧ hi ≤ l.length ∧ Hid (∀ k (hk : k < l.length), k < lo → l[k] < b) ∧ Hid (∀ k (hk : k < l.length), hi ≤ k → b ≤ l[k])) (fun s7 s8 _ => (intOf s8 - intOf s7).toNat)
 case atStart => exact ⟨0, l.length, rfl, rfl, Nat.zero_le _, Nat.le_refl _, hid (fun k _ hk => absurd hk (Nat.not_lt_zero k)), hid (fun k hk h2 => by omega)⟩
 case round =>
  obtain ⟨lo, hi, rfl, rfl, hlh, hin, i1, i2⟩ := hrel
  by_cases hlt : lo < hi
  ·have hm : (lo + hi) / 2 < l.length := by omega
   obtain ⟨b1, o1, rfl, c0⟩ := RL.at1 (fun x => .int .i64 x) (fun _ => rfl) h.out hm
   have j1 := hid (fun (hh : l[(lo + hi) / 2] < b) => (show ∀ k (hk : k < l.length), k < (lo + hi) / 2 + 1 → l[k] < b from fun k hk hk2 => by
    by_cases e : k = (lo + hi) / 2
    ·subst e; exact hh
    ·have := hr.out _ hm k (by omega); omega))
   have j2 := hid (fun (hh : b ≤ l[(lo + hi) / 2]) => (show ∀ k (hk : k < l.length), (lo + hi) / 2 ≤ k → b ≤ l[k] from fun k hk hk2 => by
    by_cases e : k = (lo + hi) / 2
    ·subst e; exact hh
    ·have := hr.out k hk _ (show (lo + hi) / 2 < k by omega); omega))
   generalize l[(lo + hi) / 2] = x at *
   have hCx := hC.out x b w
   by_cases hx : x < b
   ·rw [decide_eq_true hx] at hCx
    replace j1 := hid (j1.out hx)
    replace hCx := hid hCx
    clear j2 hx
    go_wp2_with (go_at_call 168; go_loud ((with_reducible refine (hCx.out).mono ?_); rintro e w1 ⟨rfl, rfl⟩))
    go_round
    case measure => simp [intOf]; omega
    case rel => exact ⟨(lo + hi) / 2 + 1, hi, by rw [show ((lo : Int) + (hi : Int)) / 2 + 1 = (((lo + hi) / 2 + 1 : Nat) : Int) by omega], rfl, by omega, hin, j1, i2⟩
   ·rw [decide_eq_false hx] at hCx
    replace j2 := hid (j2.out (by omega))
    replace hCx := hid hCx
    clear j1 hx
    go_wp2_with (go_at_call 168; go_loud ((with_reducible refine (hCx.out).mono ?_); rintro e w1 ⟨rfl, rfl⟩))
    go_round
    case measure => simp [intOf]; omega
    case rel => exact ⟨lo, (lo + hi) / 2, rfl, by rw [show ((lo : Int) + (hi : Int)) / 2 = (((lo + hi) / 2 : Nat) : Int) by omega], by omega, by omega, i1, j2⟩
  ·obtain rfl : hi = lo := by omega
   have hp := hid (hpo.out hi hin i1.out i2.out)
   have hh := hid (hha.out hi i1.out i2.out)
   by_cases hn : hi < l.length
   ·obtain ⟨b1, o1, rfl, c0⟩ := RL.at1 (fun x => .int .i64 x) (fun _ => rfl) h.out hn
    have hge := i2.out hi hn (Nat.le_refl _)
    have hh2 : hb = true ↔ l[hi] = b := ⟨fun h => (hh.out.1 h).2, fun h => hh.out.2 ⟨hn, h⟩⟩
    clear i1 i2 hh
    generalize l[hi] = x at *
    by_cases hx : x = b
    ·have hv := hid (hh2.2 hx)
     have e1 : (x == b) = true := beq_iff_eq.2 hx
     clear hge hh2 hx
     go_wp2_with (go_at_call 169; go_loud ((with_reducible refine (hN.out _ _).mono ?_); rintro e w1 ⟨rfl, rfl⟩))
     go_ret2
     exact ⟨by rw [hp.out, hv.out]; rfl, rfl⟩
    ·have hv := hid (show hb = false by
       cases hbv : hb with
       | false => rfl
       | true => exact absurd (hh2.1 hbv) hx)
     have e1 : (x == b) = false := beq_eq_false_iff_ne.2 hx
     clear hge hh2 hx
     go_wp2_with (go_at_call 169; go_loud ((with_reducible refine (hN.out _ _).mono ?_); rintro e w1 ⟨rfl, rfl⟩))
     go_ret2
     exact ⟨by rw [hp.out, hv.out]; rfl, rfl⟩
   ·have hv := hid (show hb = false by
      cases hbv : hb with
      | false => rfl
      | true => obtain ⟨h1, _⟩ := hh.out.1 hbv; omega)
    clear hh i1 i2
    go_wp2
    go_ret2
    exact ⟨by rw [hp.out, hv.out]; rfl, rfl⟩
theorem txn_drop (l : List Cpy) (b : Int) (v : Value) (w : World) (h : RL cpyC w v l) (hl : l.length ≤ 5864062014805) :
    Calls Tryz.prog 132 #[v, .int .i64 b] w fun e w' => ∃ v', e = .returned v' ∧ Wb.Own cpyC w.heap.size 92 2 w' v' (dropC l b) ∧ Below w.heap.size w w' := by
 have hCl := fun w' (hb : Below w.heap.size w w') => slices_CloneC l _ w' (h.below hb) hl
 have hDel := fun v w' gb base h1 h2 h3 h4 => slices_DeleteFuncC l b v gb base w' h1 h2 h3 h4 hl
 have hoff : l.filter (fun x => !(x.block == b)) = dropC l b := rfl
 simp only [hoff] at hDel
 obtain ⟨a, cap, rfl, _⟩ := h.form
 replace hCl := hid hCl; replace hDel := hid hDel
 clear h hoff
 have X := St.start [] w
 go_enter Tryz.func132, Tryz.ntmps132
 go_wp2_with (first
  | (refine ZcL ?_) | (refine ZcS ?_; clear X; intro w X) | (refine ZcA ?_; clear X; intro g w X)
  | (go_at_call 43; go_loud ((with_reducible refine (hCl.out _ X.below).mono ?_); rintro e w1 ⟨v2, rfl, ho2, hb1⟩; obtain ⟨a2, c2, rfl⟩ := ho2.form; replace hDel := hid (hDel.out _ _ _ _ ho2 hb1.size X.k0.lt ((X.call hb1).k0.cell 0)); replace hb1 := hid hb1; clear ho2))
  | (go_at_call 166; go_loud ((with_reducible refine hDel.out.mono ?_); rintro e w2 ⟨v3, rfl, ho3, hb3⟩; obtain ⟨a3, c3, rfl⟩ := ho3.form; have ho4 := hid (ho3.mono X.mv.size); replace X := X.call (hb1.out.trans hb3); clear hb1 hb3 ho3)))
 go_ret
 exact ⟨_, rfl, ho4.out, X.below⟩
theorem txn_Revoke (t : Txn) (h b : Int) (vm vd vr : Value) (w : World) (ht : RTxn w (txnV t vm vd vr) t) :
    Calls Tryz.prog 88 #[txnV t vm vd vr, .int .i64 h, .int .i64 b] w fun e w' => ∃ vm' vd' vr', e = .returned (.tuple #[txnV (rvkT t h b) vm' vd' vr', .int .i64 (rvkE t h b)]) ∧ NewT w.heap.size w' vm vd vr vm' vd' vr' t (rvkT t h b) ∧ Below w.heap.size w w' := by
 have hMay := fun w' (hb : Below w.heap.size w w') => txn_may t h b _ w' (ht.below hb)
 obtain ⟨vm', vd', vr', hvv, hm, hd, hr, n1, n2, n3⟩ := ht
 simp only [txnV, Value.agg.injEq, Array.mk.injEq, List.cons.injEq, and_true, true_and] at hvv
 obtain ⟨rfl, rfl, rfl⟩ := hvv
 obtain ⟨am, cm, rfl, _⟩ := hm.form
 obtain ⟨ad, cd, rfl, _⟩ := hd.form
 obtain ⟨ar, cr, rfl, _⟩ := hr.form
 by_cases hz : mayE t h b = 0
 rotate_left
 ·obtain ⟨e1, e2⟩ := rvk_may hz
  rw [e1, e2]
  clear e1 e2
  generalize mayE t h b = E at *
  replace hMay := hid hMay
  clear hm hd hr
  unfold txnV at hMay ⊢
  have X := St.start [] w
  go_enter Tryz.func88, Tryz.ntmps88
  go_wp2_with (first
   | (refine ZcL ?_) | (refine ZcS ?_; clear X; intro w X) | (refine ZcA ?_; clear X; intro g w X)
   | (go_at_call 127; go_loud ((with_reducible refine (hMay.out _ X.below).mono ?_); rintro e w1 ⟨rfl, hb1⟩; replace X := X.call hb1; clear hb1)))
  exact m_ret2 rfl (.tmp rfl rfl) (.tmp rfl rfl) X (.head _) rfl rfl ⟨_, _, _, rfl, .same _ _ _ _ _ _, X.below⟩
 rw [hz] at hMay
 obtain ⟨hgt, hh, ho, hb⟩ := may_zero hz
 have hg := goodT_of.1 hgt
 obtain ⟨l1, l2, l3⟩ := lens hg
 have hCon := fun w' (hb : Below w.heap.size w w') => slices_ContainsI t.rev b _ w' (hr.below hb) (by omega)
 have hPay := fun w' g (hb : Below w.heap.size w w') k0 => txn_pay t am ad ar cm cd cr h b g w' k0 hg (hm.below hb) (hr.below hb) hh
 have hDm := fun w' (hb : Below w.heap.size w w') => txn_drop t.mt b _ w' (hm.below hb) (by omega)
 have hDd := fun w' (hb : Below w.heap.size w w') => txn_drop t.dt b _ w' (hd.below hb) (by omega)
 have hBS := fun w' (hb : Below w.heap.size w w') => slices_BinarySearchI t.rev b _ w' ((rise_pw _).1 hg.rev).1 (hr.below hb) (by omega)
 have hCl := fun w' (hb : Below w.heap.size w w') => slices_CloneI t.rev _ w' (hr.below hb) (by omega)
 have hIns := fun v vb base w' h1 h2 h3 h4 => slices_InsertI t.rev (posI t.rev b) b v vb base w' h1 h2 h3 h4 (posI_le _ _) (by omega)
 have hins : t.rev.take (posI t.rev b) ++ b :: t.rev.drop (posI t.rev b) = insI t.rev b := rfl
 simp only [hins] at hIns
 obtain ⟨V, hV⟩ : ∃ V, inI t.rev b = V := ⟨_, rfl⟩
 obtain ⟨E, hE⟩ : ∃ E, payE t h b = E := ⟨_, rfl⟩
 rw [hV] at hCon
 rw [hE] at hPay
 simp only [txnL] at hPay
 obtain ⟨_, pm, pd, pr⟩ := payU_same t h b
 generalize hU : payU t h b = U at *
 generalize posI t.rev b = p at *
 replace hMay := hid hMay; replace hCon := hid hCon; replace hPay := hid hPay; replace hDm := hid hDm; replace hDd := hid hDd; replace hBS := hid hBS; replace hCl := hid hCl; replace hIns := hid hIns; replace hV := hid hV; replace hE := hid hE; replace hz := hid hz; replace hU := hid hU
 clear hm hd hr hgt ho hb hins pm pd pr
 unfold txnV at hMay ⊢
 have X := St.start [] w
 go_enter Tryz.func88, Tryz.ntmps88
 go_wp2_with (first
  | (refine ZcL ?_) | (refine ZcS ?_; clear X; intro w X) | (refine ZcA ?_; clear X; intro g w X)
  | (go_at_call 127; go_loud ((with_reducible refine (hMay.out _ X.below).mono ?_); rintro e w1 ⟨rfl, hb1⟩; replace X := X.call hb1; clear hb1))
  | (go_at_call 125; go_loud ((with_reducible refine (hCon.out _ X.below).mono ?_); rintro e w1 ⟨rfl, rfl⟩))
  | (go_at_call 128; go_loud ((with_reducible refine (hPay.out _ _ X.below X.k0).mono ?_); rintro e w1 ⟨rfl, hk1, hm1⟩; have X2 := St.calledOn [] _ X hm1 hk1; clear hm1 hk1; replace X := X2; clear X2; simp only [List.nil_append] at X)))
 ·obtain ⟨e1, e2⟩ := rvk_twice hz.out (hV.out.trans ‹V = true›)
  rw [e1, e2]
  exact m_ret2 rfl (.tmp rfl rfl) (.tmp rfl rfl) X (.head _) rfl rfl ⟨_, _, _, rfl, .same _ _ _ _ _ _, X.below⟩
 ·obtain ⟨e1, e2⟩ := rvk_broke hz.out (hV.out.trans ‹V = false›) (by rw [hE.out]; simpa using ‹(E != 0) = true›)
  rw [e1, e2, hE.out]
  exact m_ret2 rfl (.tmp rfl rfl) (.tmp rfl rfl) X (.tail _ (.head _)) rfl rfl ⟨_, _, _, rfl, .same _ _ _ _ _ _, X.below⟩
 ·(refine q_startS 3 [9, 11] [3, 7, 9, 11] [1, 5] [0, 1, 2, 4, 5, 6, 3, 7, 8, 9, 10, 11] X ?_; clear X; intro hQ X hL; simp only [zF, zG] at hL; simp only [zF, zG])
  (refine Zf ?_)
  (refine Zl ?_)
  (refine Zm ?_)
  (refine Zf ?_)
  (refine Zl ?_)
  (refine Zm ?_)
  (refine q_callS 132 Tryz.func132 (hDm.out _ X.below) ?_; rintro e w1 ⟨v4, rfl, ho4, hb4⟩; obtain ⟨a4, c4, rfl⟩ := ho4.form; have f4 := hid (ho4.fresh X.mv.size); replace X := X.addOwn hb4 ho4; clear hb4 ho4; refine Zce ?_; clear hL; intro hL)
  (refine q_callS 132 Tryz.func132 (hDd.out _ X.below) ?_; rintro e w1 ⟨v5, rfl, ho5, hb5⟩; obtain ⟨a5, c5, rfl⟩ := ho5.form; have f5 := hid (ho5.fresh X.mv.size); replace X := X.addOwn hb5 ho5; clear hb5 ho5; refine Zce ?_; clear hL; intro hL)
  (refine Zf ?_)
  (refine Zb ?_; clear X; intro w X)
  (refine Zf ?_)
  (refine Zb ?_; clear X; intro w X)
  refine q_nil ?_
  go_wp2_with (first
   | (refine ZcL ?_) | (refine ZcS ?_; clear X; intro w X) | (refine ZcA ?_; clear X; intro g w X)
   | (go_at_call 133; go_loud ((with_reducible refine (hBS.out _ X.below).mono ?_); rintro e w1 ⟨rfl, rfl⟩))
   | (go_at_call 44; go_loud ((with_reducible refine (hCl.out _ X.below).mono ?_); rintro e w1 ⟨v2, rfl, ho2, hb1⟩; obtain ⟨a2, c2, rfl⟩ := ho2.form)))
  have f2 := hid (ho2.fresh X.mv.size)
  have hb3 := hid (fun w' (h3 : Below w.heap.size (w1.alloc (.cells #[.int .i64 b] 3)) w') => (bal hb1 (.cells #[.int .i64 b] 3)).trans h3)
  replace hIns := hid (hIns.out (.slice a2 t.rev.length c2) w1.heap.size w.heap.size (w1.alloc (.cells #[.int .i64 b] 3)) (ho2.alloc _) (Nat.le_trans hb1.size (by simp)) (Blk.new w1 _ _) (fun h => Nat.lt_irrefl _ (World.ownsRow.lt ho2 _ h).2))
  go_wp2_with (first
   | (refine ZcL ?_) | (refine ZcS ?_; clear X; intro w X) | (refine ZcA ?_; clear X; intro g w X)
   | (go_at_call 134; go_loud ((with_reducible refine hIns.out.mono ?_); rintro e w2 ⟨v3, rfl, ho3, hb4⟩; obtain ⟨a3, c3, rfl⟩ := ho3.form; have f3 := hid (ho3.fresh X.mv.size); replace X := X.addOwn (hb3.out _ hb4) ho3; clear hb3 hb4 ho3)))
  have hE0 : E = 0 := by simpa using ‹(E != 0) = false›
  obtain ⟨e1, e2⟩ := rvk_ok hz.out (hV.out.trans ‹V = false›) (hE.out.trans hE0)
  rw [e1, e2, hU.out]
  exact m_ret2 rfl (.tmp rfl rfl) (.tmp rfl rfl) X (.tail _ (.head _)) rfl rfl ⟨_, _, _, rfl, ⟨.inr ⟨X.r2, f4.out⟩, .inr ⟨X.r1, f5.out⟩, .inr ⟨X.r0, f3.out⟩⟩, X.below⟩
theorem txn_Get (l : List Cpy) (b : Int) (v : Value) (w : World) (h : RL cpyC w v l) (hl : l.length ≤ 5864062014805) :
    Calls Tryz.prog 83 #[v, .int .i64 b] w fun e w' => e = .returned (.tuple #[.string ((getC l b).getD ⟨#[]⟩), .bool (getC l b).isSome]) ∧ Below w.heap.size w w' := by
 obtain ⟨a, cap, rfl, _⟩ := h.form
 have hst := fun k (hk : k < l.length) => hasB_step (l := l) (b := b) hk
 have hft := fun k (hk : ¬ k < l.length) => hasB_full (l := l) (b := b) hk
 have hht := fun k (hk : k < l.length) (hn : hasB (l.take k) b = false) (hb : l[k].block = b) => getC_step hk hn hb
 have hno' := fun (hn : hasB l b = false) => getC_none hn
 generalize getC l b = g at *
 replace h := hid h; replace hst := hid hst; replace hft := hid hft; replace hht := hid hht; replace hno' := hid hno'
 go_enter Tryz.func83, Tryz.ntmps83
 go_wp2
 go_loopw [7, 10] (fun _ i wr => ∃ k : Nat, k ≤ l.length ∧ i = .int .i64 k ∧ Hid (hasB (l.take k) b = false) ∧ Below w.heap.size w wr) (fun _ i _ => l.length - (intOf i).toNat)
 case atStart => exact ⟨0, Nat.zero_le _, rfl, hid (by simp [hasB]), b0 w⟩
 case round =>
  obtain ⟨k, hk, rfl, hno, nx⟩ := hrel
  by_cases hlt : k < l.length
  ·obtain ⟨b1, o1, rfl, c0, c1⟩ := RL.at2 (fun x => .int .i64 x.block) (fun x => .string x.text) (fun _ => rfl) (h.out.below nx) hlt
   by_cases hb : l[k].block = b
   ·have hv := hht.out k hlt hno.out hb
    have e1 : (l[k].block == b) = true := beq_iff_eq.2 hb
    clear hb hno'
    generalize l[k] = x at *
    subst hv
    go_wp2
    go_ret2
    exact ⟨by simp, bal nx _⟩
   ·have hs := hst.out k hlt
    have e1 : (l[k].block == b) = false := beq_eq_false_iff_ne.2 hb
    rw [e1, hno.out] at hs
    replace hs := hid hs
    clear hb
    generalize l[k] = x at *
    go_wp2
    go_roundw
    case rel => exact ⟨k + 1, by omega, by go_num, hs, bal nx _⟩
    case measure => simp [intOf]; omega
  ·have hv := hno.out
   rw [hft.out k hlt] at hv
   have hg := hno'.out hv
   subst hg
   clear hv hno'
   go_wp2
   go_ret2
   exact ⟨rfl, nx⟩
end Go.Proofs.YtjhmfljlclajnacGreatDoor
namespace Wb
open Go Go.RowKit
def chunkN (n len : Nat) : Nat := (len + n - 1) / n
theorem chunkN_lt {n len k : Nat} (hn : 0 < n) : k < chunkN n len ↔ k * n < len := by
 unfold chunkN
 rw [Nat.lt_iff_add_one_le, Nat.le_div_iff_mul_le hn, Nat.succ_mul]
 omega
def chunkV (b off c n len k : Nat) : Value := .slice (some ⟨b, off + k * n * c, none⟩) (min n (len - k * n)) (min n (len - k * n))
def chunkL (b off c n len : Nat) : List Value := (List.range (chunkN n len)).map (chunkV b off c n len)
end Wb
namespace Go.Proofs.YtjhmfljlclajnacGreatDoor
open Go.RowKit Wb
set_option maxRecDepth 100000
set_option maxHeartbeats 8000000
attribute [local go_sem] Oper.semAt_some
theorem chunkC_iter (b off cap len n gs gn : Nat) (hn : 0 < n) (h1 : n ≤ 1000) (h2 : len ≤ 1000000) (hc : len ≤ cap) (w : World) (hs : w.cell? ⟨gs, 0, none⟩ = some (.slice (some ⟨b, off, none⟩) len cap)) (hk : w.cell? ⟨gn, 0, none⟩ = some (.int .i64 n)) :
    Iter Tryz.prog 162 #[.pointer (some ⟨gs, 0, none⟩), .pointer (some ⟨gn, 0, none⟩)] (chunkL b off 2 n len) [gs, gn] w := by
 intro l J W hB hJ hY h0
 have hxl : (chunkL b off 2 n len).length = chunkN n len := by simp [chunkL]
 have hlt := fun k => chunkN_lt (len := len) (k := k) hn
 have hsW : W.cell? ⟨gs, 0, none⟩ = some (.slice (some ⟨b, off, none⟩) len cap) := (World.cell?_of_block (hB gs (by simp))).trans hs
 have hnW : W.cell? ⟨gn, 0, none⟩ = some (.int .i64 n) := (World.cell?_of_block (hB gn (by simp))).trans hk
 have hY' : ∀ k, k < chunkN n len → ∀ A, J k A → YieldAt FW 0 Tryz.prog l #[chunkV b off 2 n len k] A fun e A' => e = .returned (.bool true) ∧ J (k + 1) A' ∧ A.heap.size ≤ A'.heap.size ∧ ∀ b ∈ [gs, gn], A'.heap[b]? = A.heap[b]? := fun k hk A hA => by
  have := hY k (by rw [hxl]; exact hk) A hA
  simpa [chunkL] using this
 rw [hxl]
 clear hY
 have hY := hY'
 clear hY' hxl
 replace hJ := hid hJ; replace hY := hid hY; replace hlt := hid hlt
 clear hB hs hk
 refine callsIn_of_wp Tryz.func162 rfl trivial ?_ rfl
 simp only [Tryz.ntmps162, List.size_toArray, List.length_cons, List.length_nil, Nat.reduceAdd, Nat.reduceSub, Array.replicate_succ, Array.replicate_zero, List.push_toArray, List.append_toArray, List.nil_append, List.cons_append]
 gi_wp2
 gi_loopw [4] (fun i wr => ∃ k : Nat, k ≤ chunkN n len ∧ i = .int .i64 ((k * n : Nat) : Int) ∧ J k wr ∧ wr.cell? ⟨gs, 0, none⟩ = some (.slice (some ⟨b, off, none⟩) len cap) ∧ wr.cell? ⟨gn, 0, none⟩ = some (.int .i64 n)) (fun i _ => len + n - (intOf i).toNat)
 case atStart => exact ⟨0, Nat.zero_le _, by simp, h0, hsW, hnW⟩
 case round =>
  clear hsW hnW
  obtain ⟨k, hk, rfl, hJk, hs, hn2⟩ := hrel
  by_cases hkl : k * n < len
  ·have hkN := (hlt.out k).2 hkl
   have q1 : (k : Int) * (n : Int) < (len : Int) := by exact_mod_cast hkl
   gi_wp2
   refine (wpIn_wide (n := 0)).2 ?_
   go_region
   obtain ⟨fn, tmps, assign, body, hy, hR⟩ := hY.out k hkN wr.drew (hJ.out _ _ _ hJk (b0 wr).drew)
   simp only [chunkV, Nat.mul_one] at hy
   obtain ⟨m, hm⟩ : ∃ m, m = min n (len - k * n) := ⟨_, rfl⟩
   have hif : (if len - k * n < n then ((len - k * n : Nat) : Int) else (n : Int)) = (m : Int) := by
    rw [hm]; split <;> omega
   first
    | rw [hif]
    | rw [show min (n : Int) ((len - k * n : Nat) : Int) = (m : Int) by rw [hm]; omega]
   rw [← hm] at hy
   have m1 : k * n + m ≤ len := by omega
   have m2 : k * n + m ≤ cap := by omega
   have m3 : ¬ m = 0 := by omega
   have hs2 : wr.drew.cell? ⟨gs, 0, none⟩ = some (.slice (some ⟨b, off, none⟩) len cap) := hs
   have hn3 : wr.drew.cell? ⟨gn, 0, none⟩ = some (.int .i64 n) := hn2
   clear hif hm
   generalize wr.drew = wd at *
   gi_wp2
   refine ⟨rfl, hR.mono ?_⟩
   rintro e W3 ⟨rfl, hJ3, hz3, hB3⟩
   have hs3 := (World.cell?_of_block (w := wd) (a := ⟨gs, 0, none⟩) (hB3 gs (by simp))).trans hs2
   have hn4 := (World.cell?_of_block (w := wd) (a := ⟨gn, 0, none⟩) (hB3 gn (by simp))).trans hn3
   gi_wp2
   go_roundw
   case rel => exact ⟨k + 1, by omega, by rw [Nat.succ_mul]; simp, hJ3, hs3, hn4⟩
   case measure => simp [intOf]; omega
  ·obtain rfl : k = chunkN n len := Nat.le_antisymm hk (Nat.le_of_not_lt fun h => hkl ((hlt.out k).1 h))
   have q1 : ¬ ((chunkN n len : Nat) : Int) * (n : Int) < (len : Int) := by exact_mod_cast hkl
   gi_wp2
   go_end0
   exact ⟨⟨_, rfl⟩, hJk⟩
theorem chunkC_nil (a : Option Addr) (cap gs gn : Nat) (n : Int) (w : World) (hs : w.cell? ⟨gs, 0, none⟩ = some (.slice a 0 cap)) (hk : w.cell? ⟨gn, 0, none⟩ = some (.int .i64 n)) :
    Iter Tryz.prog 162 #[.pointer (some ⟨gs, 0, none⟩), .pointer (some ⟨gn, 0, none⟩)] [] [gs, gn] w := by
 intro l J W hB hJ hY h0
 have hsW : W.cell? ⟨gs, 0, none⟩ = some (.slice a 0 cap) := (World.cell?_of_block (hB gs (by simp))).trans hs
 clear hB hs hk hY hJ
 refine callsIn_of_wp Tryz.func162 rfl trivial ?_ rfl
 simp only [Tryz.ntmps162, List.size_toArray, List.length_cons, List.length_nil, Nat.reduceAdd, Nat.reduceSub, Array.replicate_succ, Array.replicate_zero, List.push_toArray, List.append_toArray, List.nil_append, List.cons_append]
 gi_wp2
 gi_loopw [4] (fun i wr => i = .int .i64 0 ∧ J 0 wr ∧ wr.cell? ⟨gs, 0, none⟩ = some (.slice a 0 cap)) (fun _ _ => 0)
 case atStart => exact ⟨rfl, h0, hsW⟩
 case round =>
  clear hsW
  obtain ⟨rfl, hJk, hs⟩ := hrel
  gi_wp2
  go_end0
  exact ⟨⟨_, rfl⟩, hJk⟩
theorem chunkC (a : Option Addr) (len cap n : Nat) (nI : Int) (hI : nI = n) (hn : 0 < n) (h2 : n ≤ 1000) {S : List Nat} {w0 w : World} {L : List Ent} {R : List Rd} (X : St S w0 w L R) :
    Calls Tryz.prog 123 #[.slice a len cap, .int .i64 nI] w fun e w' => ∃ gs gn, e = .returned (.func (.func 162) #[] #[.pointer (some ⟨gs, 0, none⟩), .pointer (some ⟨gn, 0, none⟩)]) ∧ St S w0 w' (⟨gn, [.int .i64 n], 3⟩ :: ⟨gs, [.slice a len cap], 34⟩ :: L) R := by
 subst hI
 have q : ¬ ((n : Int) < 1) := by omega
 go_enter Tryz.func123, Tryz.ntmps123
 go_wp2_with (first
  | (refine ZcL ?_) | (refine ZcS ?_; clear X; intro w X) | (refine ZcA ?_; clear X; intro g w X))
 go_ret
 exact ⟨_, _, rfl, X⟩
theorem chunkI_iter (b off cap len n gs gn : Nat) (hn : 0 < n) (h1 : n ≤ 1000) (h2 : len ≤ 1000000) (hc : len ≤ cap) (w : World) (hs : w.cell? ⟨gs, 0, none⟩ = some (.slice (some ⟨b, off, none⟩) len cap)) (hk : w.cell? ⟨gn, 0, none⟩ = some (.int .i64 n)) :
    Iter Tryz.prog 161 #[.pointer (some ⟨gs, 0, none⟩), .pointer (some ⟨gn, 0, none⟩)] (chunkL b off 1 n len) [gs, gn] w := by
 intro l J W hB hJ hY h0
 have hxl : (chunkL b off 1 n len).length = chunkN n len := by simp [chunkL]
 have hlt := fun k => chunkN_lt (len := len) (k := k) hn
 have hsW : W.cell? ⟨gs, 0, none⟩ = some (.slice (some ⟨b, off, none⟩) len cap) := (World.cell?_of_block (hB gs (by simp))).trans hs
 have hnW : W.cell? ⟨gn, 0, none⟩ = some (.int .i64 n) := (World.cell?_of_block (hB gn (by simp))).trans hk
 have hY' : ∀ k, k < chunkN n len → ∀ A, J k A → YieldAt FW 0 Tryz.prog l #[chunkV b off 1 n len k] A fun e A' => e = .returned (.bool true) ∧ J (k + 1) A' ∧ A.heap.size ≤ A'.heap.size ∧ ∀ b ∈ [gs, gn], A'.heap[b]? = A.heap[b]? := fun k hk A hA => by
  have := hY k (by rw [hxl]; exact hk) A hA
  simpa [chunkL] using this
 rw [hxl]
 clear hY
 have hY := hY'
 clear hY' hxl
 replace hJ := hid hJ; replace hY := hid hY; replace hlt := hid hlt
 clear hB hs hk
 refine callsIn_of_wp Tryz.func161 rfl trivial ?_ rfl
 simp only [Tryz.ntmps161, List.size_toArray, List.length_cons, List.length_nil, Nat.reduceAdd, Nat.reduceSub, Array.replicate_succ, Array.replicate_zero, List.push_toArray, List.append_toArray, List.nil_append, List.cons_append]
 gi_wp2
 gi_loopw [4] (fun i wr => ∃ k : Nat, k ≤ chunkN n len ∧ i = .int .i64 ((k * n : Nat) : Int) ∧ J k wr ∧ wr.cell? ⟨gs, 0, none⟩ = some (.slice (some ⟨b, off, none⟩) len cap) ∧ wr.cell? ⟨gn, 0, none⟩ = some (.int .i64 n)) (fun i _ => len + n - (intOf i).toNat)
 case atStart => exact ⟨0, Nat.zero_le _, by simp, h0, hsW, hnW⟩
 case round =>
  clear hsW hnW
  obtain ⟨k, hk, rfl, hJk, hs, hn2⟩ := hrel
  by_cases hkl : k * n < len
  ·have hkN := (hlt.out k).2 hkl
   have q1 : (k : Int) * (n : Int) < (len : Int) := by exact_mod_cast hkl
   gi_wp2
   refine (wpIn_wide (n := 0)).2 ?_
   go_region
   obtain ⟨fn, tmps, assign, body, hy, hR⟩ := hY.out k hkN wr.drew (hJ.out _ _ _ hJk (b0 wr).drew)
   simp only [chunkV, Nat.mul_one] at hy
   obtain ⟨m, hm⟩ : ∃ m, m = min n (len - k * n) := ⟨_, rfl⟩
   have hif : (if len - k * n < n then ((len - k * n : Nat) : Int) else (n : Int)) = (m : Int) := by
    rw [hm]; split <;> omega
   first
    | rw [hif]
    | rw [show min (n : Int) ((len - k * n : Nat) : Int) = (m : Int) by rw [hm]; omega]
   rw [← hm] at hy
   have m1 : k * n + m ≤ len := by omega
   have m2 : k * n + m ≤ cap := by omega
   have m3 : ¬ m = 0 := by omega
   have hs2 : wr.drew.cell? ⟨gs, 0, none⟩ = some (.slice (some ⟨b, off, none⟩) len cap) := hs
   have hn3 : wr.drew.cell? ⟨gn, 0, none⟩ = some (.int .i64 n) := hn2
   clear hif hm
   generalize wr.drew = wd at *
   gi_wp2
   refine ⟨rfl, hR.mono ?_⟩
   rintro e W3 ⟨rfl, hJ3, hz3, hB3⟩
   have hs3 := (World.cell?_of_block (w := wd) (a := ⟨gs, 0, none⟩) (hB3 gs (by simp))).trans hs2
   have hn4 := (World.cell?_of_block (w := wd) (a := ⟨gn, 0, none⟩) (hB3 gn (by simp))).trans hn3
   gi_wp2
   go_roundw
   case rel => exact ⟨k + 1, by omega, by rw [Nat.succ_mul]; simp, hJ3, hs3, hn4⟩
   case measure => simp [intOf]; omega
  ·obtain rfl : k = chunkN n len := Nat.le_antisymm hk (Nat.le_of_not_lt fun h => hkl ((hlt.out k).1 h))
   have q1 : ¬ ((chunkN n len : Nat) : Int) * (n : Int) < (len : Int) := by exact_mod_cast hkl
   gi_wp2
   go_end0
   exact ⟨⟨_, rfl⟩, hJk⟩
theorem chunkI_nil (a : Option Addr) (cap gs gn : Nat) (n : Int) (w : World) (hs : w.cell? ⟨gs, 0, none⟩ = some (.slice a 0 cap)) (hk : w.cell? ⟨gn, 0, none⟩ = some (.int .i64 n)) :
    Iter Tryz.prog 161 #[.pointer (some ⟨gs, 0, none⟩), .pointer (some ⟨gn, 0, none⟩)] [] [gs, gn] w := by
 intro l J W hB hJ hY h0
 have hsW : W.cell? ⟨gs, 0, none⟩ = some (.slice a 0 cap) := (World.cell?_of_block (hB gs (by simp))).trans hs
 clear hB hs hk hY hJ
 refine callsIn_of_wp Tryz.func161 rfl trivial ?_ rfl
 simp only [Tryz.ntmps161, List.size_toArray, List.length_cons, List.length_nil, Nat.reduceAdd, Nat.reduceSub, Array.replicate_succ, Array.replicate_zero, List.push_toArray, List.append_toArray, List.nil_append, List.cons_append]
 gi_wp2
 gi_loopw [4] (fun i wr => i = .int .i64 0 ∧ J 0 wr ∧ wr.cell? ⟨gs, 0, none⟩ = some (.slice a 0 cap)) (fun _ _ => 0)
 case atStart => exact ⟨rfl, h0, hsW⟩
 case round =>
  clear hsW
  obtain ⟨rfl, hJk, hs⟩ := hrel
  gi_wp2
  go_end0
  exact ⟨⟨_, rfl⟩, hJk⟩
theorem chunkI (a : Option Addr) (len cap n : Nat) (nI : Int) (hI : nI = n) (hn : 0 < n) (h2 : n ≤ 1000) {S : List Nat} {w0 w : World} {L : List Ent} {R : List Rd} (X : St S w0 w L R) :
    Calls Tryz.prog 122 #[.slice a len cap, .int .i64 nI] w fun e w' => ∃ gs gn, e = .returned (.func (.func 161) #[] #[.pointer (some ⟨gs, 0, none⟩), .pointer (some ⟨gn, 0, none⟩)]) ∧ St S w0 w' (⟨gn, [.int .i64 n], 3⟩ :: ⟨gs, [.slice a len cap], 35⟩ :: L) R := by
 subst hI
 have q : ¬ ((n : Int) < 1) := by omega
 go_enter Tryz.func122, Tryz.ntmps122
 go_wp2_with (first
  | (refine ZcL ?_) | (refine ZcS ?_; clear X; intro w X) | (refine ZcA ?_; clear X; intro g w X))
 go_ret
 exact ⟨_, _, rfl, X⟩
end Go.Proofs.YtjhmfljlclajnacGreatDoor
