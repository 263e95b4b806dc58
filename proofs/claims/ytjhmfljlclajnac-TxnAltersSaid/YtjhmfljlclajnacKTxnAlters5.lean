/- The walk of pay. What Change, Fill and Revoke compute, and that a transaction stays good. No program in sight. How many blocks a transaction asks for: what turns that number, and that the log has room. No program in sight. What a walk keeps of memory: blocks known whole, readings, and what has not been touched. No program in sight. What the table of types says of the types that are laid into memory. The contract of pay, whole. The walks of package slices: DeleteFunc. -/
import Derived.Test.YtjhmfljlclajnacKTxnAlters4
import Derived.Test.YtjhmfljlclajnacKTxnAlters2
import Derived.Test.YtjhmfljlclajnacKTxnAlters1
import Derived.Deep.MidRow
import Derived.Test.YtjhmfljlclajnacChecked
namespace Go.Proofs.Ytjhmfljlclajnac
open Go.RowKit Wb
set_option linter.unusedVariables false
set_option linter.unusedSimpArgs false
set_option maxRecDepth 100000
set_option maxHeartbeats 8000000
theorem txn_pay_free0 (seq : Int) (mt dt : List Cpy) (rev : List Int) (o0 o1 o2 : Bool) (l0 l1 l2 : Int) (am ad ar : Option Addr) (cm cd cr : Nat) (b : Int) (g : Nat) (w : World) (k0 : Blk w g #[.int .i64 seq, .slice am mt.length cm, .slice ad dt.length cd, .slice ar rev.length cr, .bool o0, .int .i64 l0, .bool o1, .int .i64 l1, .bool o2, .int .i64 l2] 28) (hs : rise (blks mt) = true) (hm : RL cpyC w (.slice am mt.length cm) mt) (hr : RL intC w (.slice ar rev.length cr) rev) (n1 : mt.length ≤ 5864062014805) (n3 : rev.length ≤ 17592186044160) (hf : (hasB mt b || inI rev b) = true) :
    Calls Try.prog 25 #[.pointer (some ⟨g, 0, none⟩), .int .i64 0, .int .i64 b] w fun e w' => e = .returned (.int .i64 0) ∧ Below w.heap.size w w' := by
  have hM := txn_has mt b _ w hs hm n1
  have hC := hid (fun w' (hh : RL intC w' (.slice ar rev.length cr) rev) => slices_ContainsI rev b _ w' hh n3)
  replace hr := hid hr
  have e0 := k0.cell 0; have e1 := k0.cell 1; have e2 := k0.cell 2; have e3 := k0.cell 3; have e4 := k0.cell 4; have e5 := k0.cell 5; have e6 := k0.cell 6; have e7 := k0.cell 7; have e8 := k0.cell 8; have e9 := k0.cell 9; simp only [List.getElem?_toArray, List.getElem?_cons_zero, List.getElem?_cons_succ] at e0 e1 e2 e3 e4 e5 e6 e7 e8 e9; have l0' := k0.lt; have f5 := k0.free 5; have f7 := k0.free 7; have f9 := k0.free 9
  clear hm hs
  cases hb : hasB mt b with
  | true =>
    rw [hb] at hM
    replace hM := hid hM
    clear hb hf
    go_enter Try.func25, Try.ntmps25
    go_wp2_with (go_at_call 24; go_loud ((with_reducible refine hM.out.mono ?_); rintro e w1 ⟨rfl, hb1⟩; replace k0 := k0.step hb1; have nx := hb1; have hr1 := hid (hr.out.below hb1); replace hC := hid (hC.out _ hr1.out); clear e0 e1 e2 e3 e4 e5 e6 e7 e8 e9 l0' f5 f7 f9; have e0 := k0.cell 0; have e1 := k0.cell 1; have e2 := k0.cell 2; have e3 := k0.cell 3; have e4 := k0.cell 4; have e5 := k0.cell 5; have e6 := k0.cell 6; have e7 := k0.cell 7; have e8 := k0.cell 8; have e9 := k0.cell 9; simp only [List.getElem?_toArray, List.getElem?_cons_zero, List.getElem?_cons_succ] at e0 e1 e2 e3 e4 e5 e6 e7 e8 e9; have l0' := k0.lt; have f5 := k0.free 5; have f7 := k0.free 7; have f9 := k0.free 9))
    go_ret
    exact ⟨rfl, nx⟩
  | false =>
    rw [hb] at hM hf
    rw [Bool.false_or] at hf
    rw [hf] at hC
    replace hM := hid hM
    clear hb hf
    go_enter Try.func25, Try.ntmps25
    go_wp2_with (first | (go_at_call 24; go_loud ((with_reducible refine hM.out.mono ?_); rintro e w1 ⟨rfl, hb1⟩; replace k0 := k0.step hb1; have nx := hb1; have hr1 := hid (hr.out.below hb1); replace hC := hid (hC.out _ hr1.out); clear e0 e1 e2 e3 e4 e5 e6 e7 e8 e9 l0' f5 f7 f9; have e0 := k0.cell 0; have e1 := k0.cell 1; have e2 := k0.cell 2; have e3 := k0.cell 3; have e4 := k0.cell 4; have e5 := k0.cell 5; have e6 := k0.cell 6; have e7 := k0.cell 7; have e8 := k0.cell 8; have e9 := k0.cell 9; simp only [List.getElem?_toArray, List.getElem?_cons_zero, List.getElem?_cons_succ] at e0 e1 e2 e3 e4 e5 e6 e7 e8 e9; have l0' := k0.lt; have f5 := k0.free 5; have f7 := k0.free 7; have f9 := k0.free 9)) | (go_at_call 37; go_loud ((with_reducible refine hC.out.mono ?_); rintro e w2 ⟨rfl, rfl⟩)))
    go_ret
    exact ⟨rfl, nx⟩
theorem txn_pay_none0 (seq : Int) (mt dt : List Cpy) (rev : List Int) (o0 o1 o2 : Bool) (l0 l1 l2 : Int) (am ad ar : Option Addr) (cm cd cr : Nat) (b : Int) (g : Nat) (w : World) (k0 : Blk w g #[.int .i64 seq, .slice am mt.length cm, .slice ad dt.length cd, .slice ar rev.length cr, .bool o0, .int .i64 l0, .bool o1, .int .i64 l1, .bool o2, .int .i64 l2] 28) (hs : rise (blks mt) = true) (hm : RL cpyC w (.slice am mt.length cm) mt) (hr : RL intC w (.slice ar rev.length cr) rev) (n1 : mt.length ≤ 5864062014805) (n3 : rev.length ≤ 17592186044160) (hf : (hasB mt b || inI rev b) = false) (h0 : l0 = 0) :
    Calls Try.prog 25 #[.pointer (some ⟨g, 0, none⟩), .int .i64 0, .int .i64 b] w fun e w' => e = .returned (.int .i64 7) ∧ Below w.heap.size w w' := by
  have hM := txn_has mt b _ w hs hm n1
  have hC := hid (fun w' (hh : RL intC w' (.slice ar rev.length cr) rev) => slices_ContainsI rev b _ w' hh n3)
  replace hr := hid hr
  have e0 := k0.cell 0; have e1 := k0.cell 1; have e2 := k0.cell 2; have e3 := k0.cell 3; have e4 := k0.cell 4; have e5 := k0.cell 5; have e6 := k0.cell 6; have e7 := k0.cell 7; have e8 := k0.cell 8; have e9 := k0.cell 9; simp only [List.getElem?_toArray, List.getElem?_cons_zero, List.getElem?_cons_succ] at e0 e1 e2 e3 e4 e5 e6 e7 e8 e9; have l0' := k0.lt; have f5 := k0.free 5; have f7 := k0.free 7; have f9 := k0.free 9
  clear hm hs
  obtain ⟨hb, hf⟩ := Bool.or_eq_false_iff.1 hf
  rw [hb] at hM
  rw [hf] at hC
  replace hM := hid hM
  subst h0
  clear hb hf
  go_enter Try.func25, Try.ntmps25
  go_wp2_with (first | (go_at_call 24; go_loud ((with_reducible refine hM.out.mono ?_); rintro e w1 ⟨rfl, hb1⟩; replace k0 := k0.step hb1; have nx := hb1; have hr1 := hid (hr.out.below hb1); replace hC := hid (hC.out _ hr1.out); clear e0 e1 e2 e3 e4 e5 e6 e7 e8 e9 l0' f5 f7 f9; have e0 := k0.cell 0; have e1 := k0.cell 1; have e2 := k0.cell 2; have e3 := k0.cell 3; have e4 := k0.cell 4; have e5 := k0.cell 5; have e6 := k0.cell 6; have e7 := k0.cell 7; have e8 := k0.cell 8; have e9 := k0.cell 9; simp only [List.getElem?_toArray, List.getElem?_cons_zero, List.getElem?_cons_succ] at e0 e1 e2 e3 e4 e5 e6 e7 e8 e9; have l0' := k0.lt; have f5 := k0.free 5; have f7 := k0.free 7; have f9 := k0.free 9)) | (go_at_call 37; go_loud ((with_reducible refine hC.out.mono ?_); rintro e w2 ⟨rfl, rfl⟩)))
  go_ret
  exact ⟨rfl, nx⟩
theorem txn_pay_one0 (seq : Int) (mt dt : List Cpy) (rev : List Int) (o0 o1 o2 : Bool) (l0 l1 l2 : Int) (am ad ar : Option Addr) (cm cd cr : Nat) (b : Int) (g : Nat) (w : World) (k0 : Blk w g #[.int .i64 seq, .slice am mt.length cm, .slice ad dt.length cd, .slice ar rev.length cr, .bool o0, .int .i64 l0, .bool o1, .int .i64 l1, .bool o2, .int .i64 l2] 28) (hs : rise (blks mt) = true) (hm : RL cpyC w (.slice am mt.length cm) mt) (hr : RL intC w (.slice ar rev.length cr) rev) (n1 : mt.length ≤ 5864062014805) (n3 : rev.length ≤ 17592186044160) (hf : (hasB mt b || inI rev b) = false) (h0 : 0 < l0) (h1 : l0 ≤ 24) :
    Calls Try.prog 25 #[.pointer (some ⟨g, 0, none⟩), .int .i64 0, .int .i64 b] w fun e w' => e = .returned (.int .i64 0) ∧ ∃ w1, Below w.heap.size w w1 ∧ w' = w1.setCell ⟨g, 5, none⟩ (.int .i64 (l0 - 1)) := by
  have hM := txn_has mt b _ w hs hm n1
  have hC := hid (fun w' (hh : RL intC w' (.slice ar rev.length cr) rev) => slices_ContainsI rev b _ w' hh n3)
  replace hr := hid hr
  have e0 := k0.cell 0; have e1 := k0.cell 1; have e2 := k0.cell 2; have e3 := k0.cell 3; have e4 := k0.cell 4; have e5 := k0.cell 5; have e6 := k0.cell 6; have e7 := k0.cell 7; have e8 := k0.cell 8; have e9 := k0.cell 9; simp only [List.getElem?_toArray, List.getElem?_cons_zero, List.getElem?_cons_succ] at e0 e1 e2 e3 e4 e5 e6 e7 e8 e9; have l0' := k0.lt; have f5 := k0.free 5; have f7 := k0.free 7; have f9 := k0.free 9
  clear hm hs
  obtain ⟨hb, hf⟩ := Bool.or_eq_false_iff.1 hf
  have hnz : ¬ l0 = 0 := by omega
  have hwr : IntKind.i64.wrap (l0 - 1) = l0 - 1 := IntWalk.i64_in _ (by omega)
  rw [hb] at hM
  rw [hf] at hC
  replace hM := hid hM
  clear hb hf
  go_enter Try.func25, Try.ntmps25
  go_wp2_with (first | (go_at_call 24; go_loud ((with_reducible refine hM.out.mono ?_); rintro e w1 ⟨rfl, hb1⟩; replace k0 := k0.step hb1; have nx := hb1; have hr1 := hid (hr.out.below hb1); replace hC := hid (hC.out _ hr1.out); clear e0 e1 e2 e3 e4 e5 e6 e7 e8 e9 l0' f5 f7 f9; have e0 := k0.cell 0; have e1 := k0.cell 1; have e2 := k0.cell 2; have e3 := k0.cell 3; have e4 := k0.cell 4; have e5 := k0.cell 5; have e6 := k0.cell 6; have e7 := k0.cell 7; have e8 := k0.cell 8; have e9 := k0.cell 9; simp only [List.getElem?_toArray, List.getElem?_cons_zero, List.getElem?_cons_succ] at e0 e1 e2 e3 e4 e5 e6 e7 e8 e9; have l0' := k0.lt; have f5 := k0.free 5; have f7 := k0.free 7; have f9 := k0.free 9)) | (go_at_call 37; go_loud ((with_reducible refine hC.out.mono ?_); rintro e w2 ⟨rfl, rfl⟩)))
  go_region_law (fail "no call")
  all_goals go_wp2
  all_goals go_ret
  all_goals exact ⟨rfl, _, nx.drew, rfl⟩
theorem txn_pay_free1 (seq : Int) (mt dt : List Cpy) (rev : List Int) (o0 o1 o2 : Bool) (l0 l1 l2 : Int) (am ad ar : Option Addr) (cm cd cr : Nat) (b : Int) (g : Nat) (w : World) (k0 : Blk w g #[.int .i64 seq, .slice am mt.length cm, .slice ad dt.length cd, .slice ar rev.length cr, .bool o0, .int .i64 l0, .bool o1, .int .i64 l1, .bool o2, .int .i64 l2] 28) (hs : rise (blks mt) = true) (hm : RL cpyC w (.slice am mt.length cm) mt) (hr : RL intC w (.slice ar rev.length cr) rev) (n1 : mt.length ≤ 5864062014805) (n3 : rev.length ≤ 17592186044160) (hf : (hasB mt b || inI rev b) = true) :
    Calls Try.prog 25 #[.pointer (some ⟨g, 0, none⟩), .int .i64 1, .int .i64 b] w fun e w' => e = .returned (.int .i64 0) ∧ Below w.heap.size w w' := by
  have hM := txn_has mt b _ w hs hm n1
  have hC := hid (fun w' (hh : RL intC w' (.slice ar rev.length cr) rev) => slices_ContainsI rev b _ w' hh n3)
  replace hr := hid hr
  have e0 := k0.cell 0; have e1 := k0.cell 1; have e2 := k0.cell 2; have e3 := k0.cell 3; have e4 := k0.cell 4; have e5 := k0.cell 5; have e6 := k0.cell 6; have e7 := k0.cell 7; have e8 := k0.cell 8; have e9 := k0.cell 9; simp only [List.getElem?_toArray, List.getElem?_cons_zero, List.getElem?_cons_succ] at e0 e1 e2 e3 e4 e5 e6 e7 e8 e9; have l0' := k0.lt; have f5 := k0.free 5; have f7 := k0.free 7; have f9 := k0.free 9
  clear hm hs
  cases hb : hasB mt b with
  | true =>
    rw [hb] at hM
    replace hM := hid hM
    clear hb hf
    go_enter Try.func25, Try.ntmps25
    go_wp2_with (go_at_call 24; go_loud ((with_reducible refine hM.out.mono ?_); rintro e w1 ⟨rfl, hb1⟩; replace k0 := k0.step hb1; have nx := hb1; have hr1 := hid (hr.out.below hb1); replace hC := hid (hC.out _ hr1.out); clear e0 e1 e2 e3 e4 e5 e6 e7 e8 e9 l0' f5 f7 f9; have e0 := k0.cell 0; have e1 := k0.cell 1; have e2 := k0.cell 2; have e3 := k0.cell 3; have e4 := k0.cell 4; have e5 := k0.cell 5; have e6 := k0.cell 6; have e7 := k0.cell 7; have e8 := k0.cell 8; have e9 := k0.cell 9; simp only [List.getElem?_toArray, List.getElem?_cons_zero, List.getElem?_cons_succ] at e0 e1 e2 e3 e4 e5 e6 e7 e8 e9; have l0' := k0.lt; have f5 := k0.free 5; have f7 := k0.free 7; have f9 := k0.free 9))
    go_ret
    exact ⟨rfl, nx⟩
  | false =>
    rw [hb] at hM hf
    rw [Bool.false_or] at hf
    rw [hf] at hC
    replace hM := hid hM
    clear hb hf
    go_enter Try.func25, Try.ntmps25
    go_wp2_with (first | (go_at_call 24; go_loud ((with_reducible refine hM.out.mono ?_); rintro e w1 ⟨rfl, hb1⟩; replace k0 := k0.step hb1; have nx := hb1; have hr1 := hid (hr.out.below hb1); replace hC := hid (hC.out _ hr1.out); clear e0 e1 e2 e3 e4 e5 e6 e7 e8 e9 l0' f5 f7 f9; have e0 := k0.cell 0; have e1 := k0.cell 1; have e2 := k0.cell 2; have e3 := k0.cell 3; have e4 := k0.cell 4; have e5 := k0.cell 5; have e6 := k0.cell 6; have e7 := k0.cell 7; have e8 := k0.cell 8; have e9 := k0.cell 9; simp only [List.getElem?_toArray, List.getElem?_cons_zero, List.getElem?_cons_succ] at e0 e1 e2 e3 e4 e5 e6 e7 e8 e9; have l0' := k0.lt; have f5 := k0.free 5; have f7 := k0.free 7; have f9 := k0.free 9)) | (go_at_call 37; go_loud ((with_reducible refine hC.out.mono ?_); rintro e w2 ⟨rfl, rfl⟩)))
    go_ret
    exact ⟨rfl, nx⟩
theorem txn_pay_none1 (seq : Int) (mt dt : List Cpy) (rev : List Int) (o0 o1 o2 : Bool) (l0 l1 l2 : Int) (am ad ar : Option Addr) (cm cd cr : Nat) (b : Int) (g : Nat) (w : World) (k0 : Blk w g #[.int .i64 seq, .slice am mt.length cm, .slice ad dt.length cd, .slice ar rev.length cr, .bool o0, .int .i64 l0, .bool o1, .int .i64 l1, .bool o2, .int .i64 l2] 28) (hs : rise (blks mt) = true) (hm : RL cpyC w (.slice am mt.length cm) mt) (hr : RL intC w (.slice ar rev.length cr) rev) (n1 : mt.length ≤ 5864062014805) (n3 : rev.length ≤ 17592186044160) (hf : (hasB mt b || inI rev b) = false) (h0 : l1 = 0) :
    Calls Try.prog 25 #[.pointer (some ⟨g, 0, none⟩), .int .i64 1, .int .i64 b] w fun e w' => e = .returned (.int .i64 7) ∧ Below w.heap.size w w' := by
  have hM := txn_has mt b _ w hs hm n1
  have hC := hid (fun w' (hh : RL intC w' (.slice ar rev.length cr) rev) => slices_ContainsI rev b _ w' hh n3)
  replace hr := hid hr
  have e0 := k0.cell 0; have e1 := k0.cell 1; have e2 := k0.cell 2; have e3 := k0.cell 3; have e4 := k0.cell 4; have e5 := k0.cell 5; have e6 := k0.cell 6; have e7 := k0.cell 7; have e8 := k0.cell 8; have e9 := k0.cell 9; simp only [List.getElem?_toArray, List.getElem?_cons_zero, List.getElem?_cons_succ] at e0 e1 e2 e3 e4 e5 e6 e7 e8 e9; have l0' := k0.lt; have f5 := k0.free 5; have f7 := k0.free 7; have f9 := k0.free 9
  clear hm hs
  obtain ⟨hb, hf⟩ := Bool.or_eq_false_iff.1 hf
  rw [hb] at hM
  rw [hf] at hC
  replace hM := hid hM
  subst h0
  clear hb hf
  go_enter Try.func25, Try.ntmps25
  go_wp2_with (first | (go_at_call 24; go_loud ((with_reducible refine hM.out.mono ?_); rintro e w1 ⟨rfl, hb1⟩; replace k0 := k0.step hb1; have nx := hb1; have hr1 := hid (hr.out.below hb1); replace hC := hid (hC.out _ hr1.out); clear e0 e1 e2 e3 e4 e5 e6 e7 e8 e9 l0' f5 f7 f9; have e0 := k0.cell 0; have e1 := k0.cell 1; have e2 := k0.cell 2; have e3 := k0.cell 3; have e4 := k0.cell 4; have e5 := k0.cell 5; have e6 := k0.cell 6; have e7 := k0.cell 7; have e8 := k0.cell 8; have e9 := k0.cell 9; simp only [List.getElem?_toArray, List.getElem?_cons_zero, List.getElem?_cons_succ] at e0 e1 e2 e3 e4 e5 e6 e7 e8 e9; have l0' := k0.lt; have f5 := k0.free 5; have f7 := k0.free 7; have f9 := k0.free 9)) | (go_at_call 37; go_loud ((with_reducible refine hC.out.mono ?_); rintro e w2 ⟨rfl, rfl⟩)))
  go_ret
  exact ⟨rfl, nx⟩
theorem txn_pay_one1 (seq : Int) (mt dt : List Cpy) (rev : List Int) (o0 o1 o2 : Bool) (l0 l1 l2 : Int) (am ad ar : Option Addr) (cm cd cr : Nat) (b : Int) (g : Nat) (w : World) (k0 : Blk w g #[.int .i64 seq, .slice am mt.length cm, .slice ad dt.length cd, .slice ar rev.length cr, .bool o0, .int .i64 l0, .bool o1, .int .i64 l1, .bool o2, .int .i64 l2] 28) (hs : rise (blks mt) = true) (hm : RL cpyC w (.slice am mt.length cm) mt) (hr : RL intC w (.slice ar rev.length cr) rev) (n1 : mt.length ≤ 5864062014805) (n3 : rev.length ≤ 17592186044160) (hf : (hasB mt b || inI rev b) = false) (h0 : 0 < l1) (h1 : l1 ≤ 24) :
    Calls Try.prog 25 #[.pointer (some ⟨g, 0, none⟩), .int .i64 1, .int .i64 b] w fun e w' => e = .returned (.int .i64 0) ∧ ∃ w1, Below w.heap.size w w1 ∧ w' = w1.setCell ⟨g, 7, none⟩ (.int .i64 (l1 - 1)) := by
  have hM := txn_has mt b _ w hs hm n1
  have hC := hid (fun w' (hh : RL intC w' (.slice ar rev.length cr) rev) => slices_ContainsI rev b _ w' hh n3)
  replace hr := hid hr
  have e0 := k0.cell 0; have e1 := k0.cell 1; have e2 := k0.cell 2; have e3 := k0.cell 3; have e4 := k0.cell 4; have e5 := k0.cell 5; have e6 := k0.cell 6; have e7 := k0.cell 7; have e8 := k0.cell 8; have e9 := k0.cell 9; simp only [List.getElem?_toArray, List.getElem?_cons_zero, List.getElem?_cons_succ] at e0 e1 e2 e3 e4 e5 e6 e7 e8 e9; have l0' := k0.lt; have f5 := k0.free 5; have f7 := k0.free 7; have f9 := k0.free 9
  clear hm hs
  obtain ⟨hb, hf⟩ := Bool.or_eq_false_iff.1 hf
  have hnz : ¬ l1 = 0 := by omega
  have hwr : IntKind.i64.wrap (l1 - 1) = l1 - 1 := IntWalk.i64_in _ (by omega)
  rw [hb] at hM
  rw [hf] at hC
  replace hM := hid hM
  clear hb hf
  go_enter Try.func25, Try.ntmps25
  go_wp2_with (first | (go_at_call 24; go_loud ((with_reducible refine hM.out.mono ?_); rintro e w1 ⟨rfl, hb1⟩; replace k0 := k0.step hb1; have nx := hb1; have hr1 := hid (hr.out.below hb1); replace hC := hid (hC.out _ hr1.out); clear e0 e1 e2 e3 e4 e5 e6 e7 e8 e9 l0' f5 f7 f9; have e0 := k0.cell 0; have e1 := k0.cell 1; have e2 := k0.cell 2; have e3 := k0.cell 3; have e4 := k0.cell 4; have e5 := k0.cell 5; have e6 := k0.cell 6; have e7 := k0.cell 7; have e8 := k0.cell 8; have e9 := k0.cell 9; simp only [List.getElem?_toArray, List.getElem?_cons_zero, List.getElem?_cons_succ] at e0 e1 e2 e3 e4 e5 e6 e7 e8 e9; have l0' := k0.lt; have f5 := k0.free 5; have f7 := k0.free 7; have f9 := k0.free 9)) | (go_at_call 37; go_loud ((with_reducible refine hC.out.mono ?_); rintro e w2 ⟨rfl, rfl⟩)))
  go_region_law (fail "no call")
  all_goals go_wp2
  all_goals go_ret
  all_goals exact ⟨rfl, _, nx.drew, rfl⟩
theorem txn_pay_free2 (seq : Int) (mt dt : List Cpy) (rev : List Int) (o0 o1 o2 : Bool) (l0 l1 l2 : Int) (am ad ar : Option Addr) (cm cd cr : Nat) (b : Int) (g : Nat) (w : World) (k0 : Blk w g #[.int .i64 seq, .slice am mt.length cm, .slice ad dt.length cd, .slice ar rev.length cr, .bool o0, .int .i64 l0, .bool o1, .int .i64 l1, .bool o2, .int .i64 l2] 28) (hs : rise (blks mt) = true) (hm : RL cpyC w (.slice am mt.length cm) mt) (hr : RL intC w (.slice ar rev.length cr) rev) (n1 : mt.length ≤ 5864062014805) (n3 : rev.length ≤ 17592186044160) (hf : (hasB mt b || inI rev b) = true) :
    Calls Try.prog 25 #[.pointer (some ⟨g, 0, none⟩), .int .i64 2, .int .i64 b] w fun e w' => e = .returned (.int .i64 0) ∧ Below w.heap.size w w' := by
  have hM := txn_has mt b _ w hs hm n1
  have hC := hid (fun w' (hh : RL intC w' (.slice ar rev.length cr) rev) => slices_ContainsI rev b _ w' hh n3)
  replace hr := hid hr
  have e0 := k0.cell 0; have e1 := k0.cell 1; have e2 := k0.cell 2; have e3 := k0.cell 3; have e4 := k0.cell 4; have e5 := k0.cell 5; have e6 := k0.cell 6; have e7 := k0.cell 7; have e8 := k0.cell 8; have e9 := k0.cell 9; simp only [List.getElem?_toArray, List.getElem?_cons_zero, List.getElem?_cons_succ] at e0 e1 e2 e3 e4 e5 e6 e7 e8 e9; have l0' := k0.lt; have f5 := k0.free 5; have f7 := k0.free 7; have f9 := k0.free 9
  clear hm hs
  cases hb : hasB mt b with
  | true =>
    rw [hb] at hM
    replace hM := hid hM
    clear hb hf
    go_enter Try.func25, Try.ntmps25
    go_wp2_with (go_at_call 24; go_loud ((with_reducible refine hM.out.mono ?_); rintro e w1 ⟨rfl, hb1⟩; replace k0 := k0.step hb1; have nx := hb1; have hr1 := hid (hr.out.below hb1); replace hC := hid (hC.out _ hr1.out); clear e0 e1 e2 e3 e4 e5 e6 e7 e8 e9 l0' f5 f7 f9; have e0 := k0.cell 0; have e1 := k0.cell 1; have e2 := k0.cell 2; have e3 := k0.cell 3; have e4 := k0.cell 4; have e5 := k0.cell 5; have e6 := k0.cell 6; have e7 := k0.cell 7; have e8 := k0.cell 8; have e9 := k0.cell 9; simp only [List.getElem?_toArray, List.getElem?_cons_zero, List.getElem?_cons_succ] at e0 e1 e2 e3 e4 e5 e6 e7 e8 e9; have l0' := k0.lt; have f5 := k0.free 5; have f7 := k0.free 7; have f9 := k0.free 9))
    go_ret
    exact ⟨rfl, nx⟩
  | false =>
    rw [hb] at hM hf
    rw [Bool.false_or] at hf
    rw [hf] at hC
    replace hM := hid hM
    clear hb hf
    go_enter Try.func25, Try.ntmps25
    go_wp2_with (first | (go_at_call 24; go_loud ((with_reducible refine hM.out.mono ?_); rintro e w1 ⟨rfl, hb1⟩; replace k0 := k0.step hb1; have nx := hb1; have hr1 := hid (hr.out.below hb1); replace hC := hid (hC.out _ hr1.out); clear e0 e1 e2 e3 e4 e5 e6 e7 e8 e9 l0' f5 f7 f9; have e0 := k0.cell 0; have e1 := k0.cell 1; have e2 := k0.cell 2; have e3 := k0.cell 3; have e4 := k0.cell 4; have e5 := k0.cell 5; have e6 := k0.cell 6; have e7 := k0.cell 7; have e8 := k0.cell 8; have e9 := k0.cell 9; simp only [List.getElem?_toArray, List.getElem?_cons_zero, List.getElem?_cons_succ] at e0 e1 e2 e3 e4 e5 e6 e7 e8 e9; have l0' := k0.lt; have f5 := k0.free 5; have f7 := k0.free 7; have f9 := k0.free 9)) | (go_at_call 37; go_loud ((with_reducible refine hC.out.mono ?_); rintro e w2 ⟨rfl, rfl⟩)))
    go_ret
    exact ⟨rfl, nx⟩
theorem txn_pay_none2 (seq : Int) (mt dt : List Cpy) (rev : List Int) (o0 o1 o2 : Bool) (l0 l1 l2 : Int) (am ad ar : Option Addr) (cm cd cr : Nat) (b : Int) (g : Nat) (w : World) (k0 : Blk w g #[.int .i64 seq, .slice am mt.length cm, .slice ad dt.length cd, .slice ar rev.length cr, .bool o0, .int .i64 l0, .bool o1, .int .i64 l1, .bool o2, .int .i64 l2] 28) (hs : rise (blks mt) = true) (hm : RL cpyC w (.slice am mt.length cm) mt) (hr : RL intC w (.slice ar rev.length cr) rev) (n1 : mt.length ≤ 5864062014805) (n3 : rev.length ≤ 17592186044160) (hf : (hasB mt b || inI rev b) = false) (h0 : l2 = 0) :
    Calls Try.prog 25 #[.pointer (some ⟨g, 0, none⟩), .int .i64 2, .int .i64 b] w fun e w' => e = .returned (.int .i64 7) ∧ Below w.heap.size w w' := by
  have hM := txn_has mt b _ w hs hm n1
  have hC := hid (fun w' (hh : RL intC w' (.slice ar rev.length cr) rev) => slices_ContainsI rev b _ w' hh n3)
  replace hr := hid hr
  have e0 := k0.cell 0; have e1 := k0.cell 1; have e2 := k0.cell 2; have e3 := k0.cell 3; have e4 := k0.cell 4; have e5 := k0.cell 5; have e6 := k0.cell 6; have e7 := k0.cell 7; have e8 := k0.cell 8; have e9 := k0.cell 9; simp only [List.getElem?_toArray, List.getElem?_cons_zero, List.getElem?_cons_succ] at e0 e1 e2 e3 e4 e5 e6 e7 e8 e9; have l0' := k0.lt; have f5 := k0.free 5; have f7 := k0.free 7; have f9 := k0.free 9
  clear hm hs
  obtain ⟨hb, hf⟩ := Bool.or_eq_false_iff.1 hf
  rw [hb] at hM
  rw [hf] at hC
  replace hM := hid hM
  subst h0
  clear hb hf
  go_enter Try.func25, Try.ntmps25
  go_wp2_with (first | (go_at_call 24; go_loud ((with_reducible refine hM.out.mono ?_); rintro e w1 ⟨rfl, hb1⟩; replace k0 := k0.step hb1; have nx := hb1; have hr1 := hid (hr.out.below hb1); replace hC := hid (hC.out _ hr1.out); clear e0 e1 e2 e3 e4 e5 e6 e7 e8 e9 l0' f5 f7 f9; have e0 := k0.cell 0; have e1 := k0.cell 1; have e2 := k0.cell 2; have e3 := k0.cell 3; have e4 := k0.cell 4; have e5 := k0.cell 5; have e6 := k0.cell 6; have e7 := k0.cell 7; have e8 := k0.cell 8; have e9 := k0.cell 9; simp only [List.getElem?_toArray, List.getElem?_cons_zero, List.getElem?_cons_succ] at e0 e1 e2 e3 e4 e5 e6 e7 e8 e9; have l0' := k0.lt; have f5 := k0.free 5; have f7 := k0.free 7; have f9 := k0.free 9)) | (go_at_call 37; go_loud ((with_reducible refine hC.out.mono ?_); rintro e w2 ⟨rfl, rfl⟩)))
  go_ret
  exact ⟨rfl, nx⟩
theorem txn_pay_one2 (seq : Int) (mt dt : List Cpy) (rev : List Int) (o0 o1 o2 : Bool) (l0 l1 l2 : Int) (am ad ar : Option Addr) (cm cd cr : Nat) (b : Int) (g : Nat) (w : World) (k0 : Blk w g #[.int .i64 seq, .slice am mt.length cm, .slice ad dt.length cd, .slice ar rev.length cr, .bool o0, .int .i64 l0, .bool o1, .int .i64 l1, .bool o2, .int .i64 l2] 28) (hs : rise (blks mt) = true) (hm : RL cpyC w (.slice am mt.length cm) mt) (hr : RL intC w (.slice ar rev.length cr) rev) (n1 : mt.length ≤ 5864062014805) (n3 : rev.length ≤ 17592186044160) (hf : (hasB mt b || inI rev b) = false) (h0 : 0 < l2) (h1 : l2 ≤ 24) :
    Calls Try.prog 25 #[.pointer (some ⟨g, 0, none⟩), .int .i64 2, .int .i64 b] w fun e w' => e = .returned (.int .i64 0) ∧ ∃ w1, Below w.heap.size w w1 ∧ w' = w1.setCell ⟨g, 9, none⟩ (.int .i64 (l2 - 1)) := by
  have hM := txn_has mt b _ w hs hm n1
  have hC := hid (fun w' (hh : RL intC w' (.slice ar rev.length cr) rev) => slices_ContainsI rev b _ w' hh n3)
  replace hr := hid hr
  have e0 := k0.cell 0; have e1 := k0.cell 1; have e2 := k0.cell 2; have e3 := k0.cell 3; have e4 := k0.cell 4; have e5 := k0.cell 5; have e6 := k0.cell 6; have e7 := k0.cell 7; have e8 := k0.cell 8; have e9 := k0.cell 9; simp only [List.getElem?_toArray, List.getElem?_cons_zero, List.getElem?_cons_succ] at e0 e1 e2 e3 e4 e5 e6 e7 e8 e9; have l0' := k0.lt; have f5 := k0.free 5; have f7 := k0.free 7; have f9 := k0.free 9
  clear hm hs
  obtain ⟨hb, hf⟩ := Bool.or_eq_false_iff.1 hf
  have hnz : ¬ l2 = 0 := by omega
  have hwr : IntKind.i64.wrap (l2 - 1) = l2 - 1 := IntWalk.i64_in _ (by omega)
  rw [hb] at hM
  rw [hf] at hC
  replace hM := hid hM
  clear hb hf
  go_enter Try.func25, Try.ntmps25
  go_wp2_with (first | (go_at_call 24; go_loud ((with_reducible refine hM.out.mono ?_); rintro e w1 ⟨rfl, hb1⟩; replace k0 := k0.step hb1; have nx := hb1; have hr1 := hid (hr.out.below hb1); replace hC := hid (hC.out _ hr1.out); clear e0 e1 e2 e3 e4 e5 e6 e7 e8 e9 l0' f5 f7 f9; have e0 := k0.cell 0; have e1 := k0.cell 1; have e2 := k0.cell 2; have e3 := k0.cell 3; have e4 := k0.cell 4; have e5 := k0.cell 5; have e6 := k0.cell 6; have e7 := k0.cell 7; have e8 := k0.cell 8; have e9 := k0.cell 9; simp only [List.getElem?_toArray, List.getElem?_cons_zero, List.getElem?_cons_succ] at e0 e1 e2 e3 e4 e5 e6 e7 e8 e9; have l0' := k0.lt; have f5 := k0.free 5; have f7 := k0.free 7; have f9 := k0.free 9)) | (go_at_call 37; go_loud ((with_reducible refine hC.out.mono ?_); rintro e w2 ⟨rfl, rfl⟩)))
  go_region_law (fail "no call")
  all_goals go_wp2
  all_goals go_ret
  all_goals exact ⟨rfl, _, nx.drew, rfl⟩
end Go.Proofs.Ytjhmfljlclajnac

namespace Wb
open Go Go.RowKit

theorem ne32 {s : ByteArray} (h : ((s.size : Int) != 32) = false) : s.size = 32 := by
  have : (s.size : Int) = 32 := by simpa using h
  omega
theorem ne32' {s : ByteArray} (h : ((s.size : Int) != 32) = true) : ¬ s.size = 32 := fun e => by rw [e] at h; cases h
/-! ### What they compute -/
/-- A block that is named newly is owed for. -/
def owed (t : Txn) (b : Int) : Bool := !(hasB t.mt b || inI t.rev b)
def payE (t : Txn) (h b : Int) : Int := if owed t b = true ∧ (getH t h).left = 0 then 7 else 0
def payT (t : Txn) (h b : Int) : Txn := if owed t b = true then setH t h ⟨(getH t h).on, (getH t h).left - 1⟩ else t
def chgE (t : Txn) (h b : Int) (s : ByteArray) : Int := if mayE t h b ≠ 0 then mayE t h b else if s.size ≠ 32 then 1 else if hasB t.dt b = true then 8 else payE t h b
def chgT (t : Txn) (h b : Int) (s : ByteArray) : Txn := if chgE t h b s = 0 then { payT t h b with mt := putL t.mt b s, rev := offI t.rev b } else t
def filE (t : Txn) (h b : Int) (s : ByteArray) : Int := if mayE t h b ≠ 0 then mayE t h b else if s.size ≠ 32 then 1 else if owed t b = false then 8 else 0
def filT (t : Txn) (h b : Int) (s : ByteArray) : Txn := if filE t h b s = 0 then { t with dt := putL t.dt b s } else t
def rvkE (t : Txn) (h b : Int) : Int := if mayE t h b ≠ 0 then mayE t h b else if inI t.rev b = true then 5 else payE t h b
def rvkT (t : Txn) (h b : Int) : Txn := if rvkE t h b = 0 then { payT t h b with mt := dropC t.mt b, dt := dropC t.dt b, rev := insI t.rev b } else t

theorem setH_same (t : Txn) (h : Int) (x : Hnd) : (setH t h x).seq = t.seq ∧ (setH t h x).mt = t.mt ∧ (setH t h x).dt = t.dt ∧ (setH t h x).rev = t.rev := by
  unfold setH; split
  · exact ⟨rfl, rfl, rfl, rfl⟩
  · split <;> exact ⟨rfl, rfl, rfl, rfl⟩
theorem payT_same (t : Txn) (h b : Int) : (payT t h b).seq = t.seq ∧ (payT t h b).mt = t.mt ∧ (payT t h b).dt = t.dt ∧ (payT t h b).rev = t.rev := by
  unfold payT; split
  · exact setH_same _ _ _
  · exact ⟨rfl, rfl, rfl, rfl⟩

/-- What pay leaves. -/
def payU (t : Txn) (h b : Int) : Txn := if payE t h b = 0 then payT t h b else t
theorem payU_zero {t : Txn} {h b : Int} (e : payE t h b = 0) : payU t h b = payT t h b := if_pos e
theorem payU_same (t : Txn) (h b : Int) : (payU t h b).seq = t.seq ∧ (payU t h b).mt = t.mt ∧ (payU t h b).dt = t.dt ∧ (payU t h b).rev = t.rev := by
  unfold payU; split
  · exact payT_same _ _ _
  · exact ⟨rfl, rfl, rfl, rfl⟩
theorem chg_may {t : Txn} {h b : Int} {s : ByteArray} (hm : ¬ mayE t h b = 0) : chgE t h b s = mayE t h b ∧ chgT t h b s = t := by
  have e : chgE t h b s = mayE t h b := by unfold chgE; rw [if_pos hm]
  exact ⟨e, by unfold chgT; rw [e, if_neg hm]⟩
theorem chg_form {t : Txn} {h b : Int} {s : ByteArray} (hm : mayE t h b = 0) (hs : ¬ s.size = 32) : chgE t h b s = 1 ∧ chgT t h b s = t := by
  have e : chgE t h b s = 1 := by unfold chgE; rw [if_neg (by simp [hm]), if_pos hs]
  exact ⟨e, by unfold chgT; rw [e, if_neg (by decide)]⟩
theorem chg_role {t : Txn} {h b : Int} {s : ByteArray} (hm : mayE t h b = 0) (hs : s.size = 32) (hd : hasB t.dt b = true) : chgE t h b s = 8 ∧ chgT t h b s = t := by
  have e : chgE t h b s = 8 := by unfold chgE; rw [if_neg (by simp [hm]), if_neg (by simp [hs]), if_pos hd]
  exact ⟨e, by unfold chgT; rw [e, if_neg (by decide)]⟩
theorem chg_pay {t : Txn} {h b : Int} {s : ByteArray} (hm : mayE t h b = 0) (hs : s.size = 32) (hd : hasB t.dt b = false) : chgE t h b s = payE t h b := by
  unfold chgE; rw [if_neg (by simp [hm]), if_neg (by simp [hs]), if_neg (by simp [hd])]
theorem chg_broke {t : Txn} {h b : Int} {s : ByteArray} (hm : mayE t h b = 0) (hs : s.size = 32) (hd : hasB t.dt b = false) (hp : ¬ payE t h b = 0) : chgE t h b s = payE t h b ∧ chgT t h b s = t :=
  ⟨chg_pay hm hs hd, by unfold chgT; rw [chg_pay hm hs hd, if_neg hp]⟩
theorem chg_ok {t : Txn} {h b : Int} {s : ByteArray} (hm : mayE t h b = 0) (hs : s.size = 32) (hd : hasB t.dt b = false) (hp : payE t h b = 0) : chgE t h b s = 0 ∧ chgT t h b s = { payU t h b with mt := putL t.mt b s, rev := offI t.rev b } := by
  have e : chgE t h b s = 0 := by rw [chg_pay hm hs hd, hp]
  exact ⟨e, by unfold chgT; rw [if_pos e, payU_zero hp]⟩
theorem fil_may {t : Txn} {h b : Int} {s : ByteArray} (hm : ¬ mayE t h b = 0) : filE t h b s = mayE t h b ∧ filT t h b s = t := by
  have e : filE t h b s = mayE t h b := by unfold filE; rw [if_pos hm]
  exact ⟨e, by unfold filT; rw [e, if_neg hm]⟩
theorem fil_form {t : Txn} {h b : Int} {s : ByteArray} (hm : mayE t h b = 0) (hs : ¬ s.size = 32) : filE t h b s = 1 ∧ filT t h b s = t := by
  have e : filE t h b s = 1 := by unfold filE; rw [if_neg (by simp [hm]), if_pos hs]
  exact ⟨e, by unfold filT; rw [e, if_neg (by decide)]⟩
theorem fil_role {t : Txn} {h b : Int} {s : ByteArray} (hm : mayE t h b = 0) (hs : s.size = 32) (hd : (hasB t.mt b || inI t.rev b) = true) : filE t h b s = 8 ∧ filT t h b s = t := by
  have e : filE t h b s = 8 := by unfold filE owed; rw [if_neg (by simp [hm]), if_neg (by simp [hs]), if_pos (by rw [hd]; rfl)]
  exact ⟨e, by unfold filT; rw [e, if_neg (by decide)]⟩
theorem fil_ok {t : Txn} {h b : Int} {s : ByteArray} (hm : mayE t h b = 0) (hs : s.size = 32) (hd : (hasB t.mt b || inI t.rev b) = false) : filE t h b s = 0 ∧ filT t h b s = { t with dt := putL t.dt b s } := by
  have e : filE t h b s = 0 := by unfold filE owed; rw [if_neg (by simp [hm]), if_neg (by simp [hs]), if_neg (by rw [hd]; decide)]
  exact ⟨e, by unfold filT; rw [if_pos e]⟩
theorem rvk_may {t : Txn} {h b : Int} (hm : ¬ mayE t h b = 0) : rvkE t h b = mayE t h b ∧ rvkT t h b = t := by
  have e : rvkE t h b = mayE t h b := by unfold rvkE; rw [if_pos hm]
  exact ⟨e, by unfold rvkT; rw [e, if_neg hm]⟩
theorem rvk_twice {t : Txn} {h b : Int} (hm : mayE t h b = 0) (hr : inI t.rev b = true) : rvkE t h b = 5 ∧ rvkT t h b = t := by
  have e : rvkE t h b = 5 := by unfold rvkE; rw [if_neg (by simp [hm]), if_pos hr]
  exact ⟨e, by unfold rvkT; rw [e, if_neg (by decide)]⟩
theorem rvk_pay {t : Txn} {h b : Int} (hm : mayE t h b = 0) (hr : inI t.rev b = false) : rvkE t h b = payE t h b := by
  unfold rvkE; rw [if_neg (by simp [hm]), if_neg (by simp [hr])]
theorem rvk_broke {t : Txn} {h b : Int} (hm : mayE t h b = 0) (hr : inI t.rev b = false) (hp : ¬ payE t h b = 0) : rvkE t h b = payE t h b ∧ rvkT t h b = t :=
  ⟨rvk_pay hm hr, by unfold rvkT; rw [rvk_pay hm hr, if_neg hp]⟩
theorem rvk_ok {t : Txn} {h b : Int} (hm : mayE t h b = 0) (hr : inI t.rev b = false) (hp : payE t h b = 0) : rvkE t h b = 0 ∧ rvkT t h b = { payU t h b with mt := dropC t.mt b, dt := dropC t.dt b, rev := insI t.rev b } := by
  have e : rvkE t h b = 0 := by rw [rvk_pay hm hr, hp]
  exact ⟨e, by unfold rvkT; rw [if_pos e, payU_zero hp]⟩

/-! ### Good -/
theorem apart_iff2 (t : Txn) : apart t = true ↔ (∀ b, inI t.rev b = true → hasB t.mt b = false ∧ hasB t.dt b = false) ∧ (∀ b, hasB t.mt b = true → hasB t.dt b = false) := by
  unfold apart
  rw [Bool.and_eq_true, List.all_eq_true, List.all_eq_true]
  constructor
  · rintro ⟨h1, h2⟩
    refine ⟨fun b hb => ?_, fun b hb => ?_⟩
    · have := h1 b (inI_iff.1 hb)
      simpa using this
    · obtain ⟨c, hc, rfl⟩ := hasB_iff.1 hb
      have := h2 c hc
      simpa using this
  · rintro ⟨h1, h2⟩
    refine ⟨fun b hb => ?_, fun c hc => ?_⟩
    · obtain ⟨a1, a2⟩ := h1 b (inI_iff.2 hb)
      simp [a1, a2]
    · simp [h2 c.block (hasB_iff.2 ⟨c, hc, rfl⟩)]
structure GoodT (t : Txn) : Prop where
  seq : 1 ≤ t.seq ∧ t.seq ≤ 2147483647
  mt : copiesB t.mt = true
  dt : copiesB t.dt = true
  rev : rise t.rev = true
  ap : (∀ b, inI t.rev b = true → hasB t.mt b = false ∧ hasB t.dt b = false) ∧ (∀ b, hasB t.mt b = true → hasB t.dt b = false)
  h0 : hOk t.h0 = true
  h1 : hOk t.h1 = true
  h2 : hOk t.h2 = true
theorem goodT_of {t : Txn} : goodT t = true ↔ GoodT t := by
  rw [goodT_iff]
  constructor
  · rintro ⟨a, b, c, d, e, f, g, h⟩
    exact ⟨of_decide_eq_true a, b, c, d, (apart_iff2 t).1 e, f, g, h⟩
  · rintro ⟨a, b, c, d, e, f, g, h⟩
    exact ⟨decide_eq_true a, b, c, d, (apart_iff2 t).2 e, f, g, h⟩
theorem may_zero {t : Txn} {h b : Int} (e : mayE t h b = 0) : goodT t = true ∧ (0 ≤ h ∧ h ≤ 2) ∧ (getH t h).on = true ∧ isBlk b = true := by
  unfold mayE at e
  split at e
  · cases e
  · rename_i hg
    split at e
    · cases e
    · rename_i hn
      refine ⟨by simpa using hg, ?_, ?_, ?_⟩
      · exact Decidable.byContradiction fun hh => hn (.inl hh)
      · cases ho : (getH t h).on with
        | true => rfl
        | false => exact absurd (.inr (.inl ho)) hn
      · cases hb : isBlk b with
        | true => rfl
        | false => exact absurd (.inr (.inr hb)) hn
theorem getH_ok {t : Txn} (g : GoodT t) (h : Int) : hOk (getH t h) = true := by
  unfold getH; split
  · exact g.h0
  · split
    · exact g.h1
    · exact g.h2
theorem setH_good {t : Txn} (g : GoodT t) (h : Int) {x : Hnd} (hx : hOk x = true) : GoodT (setH t h x) := by
  obtain ⟨e1, e2, e3, e4⟩ := setH_same t h x
  refine ⟨by rw [e1]; exact g.seq, by rw [e2]; exact g.mt, by rw [e3]; exact g.dt, by rw [e4]; exact g.rev, by rw [e2, e3, e4]; exact g.ap, ?_, ?_, ?_⟩
  · unfold setH; split
    · exact hx
    · split <;> exact g.h0
  · unfold setH; split
    · exact g.h1
    · split
      · exact hx
      · exact g.h1
  · unfold setH; split
    · exact g.h2
    · split
      · exact g.h2
      · exact hx
theorem payE_zero {t : Txn} {h b : Int} (e : payE t h b = 0) : owed t b = true → (getH t h).left ≠ 0 := fun ho hl => by
  unfold payE at e; rw [if_pos ⟨ho, hl⟩] at e; cases e
theorem payE_cases (t : Txn) (h b : Int) : payE t h b = 0 ∨ payE t h b = 7 := by
  unfold payE; split
  · exact .inr rfl
  · exact .inl rfl
theorem pay_good {t : Txn} (g : GoodT t) {h b : Int} (ho : (getH t h).on = true) (e : payE t h b = 0) : GoodT (payT t h b) := by
  unfold payT
  split
  · rename_i hw
    have hl := payE_zero e hw
    have hk := (hOk_iff' _).1 (getH_ok g h)
    refine setH_good g h ((hOk_iff' _).2 ⟨?_, ?_, .inl ho⟩)
    · show 0 ≤ (getH t h).left - 1; omega
    · show (getH t h).left - 1 ≤ 24; omega
  · exact g
theorem chgE_zero {t : Txn} {h b : Int} {s : ByteArray} (e : chgE t h b s = 0) : mayE t h b = 0 ∧ s.size = 32 ∧ hasB t.dt b = false ∧ payE t h b = 0 := by
  unfold chgE at e
  split at e
  · rename_i h1; exact absurd e h1
  · rename_i h1
    split at e
    · cases e
    · rename_i h2
      split at e
      · cases e
      · rename_i h3
        exact ⟨Decidable.not_not.1 h1, Decidable.not_not.1 h2, by simpa using h3, e⟩
theorem filE_zero {t : Txn} {h b : Int} {s : ByteArray} (e : filE t h b s = 0) : mayE t h b = 0 ∧ s.size = 32 ∧ hasB t.mt b = false ∧ inI t.rev b = false := by
  unfold filE at e
  split at e
  · rename_i h1; exact absurd e h1
  · rename_i h1
    split at e
    · cases e
    · rename_i h2
      split at e
      · cases e
      · rename_i h3
        have : owed t b = true := by simpa using h3
        unfold owed at this
        rw [Bool.not_eq_true', Bool.or_eq_false_iff] at this
        exact ⟨Decidable.not_not.1 h1, Decidable.not_not.1 h2, this.1, this.2⟩
theorem rvkE_zero {t : Txn} {h b : Int} (e : rvkE t h b = 0) : mayE t h b = 0 ∧ inI t.rev b = false ∧ payE t h b = 0 := by
  unfold rvkE at e
  split at e
  · rename_i h1; exact absurd e h1
  · rename_i h1
    split at e
    · cases e
    · rename_i h3
      exact ⟨Decidable.not_not.1 h1, by simpa using h3, e⟩
theorem chg_good {t : Txn} {h b : Int} {s : ByteArray} (hg : goodT t = true) : goodT (chgT t h b s) = true := by
  unfold chgT
  split
  · rename_i e
    obtain ⟨hm, hs, hd, hp⟩ := chgE_zero e
    obtain ⟨_, hh, ho, hb⟩ := may_zero hm
    have g := goodT_of.1 hg
    have gp := pay_good g ho hp
    obtain ⟨e1, e2, e3, e4⟩ := payT_same t h b
    refine goodT_of.2 ⟨gp.seq, put_copies g.mt hb hs, gp.dt, off_rise b g.rev, ?_, gp.h0, gp.h1, gp.h2⟩
    dsimp only
    rw [e3]
    refine ⟨fun x hx => ?_, fun x hx => ?_⟩
    · rw [off_in, Bool.and_eq_true, decide_eq_true_eq] at hx
      rw [put_has b s g.mt]
      have := g.ap.1 x hx.1
      simp [this.1, this.2, hx.2]
    · rw [put_has b s g.mt, Bool.or_eq_true, decide_eq_true_eq] at hx
      rcases hx with rfl | hx
      · exact hd
      · exact g.ap.2 x hx
  · exact hg
theorem fil_good {t : Txn} {h b : Int} {s : ByteArray} (hg : goodT t = true) : goodT (filT t h b s) = true := by
  unfold filT
  split
  · rename_i e
    obtain ⟨hm, hs, hn, hr⟩ := filE_zero e
    obtain ⟨_, hh, ho, hb⟩ := may_zero hm
    have g := goodT_of.1 hg
    refine goodT_of.2 ⟨g.seq, g.mt, put_copies g.dt hb hs, g.rev, ?_, g.h0, g.h1, g.h2⟩
    dsimp only
    refine ⟨fun x hx => ?_, fun x hx => ?_⟩
    · rw [put_has b s g.dt]
      have := g.ap.1 x hx
      have hne : x ≠ b := fun hxb => by rw [hxb, hr] at hx; cases hx
      simp [this.1, this.2, hne]
    · rw [put_has b s g.dt]
      have hne : x ≠ b := fun hxb => by rw [hxb, hn] at hx; cases hx
      simp [g.ap.2 x hx, hne]
  · exact hg
theorem rvk_good {t : Txn} {h b : Int} (hg : goodT t = true) : goodT (rvkT t h b) = true := by
  unfold rvkT
  split
  · rename_i e
    obtain ⟨hm, hr, hp⟩ := rvkE_zero e
    obtain ⟨_, hh, ho, hb⟩ := may_zero hm
    have g := goodT_of.1 hg
    have gp := pay_good g ho hp
    refine goodT_of.2 ⟨gp.seq, drop_copies b g.mt, drop_copies b g.dt, ins_rise g.rev hb hr, ?_, gp.h0, gp.h1, gp.h2⟩
    dsimp only
    refine ⟨fun x hx => ?_, fun x hx => ?_⟩
    · rw [ins_in, Bool.or_eq_true, decide_eq_true_eq] at hx
      rw [drop_has, drop_has]
      rcases hx with rfl | hx
      · simp
      · have := g.ap.1 x hx
        simp [this.1, this.2]
    · rw [drop_has, Bool.and_eq_true] at hx
      rw [drop_has]
      simp [g.ap.2 x hx.1]
  · exact hg
theorem beg_good {t : Txn} {h n free : Int} (hg : goodT t = true) : goodT (begT t h n free) = true := by
  unfold begT
  split
  · rename_i e
    unfold begE at e
    have g := goodT_of.1 hg
    have hn : 0 ≤ n ∧ n ≤ 12 := by
      repeat (first | (split at e <;> first | (cases e; done) | skip) | omega)
    exact goodT_of.2 (setH_good g h ((hOk_iff' _).2 ⟨hn.1, by show n ≤ 24; omega, .inl rfl⟩))
  · exact hg
theorem stop_good {t : Txn} {h : Int} (hg : goodT t = true) : goodT (stopT t h) = true := by
  unfold stopT
  split
  · exact goodT_of.2 (setH_good (goodT_of.1 hg) h (by decide))
  · exact hg
end Wb

namespace Wb
open Go Go.RowKit
def askN (t : Txn) : Int := (t.mt.length : Int) + t.rev.length + t.h0.left + t.h1.left + t.h2.left
theorem lens {t : Txn} (g : GoodT t) : t.mt.length ≤ 12 ∧ t.dt.length ≤ 12 ∧ t.rev.length ≤ 12 := ⟨copies_len g.mt, copies_len g.dt, rise_len g.rev⟩
theorem asked_ask {t : Txn} (hg : goodT t = true) : askedI t = askN t := by
  obtain ⟨a, _, b⟩ := lens (goodT_of.1 hg)
  exact asked_sum hg (by omega) (by omega)
theorem hnds_bd {t : Txn} (g : GoodT t) : (0 ≤ t.h0.left ∧ t.h0.left ≤ 24) ∧ (0 ≤ t.h1.left ∧ t.h1.left ≤ 24) ∧ (0 ≤ t.h2.left ∧ t.h2.left ≤ 24) := hnd_of_good (goodT_of.2 g)
theorem ask_bd {t : Txn} (g : GoodT t) : 0 ≤ askN t ∧ askN t ≤ 96 := by
  obtain ⟨a, _, b⟩ := lens g
  have := hnds_bd g
  unfold askN; omega
theorem ask_set (t : Txn) {h : Int} (hh : 0 ≤ h ∧ h ≤ 2) (x : Hnd) : askN (setH t h x) = askN t - (getH t h).left + x.left := by
  obtain (rfl | rfl | rfl) : h = 0 ∨ h = 1 ∨ h = 2 := by omega
  · have e1 : setH t 0 x = { t with h0 := x } := rfl
    have e2 : getH t 0 = t.h0 := rfl
    rw [e1, e2]; simp only [askN]; omega
  · have e1 : setH t 1 x = { t with h1 := x } := rfl
    have e2 : getH t 1 = t.h1 := rfl
    rw [e1, e2]; simp only [askN]; omega
  · have e1 : setH t 2 x = { t with h2 := x } := rfl
    have e2 : getH t 2 = t.h2 := rfl
    rw [e1, e2]; simp only [askN]; omega
theorem drop_len {l : List Cpy} (b : Int) (h : copiesB l = true) : (dropC l b).length + (if hasB l b then 1 else 0) = l.length := by
  have h1 := ((copies_pw l).1 h).1
  clear h
  induction l with
  | nil => rfl
  | cons x l ih =>
    rw [blks, List.map_cons, List.pairwise_cons] at h1
    have := ih h1.2
    by_cases e : x.block = b
    · have hn : hasB l b = false := by
        cases hb : hasB l b with
        | false => rfl
        | true =>
          obtain ⟨c, hc, hcb⟩ := hasB_iff.1 hb
          have := h1.1 c.block (List.mem_map_of_mem hc); omega
      rw [hn] at this
      have hi : hasB (x :: l) b = true := hasB_iff.2 ⟨x, by simp, e⟩
      rw [hi]
      simp [dropC, e] at this ⊢
      exact this
    · have hi : hasB (x :: l) b = hasB l b := by
        unfold hasB; rw [List.any_cons]; simp [e]
      rw [hi]
      simp [dropC, e] at this ⊢
      omega
theorem ask_pay (t : Txn) {h b : Int} (hh : 0 ≤ h ∧ h ≤ 2) : askN (payT t h b) = askN t - (if owed t b then 1 else 0) := by
  unfold payT
  split
  · rename_i e
    rw [ask_set t hh]; simp only; omega
  · omega
theorem ask_swap (t : Txn) (m d : List Cpy) (r : List Int) : askN { t with mt := m, dt := d, rev := r } = askN t - t.mt.length - t.rev.length + m.length + r.length := by
  simp only [askN]; omega
theorem chg_ask {t : Txn} {h b : Int} {s : ByteArray} (hg : goodT t = true) : askN (chgT t h b s) = askN t := by
  unfold chgT
  split
  · rename_i e
    obtain ⟨hm, hs, hd, hp⟩ := chgE_zero e
    obtain ⟨_, hh, ho, hb⟩ := may_zero hm
    have g := goodT_of.1 hg
    obtain ⟨e1, e2, e3, e4⟩ := payT_same t h b
    have h1 := ask_swap (payT t h b) (putL t.mt b s) (payT t h b).dt (offI t.rev b)
    have h2 := put_len b s g.mt
    have h3 := off_len b g.rev
    have h4 := ask_pay t (b := b) hh
    have h5 := g.ap.1 b
    rw [h1, h4, e2, e4]
    unfold owed
    cases hq : hasB t.mt b <;> cases hr : inI t.rev b <;> rw [hq] at h2 <;> rw [hr] at h3
    · simp at h2 h3 ⊢; omega
    · simp at h2 h3 ⊢; omega
    · simp at h2 h3 ⊢; omega
    · have := (h5 hr).1; rw [hq] at this; cases this
  · rfl
theorem fil_ask {t : Txn} {h b : Int} {s : ByteArray} : askN (filT t h b s) = askN t := by
  unfold filT
  split <;> rfl
theorem rvk_ask {t : Txn} {h b : Int} (hg : goodT t = true) : askN (rvkT t h b) = askN t := by
  unfold rvkT
  split
  · rename_i e
    obtain ⟨hm, hr, hp⟩ := rvkE_zero e
    obtain ⟨_, hh, ho, hb⟩ := may_zero hm
    have g := goodT_of.1 hg
    obtain ⟨e1, e2, e3, e4⟩ := payT_same t h b
    have h1 := ask_swap (payT t h b) (dropC t.mt b) (dropC t.dt b) (insI t.rev b)
    have h2 := drop_len b g.mt
    have h3 := ins_len t.rev b
    have h4 := ask_pay t (b := b) hh
    rw [h1, h4, e2, e4]
    unfold owed
    rw [hr]
    cases hq : hasB t.mt b <;> rw [hq] at h2
    · simp at h2 ⊢; omega
    · simp at h2 ⊢; omega
  · rfl
theorem stop_ask {t : Txn} {h : Int} (hg : goodT t = true) : askN (stopT t h) ≤ askN t := by
  unfold stopT
  split
  · rename_i e
    have hh : 0 ≤ h ∧ h ≤ 2 := by
      unfold stopE at e
      rw [if_neg (by rw [hg]; decide)] at e
      split at e
      · cases e
      · rename_i hn
        exact Decidable.byContradiction fun hh => hn (.inl hh)
    rw [ask_set t hh]
    have := (hOk_iff' _).1 (getH_ok (goodT_of.1 hg) h)
    simp only [hnd0]; omega
  · omega
theorem begE_zero {t : Txn} {h n free : Int} (e : begE t h n free = 0) : goodT t = true ∧ (0 ≤ h ∧ h ≤ 2) ∧ (getH t h).on = false ∧ (0 ≤ n ∧ n ≤ 12) ∧ askedI t + n ≤ 24 ∧ mostN (askedI t + n) ≤ free := by
  unfold begE at e
  split at e
  · cases e
  · rename_i h1
    split at e
    · cases e
    · rename_i h2
      split at e
      · cases e
      · rename_i h3
        split at e
        · cases e
        · rename_i h4
          split at e
          · cases e
          · rename_i h5
            exact ⟨by simpa using h1, Decidable.not_not.1 h2, by simpa using h3, by omega, by omega, by omega⟩
theorem beg_ask {t : Txn} {h n free : Int} (e : begE t h n free = 0) : askN (begT t h n free) = askN t + n ∧ askN t + n ≤ 24 ∧ mostN (askN t + n) ≤ free := by
  obtain ⟨hg, hh, ho, hn, h1, h2⟩ := begE_zero e
  rw [asked_ask hg] at h1 h2
  refine ⟨?_, h1, h2⟩
  unfold begT
  rw [if_pos e, ask_set t hh]
  have hk := (hOk_iff' _).1 (getH_ok (goodT_of.1 hg) h)
  have : (getH t h).left = 0 := by
    rcases hk.2.2 with h | h
    · rw [ho] at h; cases h
    · exact h
  rw [this]; simp only; omega
theorem most_mono {a b : Int} (h : a ≤ b) : mostN a ≤ mostN b := by unfold mostN clamp24 partsOf; omega
theorem need_most {t : Txn} (g : GoodT t) : needN t.mt.length t.rev.length ≤ mostN (askN t) ∧ needE t.mt.length t.rev.length = 0 := by
  obtain ⟨a, _, b⟩ := lens g
  obtain ⟨h0, h1, h2⟩ := hnds_bd g
  have e : needE t.mt.length t.rev.length = 0 := by unfold needE; rw [if_neg (by omega)]
  refine ⟨?_, e⟩
  unfold needN
  rw [if_pos e]
  unfold mostN clamp24 partsOf askN
  omega
end Wb

namespace Wb
open Go Go.RowKit
set_option linter.unusedVariables false
set_option linter.unusedSimpArgs false

/-- w' is w with new blocks; of the elder ones only those of S are written. -/
structure Mv (S : List Nat) (w w' : World) : Prop where
  os : w'.os = w.os
  tape : w'.tape = w.tape
  output : w'.output = w.output
  size : w.heap.size ≤ w'.heap.size
  block : ∀ k, k < w.heap.size → k ∉ S → w'.heap[k]? = w.heap[k]?
theorem Mv.refl (S : List Nat) (w : World) : Mv S w w := ⟨rfl, rfl, rfl, Nat.le_refl _, fun _ _ _ => rfl⟩
theorem Mv.below {w w' : World} (h : Mv [] w w') : Below w.heap.size w w' := ⟨h.os, h.tape, h.output, h.size, fun k hk => h.block k hk (by simp)⟩
theorem Mv.ofBelow {S : List Nat} {w w' : World} (h : Below w.heap.size w w') : Mv S w w' := ⟨h.os, h.tape, h.output, h.size, fun k hk _ => h.block k hk⟩
theorem Mv.ofGrown {g : Nat} {w w' : World} (h : w.grownBy w' (some g)) : Mv [g] w w' := ⟨h.os, h.tape, h.output, h.size, fun k hk hn => h.block k hk (by simpa using hn)⟩
theorem Mv.mono {S S' : List Nat} {w w' : World} (h : Mv S w w') (hs : ∀ k, k ∈ S → k ∈ S') : Mv S' w w' := ⟨h.os, h.tape, h.output, h.size, fun k hk hn => h.block k hk fun hh => hn (hs k hh)⟩
/-- One move behind another: what the second writes is of S or new to the first. -/
theorem Mv.then {S S' : List Nat} {a b c : World} (h : Mv S a b) (h2 : Mv S' b c) (hs : ∀ k, k ∈ S' → k ∈ S ∨ a.heap.size ≤ k) : Mv S a c :=
  ⟨h2.os.trans h.os, h2.tape.trans h.tape, h2.output.trans h.output, Nat.le_trans h.size h2.size, fun k hk hn =>
    (h2.block k (Nat.lt_of_lt_of_le hk h.size) fun hh => (hs k hh).elim hn (fun hh => by omega)).trans (h.block k hk hn)⟩
theorem Mv.trans {S : List Nat} {a b c : World} (h : Mv S a b) (h2 : Mv S b c) : Mv S a c := h.then h2 fun _ h => .inl h
theorem Mv.drew {S : List Nat} {a b : World} (h : Mv S a b) : Mv S a b.drew := ⟨h.os, h.tape, h.output, h.size, h.block⟩
theorem Mv.drewN {S : List Nat} {a b : World} (h : Mv S a b) (n : Nat) : Mv S a (b.drewN n) := ⟨h.os, h.tape, h.output, h.size, h.block⟩
theorem Mv.alloc (S : List Nat) (w : World) (o : Obj) : Mv S w (w.alloc o) := Mv.ofBelow (bal (b0 w) o)
theorem Mv.set (w : World) (p : Addr) (v : Value) : Mv [p.block] w (w.setCell p v) :=
  ⟨rfl, rfl, rfl, by simp, fun k _ hn => Below.heap_setCell w p v k (by simpa using hn)⟩
theorem Mv.sets (g : Nat) : ∀ (vs : List Value) (o : Nat) (w : World), Mv [g] w (w.setCells g o vs)
  | [], _, w => Mv.refl _ w
  | v :: r, o, w => (Mv.set w ⟨g, o, none⟩ v).trans (Mv.sets g r (o + 1) _)

/-- The block in which a slice lies. -/
def vblk : Value → Option Nat
  | .slice (some a) _ _ => some a.block
  | _ => none

theorem Sl.mv {S : List Nat} {w w' : World} {v : Value} {n : Nat} {cs : List Value} (h : Sl w v n cs) (hm : Mv S w w') (hn : cs = [] ∨ ∀ b, vblk v = some b → b ∉ S) : Sl w' v n cs := by
  obtain ⟨a, cap, hv, h1, h2, h3⟩ := h
  refine ⟨a, cap, hv, h1, h2, ?_⟩
  rcases hn with hn | hn
  · exact .inl hn
  rcases h3 with h3 | ⟨b, off, ha, hc⟩
  · exact .inl h3
  · refine .inr ⟨b, off, ha, fun j u hj => ?_⟩
    have h4 := hc j u hj
    have h5 := World.block_lt_of_cell? w _ h4
    rw [← h4]
    refine World.cell?_of_block (hm.block b h5 (hn b ?_))
    rw [hv, ha]; rfl
theorem Sl.lt {w : World} {v : Value} {n : Nat} {cs : List Value} (h : Sl w v n cs) : cs = [] ∨ ∀ b, vblk v = some b → b < w.heap.size := by
  obtain ⟨a, cap, hv, h1, h2, h3⟩ := h
  rcases h3 with h3 | ⟨b, off, ha, hc⟩
  · exact .inl h3
  · cases cs with
    | nil => exact .inl rfl
    | cons u r =>
      refine .inr fun b' hb => ?_
      rw [hv, ha] at hb
      cases hb
      exact World.block_lt_of_cell? w _ (hc 0 u rfl)

/-- A block that is known whole. -/
structure Ent where
  g : Nat
  cs : List Value
  t : TypeId
/-- A slice that is read. -/
structure Rd where
  v : Value
  n : Nat
  cs : List Value
def Rd.of {α : Type} (f : α → List Value) (v : Value) (l : List α) : Rd := ⟨v, l.length, l.flatMap f⟩
structure St (S : List Nat) (w0 w : World) (L : List Ent) (R : List Rd) : Prop where
  mv : Mv S w0 w
  nd : (L.map Ent.g).Nodup
  blk : ∀ e ∈ L, Blk w e.g e.cs.toArray e.t
  own : ∀ e ∈ L, e.g ∈ S ∨ w0.heap.size ≤ e.g
  rd : ∀ r ∈ R, Sl w r.v r.n r.cs ∧ (r.cs = [] ∨ ∀ b, vblk r.v = some b → ∀ e ∈ L, e.g ≠ b)

section
variable {S : List Nat} {w0 w w' : World} {L : List Ent} {R : List Rd}
theorem St.start (S : List Nat) (w0 : World) : St S w0 w0 [] [] := ⟨Mv.refl _ _, List.nodup_nil, (fun _ h => absurd h List.not_mem_nil), (fun _ h => absurd h List.not_mem_nil), (fun _ h => absurd h List.not_mem_nil)⟩
theorem St.drew (h : St S w0 w L R) : St S w0 w.drew L R := ⟨h.mv.drew, h.nd, h.blk, h.own, h.rd⟩
theorem St.drewN (h : St S w0 w L R) (n : Nat) : St S w0 (w.drewN n) L R := ⟨h.mv.drewN n, h.nd, h.blk, h.own, h.rd⟩
theorem St.below (h : St [] w0 w L R) : Below w0.heap.size w0 w := h.mv.below
theorem Blk.mv {b : Nat} {cs : Array Value} {t : TypeId} (h : Blk w b cs t) (hm : Mv S w w') (hn : b ∉ S) : Blk w' b cs t := (hm.block b h.lt hn).trans h
/-- A move that leaves the known blocks alone: a call that writes none of them. -/
theorem St.moved {S' : List Nat} (h : St S w0 w L R) (hm : Mv S' w w') (hs : ∀ k, k ∈ S' → k ∈ S ∨ w0.heap.size ≤ k) (hL : ∀ e ∈ L, e.g ∉ S') (hR : ∀ r ∈ R, r.cs = [] ∨ ∀ b, vblk r.v = some b → b ∉ S') : St S w0 w' L R :=
  ⟨h.mv.then hm hs, h.nd, fun e he => (h.blk e he).mv hm (hL e he), h.own, fun r hr => ⟨(h.rd r hr).1.mv hm (hR r hr), (h.rd r hr).2⟩⟩
/-- A call that only lays new blocks. -/
theorem St.call (h : St S w0 w L R) (hb : Below w.heap.size w w') : St S w0 w' L R :=
  h.moved (S' := []) (Mv.ofBelow hb) (fun _ h => absurd h List.not_mem_nil) (fun _ _ => List.not_mem_nil) (fun _ _ => .inr fun _ _ => List.not_mem_nil)
/-- A reading more: it lies in no known block. -/
theorem St.addR (h : St S w0 w L R) {v : Value} {n : Nat} {cs : List Value} (hv : Sl w v n cs) (hn : cs = [] ∨ ∀ b, vblk v = some b → ∀ e ∈ L, e.g ≠ b) : St S w0 w L (⟨v, n, cs⟩ :: R) :=
  ⟨h.mv, h.nd, h.blk, h.own, fun r hr => by
    rcases List.mem_cons.1 hr with rfl | hr
    · exact ⟨hv, hn⟩
    · exact h.rd r hr⟩
/-- A reading of the start. -/
theorem St.addR0 (h : St [] w0 w L R) {v : Value} {n : Nat} {cs : List Value} (hv : Sl w0 v n cs) : St [] w0 w L (⟨v, n, cs⟩ :: R) := by
  refine h.addR (hv.below h.below) ?_
  rcases hv.lt with hl | hl
  · exact .inl hl
  · refine .inr fun b hb e he heq => ?_
    have := hl b hb
    rcases h.own e he with ho | ho
    · cases ho
    · omega
/-- What a call hands back in a row of its own is read. -/
theorem St.addOwn (h : St S w0 w L R) (hb : Below w.heap.size w w') {α : Type} {f : α → List Value} {e : TypeId} {c : Nat} {v : Value} {l : List α} (ho : Own f w.heap.size e c w' v l) : St S w0 w' L (Rd.of f v l :: R) := by
  refine (h.call hb).addR ho.reads (.inr fun b hbv x hx heq => ?_)
  have hlt := (h.blk x hx).lt
  obtain ⟨_, h2⟩ := ho
  rcases h2 with ⟨rfl, _⟩ | ⟨g, cap, cur, rfl, hbg, _⟩
  · cases hbv
  · cases hbv
    have h3 : x.g = g := heq
    omega
theorem St.read (h : St S w0 w L R) {α : Type} {f : α → List Value} {v : Value} {l : List α} (hr : Rd.of f v l ∈ R) : RL f w v l := (h.rd _ hr).1
theorem St.at_ (h : St S w0 w L R) {g : Nat} {cs : List Value} {t : TypeId} (he : ⟨g, cs, t⟩ ∈ L) : Blk w g cs.toArray t := h.blk _ he
theorem St.cell (h : St S w0 w L R) {g : Nat} {cs : List Value} {t : TypeId} (he : ⟨g, cs, t⟩ ∈ L) (i : Nat) : w.cell? ⟨g, i, none⟩ = cs[i]? := by
  rw [(h.blk _ he).cell i]; simp
theorem St.free (h : St S w0 w L R) {g : Nat} {cs : List Value} {t : TypeId} (he : ⟨g, cs, t⟩ ∈ L) (i : Nat) : w.frozen? ⟨g, i, none⟩ = false := (h.blk _ he).free i
theorem St.k0 {g : Nat} {cs : List Value} {t : TypeId} (h : St S w0 w (⟨g, cs, t⟩ :: L) R) : Blk w g cs.toArray t := h.blk ⟨g, cs, t⟩ (by simp)
theorem St.k1 {e0 : Ent} {g : Nat} {cs : List Value} {t : TypeId} (h : St S w0 w (e0 :: ⟨g, cs, t⟩ :: L) R) : Blk w g cs.toArray t := h.blk ⟨g, cs, t⟩ (by simp)
theorem St.k2 {e0 e1 : Ent} {g : Nat} {cs : List Value} {t : TypeId} (h : St S w0 w (e0 :: e1 :: ⟨g, cs, t⟩ :: L) R) : Blk w g cs.toArray t := h.blk ⟨g, cs, t⟩ (by simp)
theorem St.k3 {e0 e1 e2 : Ent} {g : Nat} {cs : List Value} {t : TypeId} (h : St S w0 w (e0 :: e1 :: e2 :: ⟨g, cs, t⟩ :: L) R) : Blk w g cs.toArray t := h.blk ⟨g, cs, t⟩ (by simp)
theorem St.k4 {e0 e1 e2 e3 : Ent} {g : Nat} {cs : List Value} {t : TypeId} (h : St S w0 w (e0 :: e1 :: e2 :: e3 :: ⟨g, cs, t⟩ :: L) R) : Blk w g cs.toArray t := h.blk ⟨g, cs, t⟩ (by simp)
theorem St.r0 {α : Type} {f : α → List Value} {v : Value} {l : List α} (h : St S w0 w L (Rd.of f v l :: R)) : RL f w v l := h.read (v := v) (l := l) (f := f) (by simp)
theorem St.r1 {r0 : Rd} {α : Type} {f : α → List Value} {v : Value} {l : List α} (h : St S w0 w L (r0 :: Rd.of f v l :: R)) : RL f w v l := h.read (v := v) (l := l) (f := f) (by simp)
theorem St.r2 {r0 r1 : Rd} {α : Type} {f : α → List Value} {v : Value} {l : List α} (h : St S w0 w L (r0 :: r1 :: Rd.of f v l :: R)) : RL f w v l := h.read (v := v) (l := l) (f := f) (by simp)
/-- A new block. -/
theorem St.alloc (h : St S w0 w L R) (cs : List Value) (t : TypeId) : St S w0 (w.alloc (.cells cs.toArray t)) (⟨w.heap.size, cs, t⟩ :: L) R := by
  have h1 := h.call (bal (b0 w) (.cells cs.toArray t))
  refine ⟨h1.mv, ?_, fun e he => ?_, fun e he => ?_, fun r hr => ⟨(h1.rd r hr).1, ?_⟩⟩
  · rw [List.map_cons, List.nodup_cons]
    refine ⟨fun hm => ?_, h.nd⟩
    obtain ⟨e, he, heq⟩ := List.mem_map.1 hm
    have := (h.blk e he).lt
    simp only at heq; omega
  · rcases List.mem_cons.1 he with rfl | he
    · exact Blk.new w _ _
    · exact h1.blk e he
  · rcases List.mem_cons.1 he with rfl | he
    · exact .inr h.mv.size
    · exact h.own e he
  · rcases (h.rd r hr).1.lt with hl | hl
    · exact .inl hl
    · rcases (h.rd r hr).2 with h2 | h2
      · exact .inl h2
      · refine .inr fun b hb e he => ?_
        rcases List.mem_cons.1 he with rfl | he
        · have := hl b hb; show w.heap.size ≠ b; omega
        · exact h2 b hb e he
/-- The cells of a block, with others from a place on. -/
def upd : Nat → List Value → List Value → List Value
  | i + 1, vs, c :: cs => c :: upd i vs cs
  | 0, v :: vs, _ :: cs => v :: upd 0 vs cs
  | _, _, cs => cs
theorem upd_seg : ∀ (i : Nat) (vs cs : List Value), i + vs.length ≤ cs.length → upd i vs cs = cs.take i ++ vs ++ cs.drop (i + vs.length)
  | i + 1, vs, c :: cs, h => by
    have := upd_seg i vs cs (by simp at h; omega)
    simp only [upd, this, List.take_succ_cons, List.cons_append, List.cons.injEq, true_and]
    rw [show i + 1 + vs.length = (i + vs.length) + 1 by omega, List.drop_succ_cons]
  | 0, [], cs, h => by cases cs <;> simp [upd]
  | 0, v :: vs, c :: cs, h => by
    have := upd_seg 0 vs cs (by simp at h; omega)
    simp only [Nat.zero_add, List.take_zero, List.nil_append] at this
    simp [upd, this]
  | i + 1, vs, [], h => by simp at h
  | 0, v :: vs, [], h => by simp at h
theorem upd_len (i : Nat) (vs cs : List Value) (h : i + vs.length ≤ cs.length) : (upd i vs cs).length = cs.length := by
  rw [upd_seg i vs cs h]; simp; omega
/-- Cells of a known block are written. -/
theorem St.wrote (A B : List Ent) {g : Nat} {cs : List Value} {t : TypeId} (h : St S w0 w (A ++ ⟨g, cs, t⟩ :: B) R) (i : Nat) (vs : List Value) (hi : i + vs.length ≤ cs.length) : St S w0 (w.setCells g i vs) (A ++ ⟨g, upd i vs cs, t⟩ :: B) R := by
  have hm := Mv.sets g vs i w
  have hg : ⟨g, cs, t⟩ ∈ A ++ ⟨g, cs, t⟩ :: B := by simp
  have hnd := h.nd
  rw [List.map_append, List.map_cons, List.nodup_append] at hnd
  obtain ⟨n1, n2, n3⟩ := hnd
  rw [List.nodup_cons] at n2
  have hne : ∀ e, e ∈ A ∨ e ∈ B → e.g ≠ g := fun e he heq => by
    rcases he with he | he
    · exact n3 _ (List.mem_map_of_mem he) g (by simp) heq
    · have h5 := List.mem_map_of_mem (f := Ent.g) he
      rw [heq] at h5
      exact n2.1 h5
  have hsame : (A ++ ⟨g, upd i vs cs, t⟩ :: B).map Ent.g = (A ++ ⟨g, cs, t⟩ :: B).map Ent.g := by simp
  have hmem : ∀ e, e ∈ A ++ (⟨g, upd i vs cs, t⟩ : Ent) :: B → e = ⟨g, upd i vs cs, t⟩ ∨ ((e ∈ A ∨ e ∈ B) ∧ e ∈ A ++ (⟨g, cs, t⟩ : Ent) :: B) := fun e he => by
    simp only [List.mem_append, List.mem_cons] at he ⊢
    rcases he with he | he | he
    · exact .inr ⟨.inl he, .inl he⟩
    · exact .inl he
    · exact .inr ⟨.inr he, .inr (.inr he)⟩
  refine ⟨h.mv.then hm (fun k hk => ?_), by rw [hsame]; exact h.nd, fun e he => ?_, fun e he => ?_, fun r hr => ?_⟩
  · obtain rfl : k = g := by simpa using hk
    exact h.own _ hg
  · rcases hmem e he with rfl | ⟨he, he2⟩
    · have := Blk.sets (t := t) (b := g) vs i w cs.toArray (h.blk _ hg) (by simpa using hi)
      rw [← upd_seg i vs cs hi] at this
      exact this
    · exact Blk.sets_other (hne e he) vs i w (h.blk e he2)
  · rcases hmem e he with rfl | ⟨he, he2⟩
    · exact h.own ⟨g, cs, t⟩ hg
    · exact h.own e he2
  · obtain ⟨h1, h2⟩ := h.rd r hr
    rcases h2 with h2 | h2
    · exact ⟨h1.mv hm (.inl h2), .inl h2⟩
    · refine ⟨h1.mv hm (.inr fun b hb hbg => ?_), .inr fun b hb e he => ?_⟩
      · obtain rfl : b = g := by simpa using hbg
        exact h2 b hb _ hg rfl
      · rcases hmem e he with rfl | ⟨he, he2⟩
        · exact h2 b hb ⟨g, cs, t⟩ hg
        · exact h2 b hb e he2
/-- A call that writes one known block. -/
theorem St.calledOn (A B : List Ent) {g : Nat} {cs cs' : List Value} {t : TypeId} (h : St S w0 w (A ++ ⟨g, cs, t⟩ :: B) R) (hm : Mv [g] w w') (hk : Blk w' g cs'.toArray t) : St S w0 w' (A ++ ⟨g, cs', t⟩ :: B) R := by
  have hg : ⟨g, cs, t⟩ ∈ A ++ ⟨g, cs, t⟩ :: B := by simp
  have hnd := h.nd
  rw [List.map_append, List.map_cons, List.nodup_append] at hnd
  obtain ⟨n1, n2, n3⟩ := hnd
  rw [List.nodup_cons] at n2
  have hne : ∀ e, e ∈ A ∨ e ∈ B → e.g ≠ g := fun e he heq => by
    rcases he with he | he
    · exact n3 _ (List.mem_map_of_mem he) g (by simp) heq
    · have h5 := List.mem_map_of_mem (f := Ent.g) he
      rw [heq] at h5
      exact n2.1 h5
  have hsame : (A ++ ⟨g, cs', t⟩ :: B).map Ent.g = (A ++ ⟨g, cs, t⟩ :: B).map Ent.g := by simp
  have hmem : ∀ e, e ∈ A ++ (⟨g, cs', t⟩ : Ent) :: B → e = ⟨g, cs', t⟩ ∨ ((e ∈ A ∨ e ∈ B) ∧ e ∈ A ++ (⟨g, cs, t⟩ : Ent) :: B) := fun e he => by
    simp only [List.mem_append, List.mem_cons] at he ⊢
    rcases he with he | he | he
    · exact .inr ⟨.inl he, .inl he⟩
    · exact .inl he
    · exact .inr ⟨.inr he, .inr (.inr he)⟩
  refine ⟨h.mv.then hm (fun k hk => ?_), by rw [hsame]; exact h.nd, fun e he => ?_, fun e he => ?_, fun r hr => ?_⟩
  · obtain rfl : k = g := by simpa using hk
    exact h.own _ hg
  · rcases hmem e he with rfl | ⟨he, he2⟩
    · exact hk
    · exact (h.blk e he2).mv hm (by simpa using hne e he)
  · rcases hmem e he with rfl | ⟨he, he2⟩
    · exact h.own ⟨g, cs, t⟩ hg
    · exact h.own e he2
  · obtain ⟨h1, h2⟩ := h.rd r hr
    rcases h2 with h2 | h2
    · exact ⟨h1.mv hm (.inl h2), .inl h2⟩
    · refine ⟨h1.mv hm (.inr fun b hb hbg => ?_), .inr fun b hb e he => ?_⟩
      · obtain rfl : b = g := by simpa using hbg
        exact h2 b hb _ hg rfl
      · rcases hmem e he with rfl | ⟨he, he2⟩
        · exact h2 b hb ⟨g, cs, t⟩ hg
        · exact h2 b hb e he2
end

/-! ### What the table of types says -/
class AggT (P : Program) (T : TypeId) (n : outParam Nat) : Prop where
  row : ∃ d, P.underlying T = some d ∧ d.isRow = true
  size : (P.info? T).map (·.size) = some n
class OneT (P : Program) (T : TypeId) : Prop where
  row : ∃ d, P.underlying T = some d ∧ d.isRow = false
  size : (P.info? T).map (·.size) = some 1
class ZeroT (P : Program) (T : TypeId) (cs : outParam (List Value)) : Prop where
  zero : ((P.info? T).bind (·.zero)).map (·.cells) = some cs.toArray

/-- A cell of a list, to be found by evaluation. -/
def nth : List Value → Nat → Option Value
  | [], _ => none
  | v :: _, 0 => some v
  | _ :: r, n + 1 => nth r n
theorem nth_get : ∀ (l : List Value) (i : Nat), nth l i = l[i]?
  | [], i => by simp [nth]
  | v :: r, 0 => rfl
  | v :: r, i + 1 => by rw [List.getElem?_cons_succ]; exact nth_get r i
/-- What an operand holds, to be found by looking. -/
inductive EvR (a : Act) : Operand → Value → Prop
  | tmp {l : List Value} {d : List Deferred} {n : Nat} {v : Value} : a = ⟨l.toArray, d⟩ → nth l n = some v → EvR a (.tmp n) v
  | const (v : Value) : EvR a (.const v) v
theorem EvR.eval {a : Act} {x : Operand} {v : Value} (h : EvR a x v) : a.eval x = v := by
  cases h with
  | tmp ha hv =>
    subst ha
    rw [nth_get] at hv
    simp [Act.eval, hv]
  | const v => rfl

section
variable {P : Program} {ops : Array Oper} {Q : Exit → Act → World → Prop} {o : Oper} {rest : List Oper} {a : Act} {S : List Nat} {w0 w : World} {L : List Ent} {R : List Rd}
theorem run_loadOne {T : TypeId} [hT : OneT P T] {b i : Nat} {v : Value} (hc : w.cell? ⟨b, i, none⟩ = some v) : (loadVar T ⟨b, i, none⟩).run P w = .ok v w := by
  obtain ⟨⟨d, hu, hd⟩, _⟩ := hT
  have hagg : (isAgg T).run P w = .ok false w := by
    unfold isAgg
    rw [Sem.run_bind, run_underlying hu w]
    cases d <;> simp_all
  have hl : (load ⟨b, i, none⟩).run P w = .ok v w := by
    have := run_loadCells_list (P := P) w ⟨b, i, none⟩ [v] (fun j u hj => by
      cases j with
      | zero => simp at hj; subst hj; rw [Addr.add_mid]; exact hc
      | succ j => simp at hj)
    simp only [loadCells, List.length_cons, List.length_nil, loadCellsFrom, Sem.run_bind, Addr.add_mid, Nat.add_zero] at this
    cases hr : (load ⟨b, i, none⟩).run P w with
    | ok x w' =>
      rw [hr] at this
      simp only [Result.andThen_ok, Sem.run_pure] at this
      simp at this
      obtain ⟨h1, h2⟩ := this
      rw [h1, h2]
    | halt x w' => rw [hr] at this; simp at this
  simp only [loadVar, Sem.run_bind, hagg, Result.andThen_ok]
  exact hl
/-- Which operation stands first: for the walk, that tries the laws below at these alone. -/
def isLoad : Op → Bool
  | .load _ _ => true
  | _ => false
def isStore : Op → Bool
  | .store _ _ _ => true
  | _ => false
def isNew : Op → Bool
  | .alloc _ => true
  | .box _ _ => true
  | _ => false
def isMem : Op → Bool
  | .load _ _ => true
  | .store _ _ _ => true
  | .alloc _ => true
  | .box _ _ => true
  | _ => false
theorem at_mem (_ : isMem o.op = true) (h : wpList P ops Q (o :: rest) a w) : wpList P ops Q (o :: rest) a w := h
theorem at_load (_ : isLoad o.op = true) (h : wpList P ops Q (o :: rest) a w) : wpList P ops Q (o :: rest) a w := h
theorem at_store (_ : isStore o.op = true) (h : wpList P ops Q (o :: rest) a w) : wpList P ops Q (o :: rest) a w := h
theorem at_new (_ : isNew o.op = true) (h : wpList P ops Q (o :: rest) a w) : wpList P ops Q (o :: rest) a w := h
theorem at_load1 (T : TypeId) (x : Operand) (_ : o.op = .load T x) [OneT P T] (h : wpList P ops Q (o :: rest) a w) : wpList P ops Q (o :: rest) a w := h
theorem at_store1 (T : TypeId) (x y : Operand) (_ : o.op = .store T x y) [OneT P T] (h : wpList P ops Q (o :: rest) a w) : wpList P ops Q (o :: rest) a w := h
/-- One cell is read. -/
theorem m_load1 (hw : Region.wanted o (yielded ops a.tmps) = true) (T : TypeId) (x : Operand) (ho : o.op = .load T x) {g i : Nat} (hx : a.eval x = .pointer (some ⟨g, i, none⟩)) [OneT P T] (X : St S w0 w L R)
    {cs : List Value} {t : TypeId} (he : ⟨g, cs, t⟩ ∈ L) {v : Value} (hv : nth cs i = some v) (h : wpList P ops Q rest (a.put o.dst v) w) : wpList P ops Q (o :: rest) a w :=
  BigFrame.wpList_want hw fun K hK => by
    have hc : w.cell? ⟨g, i, none⟩ = some v := by rw [X.cell he, ← nth_get]; exact hv
    unfold Oper.wp execOp
    simp only [ho, hx, Instr.loadAt, Instr.sureAddr, Sem.run_bind, Sem.run_pure, Result.andThen_ok, run_loadOne (T := T) hc]
    exact hK _ _ h
/-- Cells are read, side by side. -/
theorem m_loadN (hw : Region.wanted o (yielded ops a.tmps) = true) (T : TypeId) (x : Operand) (ho : o.op = .load T x) {g i : Nat} (hx : a.eval x = .pointer (some ⟨g, i, none⟩)) {n : Nat} [hT : AggT P T n] (X : St S w0 w L R)
    {cs : List Value} {t : TypeId} (he : ⟨g, cs, t⟩ ∈ L) (hi : i + n ≤ cs.length) (h : wpList P ops Q rest (a.put o.dst (.agg ((cs.drop i).take n).toArray)) w) : wpList P ops Q (o :: rest) a w := by
  obtain ⟨⟨d, hu, hd⟩, hs⟩ := hT
  refine BigFrame.wpList_want hw fun K hK => wp_load_mid T x ho g i hx ((cs.drop i).take n) d (fun j v hj => ?_) hu hd (by rw [hs, List.length_take, List.length_drop]; congr 1; omega) (hK _ _ h)
  rw [X.cell he]
  rw [List.getElem?_take] at hj
  split at hj
  · rw [List.getElem?_drop] at hj; exact hj
  · cases hj
theorem oneAll {vs : List Value} (h : vs.all (·.oneCell') = true) : ∀ v ∈ vs, v.oneCell' = true := List.all_eq_true.1 h
theorem St.there (X : St S w0 w L R) {g : Nat} {cs : List Value} {t : TypeId} (he : ⟨g, cs, t⟩ ∈ L) {i n : Nat} (h : i + n ≤ cs.length) : w.there g i n := fun j hj => by
  refine ⟨?_, X.free he _⟩
  rw [X.cell he, List.getElem?_eq_getElem (by omega)]; rfl
/-- Cells are written, side by side: into the first, second, third, fourth known block. -/
theorem m_storeN (A B : List Ent) {g : Nat} {cs : List Value} {t : TypeId} (hw : Region.wanted o (yielded ops a.tmps) = true) (T : TypeId) (x y : Operand) (ho : o.op = .store T x y) {i : Nat} (hx : a.eval x = .pointer (some ⟨g, i, none⟩)) {n : Nat} [hT : AggT P T n]
    {vs : List Value} (hy : a.eval y = .agg vs.toArray) (X : St S w0 w (A ++ ⟨g, cs, t⟩ :: B) R) (hn : vs.length = n) (hi : i + vs.length ≤ cs.length) (h1 : vs.all (·.oneCell') = true)
    (h : ∀ w', St S w0 w' (A ++ ⟨g, upd i vs cs, t⟩ :: B) R → wpList P ops Q rest (a.put o.dst undef) w') : wpList P ops Q (o :: rest) a w :=
  BigFrame.wpList_want hw fun K hK => wp_store_mid T x y ho g i vs.toArray hx hy (X.there (cs := cs) (t := t) (by simp) (by simpa using hi)) (by rw [hT.size]; simp [hn]) (by simpa using h1) (hK _ _ (h _ (by simpa using X.wrote A B i vs hi)))
theorem run_storeOne {T : TypeId} [hT : OneT P T] {b i : Nat} {v : Value} (ht : w.there b i 1) (h1 : v.oneCell' = true) (hc : v.cells = #[v]) : (storeVar T ⟨b, i, none⟩ v).run P w = .ok () (w.setCells b i [v]) := by
  have := run_storeCells_cells (P := P) b i [v] 0 w (fun j hj => by simpa using (ht j (by simpa using hj)).1) (fun j hj => by simpa using (ht j (by simpa using hj)).2) (fun u hu => by simp at hu; subst hu; exact h1)
  have hi := hT.size
  cases hq : P.info? T with
  | none => simp [hq] at hi
  | some x =>
    have hs : x.size = 1 := by simpa [hq] using hi
    simp only [Nat.add_zero] at this
    simp [storeVar, Go.sizeOf, typeInfo, hq, hc, hs, this]
theorem m_store1 (A B : List Ent) {g : Nat} {cs : List Value} {t : TypeId} (hw : Region.wanted o (yielded ops a.tmps) = true) (T : TypeId) (x y : Operand) (ho : o.op = .store T x y) {i : Nat} (hx : a.eval x = .pointer (some ⟨g, i, none⟩)) [hT : OneT P T]
    {v : Value} (hy0 : EvR a y v) (X : St S w0 w (A ++ ⟨g, cs, t⟩ :: B) R) (hi : i < cs.length) (h1 : v.oneCell' = true) (hc : v.cells = #[v])
    (h : ∀ w', St S w0 w' (A ++ ⟨g, upd i [v] cs, t⟩ :: B) R → wpList P ops Q rest (a.put o.dst undef) w') : wpList P ops Q (o :: rest) a w :=
  BigFrame.wpList_want hw fun K hK => by
    have hy := hy0.eval
    have ht := X.there (g := g) (cs := cs) (t := t) (i := i) (n := 1) (by simp) (by omega)
    unfold Oper.wp execOp
    simp only [ho, hx, hy, Instr.storeAt, Instr.sureAddr, Sem.run_bind, Sem.run_pure, Result.andThen_ok, run_storeOne (T := T) ht h1 hc]
    exact hK _ _ (h _ (by simpa using X.wrote A B i [v] (show i + 1 ≤ cs.length from hi)))
/-- A new block of noughts. -/
theorem m_alloc (hw : Region.wanted o (yielded ops a.tmps) = true) (T : TypeId) (ho : o.op = .alloc T) {cs : List Value} [hT : ZeroT P T cs] (X : St S w0 w L R)
    (h : ∀ g w', St S w0 w' (⟨g, cs, T⟩ :: L) R → wpList P ops Q rest (a.put o.dst (.pointer (some ⟨g, 0, none⟩))) w') : wpList P ops Q (o :: rest) a w :=
  BigFrame.wpList_want hw fun K hK => by
    have hz := hT.zero
    cases hq : P.info? T with
    | none => simp [hq] at hz
    | some x =>
      cases hs : x.zero with
      | none => simp [hq, hs] at hz
      | some z =>
        have hc : z.cells = cs.toArray := by simpa [hq, hs] using hz
        unfold Oper.wp execOp
        simp only [ho, Instr.alloc, zeroValue, typeInfo, newVar, newRow, newObj, Sem.run_bind, Sem.run_pure, Result.andThen_ok]
        simp [hq, hs, hc]
        exact hK _ _ (h _ _ (X.alloc cs T))
/-- A value is laid into a new block. -/
theorem m_box (hw : Region.wanted o (yielded ops a.tmps) = true) (T : TypeId) (x : Operand) (ho : o.op = .box T x) {v : Value} (hx0 : EvR a x v) {cs : List Value} (hc : v.cells = cs.toArray) (X : St S w0 w L R)
    (h : ∀ g w', St S w0 w' (⟨g, cs, T⟩ :: L) R → wpList P ops Q rest (a.put o.dst (.pointer (some ⟨g, 0, none⟩))) w') : wpList P ops Q (o :: rest) a w :=
  BigFrame.wpList_want hw fun K hK => by
    have hx := hx0.eval
    unfold Oper.wp execOp
    simp only [ho, hx, hc, Instr.box, newVar, newRow, newObj, Sem.run_bind, Sem.run_pure, Result.andThen_ok]
    exact hK _ _ (h _ _ (X.alloc cs T))
theorem St.whole (X : St S w0 w L R) {T : TypeId} {n : Nat} [hT : AggT P T n] {g : Nat} {cs : List Value} {t : TypeId} (he : ⟨g, cs, t⟩ ∈ L) (hn : cs.length = n) : (loadVar T ⟨g, 0, none⟩).run P w = .ok (.agg cs.toArray) w := by
  obtain ⟨⟨d, hu, hd⟩, hs⟩ := hT
  exact run_loadVar_mid w g 0 T cs d (fun j v hj => by rw [Nat.zero_add, X.cell he]; exact hj) hu hd (by rw [hs, hn])
/-- A result that lies in a block. -/
theorem m_ret1 {fn : Func} {F : Ending → World → Prop} {p : Tmp} {T : TypeId} (hr : fn.results = #[.cell p T]) {g : Nat} (hp : EvR a (.tmp p) (.pointer (some ⟨g, 0, none⟩))) {n : Nat} [hT : AggT P T n] (X : St S w0 w L R)
    {cs : List Value} {t : TypeId} (he : ⟨g, cs, t⟩ ∈ L) (hn : cs.length = n) (hd : a.defers = []) (h : F (.returned (.agg cs.toArray)) w) : bodyPost P fn F .ret a w := by
  have hp' : a.tmps[p]?.getD undef = .pointer (some ⟨g, 0, none⟩) := by have := hp.eval; simpa [Act.eval] using this
  refine bodyPost_ret (v := .agg cs.toArray) ?_ hd h
  simp [results, hr, hp', asAddr, X.whole (T := T) he hn]
/-- A result that lies in a block, and one in a slot. -/
theorem m_ret2 {fn : Func} {F : Ending → World → Prop} {p q : Tmp} {T : TypeId} (hr : fn.results = #[.cell p T, .tmp q]) {g : Nat} (hp : EvR a (.tmp p) (.pointer (some ⟨g, 0, none⟩))) {v : Value} (hq : EvR a (.tmp q) v) {n : Nat} [hT : AggT P T n] (X : St S w0 w L R)
    {cs : List Value} {t : TypeId} (he : ⟨g, cs, t⟩ ∈ L) (hn : cs.length = n) (hd : a.defers = []) (h : F (.returned (.tuple #[.agg cs.toArray, v])) w) : bodyPost P fn F .ret a w := by
  have hp' : a.tmps[p]?.getD undef = .pointer (some ⟨g, 0, none⟩) := by have := hp.eval; simpa [Act.eval] using this
  have hq' : a.tmps[q]?.getD undef = v := by have := hq.eval; simpa [Act.eval] using this
  refine bodyPost_ret (v := .tuple #[.agg cs.toArray, v]) ?_ hd h
  simp [results, hr, hp', hq', asAddr, X.whole (T := T) he hn]
/-- A result that lies in a block, and two in slots. -/
theorem m_ret3 {fn : Func} {F : Ending → World → Prop} {p q r : Tmp} {T : TypeId} (hr : fn.results = #[.cell p T, .tmp q, .tmp r]) {g : Nat} (hp : EvR a (.tmp p) (.pointer (some ⟨g, 0, none⟩))) {v u : Value} (hq : EvR a (.tmp q) v) (hu : EvR a (.tmp r) u) {n : Nat} [hT : AggT P T n] (X : St S w0 w L R)
    {cs : List Value} {t : TypeId} (he : ⟨g, cs, t⟩ ∈ L) (hn : cs.length = n) (hd : a.defers = []) (h : F (.returned (.tuple #[.agg cs.toArray, v, u])) w) : bodyPost P fn F .ret a w := by
  have hp' : a.tmps[p]?.getD undef = .pointer (some ⟨g, 0, none⟩) := by have := hp.eval; simpa [Act.eval] using this
  have hq' : a.tmps[q]?.getD undef = v := by have := hq.eval; simpa [Act.eval] using this
  have hu' : a.tmps[r]?.getD undef = u := by have := hu.eval; simpa [Act.eval] using this
  refine bodyPost_ret (v := .tuple #[.agg cs.toArray, v, u]) ?_ hd h
  simp [results, hr, hp', hq', hu', asAddr, X.whole (T := T) he hn]
end
end Wb

namespace Go.Proofs.Ytjhmfljlclajnac
open Go.RowKit Wb
instance : AggT Try.prog 28 10 := ⟨⟨_, Try.underlying28, rfl⟩, by kernel_rfl⟩
instance : ZeroT Try.prog 28 [.int .i64 0, .slice none 0 0, .slice none 0 0, .slice none 0 0, .bool false, .int .i64 0, .bool false, .int .i64 0, .bool false, .int .i64 0] := ⟨by kernel_rfl⟩
instance : AggT Try.prog 68 2 := ⟨⟨_, Try.underlying68, rfl⟩, by kernel_rfl⟩
instance : ZeroT Try.prog 68 [.int .i64 0, .string ⟨#[]⟩] := ⟨by kernel_rfl⟩
instance : AggT Try.prog 25 2 := ⟨⟨_, Try.underlying25, rfl⟩, by kernel_rfl⟩
instance : OneT Try.prog 3 := ⟨⟨_, Try.underlying3, rfl⟩, by kernel_rfl⟩
instance : ZeroT Try.prog 3 [.int .i64 0] := ⟨by kernel_rfl⟩
instance : OneT Try.prog 4 := ⟨⟨_, Try.underlying4, rfl⟩, by kernel_rfl⟩
instance : ZeroT Try.prog 4 [.bool false] := ⟨by kernel_rfl⟩
instance : OneT Try.prog 9 := ⟨⟨_, Try.underlying9, rfl⟩, by kernel_rfl⟩
instance : ZeroT Try.prog 9 [.string ⟨#[]⟩] := ⟨by kernel_rfl⟩
instance : OneT Try.prog 30 := ⟨⟨_, Try.underlying30, rfl⟩, by kernel_rfl⟩
instance : OneT Try.prog 22 := ⟨⟨_, Try.underlying22, rfl⟩, by kernel_rfl⟩
instance : ZeroT Try.prog 22 [.slice none 0 0] := ⟨by kernel_rfl⟩
instance : OneT Try.prog 23 := ⟨⟨_, Try.underlying23, rfl⟩, by kernel_rfl⟩
instance : ZeroT Try.prog 23 [.slice none 0 0] := ⟨by kernel_rfl⟩
end Go.Proofs.Ytjhmfljlclajnac

namespace Wb
open Go Go.RowKit
/-- The ten cells of a transaction. -/
def txnL (t : Txn) (vm vd vr : Value) : List Value := [.int .i64 t.seq, vm, vd, vr, .bool t.h0.on, .int .i64 t.h0.left, .bool t.h1.on, .int .i64 t.h1.left, .bool t.h2.on, .int .i64 t.h2.left]
theorem txnV_L (t : Txn) (vm vd vr : Value) : txnV t vm vd vr = .agg (txnL t vm vd vr).toArray := rfl
end Wb
namespace Go.Proofs.Ytjhmfljlclajnac
open Go.RowKit Wb
set_option linter.unusedVariables false
set_option linter.unusedSimpArgs false
set_option maxRecDepth 100000
set_option maxHeartbeats 8000000
theorem txn_pay (t : Txn) (am ad ar : Option Addr) (cm cd cr : Nat) (h b : Int) (g : Nat) (w : World) (k0 : Blk w g (txnL t (.slice am t.mt.length cm) (.slice ad t.dt.length cd) (.slice ar t.rev.length cr)).toArray 28)
    (hg : GoodT t) (hm : RL cpyC w (.slice am t.mt.length cm) t.mt) (hr : RL intC w (.slice ar t.rev.length cr) t.rev) (hh : 0 ≤ h ∧ h ≤ 2) :
    Calls Try.prog 25 #[.pointer (some ⟨g, 0, none⟩), .int .i64 h, .int .i64 b] w fun e w' => e = .returned (.int .i64 (payE t h b)) ∧ Blk w' g (txnL (payU t h b) (.slice am t.mt.length cm) (.slice ad t.dt.length cd) (.slice ar t.rev.length cr)).toArray 28 ∧ Mv [g] w w' := by
  obtain ⟨n1, _, n3⟩ := lens hg
  have hs := copies_rise hg.mt
  obtain ⟨l0, l1, l2⟩ := hnds_bd hg
  have hlt := k0.lt
  obtain ⟨seq, mt, dt, rev, ⟨o0, x0⟩, ⟨o1, x1⟩, ⟨o2, x2⟩⟩ := t
  dsimp only [txnL] at *
  unfold payU payE payT owed
  dsimp only
  cases hf : (hasB mt b || inI rev b) with
  | true =>
    rw [if_neg (by simp), if_pos rfl, if_neg (by simp)]
    obtain (rfl | rfl | rfl) : h = 0 ∨ h = 1 ∨ h = 2 := by omega
    · refine (txn_pay_free0 seq mt dt rev o0 o1 o2 x0 x1 x2 am ad ar cm cd cr b g w k0 hs hm hr (by omega) (by omega) hf).mono ?_
      rintro e w' ⟨rfl, hb⟩
      exact ⟨rfl, k0.step hb, Mv.ofBelow hb⟩
    · refine (txn_pay_free1 seq mt dt rev o0 o1 o2 x0 x1 x2 am ad ar cm cd cr b g w k0 hs hm hr (by omega) (by omega) hf).mono ?_
      rintro e w' ⟨rfl, hb⟩
      exact ⟨rfl, k0.step hb, Mv.ofBelow hb⟩
    · refine (txn_pay_free2 seq mt dt rev o0 o1 o2 x0 x1 x2 am ad ar cm cd cr b g w k0 hs hm hr (by omega) (by omega) hf).mono ?_
      rintro e w' ⟨rfl, hb⟩
      exact ⟨rfl, k0.step hb, Mv.ofBelow hb⟩
  | false =>
    obtain (rfl | rfl | rfl) : h = 0 ∨ h = 1 ∨ h = 2 := by omega
    · by_cases hz : x0 = 0
      · rw [if_pos ⟨rfl, hz⟩, if_neg (by decide)]
        refine (txn_pay_none0 seq mt dt rev o0 o1 o2 x0 x1 x2 am ad ar cm cd cr b g w k0 hs hm hr (by omega) (by omega) hf hz).mono ?_
        rintro e w' ⟨rfl, hb⟩
        exact ⟨rfl, k0.step hb, Mv.ofBelow hb⟩
      · rw [if_neg (fun hh => hz hh.2), if_pos rfl, if_pos (by simp)]
        refine (txn_pay_one0 seq mt dt rev o0 o1 o2 x0 x1 x2 am ad ar cm cd cr b g w k0 hs hm hr (by omega) (by omega) hf (by omega) (by omega)).mono ?_
        rintro e w' ⟨rfl, w1, hb, rfl⟩
        exact ⟨rfl, by simpa [setH, getH] using (k0.step hb).set 5 (.int .i64 (x0 - 1)), (Mv.ofBelow hb).then (Mv.set w1 ⟨g, 5, none⟩ _) (by simp)⟩
    · by_cases hz : x1 = 0
      · rw [if_pos ⟨rfl, hz⟩, if_neg (by decide)]
        refine (txn_pay_none1 seq mt dt rev o0 o1 o2 x0 x1 x2 am ad ar cm cd cr b g w k0 hs hm hr (by omega) (by omega) hf hz).mono ?_
        rintro e w' ⟨rfl, hb⟩
        exact ⟨rfl, k0.step hb, Mv.ofBelow hb⟩
      · rw [if_neg (fun hh => hz hh.2), if_pos rfl, if_pos (by simp)]
        refine (txn_pay_one1 seq mt dt rev o0 o1 o2 x0 x1 x2 am ad ar cm cd cr b g w k0 hs hm hr (by omega) (by omega) hf (by omega) (by omega)).mono ?_
        rintro e w' ⟨rfl, w1, hb, rfl⟩
        exact ⟨rfl, by simpa [setH, getH] using (k0.step hb).set 7 (.int .i64 (x1 - 1)), (Mv.ofBelow hb).then (Mv.set w1 ⟨g, 7, none⟩ _) (by simp)⟩
    · by_cases hz : x2 = 0
      · rw [if_pos ⟨rfl, hz⟩, if_neg (by decide)]
        refine (txn_pay_none2 seq mt dt rev o0 o1 o2 x0 x1 x2 am ad ar cm cd cr b g w k0 hs hm hr (by omega) (by omega) hf hz).mono ?_
        rintro e w' ⟨rfl, hb⟩
        exact ⟨rfl, k0.step hb, Mv.ofBelow hb⟩
      · rw [if_neg (fun hh => hz hh.2), if_pos rfl, if_pos (by simp)]
        refine (txn_pay_one2 seq mt dt rev o0 o1 o2 x0 x1 x2 am ad ar cm cd cr b g w k0 hs hm hr (by omega) (by omega) hf (by omega) (by omega)).mono ?_
        rintro e w' ⟨rfl, w1, hb, rfl⟩
        exact ⟨rfl, by simpa [setH, getH] using (k0.step hb).set 9 (.int .i64 (x2 - 1)), (Mv.ofBelow hb).then (Mv.set w1 ⟨g, 9, none⟩ _) (by simp)⟩
end Go.Proofs.Ytjhmfljlclajnac

namespace Go.Proofs.Ytjhmfljlclajnac
open Go.RowKit Wb
set_option linter.unusedVariables false
set_option linter.unusedSimpArgs false
set_option maxRecDepth 100000
set_option maxHeartbeats 8000000
theorem slices_DeleteFuncI (l : List Int) (b : Int) (v : Value) (gb base : Nat) (w : World) (h : Own intC base 3 1 w v l) (hbase : base ≤ w.heap.size) (hgb : gb < base) (hc : w.cell? ⟨gb, 0, none⟩ = some (.int .i64 b)) (hl : l.length ≤ 17592186044160) :
    Calls Try.prog 26 #[v, .func (.func 28) #[] #[.pointer (some ⟨gb, 0, none⟩)]] w fun e w' => ∃ v', e = .returned v' ∧ Own intC base 3 1 w' v' (l.filter (fun x => !(x == b))) ∧ Below base w w' := by
  have hIF := slices_IndexFuncI l b v gb w h.reads hc hl
  rcases idxK_spec (fun x => x) l b with ⟨e1, hno⟩ | ⟨k, e1, hk, hkb, hno⟩
  · rw [e1] at hIF
    have e2 : l.filter (fun x => !(x == b)) = l := filter_all (fun i hi => by simpa using hno i hi)
    rw [e2]
    obtain ⟨a, cap, rfl⟩ := h.form
    replace hIF := hid hIF; replace h := hid h
    clear e1 e2 hno
    go_enter Try.func26, Try.ntmps26
    go_wp2_with (go_at_call 50; go_loud ((with_reducible refine hIF.out.mono ?_); rintro e w1 ⟨rfl, hb1⟩))
    go_ret
    exact ⟨_, rfl, h.out.below hb1, hb1.mono hbase⟩
  · rw [e1] at hIF
    have hK0 : KeptI (fun x => !(x == b)) l (k + 1) k l := KeptI.start hk (fun i hi h2 => by simpa using hno i h2) (by simpa using hkb)
    obtain ⟨g, cap, cur, rfl, hbg, hkk, hcap, hmax, hsz, htk⟩ := h.row (by omega)
    have hC := hid (fun x w hc => txn_Change1 x b gb w hc)
    have hne1 : ((k : Int) == -1) = false := beq_eq_false_iff_ne.2 (by omega)
    have hKp : Hid (KeptI (fun x => !(x == b)) l (k + 1) k l) := hid hK0
    have hle := hKp.out.le
    replace hIF := hid hIF; replace h := hid h; replace hc := hid hc
    clear e1 hno hkb hK0 hkk hsz htk cur
    go_enter Try.func26, Try.ntmps26
    go_wp2_with (go_at_call 50; go_loud ((with_reducible refine hIF.out.mono ?_); rintro e w1 ⟨rfl, hb1⟩; have h1 := hid (h.out.below hb1); have hc1 := hid (cell_below hb1 hc.out); have nx := hb1.mono hbase; clear h hc hIF))
    go_loopg [5, 6, 7] l.length (fun gg s5 s6 _ wr => ∃ (i j : Nat) (lk : List Int), s5 = .int .i64 i ∧ s6 = .int .i64 j ∧ j ≤ l.length ∧ i < j ∧ l.length - j ≤ gg ∧ Below base w wr ∧ Hid (wr.cell? ⟨gb, 0, none⟩ = some (.int .i64 b)) ∧ Hid (Own intC base 3 1 wr (.slice (some ⟨g, 0, none⟩) l.length cap) lk) ∧ Hid (KeptI (fun x => !(x == b)) l j i lk))
    case atStart => exact ⟨k, k + 1, l, rfl, by go_num, by omega, by omega, by omega, nx, hc1, h1, hKp⟩
    case round =>
      clear nx hc1 h1 hKp hb1
      obtain ⟨i, j, lk, rfl, rfl, hjl, hij, hgg, nx, hcw, ho, hK⟩ := hrel
      by_cases hlt : j < l.length
      · obtain ⟨hjk, hje⟩ := hK.out.get hlt
        obtain ⟨b1, o1, hae, c0⟩ := RL.at1 (fun x => .int .i64 x) (fun _ => rfl) ho.out.reads hjk
        simp only [Option.some.injEq, Addr.mk.injEq, and_true] at hae
        obtain ⟨rfl, rfl⟩ := hae
        rw [hje] at c0
        simp only [Nat.zero_add] at c0
        have hCx := hC.out l[j] wr hcw.out
        by_cases hb : l[j] = b
        · have hK2 := hid (hK.out.skip hlt (by simpa using hb))
          have e1 : (l[j] == b) = true := beq_iff_eq.2 hb
          rw [e1] at hCx
          replace hCx := hid hCx
          clear hb e1 hK hje
          generalize l[j] = x at *
          go_wp2_with (go_at_call 28; go_loud ((with_reducible refine hCx.out.mono ?_); rintro e w1 ⟨rfl, hb1⟩; have ho2 := hid (ho.out.below hb1); have hcw2 := hid (cell_below hb1 hcw.out); have nx2 := nx.trans (hb1.mono (Nat.le_trans hbase nx.size))))
          go_roundg (l.length - (j + 1))
          case measure => omega
          case rel => exact ⟨i, j + 1, lk, rfl, by go_num, by omega, by omega, Nat.le_refl _, nx2, hcw2, ho2, hK2⟩
        · have hK2 := hid (hK.out.keep hlt (by simpa using hb))
          have hil : i < lk.length := by omega
          have e1 : (l[j] == b) = false := beq_eq_false_iff_ne.2 hb
          rw [e1] at hCx
          replace hCx := hid hCx
          clear hb e1 hK hje
          have hin : i < l.length := by omega
          generalize l[j] = x at *
          go_wp2_with (go_at_call 28; go_loud ((with_reducible refine hCx.out.mono ?_); rintro e w1 ⟨rfl, hb1⟩; have ho2 := ho.out.below hb1; have hcw2 := hid (cell_below hb1 hcw.out); have nx2 := nx.trans (hb1.mono (Nat.le_trans hbase nx.size)); obtain ⟨g2, cap2, hv2, hb2, hg2, hq, hnew⟩ := Own.poke intC_flat ho2 hil; simp only [Value.slice.injEq, Option.some.injEq, Addr.mk.injEq, and_true, true_and] at hv2; obtain ⟨rfl, -, rfl⟩ := hv2; have q0 := (hq 0 (by decide)).1; have q1 := (hq 0 (by decide)).2; simp only [intC, Nat.mul_one, Nat.add_zero, List.getElem?_cons_zero] at q0 q1; replace hnew := hid hnew; clear hq))
          go_roundg (l.length - (j + 1))
          case measure => omega
          case rel => exact ⟨i + 1, j + 1, lk.set i x, by go_num, by go_num, by omega, by omega, Nat.le_refl _, nx2.setCell hbg _, hid (by rw [World.cell?_setCell_other _ _ _ _ (fun hh => by simp only [Addr.mk.injEq] at hh; omega)]; exact hcw2.out), hid (by have := hnew.out 0 x (.int .i64 x) (by decide) rfl; rw [Nat.mul_one, Nat.add_zero] at this; exact this), hK2⟩
      · obtain rfl : j = l.length := by omega
        obtain ⟨hd1, hd2⟩ := hK.out.done (Nat.le_refl _)
        have hlk := hK.out.1
        have hcut := hid (fun zs hz => Own.cut (i := i) intC_flat (by rw [hlk]; exact ho.out) (by omega) zs hz)
        obtain ⟨g', cap', cur', hv', hbg', hkk, hcap', hmax', hsz, htk⟩ := ho.out.row (by omega)
        simp only [Value.slice.injEq, Option.some.injEq, Addr.mk.injEq, and_true, true_and] at hv'
        obtain ⟨rfl, -, rfl⟩ := hv'
        have hcl : ∀ ty, (Builtin.clear_ #[23] ty #[.slice (some ⟨g, i, none⟩) (l.length - i) (cap - i)]).run Try.prog wr = .ok (.tuple #[]) (wr.setCells g (i) (Builtin.zeroCells (.int .i64 0 : Value).cells (l.length - i)).toList) :=
          fun ty => run_clear_c wr _ _ ty (.int .i64 0) elemIntT.under (fun _ => rfl) (by decide) (by decide) g _ _ _ (by omega)
            (fun t ht => by rw [hkk.cell, Array.getElem?_eq_getElem (by rw [hsz]; simp [Value.cells] at ht; omega)]; rfl) (fun t ht => hkk.free _)
        have hzl : i * 1 + (Builtin.zeroCells (.int .i64 0 : Value).cells (l.length - i)).toList.length ≤ l.length * 1 := by
          rw [Array.length_toList, size_zeroCells]
          have := mul_split (c := 1) (n := l.length) (i := i) (by omega)
          simp only [Value.cells] at this ⊢
          simp
          omega
        have hfin := hcut.out _ (by rw [hlk]; exact hzl)
        rw [hd1] at hfin
        have nz := Wb.Below.sets g hbg (Builtin.zeroCells (.int .i64 0 : Value).cells (l.length - i)).toList (i * 1) _ nx
        simp only [Nat.mul_one] at hfin nz
        replace hfin := hid hfin; replace nz := hid nz
        clear hcut hkk hsz htk hzl hK ho hd1 hd2 hlk
        generalize (Builtin.zeroCells (.int .i64 0 : Value).cells (l.length - i)).toList = zs at *
        have hil : (i : Int) ≤ (l.length : Int) := by omega
        have hci : ¬ (cap = i) := by omega
        go_wp2
        go_ret
        exact ⟨_, rfl, hfin.out, nz.out⟩
end Go.Proofs.Ytjhmfljlclajnac
