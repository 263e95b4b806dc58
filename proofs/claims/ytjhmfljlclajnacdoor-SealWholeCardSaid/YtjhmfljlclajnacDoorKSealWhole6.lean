/- Parts of the proof: TxnG TxnI Esc. -/
import Derived.Test.YtjhmfljlclajnacDoorKSealWhole5
import Derived.Test.YtjhmfljlclajnacDoorKSealWhole2
import Derived.Test.YtjhmfljlclajnacDoorUShelf
import Derived.Test.YtjhmfljlclajnacDoorUFit2
import Derived.Test.YtjhmfljlclajnacDoorUPure2
import Derived.Test.YtjhmfljlclajnacDoorURing
import Derived.Test.YtjhmfljlclajnacDoorUPure
import Derived.Deep.RegionWith
import Derived.Deep.CutBlock
import Derived.Deep.DeepCutAuto
set_option linter.unusedVariables false
set_option linter.unusedSimpArgs false
namespace Wb
open Go Go.RowKit
theorem apart_rev {t : Txn} {k : Nat} (hk : k < t.rev.length) (h : (!hasB t.mt t.rev[k] && !hasB t.dt t.rev[k]) = false) : apart t = false := by
 unfold apart
 rw [all_no (p := fun b => !hasB t.mt b && !hasB t.dt b) hk h]
 rfl
theorem apart_mt {t : Txn} {k : Nat} (hk : k < t.mt.length) (h : (!hasB t.dt t.mt[k].block) = false) : apart t = false := by
 unfold apart
 rw [all_no (p := fun c : Cpy => !hasB t.dt c.block) hk h, Bool.and_false]
theorem apart_yes {t : Txn} (h1 : ∀ k (hk : k < t.rev.length), (!hasB t.mt t.rev[k] && !hasB t.dt t.rev[k]) = true) (h2 : ∀ k (hk : k < t.mt.length), (!hasB t.dt t.mt[k].block) = true) : apart t = true := by
 unfold apart
 rw [Bool.and_eq_true, List.all_eq_true, List.all_eq_true]
 refine ⟨fun x hx => ?_, fun x hx => ?_⟩
 ·obtain ⟨k, hk, rfl⟩ := List.mem_iff_getElem.1 hx
  exact h1 k hk
 ·obtain ⟨k, hk, rfl⟩ := List.mem_iff_getElem.1 hx
  exact h2 k hk
end Wb
namespace Go.Proofs.YtjhmfljlclajnacDoor
open Go.RowKit Wb
set_option maxRecDepth 100000
set_option maxHeartbeats 16000000
theorem idx3 (w : World) (o0 o1 o2 : Bool) (l0 l1 l2 : Int) :
    (Instr.index 53 (.agg #[.bool o0, .int .i64 l0, .bool o1, .int .i64 l1, .bool o2, .int .i64 l2]) (.int .i64 0)).run Tryd.prog w = .ok (.agg #[.bool o0, .int .i64 l0]) w ∧
    (Instr.index 53 (.agg #[.bool o0, .int .i64 l0, .bool o1, .int .i64 l1, .bool o2, .int .i64 l2]) (.int .i64 1)).run Tryd.prog w = .ok (.agg #[.bool o1, .int .i64 l1]) w ∧
    (Instr.index 53 (.agg #[.bool o0, .int .i64 l0, .bool o1, .int .i64 l1, .bool o2, .int .i64 l2]) (.int .i64 2)).run Tryd.prog w = .ok (.agg #[.bool o2, .int .i64 l2]) w :=
 ⟨by kernel_rfl, by kernel_rfl, by kernel_rfl⟩
theorem txn_Good (t : Txn) (v : Value) (w : World) (h : RTxn w v t) :
    Calls Tryd.prog 26 #[v] w fun e w' => e = .returned (.bool (goodT t)) ∧ Below w.heap.size w w' := by
 obtain ⟨vm, vd, vr, rfl, hm, hd, hr, n1, n2, n3⟩ := h
 obtain ⟨am, cm, rfl, _⟩ := hm.form
 obtain ⟨ad, cd, rfl, _⟩ := hd.form
 obtain ⟨ar, cr, rfl, _⟩ := hr.form
 have hng := fun hh => notGood' (t := t) hh
 have hyes := fun h1 h2 h3 h4 h5 h6 h7 h8 => (goodT_iff t).2 ⟨h1, h2, h3, h4, h5, h6, h7, h8⟩
 have hi3 := fun w => idx3 w t.h0.on t.h1.on t.h2.on t.h0.left t.h1.left t.h2.left
 have hCm := fun w' (nx : Below w.heap.size w w') => txn_copies t.mt _ w' (hm.below nx) n1
 have hCd := fun w' (nx : Below w.heap.size w w') => txn_copies t.dt _ w' (hd.below nx) n2
 have har := fun k hk hh => apart_rev (t := t) (k := k) hk hh
 have ham := fun k hk hh => apart_mt (t := t) (k := k) hk hh
 have hay := fun h1 h2 => apart_yes (t := t) h1 h2
 unfold txnV
 generalize goodT t = gT at *
 have k0 := Blk.new w #[.int .i64 t.seq, .slice am t.mt.length cm, .slice ad t.dt.length cd, .slice ar t.rev.length cr, .bool t.h0.on, .int .i64 t.h0.left, .bool t.h1.on, .int .i64 t.h1.left, .bool t.h2.on, .int .i64 t.h2.left] 55
 have nx := bal (b0 w) (.cells #[.int .i64 t.seq, .slice am t.mt.length cm, .slice ad t.dt.length cd, .slice ar t.rev.length cr, .bool t.h0.on, .int .i64 t.h0.left, .bool t.h1.on, .int .i64 t.h1.left, .bool t.h2.on, .int .i64 t.h2.left] 55)
 obtain ⟨e0, e1, e2, e3, e4, e5, e6, e7, e8, e9⟩ := k0.c10; have l0 := k0.lt
 replace hm := hid hm; replace hd := hid hd; replace hr := hid hr; replace hng := hid hng; replace hyes := hid hyes; replace hi3 := hid hi3; replace har := hid har; replace ham := hid ham; replace hay := hid hay
 have COPM := hid hCm; have COPD := hid hCd
 clear hCm hCd
 by_cases hs1 : t.seq < 1
 ·have hv := hid (hng.out (.inl (decide_eq_false (by omega))))
  go_enter Tryd.func26, Tryd.ntmps26
  go_wp2
  go_ret
  exact ⟨ret_b hv.out.symm, nx⟩
 by_cases hs2 : 2147483647 < t.seq
 ·have hv := hid (hng.out (.inl (decide_eq_false (by omega))))
  go_enter Tryd.func26, Tryd.ntmps26
  go_wp2
  go_ret
  exact ⟨ret_b hv.out.symm, nx⟩
 have hsq : seqOk t.seq = true := decide_eq_true (by omega)
 cases hcm : copiesB t.mt with
 | false =>
  have hv := hid (hng.out (.inr (.inl hcm)))
  have C1 := COPM.out _ nx
  rw [hcm] at C1
  replace C1 := hid C1
  clear hcm
  go_enter Tryd.func26, Tryd.ntmps26
  go_wp2_with (go_at_call_of 46 (Value.slice am t.mt.length cm); go_loud ((with_reducible refine C1.out.mono ?_); rintro e w1 ⟨rfl, hb1⟩; replace nx := bgo nx hb1))
  go_ret
  exact ⟨ret_b hv.out.symm, nx⟩
 | true =>
 have C1 := COPM.out _ nx
 rw [hcm] at C1
 cases hcd : copiesB t.dt with
 | false =>
  have hv := hid (hng.out (.inr (.inr (.inl hcd))))
  have C2 := fun w' nx => COPD.out w' nx
  rw [hcd] at C2
  replace C1 := hid C1; replace C2 := hid C2
  clear hcm hcd
  go_enter Tryd.func26, Tryd.ntmps26
  go_wp2_with (go_at_call_of 46 (Value.slice am t.mt.length cm); go_loud ((with_reducible refine C1.out.mono ?_); rintro e w1 ⟨rfl, hb1⟩; replace k0 := k0.step hb1; replace nx := bgo nx hb1; clear e0 e1 e2 e3 e4 e5 e6 e7 e8 e9 l0; obtain ⟨e0, e1, e2, e3, e4, e5, e6, e7, e8, e9⟩ := k0.c10; have l0 := k0.lt))
  go_wp2_with (go_at_call_of 46 (Value.slice ad t.dt.length cd); go_loud ((with_reducible refine (C2.out _ nx).mono ?_); rintro e w1 ⟨rfl, hb1⟩; replace nx := bgo nx hb1))
  go_ret
  exact ⟨ret_b hv.out.symm, nx⟩
 | true =>
 have C2 := fun w' nx => COPD.out w' nx
 rw [hcd] at C2
 replace C1 := hid C1; replace C2 := hid C2
 have hcm' := hid hcm; have hcd' := hid hcd
 have hcm : rise (blks t.mt) = true := by unfold copiesB at hcm; rw [Bool.and_eq_true] at hcm; exact hcm.1
 have hcd : rise (blks t.dt) = true := by unfold copiesB at hcd; rw [Bool.and_eq_true] at hcd; exact hcd.1
 replace hcm := hid hcm; replace hcd := hid hcd; replace hsq := hid hsq
 clear COPM COPD
 go_enter Tryd.func26, Tryd.ntmps26
 go_wp2_with (go_at_call_of 46 (Value.slice am t.mt.length cm); go_loud ((with_reducible refine C1.out.mono ?_); rintro e w1 ⟨rfl, hb1⟩; replace k0 := k0.step hb1; replace nx := bgo nx hb1; clear e0 e1 e2 e3 e4 e5 e6 e7 e8 e9 l0; obtain ⟨e0, e1, e2, e3, e4, e5, e6, e7, e8, e9⟩ := k0.c10; have l0 := k0.lt))
 go_wp2_with (go_at_call_of 46 (Value.slice ad t.dt.length cd); go_loud ((with_reducible refine (C2.out _ nx).mono ?_); rintro e w2 ⟨rfl, hb2⟩; replace k0 := k0.step hb2; replace nx := bgo nx hb2; clear e0 e1 e2 e3 e4 e5 e6 e7 e8 e9 l0; obtain ⟨e0, e1, e2, e3, e4, e5, e6, e7, e8, e9⟩ := k0.c10; have l0 := k0.lt))
 clear C1 C2 hb1 hb2
 go_loopw [3, 4, 32] (fun _ _ i wr => ∃ k : Nat, k ≤ t.rev.length ∧ i = .int .i64 k ∧ Hid (riseTo t.rev k) ∧ Hid (∀ j, j < k → ∀ (hj : j < t.rev.length), (!hasB t.mt t.rev[j] && !hasB t.dt t.rev[j]) = true) ∧ Blk wr w.heap.size #[.int .i64 t.seq, .slice am t.mt.length cm, .slice ad t.dt.length cd, .slice ar t.rev.length cr, .bool t.h0.on, .int .i64 t.h0.left, .bool t.h1.on, .int .i64 t.h1.left, .bool t.h2.on, .int .i64 t.h2.left] 55 ∧ Below w.heap.size w wr) (fun _ _ i _ => t.rev.length - (intOf i).toNat)
 case atStart => exact ⟨0, Nat.zero_le _, rfl, hid (fun j hj => absurd hj (Nat.not_lt_zero j)), hid (fun j hj => absurd hj (Nat.not_lt_zero j)), k0, nx⟩
 case round =>
  clear k0 nx e0 e1 e2 e3 e4 e5 e6 e7 e8 e9 l0
  obtain ⟨k, hk, rfl, hri, hap, k0, nx⟩ := hrel
  obtain ⟨e0, e1, e2, e3, e4, e5, e6, e7, e8, e9⟩ := k0.c10; have l0 := k0.lt
  by_cases hlt : k < t.rev.length
  ·obtain ⟨b1, o1, rfl, d0⟩ := RL.at1 (fun x => .int .i64 x) (fun _ => rfl) (hr.out.below nx) hlt
   have hgd : t.rev.getD k 0 = t.rev[k] := by simp [hlt]
   have hno := hid (show ¬ riseAt t.rev k → gT = false from fun hh => hng.out (.inr (.inr (.inr (.inl (rise_no hlt hh))))))
   have hnA := hid (show (!hasB t.mt t.rev[k] && !hasB t.dt t.rev[k]) = false → gT = false from fun hh => hng.out (.inr (.inr (.inr (.inr (.inl (har.out k hlt hh)))))))
   have hyA := hid (show (!hasB t.mt t.rev[k] && !hasB t.dt t.rev[k]) = true → ∀ j, j < k + 1 → ∀ (hj : j < t.rev.length), (!hasB t.mt t.rev[j] && !hasB t.dt t.rev[j]) = true from fun hh j hj hj2 => by
    by_cases e : j = k
    ·subst e; exact hh
    ·exact hap.out j (by omega) hj2)
   have hBk := txn_block t.rev[k]
   by_cases hb : isBlk t.rev[k] = true
   ·have hb' := of_decide_eq_true hb
    have hBk := fun w => hBk w
    rw [hb] at hBk
    replace hBk := hid hBk
    rcases Nat.eq_zero_or_pos k with hk0 | hk0
    ·subst hk0
     have hr1 := hid (riseTo_succ hri.out (show riseAt t.rev 0 from by unfold riseAt; rw [hgd]; exact ⟨hb'.1, hb'.2, fun h => absurd h (Nat.lt_irrefl 0)⟩))
     simp only [Nat.add_zero] at d0
     clear hno hgd hb hb' hri hap
     generalize t.rev[0] = x at *
     have hMb := hid (fun w' (nx : Below w.heap.size w w') => txn_has t.mt x _ w' hcm.out (hm.out.below nx) n1)
     have hDb := hid (fun w' (nx : Below w.heap.size w w') => txn_has t.dt x _ w' hcd.out (hd.out.below nx) n2)
     by_cases hh1 : hasB t.mt x = true
     ·have hv := hid (hnA.out (by rw [hh1]; rfl))
      have hMb := hid (fun w' nx => by have := hMb.out w' nx; rwa [hh1] at this)
      clear hh1 hDb hnA hyA
      go_wp2_with (go_at_call 47; go_loud ((with_reducible refine (hBk.out _).mono ?_); rintro e w1 ⟨rfl, rfl⟩))
      go_wp2_with (go_at_call_of 48 (Value.slice am t.mt.length cm); go_loud ((with_reducible refine (hMb.out _ nx).mono ?_); rintro e w2 ⟨rfl, hb2⟩; replace k0 := k0.step hb2; replace nx := bgo nx hb2; clear e0 e1 e2 e3 e4 e5 e6 e7 e8 e9 l0; obtain ⟨e0, e1, e2, e3, e4, e5, e6, e7, e8, e9⟩ := k0.c10; have l0 := k0.lt))
      go_ret
      exact ⟨ret_b hv.out.symm, nx⟩
     ·rw [Bool.not_eq_true] at hh1
      have hMb := hid (fun w' nx => by have := hMb.out w' nx; rwa [hh1] at this)
      by_cases hh2 : hasB t.dt x = true
      ·have hv := hid (hnA.out (by rw [hh1, hh2]; rfl))
       have hDb := hid (fun w' nx => by have := hDb.out w' nx; rwa [hh2] at this)
       clear hh1 hh2 hnA hyA
       go_wp2_with (go_at_call 47; go_loud ((with_reducible refine (hBk.out _).mono ?_); rintro e w1 ⟨rfl, rfl⟩))
       go_wp2_with (go_at_call_of 48 (Value.slice am t.mt.length cm); go_loud ((with_reducible refine (hMb.out _ nx).mono ?_); rintro e w2 ⟨rfl, hb2⟩; replace k0 := k0.step hb2; replace nx := bgo nx hb2; clear e0 e1 e2 e3 e4 e5 e6 e7 e8 e9 l0; obtain ⟨e0, e1, e2, e3, e4, e5, e6, e7, e8, e9⟩ := k0.c10; have l0 := k0.lt))
       go_wp2_with (go_at_call_of 48 (Value.slice ad t.dt.length cd); go_loud ((with_reducible refine (hDb.out _ nx).mono ?_); rintro e w2 ⟨rfl, hb2⟩; replace k0 := k0.step hb2; replace nx := bgo nx hb2; clear e0 e1 e2 e3 e4 e5 e6 e7 e8 e9 l0; obtain ⟨e0, e1, e2, e3, e4, e5, e6, e7, e8, e9⟩ := k0.c10; have l0 := k0.lt))
       go_ret
       exact ⟨ret_b hv.out.symm, nx⟩
      ·rw [Bool.not_eq_true] at hh2
       have hDb := hid (fun w' nx => by have := hDb.out w' nx; rwa [hh2] at this)
       have hy := hid (hyA.out (by rw [hh1, hh2]; rfl))
       clear hh1 hh2 hnA hyA
       go_wp2_with (go_at_call 47; go_loud ((with_reducible refine (hBk.out _).mono ?_); rintro e w1 ⟨rfl, rfl⟩))
       go_wp2_with (go_at_call_of 48 (Value.slice am t.mt.length cm); go_loud ((with_reducible refine (hMb.out _ nx).mono ?_); rintro e w2 ⟨rfl, hb2⟩; replace k0 := k0.step hb2; replace nx := bgo nx hb2; clear e0 e1 e2 e3 e4 e5 e6 e7 e8 e9 l0; obtain ⟨e0, e1, e2, e3, e4, e5, e6, e7, e8, e9⟩ := k0.c10; have l0 := k0.lt))
       go_wp2_with (go_at_call_of 48 (Value.slice ad t.dt.length cd); go_loud ((with_reducible refine (hDb.out _ nx).mono ?_); rintro e w2 ⟨rfl, hb2⟩; replace k0 := k0.step hb2; replace nx := bgo nx hb2; clear e0 e1 e2 e3 e4 e5 e6 e7 e8 e9 l0; obtain ⟨e0, e1, e2, e3, e4, e5, e6, e7, e8, e9⟩ := k0.c10; have l0 := k0.lt))
       go_roundw
       case rel => exact ⟨0 + 1, by omega, by go_num, hr1, hy, k0, nx⟩
       case measure => simp [intOf]; omega
    ·obtain ⟨j, rfl⟩ : ∃ j, k = j + 1 := ⟨k - 1, by omega⟩
     have hlj : j < t.rev.length := by omega
     obtain ⟨b2, off2, hbb, d2⟩ := RL.at1 (fun x => .int .i64 x) (fun _ => rfl) (hr.out.below nx) hlj
     simp only [Option.some.injEq, Addr.mk.injEq] at hbb
     obtain ⟨rfl, rfl, _⟩ := hbb
     have hgj : t.rev.getD j 0 = t.rev[j] := by simp [hlj]
     have hiff : riseAt t.rev (j + 1) ↔ t.rev[j] < t.rev[j + 1] := by
      unfold riseAt
      rw [hgd, Nat.add_sub_cancel, hgj]
      exact ⟨fun h => h.2.2 (by omega), fun h => ⟨hb'.1, hb'.2, fun _ => h⟩⟩
     by_cases hlt2 : t.rev[j] < t.rev[j + 1]
     ·have hr1 := hid (riseTo_succ hri.out (hiff.2 hlt2))
      clear hno hgd hgj hb hb' hri hap hiff
      generalize t.rev[j + 1] = x at *
      generalize t.rev[j] = y at *
      have hMb := hid (fun w' (nx : Below w.heap.size w w') => txn_has t.mt x _ w' hcm.out (hm.out.below nx) n1)
      have hDb := hid (fun w' (nx : Below w.heap.size w w') => txn_has t.dt x _ w' hcd.out (hd.out.below nx) n2)
      by_cases hh1 : hasB t.mt x = true
      ·have hv := hid (hnA.out (by rw [hh1]; rfl))
       have hMb := hid (fun w' nx => by have := hMb.out w' nx; rwa [hh1] at this)
       clear hh1 hDb hnA hyA
       go_wp2_with (go_at_call 47; go_loud ((with_reducible refine (hBk.out _).mono ?_); rintro e w1 ⟨rfl, rfl⟩))
       go_wp2_with (go_at_call_of 48 (Value.slice am t.mt.length cm); go_loud ((with_reducible refine (hMb.out _ nx).mono ?_); rintro e w2 ⟨rfl, hb2⟩; replace k0 := k0.step hb2; replace nx := bgo nx hb2; clear e0 e1 e2 e3 e4 e5 e6 e7 e8 e9 l0; obtain ⟨e0, e1, e2, e3, e4, e5, e6, e7, e8, e9⟩ := k0.c10; have l0 := k0.lt))
       go_ret
       exact ⟨ret_b hv.out.symm, nx⟩
      ·rw [Bool.not_eq_true] at hh1
       have hMb := hid (fun w' nx => by have := hMb.out w' nx; rwa [hh1] at this)
       by_cases hh2 : hasB t.dt x = true
       ·have hv := hid (hnA.out (by rw [hh1, hh2]; rfl))
        have hDb := hid (fun w' nx => by have := hDb.out w' nx; rwa [hh2] at this)
        clear hh1 hh2 hnA hyA
        go_wp2_with (go_at_call 47; go_loud ((with_reducible refine (hBk.out _).mono ?_); rintro e w1 ⟨rfl, rfl⟩))
        go_wp2_with (go_at_call_of 48 (Value.slice am t.mt.length cm); go_loud ((with_reducible refine (hMb.out _ nx).mono ?_); rintro e w2 ⟨rfl, hb2⟩; replace k0 := k0.step hb2; replace nx := bgo nx hb2; clear e0 e1 e2 e3 e4 e5 e6 e7 e8 e9 l0; obtain ⟨e0, e1, e2, e3, e4, e5, e6, e7, e8, e9⟩ := k0.c10; have l0 := k0.lt))
        go_wp2_with (go_at_call_of 48 (Value.slice ad t.dt.length cd); go_loud ((with_reducible refine (hDb.out _ nx).mono ?_); rintro e w2 ⟨rfl, hb2⟩; replace k0 := k0.step hb2; replace nx := bgo nx hb2; clear e0 e1 e2 e3 e4 e5 e6 e7 e8 e9 l0; obtain ⟨e0, e1, e2, e3, e4, e5, e6, e7, e8, e9⟩ := k0.c10; have l0 := k0.lt))
        go_ret
        exact ⟨ret_b hv.out.symm, nx⟩
       ·rw [Bool.not_eq_true] at hh2
        have hDb := hid (fun w' nx => by have := hDb.out w' nx; rwa [hh2] at this)
        have hy := hid (hyA.out (by rw [hh1, hh2]; rfl))
        clear hh1 hh2 hnA hyA
        go_wp2_with (go_at_call 47; go_loud ((with_reducible refine (hBk.out _).mono ?_); rintro e w1 ⟨rfl, rfl⟩))
        go_wp2_with (go_at_call_of 48 (Value.slice am t.mt.length cm); go_loud ((with_reducible refine (hMb.out _ nx).mono ?_); rintro e w2 ⟨rfl, hb2⟩; replace k0 := k0.step hb2; replace nx := bgo nx hb2; clear e0 e1 e2 e3 e4 e5 e6 e7 e8 e9 l0; obtain ⟨e0, e1, e2, e3, e4, e5, e6, e7, e8, e9⟩ := k0.c10; have l0 := k0.lt))
        go_wp2_with (go_at_call_of 48 (Value.slice ad t.dt.length cd); go_loud ((with_reducible refine (hDb.out _ nx).mono ?_); rintro e w2 ⟨rfl, hb2⟩; replace k0 := k0.step hb2; replace nx := bgo nx hb2; clear e0 e1 e2 e3 e4 e5 e6 e7 e8 e9 l0; obtain ⟨e0, e1, e2, e3, e4, e5, e6, e7, e8, e9⟩ := k0.c10; have l0 := k0.lt))
        go_roundw
        case rel => exact ⟨j + 1 + 1, by omega, by go_num, hr1, hy, k0, nx⟩
        case measure => simp [intOf]; omega
     ·have hv := hid (hno.out (fun hh => hlt2 (hiff.1 hh)))
      clear hno hgd hgj hb hb' hri hap hiff hnA hyA
      generalize t.rev[j + 1] = x at *
      generalize t.rev[j] = y at *
      go_wp2_with (go_at_call 47; go_loud ((with_reducible refine (hBk.out _).mono ?_); rintro e w1 ⟨rfl, rfl⟩))
      go_ret
      exact ⟨ret_b hv.out.symm, nx⟩
   ·have hv := hid (hno.out (fun hh => hb (by
      unfold riseAt at hh
      rw [hgd] at hh
      exact decide_eq_true ⟨hh.1, hh.2.1⟩)))
    rw [Bool.not_eq_true] at hb
    have hBk := fun w => hBk w
    rw [hb] at hBk
    replace hBk := hid hBk
    clear hno hgd hb hri hap hnA hyA
    generalize t.rev[k] = x at *
    go_wp2_with (go_at_call 47; go_loud ((with_reducible refine (hBk.out _).mono ?_); rintro e w1 ⟨rfl, rfl⟩))
    go_ret
    exact ⟨ret_b hv.out.symm, nx⟩
  ·obtain rfl : k = t.rev.length := by omega
   have hrise := hid ((rise_iff t.rev).2 hri.out)
   have hapr := hid (show ∀ j (hj : j < t.rev.length), (!hasB t.mt t.rev[j] && !hasB t.dt t.rev[j]) = true from fun j hj => hap.out j hj hj)
   clear hri hap
   go_wp2
   go_loopw [6, 70] (fun _ i wr => ∃ k : Nat, k ≤ t.mt.length ∧ i = .int .i64 k ∧ Hid (∀ j, j < k → ∀ (hj : j < t.mt.length), (!hasB t.dt t.mt[j].block) = true) ∧ Blk wr w.heap.size #[.int .i64 t.seq, .slice am t.mt.length cm, .slice ad t.dt.length cd, .slice ar t.rev.length cr, .bool t.h0.on, .int .i64 t.h0.left, .bool t.h1.on, .int .i64 t.h1.left, .bool t.h2.on, .int .i64 t.h2.left] 55 ∧ Below w.heap.size w wr) (fun _ i _ => t.mt.length - (intOf i).toNat)
   case atStart => exact ⟨0, Nat.zero_le _, rfl, hid (fun j hj => absurd hj (Nat.not_lt_zero j)), k0, nx⟩
   case round =>
    clear k0 nx e0 e1 e2 e3 e4 e5 e6 e7 e8 e9 l0
    obtain ⟨k, hk, rfl, hap, k0, nx⟩ := hrel
    obtain ⟨e0, e1, e2, e3, e4, e5, e6, e7, e8, e9⟩ := k0.c10; have l0 := k0.lt
    by_cases hlt : k < t.mt.length
    ·obtain ⟨b1, o1, rfl, d0, d1⟩ := RL.at2 (fun x => .int .i64 x.block) (fun x => .string x.text) (fun _ => rfl) (hm.out.below nx) hlt
     have hnA := hid (show (!hasB t.dt t.mt[k].block) = false → gT = false from fun hh => hng.out (.inr (.inr (.inr (.inr (.inl (ham.out k hlt hh)))))))
     have hyA := hid (show (!hasB t.dt t.mt[k].block) = true → ∀ j, j < k + 1 → ∀ (hj : j < t.mt.length), (!hasB t.dt t.mt[j].block) = true from fun hh j hj hj2 => by
      by_cases e : j = k
      ·subst e; exact hh
      ·exact hap.out j (by omega) hj2)
     generalize t.mt[k] = c at *
     obtain ⟨x, ct⟩ := c
     dsimp only at *
     have hDb := hid (fun w' (nx : Below w.heap.size w w') => txn_has t.dt x _ w' hcd.out (hd.out.below nx) n2)
     replace k0 := k0.alloc (.cells #[.int .i64 x, .string ct] 46)
     have nx' := nx
     replace nx := bal nx (.cells #[.int .i64 x, .string ct] 46)
     clear e0 e1 e2 e3 e4 e5 e6 e7 e8 e9 l0; obtain ⟨e0, e1, e2, e3, e4, e5, e6, e7, e8, e9⟩ := k0.c10; have l0 := k0.lt
     have kx := Blk.new wr #[.int .i64 x, .string ct] 46
     have x0 := kx.cell 0
     simp only [Zga, Zgb, Zgc] at x0
     by_cases hh2 : hasB t.dt x = true
     ·have hv := hid (hnA.out (by rw [hh2]; rfl))
      have hDb := hid (fun w' nx => by have := hDb.out w' nx; rwa [hh2] at this)
      clear hh2 hnA hyA hap
      go_wp2_with (go_at_call_of 48 (Value.slice ad t.dt.length cd); go_loud ((with_reducible refine (hDb.out _ nx).mono ?_); rintro e w2 ⟨rfl, hb2⟩; replace k0 := k0.step hb2; replace nx := bgo nx hb2; clear e0 e1 e2 e3 e4 e5 e6 e7 e8 e9 l0; obtain ⟨e0, e1, e2, e3, e4, e5, e6, e7, e8, e9⟩ := k0.c10; have l0 := k0.lt))
      go_ret
      exact ⟨ret_b hv.out.symm, nx⟩
     ·rw [Bool.not_eq_true] at hh2
      have hDb := hid (fun w' nx => by have := hDb.out w' nx; rwa [hh2] at this)
      have hy := hid (hyA.out (by rw [hh2]; rfl))
      clear hh2 hnA hyA hap
      go_wp2_with (go_at_call_of 48 (Value.slice ad t.dt.length cd); go_loud ((with_reducible refine (hDb.out _ nx).mono ?_); rintro e w2 ⟨rfl, hb2⟩; replace k0 := k0.step hb2; replace nx := bgo nx hb2; clear e0 e1 e2 e3 e4 e5 e6 e7 e8 e9 l0; obtain ⟨e0, e1, e2, e3, e4, e5, e6, e7, e8, e9⟩ := k0.c10; have l0 := k0.lt))
      go_roundw
      case rel => first | exact ⟨k + 1, by omega, by go_num, hy, k0, nx⟩ | ((repeat apply Exists.intro); refine ⟨⟨k + 1, by omega, ?_, hy, k0, nx⟩, rfl⟩; go_num)
      case measure => simp [intOf]; omega
    ·obtain rfl : k = t.mt.length := by omega
     have hapm := hid (hay.out hapr.out (fun j hj => hap.out j hj hj))
     clear hap hapr
     go_wp2
     go_loopw [8, 82] (fun _ i wr => ∃ k : Nat, k ≤ 3 ∧ i = .int .i64 k ∧ Hid (∀ j, j < k → (if j = 0 then hOk t.h0 else if j = 1 then hOk t.h1 else hOk t.h2) = true) ∧ Blk wr w.heap.size #[.int .i64 t.seq, .slice am t.mt.length cm, .slice ad t.dt.length cd, .slice ar t.rev.length cr, .bool t.h0.on, .int .i64 t.h0.left, .bool t.h1.on, .int .i64 t.h1.left, .bool t.h2.on, .int .i64 t.h2.left] 55 ∧ Below w.heap.size w wr) (fun _ i _ => 3 - (intOf i).toNat)
     case atStart => exact ⟨0, by decide, rfl, hid (fun j hj => absurd hj (Nat.not_lt_zero j)), k0, nx⟩
     case round =>
      clear k0 nx e0 e1 e2 e3 e4 e5 e6 e7 e8 e9 l0
      obtain ⟨k, hk, rfl, hall, k0, nx⟩ := hrel
      have l0 := k0.lt
      by_cases hlt : k < 3
      ·obtain (rfl | rfl | rfl) : k = 0 ∨ k = 1 ∨ k = 2 := by omega
       ·have hi := hi3.out wr
        replace hi := hi.1
        have hof := hOk_iff' t.h0
        have hnh := fun hh => hng.out (.inr (.inr (.inr (.inr (.inr (.inl hh))))))
        generalize t.h0.on = o at *
        generalize hle : t.h0.left = lf at *
        replace hnh := hid hnh; replace hle := hid hle
        by_cases hoo : hOk t.h0 = true
        ·obtain ⟨a1, a2, a3⟩ := hof.1 hoo
         have hoo2 := hid hoo
         have hall2 := hid (show ∀ j, j < 0 + 1 → (if j = 0 then hOk t.h0 else if j = 1 then hOk t.h1 else hOk t.h2) = true from by
          intro j hj
          by_cases e : j = 0
          ·subst e; exact hoo2.out
          ·exact hall.out j (by omega))
         clear hof hoo
         by_cases hz : lf = 0
         ·subst hz
          cases o
          ·go_wp2
           go_roundw
           case rel => first | exact ⟨0 + 1, by decide, rfl, hall2, k0.alloc _, bal nx _⟩ | ((repeat apply Exists.intro); exact ⟨⟨0 + 1, by decide, rfl, hall2, k0.alloc _, bal nx _⟩, rfl⟩)
           case measure => simp [intOf]
          ·go_wp2
           go_roundw
           case rel => first | exact ⟨0 + 1, by decide, rfl, hall2, k0.alloc _, bal nx _⟩ | ((repeat apply Exists.intro); exact ⟨⟨0 + 1, by decide, rfl, hall2, k0.alloc _, bal nx _⟩, rfl⟩)
           case measure => simp [intOf]
         ·have ho : o = true := a3.resolve_right hz
          have hz2 : 0 < lf := by omega
          subst ho
          clear hz a3
          go_wp2
          go_roundw
          case rel => first | exact ⟨0 + 1, by decide, rfl, hall2, k0.alloc _, bal nx _⟩ | ((repeat apply Exists.intro); exact ⟨⟨0 + 1, by decide, rfl, hall2, k0.alloc _, bal nx _⟩, rfl⟩)
          case measure => simp [intOf]
        ·replace hoo : hOk t.h0 = false := by simpa using hoo
         have hgf := hid (hnh.out hoo)
         have hof2 : ¬ (0 ≤ lf ∧ lf ≤ 24 ∧ (o = true ∨ lf = 0)) := fun h => by rw [hof.2 h] at hoo; cases hoo
         clear hof hoo
         by_cases q1 : lf < 0
         ·clear hof2
          go_wp2
          go_ret
          exact ⟨ret_b hgf.out.symm, bal nx _⟩
         ·by_cases q2 : 24 < lf
          ·clear hof2
           go_wp2
           go_ret
           exact ⟨ret_b hgf.out.symm, bal nx _⟩
          ·have q3 : (lf != 0) = true := bne_iff_ne.2 (fun hz => hof2 ⟨by omega, by omega, .inr hz⟩)
           have q4 : o = false := by
            cases o
            ·rfl
            ·exact absurd ⟨by omega, by omega, .inl rfl⟩ hof2
           subst q4
           clear hof2
           go_wp2
           go_ret
           exact ⟨ret_b hgf.out.symm, bal nx _⟩
       ·have hi := hi3.out wr
        replace hi := hi.2.1
        have hof := hOk_iff' t.h1
        have hnh := fun hh => hng.out (.inr (.inr (.inr (.inr (.inr (.inr (.inl hh)))))))
        generalize t.h1.on = o at *
        generalize hle : t.h1.left = lf at *
        replace hnh := hid hnh; replace hle := hid hle
        by_cases hoo : hOk t.h1 = true
        ·obtain ⟨a1, a2, a3⟩ := hof.1 hoo
         have hoo2 := hid hoo
         have hall2 := hid (show ∀ j, j < 1 + 1 → (if j = 0 then hOk t.h0 else if j = 1 then hOk t.h1 else hOk t.h2) = true from by
          intro j hj
          by_cases e : j = 1
          ·subst e; exact hoo2.out
          ·exact hall.out j (by omega))
         clear hof hoo
         by_cases hz : lf = 0
         ·subst hz
          cases o
          ·go_wp2
           go_roundw
           case rel => first | exact ⟨1 + 1, by decide, rfl, hall2, k0.alloc _, bal nx _⟩ | ((repeat apply Exists.intro); exact ⟨⟨1 + 1, by decide, rfl, hall2, k0.alloc _, bal nx _⟩, rfl⟩)
           case measure => simp [intOf]
          ·go_wp2
           go_roundw
           case rel => first | exact ⟨1 + 1, by decide, rfl, hall2, k0.alloc _, bal nx _⟩ | ((repeat apply Exists.intro); exact ⟨⟨1 + 1, by decide, rfl, hall2, k0.alloc _, bal nx _⟩, rfl⟩)
           case measure => simp [intOf]
         ·have ho : o = true := a3.resolve_right hz
          have hz2 : 0 < lf := by omega
          subst ho
          clear hz a3
          go_wp2
          go_roundw
          case rel => first | exact ⟨1 + 1, by decide, rfl, hall2, k0.alloc _, bal nx _⟩ | ((repeat apply Exists.intro); exact ⟨⟨1 + 1, by decide, rfl, hall2, k0.alloc _, bal nx _⟩, rfl⟩)
          case measure => simp [intOf]
        ·replace hoo : hOk t.h1 = false := by simpa using hoo
         have hgf := hid (hnh.out hoo)
         have hof2 : ¬ (0 ≤ lf ∧ lf ≤ 24 ∧ (o = true ∨ lf = 0)) := fun h => by rw [hof.2 h] at hoo; cases hoo
         clear hof hoo
         by_cases q1 : lf < 0
         ·clear hof2
          go_wp2
          go_ret
          exact ⟨ret_b hgf.out.symm, bal nx _⟩
         ·by_cases q2 : 24 < lf
          ·clear hof2
           go_wp2
           go_ret
           exact ⟨ret_b hgf.out.symm, bal nx _⟩
          ·have q3 : (lf != 0) = true := bne_iff_ne.2 (fun hz => hof2 ⟨by omega, by omega, .inr hz⟩)
           have q4 : o = false := by
            cases o
            ·rfl
            ·exact absurd ⟨by omega, by omega, .inl rfl⟩ hof2
           subst q4
           clear hof2
           go_wp2
           go_ret
           exact ⟨ret_b hgf.out.symm, bal nx _⟩
       ·have hi := hi3.out wr
        replace hi := hi.2.2
        have hof := hOk_iff' t.h2
        have hnh := fun hh => hng.out (.inr (.inr (.inr (.inr (.inr (.inr (.inr hh)))))))
        generalize t.h2.on = o at *
        generalize hle : t.h2.left = lf at *
        replace hnh := hid hnh; replace hle := hid hle
        by_cases hoo : hOk t.h2 = true
        ·obtain ⟨a1, a2, a3⟩ := hof.1 hoo
         have hoo2 := hid hoo
         have hall2 := hid (show ∀ j, j < 2 + 1 → (if j = 0 then hOk t.h0 else if j = 1 then hOk t.h1 else hOk t.h2) = true from by
          intro j hj
          by_cases e : j = 2
          ·subst e; exact hoo2.out
          ·exact hall.out j (by omega))
         clear hof hoo
         by_cases hz : lf = 0
         ·subst hz
          cases o
          ·go_wp2
           go_roundw
           case rel => first | exact ⟨2 + 1, by decide, rfl, hall2, k0.alloc _, bal nx _⟩ | ((repeat apply Exists.intro); exact ⟨⟨2 + 1, by decide, rfl, hall2, k0.alloc _, bal nx _⟩, rfl⟩)
           case measure => simp [intOf]
          ·go_wp2
           go_roundw
           case rel => first | exact ⟨2 + 1, by decide, rfl, hall2, k0.alloc _, bal nx _⟩ | ((repeat apply Exists.intro); exact ⟨⟨2 + 1, by decide, rfl, hall2, k0.alloc _, bal nx _⟩, rfl⟩)
           case measure => simp [intOf]
         ·have ho : o = true := a3.resolve_right hz
          have hz2 : 0 < lf := by omega
          subst ho
          clear hz a3
          go_wp2
          go_roundw
          case rel => first | exact ⟨2 + 1, by decide, rfl, hall2, k0.alloc _, bal nx _⟩ | ((repeat apply Exists.intro); exact ⟨⟨2 + 1, by decide, rfl, hall2, k0.alloc _, bal nx _⟩, rfl⟩)
          case measure => simp [intOf]
        ·replace hoo : hOk t.h2 = false := by simpa using hoo
         have hgf := hid (hnh.out hoo)
         have hof2 : ¬ (0 ≤ lf ∧ lf ≤ 24 ∧ (o = true ∨ lf = 0)) := fun h => by rw [hof.2 h] at hoo; cases hoo
         clear hof hoo
         by_cases q1 : lf < 0
         ·clear hof2
          go_wp2
          go_ret
          exact ⟨ret_b hgf.out.symm, bal nx _⟩
         ·by_cases q2 : 24 < lf
          ·clear hof2
           go_wp2
           go_ret
           exact ⟨ret_b hgf.out.symm, bal nx _⟩
          ·have q3 : (lf != 0) = true := bne_iff_ne.2 (fun hz => hof2 ⟨by omega, by omega, .inr hz⟩)
           have q4 : o = false := by
            cases o
            ·rfl
            ·exact absurd ⟨by omega, by omega, .inl rfl⟩ hof2
           subst q4
           clear hof2
           go_wp2
           go_ret
           exact ⟨ret_b hgf.out.symm, bal nx _⟩
      ·obtain rfl : k = 3 := by omega
       have hv := hid (hyes.out hsq.out hcm'.out hcd'.out hrise.out hapm.out (hall.out 0 (by decide)) (hall.out 1 (by decide)) (hall.out 2 (by decide)))
       clear hall
       go_wp2
       go_ret
       exact ⟨ret_b hv.out.symm, nx⟩
end Go.Proofs.YtjhmfljlclajnacDoor
namespace Wb
open Go Go.RowKit
theorem any_hit {l : List Hnd} {k : Nat} (hk : k < l.length) (h : l[k].on = true) : l.any (·.on) = true := List.any_eq_true.2 ⟨_, List.getElem_mem hk, h⟩
theorem any_step {l : List Hnd} {k : Nat} (hk : k < l.length) (h0 : (l.take k).any (·.on) = false) (h : l[k].on = false) : (l.take (k + 1)).any (·.on) = false := by
 rw [List.take_succ_eq_append_getElem hk, List.any_append, h0]
 simp [h]
theorem any_full {l : List Hnd} {k : Nat} (hk : ¬ k < l.length) (h0 : (l.take k).any (·.on) = false) : l.any (·.on) = false := by
 rw [List.take_of_length_le (by omega)] at h0; exact h0
theorem hnds_RL {w : World} {b : Nat} {t : TypeId} {x0 x1 x2 x3 : Value} (p q r : Hnd) (h : Blk w b #[x0, x1, x2, x3, .bool p.on, .int .i64 p.left, .bool q.on, .int .i64 q.left, .bool r.on, .int .i64 r.left] t) : RL hndC w (.slice (some ⟨b, 4, none⟩) 3 3) [p, q, r] := by
 refine ⟨_, _, rfl, Nat.le_refl _, by unfold maxLen; omega, .inr ⟨_, _, rfl, fun j u hj => ?_⟩⟩
 rw [h.cell]
 rw [← hj]
 have hl : j < 6 := by
  have := (List.getElem?_eq_some_iff.1 hj).1
  simpa [hndC] using this
 obtain (rfl | rfl | rfl | rfl | rfl | rfl) : j = 0 ∨ j = 1 ∨ j = 2 ∨ j = 3 ∨ j = 4 ∨ j = 5 := by omega
 all_goals rfl
end Wb
namespace Go.Proofs.YtjhmfljlclajnacDoor
open Go.RowKit Wb
set_option maxRecDepth 100000
set_option maxHeartbeats 4000000
theorem txn_Open1 (h : Hnd) (w : World) : Calls Tryd.prog 51 #[.agg #[.bool h.on, .int .i64 h.left]] w fun e w' => e = .returned (.bool h.on) ∧ Below w.heap.size w w' := by
 have k0 := Blk.new w #[.bool h.on, .int .i64 h.left] 52
 have c0 := k0.cell 0; have c1 := k0.cell 1
 simp only [Zga, Zgb, Zgc] at c0 c1
 go_enter Tryd.func51, Tryd.ntmps51
 go_wp2
 go_ret
 exact ⟨rfl, bal (b0 w) _⟩
theorem hnd_Index (l : List Hnd) (v : Value) (w : World) (h : RL hndC w v l) (hl : l.length ≤ 3) :
    Calls Tryd.prog 61 #[v, .func (.func 51) #[] #[]] w fun e w' => (∃ r : Int, e = .returned (.int .i64 r) ∧ (decide (r ≥ 0) = l.any (·.on))) ∧ Below w.heap.size w w' := by
 obtain ⟨a, cap, rfl, _⟩ := h.form
 have hO := fun h w => txn_Open1 h w
 have hhit := fun k (hk : k < l.length) hh => any_hit (l := l) hk hh
 have hst := fun k (hk : k < l.length) h0 hh => any_step (l := l) hk h0 hh
 have hfu := fun k (hk : ¬ k < l.length) h0 => any_full (l := l) hk h0
 generalize hal : l.any (·.on) = al at *
 replace h := hid h; replace hO := hid hO; replace hhit := hid hhit; replace hst := hid hst; replace hfu := hid hfu
 clear hal
 go_enter Tryd.func61, Tryd.ntmps61
 go_wp2
 go_loopw [5, 8] (fun _ i wr => ∃ k : Nat, k ≤ l.length ∧ i = .int .i64 k ∧ Hid ((l.take k).any (·.on) = false) ∧ Below w.heap.size w wr) (fun _ i _ => l.length - (intOf i).toNat)
 case atStart => exact ⟨0, Nat.zero_le _, rfl, rfl, b0 w⟩
 case round =>
  obtain ⟨k, hk, rfl, hall, nx⟩ := hrel
  by_cases hlt : k < l.length
  ·obtain ⟨b1, o1, rfl, c0, c1⟩ := RL.at2 (fun x => .bool x.on) (fun x => .int .i64 x.left) (fun _ => rfl) (h.out.below nx) hlt
   have hh1 := hid (hhit.out k hlt)
   have hh2 := hid (fun hh => hst.out k hlt hall.out hh)
   generalize l[k] = x at *
   have hOx := hO.out x
   cases hx : x.on with
   | true =>
    have hv := hid (hh1.out hx)
    rw [hx] at hOx c0
    replace hOx := hid hOx
    clear hx hh1 hh2 hall
    go_wp2_with (go_at_call 51; go_loud ((with_reducible refine (hOx.out _).mono ?_); rintro e w1 ⟨rfl, hb1⟩))
    go_ret
    exact ⟨⟨_, rfl, by rw [hv.out]; exact decide_eq_true (Int.natCast_nonneg _)⟩, bgo nx hb1⟩
   | false =>
    have hy := hid (hh2.out hx)
    rw [hx] at hOx c0
    replace hOx := hid hOx
    clear hx hh1 hh2 hall
    go_wp2_with (go_at_call 51; go_loud ((with_reducible refine (hOx.out _).mono ?_); rintro e w1 ⟨rfl, hb1⟩))
    go_roundw
    case rel => first | exact ⟨k + 1, by omega, by go_num, hy, bgo nx hb1⟩ | ((repeat apply Exists.intro); exact ⟨⟨k + 1, by omega, by go_num, hy, bgo nx hb1⟩, rfl⟩)
    case measure => simp [intOf]; omega
  ·have hv := hid (hfu.out k hlt hall.out)
   clear hall
   go_wp2
   go_ret
   exact ⟨⟨_, rfl, by rw [hv.out]; rfl⟩, nx⟩
theorem hnd_Contains (l : List Hnd) (v : Value) (w : World) (h : RL hndC w v l) (hl : l.length ≤ 3) :
    Calls Tryd.prog 50 #[v, .func (.func 51) #[] #[]] w fun e w' => e = .returned (.bool (l.any (·.on))) ∧ Below w.heap.size w w' := by
 have hI := hid (hnd_Index l v w h hl)
 obtain ⟨a, cap, rfl, _⟩ := h.form
 generalize l.any (·.on) = al at *
 clear h
 go_enter Tryd.func50, Tryd.ntmps50
 go_wp2_with (go_at_call 61; go_loud ((with_reducible refine hI.out.mono ?_); rintro e w1 ⟨⟨r, rfl, hr⟩, hb1⟩; replace hr := hid hr))
 all_goals
  go_ret
  refine ⟨ret_b ?_, hb1⟩
  have := hr.out
  first | exact this | (rw [← this]; (try simp_all); (try omega))
theorem txn_Open (t : Txn) (v : Value) (w : World) (h : RTxn w v t) :
    Calls Tryd.prog 31 #[v] w fun e w' => e = .returned (.bool (openB t)) ∧ Below w.heap.size w w' := by
 obtain ⟨vm, vd, vr, rfl, hm, hd, hr, n1, n2, n3⟩ := h
 obtain ⟨am, cm, rfl, _⟩ := hm.form
 obtain ⟨ad, cd, rfl, _⟩ := hd.form
 obtain ⟨ar, cr, rfl, _⟩ := hr.form
 unfold txnV
 have k0 := Blk.new w #[.int .i64 t.seq, .slice am t.mt.length cm, .slice ad t.dt.length cd, .slice ar t.rev.length cr, .bool t.h0.on, .int .i64 t.h0.left, .bool t.h1.on, .int .i64 t.h1.left, .bool t.h2.on, .int .i64 t.h2.left] 55
 have nx := bal (b0 w) (.cells #[.int .i64 t.seq, .slice am t.mt.length cm, .slice ad t.dt.length cd, .slice ar t.rev.length cr, .bool t.h0.on, .int .i64 t.h0.left, .bool t.h1.on, .int .i64 t.h1.left, .bool t.h2.on, .int .i64 t.h2.left] 55)
 have hC := hnd_Contains [t.h0, t.h1, t.h2] _ _ (hnds_RL t.h0 t.h1 t.h2 k0) (Nat.le_refl 3)
 have e : [t.h0, t.h1, t.h2].any (·.on) = openB t := by unfold openB; simp [Bool.or_assoc]
 rw [e] at hC
 generalize openB t = ob at *
 replace hC := hid hC
 clear hm hd hr e k0
 go_enter Tryd.func31, Tryd.ntmps31
 go_wp2_with (go_at_call 50; go_loud ((with_reducible refine hC.out.mono ?_); rintro e w1 ⟨rfl, hb1⟩))
 go_ret
 exact ⟨rfl, bgo nx hb1⟩
theorem pre_isEsc (s : ByteArray) : Lib.hasPrefix s.data.toList [87, 66, 75, 49] = isEsc s := by
 rw [← Lib.hasPrefix_of_take, Bool.eq_iff_iff, Bool.and_eq_true, decide_eq_true_iff, beq_iff_eq]
 constructor
 ·intro hh
  exact decide_eq_true hh.2
 ·intro hh
  exact ⟨by rw [ba_len]; exact isEsc_len hh, of_decide_eq_true hh⟩
theorem take_isEsc (s : ByteArray) : ((s.extract 0 4).toList == [87, 66, 75, 49]) = isEsc s := by
 rw [Lib.toList_data, Lib.extract_data, List.drop_zero]
 unfold isEsc
 rw [Bool.eq_iff_iff, decide_eq_true_iff, beq_iff_eq]
 rfl
theorem drop_str (p : List UInt8) (s : ByteArray) (h : 4 ≤ s.size) : str p ++ s.extract 4 s.size = str (p ++ s.data.toList.drop 4) := by
 apply ba_ext
 rw [ByteArray.data_append, Array.toList_append, Lib.extract_data, List.take_of_length_le (by rw [List.length_drop, ba_len]; omega)]
 simp [str]
theorem stamp_Escape (s : ByteArray) (w : World) (hs : s.size ≤ 9223372036854775807) :
    Calls Tryd.prog 38 #[.string s] w fun e w' => e = .returned (.tuple #[.string (escS s), .bool (isEsc s)]) ∧ Below w.heap.size w w' := by
 have hP := fun w => Tryd.strings_HasPrefix s ⟨#[87, 66, 75, 49]⟩ w
 have hb := pre_isEsc s
 dsimp only at hP
 rw [hb] at hP
 clear hb
 cases hc : isEsc s
 ·rw [hc] at hP
  have hv : escS s = s := by unfold escS; rw [hc]; rfl
  rw [hv]
  replace hP := hid hP
  go_enter Tryd.func38, Tryd.ntmps38
  go_wp2_with (go_at_call 56; refine (hP.out _).mono ?_; rintro e w1 ⟨rfl, rfl⟩)
  go_ret2
  exact ⟨rfl, by exact Zlo⟩
 ·rw [hc] at hP
  have h4 := isEsc_len hc
  have hv : (⟨#[0, 0, 0, 0]⟩ : ByteArray) ++ s.extract 4 s.size = escS s := by unfold escS; rw [hc]; exact drop_str [0, 0, 0, 0] s h4
  have hx : (s.extract 4 s.size).size = s.size - 4 := by simp
  replace hP := hid hP
  go_enter Tryd.func38, Tryd.ntmps38
  go_wp2_with (go_at_call 56; refine (hP.out _).mono ?_; rintro e w1 ⟨rfl, rfl⟩)
  go_ret2
  exact ⟨rfl, by exact Zlo⟩
theorem stamp_Unescape (s : ByteArray) (e : Bool) (w : World) (hs : s.size ≤ 9223372036854775807) :
    Calls Tryd.prog 43 #[.string s, .bool e] w fun r w' => r = .returned (.string (unescS s e)) ∧ Below w.heap.size w w' := by
 by_cases h4 : 4 ≤ s.size
 ·have hx : (s.extract 4 s.size).size = s.size - 4 := by simp
  have hv1 : (⟨#[87, 66, 75, 49]⟩ : ByteArray) ++ s.extract 4 s.size = unescS s true := by unfold unescS; rw [if_pos ⟨rfl, h4⟩]; exact drop_str magic s h4
  have hv0 : unescS s false = s := by unfold unescS; simp
  cases e
  ·rw [hv0]
   clear hv1
   go_enter Tryd.func43, Tryd.ntmps43
   go_wp2
   go_ret
   exact ⟨rfl, by exact Zlo⟩
  ·go_enter Tryd.func43, Tryd.ntmps43
   go_wp2
   go_ret
   exact ⟨rfl, by exact Zlo⟩
 ·have hv : unescS s e = s := by unfold unescS; rw [if_neg (fun hh => h4 hh.2)]
  rw [hv]
  cases e
  all_goals
   go_enter Tryd.func43, Tryd.ntmps43
   go_wp2
   go_ret
   exact ⟨rfl, by exact Zlo⟩
end Go.Proofs.YtjhmfljlclajnacDoor
