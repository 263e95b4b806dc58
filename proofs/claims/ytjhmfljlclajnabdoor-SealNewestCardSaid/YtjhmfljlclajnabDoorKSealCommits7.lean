/- The walks of txn: Good. The walks of txn: Asked. The walks of txn: Open. The walks of the ring that take places. The walks of the ring that give back; whether the ring answers at all. Whether the ring answers at all; the law on Need and Most. The walk of the reference's EncodeMark. The walks of Escape and Unescape. -/
import Derived.Test.YtjhmfljlclajnabDoorKSealCommits6
import Derived.Test.YtjhmfljlclajnabDoorRing
import Derived.Test.YtjhmfljlclajnabDoorStampR3
import Derived.Test.YtjhmfljlclajnabDoorKSealCommits5
import Derived.Test.YtjhmfljlclajnabDoorKSealCommits1
import Derived.Deep.CutBlock
import Derived.Deep.DeepCutAuto
namespace Wb
open Go Go.RowKit
theorem apart_rev {t : Txn} {k : Nat} (hk : k < t.rev.length) (h : (!hasB t.mt t.rev[k] && !hasB t.dt t.rev[k]) = false) : apart t = false := by
  unfold apart
  rw [all_no (p := fun b => !hasB t.mt b && !hasB t.dt b) hk h]
  rfl
theorem apart_mt {t : Txn} {k : Nat} (hk : k < t.mt.length) (h : (!hasB t.dt t.mt[k].block) = false) : apart t = false := by
  unfold apart
  rw [all_no (p := fun c : Cpy => !hasB t.dt c.block) hk h, Bool.and_false]
theorem apart_yes {t : Txn} (h1 : ∀ k (hk : k < t.rev.length), (!hasB t.mt t.rev[k] && !hasB t.dt t.rev[k]) = true) (h2 : ∀ k (hk : k < t.mt.length), (!hasB t.dt t.mt[k].block) = true) : apart t = true := by
  unfold apart
  rw [Bool.and_eq_true, List.all_eq_true, List.all_eq_true]
  refine ⟨fun x hx => ?_, fun x hx => ?_⟩
  · obtain ⟨k, hk, rfl⟩ := List.mem_iff_getElem.1 hx
    exact h1 k hk
  · obtain ⟨k, hk, rfl⟩ := List.mem_iff_getElem.1 hx
    exact h2 k hk
end Wb
namespace Go.Proofs.YtjhmfljlclajnabDoor
open Go.RowKit Wb
set_option linter.unusedVariables false
set_option linter.unusedSimpArgs false
set_option maxRecDepth 100000
set_option maxHeartbeats 16000000
theorem idx3 (w : World) (o0 o1 o2 : Bool) (l0 l1 l2 : Int) :
    (Instr.index 28 (.agg #[.bool o0, .int .i64 l0, .bool o1, .int .i64 l1, .bool o2, .int .i64 l2]) (.int .i64 0)).run Tryd.prog w = .ok (.agg #[.bool o0, .int .i64 l0]) w ∧
    (Instr.index 28 (.agg #[.bool o0, .int .i64 l0, .bool o1, .int .i64 l1, .bool o2, .int .i64 l2]) (.int .i64 1)).run Tryd.prog w = .ok (.agg #[.bool o1, .int .i64 l1]) w ∧
    (Instr.index 28 (.agg #[.bool o0, .int .i64 l0, .bool o1, .int .i64 l1, .bool o2, .int .i64 l2]) (.int .i64 2)).run Tryd.prog w = .ok (.agg #[.bool o2, .int .i64 l2]) w :=
  ⟨by kernel_rfl, by kernel_rfl, by kernel_rfl⟩

theorem txn_Good (t : Txn) (v : Value) (w : World) (h : RTxn w v t) :
    Calls Tryd.prog 13 #[v] w fun e w' => e = .returned (.bool (goodT t)) ∧ Below w.heap.size w w' := by
  obtain ⟨vm, vd, vr, rfl, hm, hd, hr, n1, n2, n3⟩ := h
  obtain ⟨am, cm, rfl, _⟩ := hm.form
  obtain ⟨ad, cd, rfl, _⟩ := hd.form
  obtain ⟨ar, cr, rfl, _⟩ := hr.form
  have hng := fun hh => notGood' (t := t) hh
  have hyes := fun h1 h2 h3 h4 h5 h6 h7 h8 => (goodT_iff t).2 ⟨h1, h2, h3, h4, h5, h6, h7, h8⟩
  have hi3 := fun w => idx3 w t.h0.on t.h1.on t.h2.on t.h0.left t.h1.left t.h2.left
  have hCm := fun w' (nx : Below w.heap.size w w') => txn_copies t.mt _ w' (hm.below nx) n1
  have hCd := fun w' (nx : Below w.heap.size w w') => txn_copies t.dt _ w' (hd.below nx) n2
  have har := fun k hk hh => apart_rev (t := t) (k := k) hk hh
  have ham := fun k hk hh => apart_mt (t := t) (k := k) hk hh
  have hay := fun h1 h2 => apart_yes (t := t) h1 h2
  unfold txnV
  generalize goodT t = gT at *
  have k0 := Blk.new w #[.int .i64 t.seq, .slice am t.mt.length cm, .slice ad t.dt.length cd, .slice ar t.rev.length cr, .bool t.h0.on, .int .i64 t.h0.left, .bool t.h1.on, .int .i64 t.h1.left, .bool t.h2.on, .int .i64 t.h2.left] 30
  have nx := bal (b0 w) (.cells #[.int .i64 t.seq, .slice am t.mt.length cm, .slice ad t.dt.length cd, .slice ar t.rev.length cr, .bool t.h0.on, .int .i64 t.h0.left, .bool t.h1.on, .int .i64 t.h1.left, .bool t.h2.on, .int .i64 t.h2.left] 30)
  have e0 := k0.cell 0; have e1 := k0.cell 1; have e2 := k0.cell 2; have e3 := k0.cell 3; have e4 := k0.cell 4; have e5 := k0.cell 5; have e6 := k0.cell 6; have e7 := k0.cell 7; have e8 := k0.cell 8; have e9 := k0.cell 9; simp only [List.getElem?_toArray, List.getElem?_cons_zero, List.getElem?_cons_succ] at e0 e1 e2 e3 e4 e5 e6 e7 e8 e9; have l0 := k0.lt
  replace hm := hid hm; replace hd := hid hd; replace hr := hid hr; replace hng := hid hng; replace hyes := hid hyes; replace hi3 := hid hi3; replace har := hid har; replace ham := hid ham; replace hay := hid hay
  have COPM := hid hCm; have COPD := hid hCd
  clear hCm hCd
  by_cases hs1 : t.seq < 1
  · have hv := hid (hng.out (.inl (decide_eq_false (by omega))))
    go_enter Tryd.func13, Tryd.ntmps13
    go_wp2
    go_ret
    exact ⟨ret_b hv.out.symm, nx⟩
  by_cases hs2 : 2147483647 < t.seq
  · have hv := hid (hng.out (.inl (decide_eq_false (by omega))))
    go_enter Tryd.func13, Tryd.ntmps13
    go_wp2
    go_ret
    exact ⟨ret_b hv.out.symm, nx⟩
  have hsq : seqOk t.seq = true := decide_eq_true (by omega)
  cases hcm : copiesB t.mt with
  | false =>
    have hv := hid (hng.out (.inr (.inl hcm)))
    have C1 := COPM.out _ nx
    rw [hcm] at C1
    replace C1 := hid C1
    clear hcm
    go_enter Tryd.func13, Tryd.ntmps13
    go_wp2_with (go_at_call_of 47 (Value.slice am t.mt.length cm); go_loud ((with_reducible refine C1.out.mono ?_); rintro e w1 ⟨rfl, hb1⟩; replace nx := bgo nx hb1))
    go_ret
    exact ⟨ret_b hv.out.symm, nx⟩
  | true =>
  have C1 := COPM.out _ nx
  rw [hcm] at C1
  cases hcd : copiesB t.dt with
  | false =>
    have hv := hid (hng.out (.inr (.inr (.inl hcd))))
    have C2 := fun w' nx => COPD.out w' nx
    rw [hcd] at C2
    replace C1 := hid C1; replace C2 := hid C2
    clear hcm hcd
    go_enter Tryd.func13, Tryd.ntmps13
    go_wp2_with (go_at_call_of 47 (Value.slice am t.mt.length cm); go_loud ((with_reducible refine C1.out.mono ?_); rintro e w1 ⟨rfl, hb1⟩; replace k0 := k0.step hb1; replace nx := bgo nx hb1; clear e0 e1 e2 e3 e4 e5 e6 e7 e8 e9 l0; have e0 := k0.cell 0; have e1 := k0.cell 1; have e2 := k0.cell 2; have e3 := k0.cell 3; have e4 := k0.cell 4; have e5 := k0.cell 5; have e6 := k0.cell 6; have e7 := k0.cell 7; have e8 := k0.cell 8; have e9 := k0.cell 9; simp only [List.getElem?_toArray, List.getElem?_cons_zero, List.getElem?_cons_succ] at e0 e1 e2 e3 e4 e5 e6 e7 e8 e9; have l0 := k0.lt))
    go_wp2_with (go_at_call_of 47 (Value.slice ad t.dt.length cd); go_loud ((with_reducible refine (C2.out _ nx).mono ?_); rintro e w1 ⟨rfl, hb1⟩; replace nx := bgo nx hb1))
    go_ret
    exact ⟨ret_b hv.out.symm, nx⟩
  | true =>
  have C2 := fun w' nx => COPD.out w' nx
  rw [hcd] at C2
  replace C1 := hid C1; replace C2 := hid C2
  have hcm' := hid hcm; have hcd' := hid hcd
  have hcm : rise (blks t.mt) = true := by unfold copiesB at hcm; rw [Bool.and_eq_true] at hcm; exact hcm.1
  have hcd : rise (blks t.dt) = true := by unfold copiesB at hcd; rw [Bool.and_eq_true] at hcd; exact hcd.1
  replace hcm := hid hcm; replace hcd := hid hcd; replace hsq := hid hsq
  clear COPM COPD
  go_enter Tryd.func13, Tryd.ntmps13
  go_wp2_with (go_at_call_of 47 (Value.slice am t.mt.length cm); go_loud ((with_reducible refine C1.out.mono ?_); rintro e w1 ⟨rfl, hb1⟩; replace k0 := k0.step hb1; replace nx := bgo nx hb1; clear e0 e1 e2 e3 e4 e5 e6 e7 e8 e9 l0; have e0 := k0.cell 0; have e1 := k0.cell 1; have e2 := k0.cell 2; have e3 := k0.cell 3; have e4 := k0.cell 4; have e5 := k0.cell 5; have e6 := k0.cell 6; have e7 := k0.cell 7; have e8 := k0.cell 8; have e9 := k0.cell 9; simp only [List.getElem?_toArray, List.getElem?_cons_zero, List.getElem?_cons_succ] at e0 e1 e2 e3 e4 e5 e6 e7 e8 e9; have l0 := k0.lt))
  go_wp2_with (go_at_call_of 47 (Value.slice ad t.dt.length cd); go_loud ((with_reducible refine (C2.out _ nx).mono ?_); rintro e w2 ⟨rfl, hb2⟩; replace k0 := k0.step hb2; replace nx := bgo nx hb2; clear e0 e1 e2 e3 e4 e5 e6 e7 e8 e9 l0; have e0 := k0.cell 0; have e1 := k0.cell 1; have e2 := k0.cell 2; have e3 := k0.cell 3; have e4 := k0.cell 4; have e5 := k0.cell 5; have e6 := k0.cell 6; have e7 := k0.cell 7; have e8 := k0.cell 8; have e9 := k0.cell 9; simp only [List.getElem?_toArray, List.getElem?_cons_zero, List.getElem?_cons_succ] at e0 e1 e2 e3 e4 e5 e6 e7 e8 e9; have l0 := k0.lt))
  clear C1 C2 hb1 hb2
  go_loopw [3, 4, 32] (fun _ _ i wr => ∃ k : Nat, k ≤ t.rev.length ∧ i = .int .i64 k ∧ Hid (riseTo t.rev k) ∧ Hid (∀ j, j < k → ∀ (hj : j < t.rev.length), (!hasB t.mt t.rev[j] && !hasB t.dt t.rev[j]) = true) ∧ Blk wr w.heap.size #[.int .i64 t.seq, .slice am t.mt.length cm, .slice ad t.dt.length cd, .slice ar t.rev.length cr, .bool t.h0.on, .int .i64 t.h0.left, .bool t.h1.on, .int .i64 t.h1.left, .bool t.h2.on, .int .i64 t.h2.left] 30 ∧ Below w.heap.size w wr) (fun _ _ i _ => t.rev.length - (intOf i).toNat)
  case atStart => exact ⟨0, Nat.zero_le _, rfl, hid (fun j hj => absurd hj (Nat.not_lt_zero j)), hid (fun j hj => absurd hj (Nat.not_lt_zero j)), k0, nx⟩
  case round =>
    clear k0 nx e0 e1 e2 e3 e4 e5 e6 e7 e8 e9 l0
    obtain ⟨k, hk, rfl, hri, hap, k0, nx⟩ := hrel
    have e0 := k0.cell 0; have e1 := k0.cell 1; have e2 := k0.cell 2; have e3 := k0.cell 3; have e4 := k0.cell 4; have e5 := k0.cell 5; have e6 := k0.cell 6; have e7 := k0.cell 7; have e8 := k0.cell 8; have e9 := k0.cell 9; simp only [List.getElem?_toArray, List.getElem?_cons_zero, List.getElem?_cons_succ] at e0 e1 e2 e3 e4 e5 e6 e7 e8 e9; have l0 := k0.lt
    by_cases hlt : k < t.rev.length
    · obtain ⟨b1, o1, rfl, d0⟩ := RL.at1 (fun x => .int .i64 x) (fun _ => rfl) (hr.out.below nx) hlt
      have hgd : t.rev.getD k 0 = t.rev[k] := by simp [hlt]
      have hno := hid (show ¬ riseAt t.rev k → gT = false from fun hh => hng.out (.inr (.inr (.inr (.inl (rise_no hlt hh))))))
      have hnA := hid (show (!hasB t.mt t.rev[k] && !hasB t.dt t.rev[k]) = false → gT = false from fun hh => hng.out (.inr (.inr (.inr (.inr (.inl (har.out k hlt hh)))))))
      have hyA := hid (show (!hasB t.mt t.rev[k] && !hasB t.dt t.rev[k]) = true → ∀ j, j < k + 1 → ∀ (hj : j < t.rev.length), (!hasB t.mt t.rev[j] && !hasB t.dt t.rev[j]) = true from fun hh j hj hj2 => by
        by_cases e : j = k
        · subst e; exact hh
        · exact hap.out j (by omega) hj2)
      have hBk := txn_block t.rev[k]
      by_cases hb : isBlk t.rev[k] = true
      · have hb' := of_decide_eq_true hb
        have hBk := fun w => hBk w
        rw [hb] at hBk
        replace hBk := hid hBk
        rcases Nat.eq_zero_or_pos k with hk0 | hk0
        · subst hk0
          have hr1 := hid (riseTo_succ hri.out (show riseAt t.rev 0 from by unfold riseAt; rw [hgd]; exact ⟨hb'.1, hb'.2, fun h => absurd h (Nat.lt_irrefl 0)⟩))
          simp only [Nat.add_zero] at d0
          clear hno hgd hb hb' hri hap
          generalize t.rev[0] = x at *
          have hMb := hid (fun w' (nx : Below w.heap.size w w') => txn_has t.mt x _ w' hcm.out (hm.out.below nx) n1)
          have hDb := hid (fun w' (nx : Below w.heap.size w w') => txn_has t.dt x _ w' hcd.out (hd.out.below nx) n2)
          by_cases hh1 : hasB t.mt x = true
          · have hv := hid (hnA.out (by rw [hh1]; rfl))
            have hMb := hid (fun w' nx => by have := hMb.out w' nx; rwa [hh1] at this)
            clear hh1 hDb hnA hyA
            go_wp2_with (go_at_call 48; go_loud ((with_reducible refine (hBk.out _).mono ?_); rintro e w1 ⟨rfl, rfl⟩))
            go_wp2_with (go_at_call_of 49 (Value.slice am t.mt.length cm); go_loud ((with_reducible refine (hMb.out _ nx).mono ?_); rintro e w2 ⟨rfl, hb2⟩; replace k0 := k0.step hb2; replace nx := bgo nx hb2; clear e0 e1 e2 e3 e4 e5 e6 e7 e8 e9 l0; have e0 := k0.cell 0; have e1 := k0.cell 1; have e2 := k0.cell 2; have e3 := k0.cell 3; have e4 := k0.cell 4; have e5 := k0.cell 5; have e6 := k0.cell 6; have e7 := k0.cell 7; have e8 := k0.cell 8; have e9 := k0.cell 9; simp only [List.getElem?_toArray, List.getElem?_cons_zero, List.getElem?_cons_succ] at e0 e1 e2 e3 e4 e5 e6 e7 e8 e9; have l0 := k0.lt))
            go_ret
            exact ⟨ret_b hv.out.symm, nx⟩
          · rw [Bool.not_eq_true] at hh1
            have hMb := hid (fun w' nx => by have := hMb.out w' nx; rwa [hh1] at this)
            by_cases hh2 : hasB t.dt x = true
            · have hv := hid (hnA.out (by rw [hh1, hh2]; rfl))
              have hDb := hid (fun w' nx => by have := hDb.out w' nx; rwa [hh2] at this)
              clear hh1 hh2 hnA hyA
              go_wp2_with (go_at_call 48; go_loud ((with_reducible refine (hBk.out _).mono ?_); rintro e w1 ⟨rfl, rfl⟩))
              go_wp2_with (go_at_call_of 49 (Value.slice am t.mt.length cm); go_loud ((with_reducible refine (hMb.out _ nx).mono ?_); rintro e w2 ⟨rfl, hb2⟩; replace k0 := k0.step hb2; replace nx := bgo nx hb2; clear e0 e1 e2 e3 e4 e5 e6 e7 e8 e9 l0; have e0 := k0.cell 0; have e1 := k0.cell 1; have e2 := k0.cell 2; have e3 := k0.cell 3; have e4 := k0.cell 4; have e5 := k0.cell 5; have e6 := k0.cell 6; have e7 := k0.cell 7; have e8 := k0.cell 8; have e9 := k0.cell 9; simp only [List.getElem?_toArray, List.getElem?_cons_zero, List.getElem?_cons_succ] at e0 e1 e2 e3 e4 e5 e6 e7 e8 e9; have l0 := k0.lt))
              go_wp2_with (go_at_call_of 49 (Value.slice ad t.dt.length cd); go_loud ((with_reducible refine (hDb.out _ nx).mono ?_); rintro e w2 ⟨rfl, hb2⟩; replace k0 := k0.step hb2; replace nx := bgo nx hb2; clear e0 e1 e2 e3 e4 e5 e6 e7 e8 e9 l0; have e0 := k0.cell 0; have e1 := k0.cell 1; have e2 := k0.cell 2; have e3 := k0.cell 3; have e4 := k0.cell 4; have e5 := k0.cell 5; have e6 := k0.cell 6; have e7 := k0.cell 7; have e8 := k0.cell 8; have e9 := k0.cell 9; simp only [List.getElem?_toArray, List.getElem?_cons_zero, List.getElem?_cons_succ] at e0 e1 e2 e3 e4 e5 e6 e7 e8 e9; have l0 := k0.lt))
              go_ret
              exact ⟨ret_b hv.out.symm, nx⟩
            · rw [Bool.not_eq_true] at hh2
              have hDb := hid (fun w' nx => by have := hDb.out w' nx; rwa [hh2] at this)
              have hy := hid (hyA.out (by rw [hh1, hh2]; rfl))
              clear hh1 hh2 hnA hyA
              go_wp2_with (go_at_call 48; go_loud ((with_reducible refine (hBk.out _).mono ?_); rintro e w1 ⟨rfl, rfl⟩))
              go_wp2_with (go_at_call_of 49 (Value.slice am t.mt.length cm); go_loud ((with_reducible refine (hMb.out _ nx).mono ?_); rintro e w2 ⟨rfl, hb2⟩; replace k0 := k0.step hb2; replace nx := bgo nx hb2; clear e0 e1 e2 e3 e4 e5 e6 e7 e8 e9 l0; have e0 := k0.cell 0; have e1 := k0.cell 1; have e2 := k0.cell 2; have e3 := k0.cell 3; have e4 := k0.cell 4; have e5 := k0.cell 5; have e6 := k0.cell 6; have e7 := k0.cell 7; have e8 := k0.cell 8; have e9 := k0.cell 9; simp only [List.getElem?_toArray, List.getElem?_cons_zero, List.getElem?_cons_succ] at e0 e1 e2 e3 e4 e5 e6 e7 e8 e9; have l0 := k0.lt))
              go_wp2_with (go_at_call_of 49 (Value.slice ad t.dt.length cd); go_loud ((with_reducible refine (hDb.out _ nx).mono ?_); rintro e w2 ⟨rfl, hb2⟩; replace k0 := k0.step hb2; replace nx := bgo nx hb2; clear e0 e1 e2 e3 e4 e5 e6 e7 e8 e9 l0; have e0 := k0.cell 0; have e1 := k0.cell 1; have e2 := k0.cell 2; have e3 := k0.cell 3; have e4 := k0.cell 4; have e5 := k0.cell 5; have e6 := k0.cell 6; have e7 := k0.cell 7; have e8 := k0.cell 8; have e9 := k0.cell 9; simp only [List.getElem?_toArray, List.getElem?_cons_zero, List.getElem?_cons_succ] at e0 e1 e2 e3 e4 e5 e6 e7 e8 e9; have l0 := k0.lt))
              go_roundw
              case rel => exact ⟨0 + 1, by omega, by go_num, hr1, hy, k0, nx⟩
              case measure => simp [intOf]; omega
        · obtain ⟨j, rfl⟩ : ∃ j, k = j + 1 := ⟨k - 1, by omega⟩
          have hlj : j < t.rev.length := by omega
          obtain ⟨b2, off2, hbb, d2⟩ := RL.at1 (fun x => .int .i64 x) (fun _ => rfl) (hr.out.below nx) hlj
          simp only [Option.some.injEq, Addr.mk.injEq] at hbb
          obtain ⟨rfl, rfl, _⟩ := hbb
          have hgj : t.rev.getD j 0 = t.rev[j] := by simp [hlj]
          have hiff : riseAt t.rev (j + 1) ↔ t.rev[j] < t.rev[j + 1] := by
            unfold riseAt
            rw [hgd, Nat.add_sub_cancel, hgj]
            exact ⟨fun h => h.2.2 (by omega), fun h => ⟨hb'.1, hb'.2, fun _ => h⟩⟩
          by_cases hlt2 : t.rev[j] < t.rev[j + 1]
          · have hr1 := hid (riseTo_succ hri.out (hiff.2 hlt2))
            clear hno hgd hgj hb hb' hri hap hiff
            generalize t.rev[j + 1] = x at *
            generalize t.rev[j] = y at *
            have hMb := hid (fun w' (nx : Below w.heap.size w w') => txn_has t.mt x _ w' hcm.out (hm.out.below nx) n1)
            have hDb := hid (fun w' (nx : Below w.heap.size w w') => txn_has t.dt x _ w' hcd.out (hd.out.below nx) n2)
            by_cases hh1 : hasB t.mt x = true
            · have hv := hid (hnA.out (by rw [hh1]; rfl))
              have hMb := hid (fun w' nx => by have := hMb.out w' nx; rwa [hh1] at this)
              clear hh1 hDb hnA hyA
              go_wp2_with (go_at_call 48; go_loud ((with_reducible refine (hBk.out _).mono ?_); rintro e w1 ⟨rfl, rfl⟩))
              go_wp2_with (go_at_call_of 49 (Value.slice am t.mt.length cm); go_loud ((with_reducible refine (hMb.out _ nx).mono ?_); rintro e w2 ⟨rfl, hb2⟩; replace k0 := k0.step hb2; replace nx := bgo nx hb2; clear e0 e1 e2 e3 e4 e5 e6 e7 e8 e9 l0; have e0 := k0.cell 0; have e1 := k0.cell 1; have e2 := k0.cell 2; have e3 := k0.cell 3; have e4 := k0.cell 4; have e5 := k0.cell 5; have e6 := k0.cell 6; have e7 := k0.cell 7; have e8 := k0.cell 8; have e9 := k0.cell 9; simp only [List.getElem?_toArray, List.getElem?_cons_zero, List.getElem?_cons_succ] at e0 e1 e2 e3 e4 e5 e6 e7 e8 e9; have l0 := k0.lt))
              go_ret
              exact ⟨ret_b hv.out.symm, nx⟩
            · rw [Bool.not_eq_true] at hh1
              have hMb := hid (fun w' nx => by have := hMb.out w' nx; rwa [hh1] at this)
              by_cases hh2 : hasB t.dt x = true
              · have hv := hid (hnA.out (by rw [hh1, hh2]; rfl))
                have hDb := hid (fun w' nx => by have := hDb.out w' nx; rwa [hh2] at this)
                clear hh1 hh2 hnA hyA
                go_wp2_with (go_at_call 48; go_loud ((with_reducible refine (hBk.out _).mono ?_); rintro e w1 ⟨rfl, rfl⟩))
                go_wp2_with (go_at_call_of 49 (Value.slice am t.mt.length cm); go_loud ((with_reducible refine (hMb.out _ nx).mono ?_); rintro e w2 ⟨rfl, hb2⟩; replace k0 := k0.step hb2; replace nx := bgo nx hb2; clear e0 e1 e2 e3 e4 e5 e6 e7 e8 e9 l0; have e0 := k0.cell 0; have e1 := k0.cell 1; have e2 := k0.cell 2; have e3 := k0.cell 3; have e4 := k0.cell 4; have e5 := k0.cell 5; have e6 := k0.cell 6; have e7 := k0.cell 7; have e8 := k0.cell 8; have e9 := k0.cell 9; simp only [List.getElem?_toArray, List.getElem?_cons_zero, List.getElem?_cons_succ] at e0 e1 e2 e3 e4 e5 e6 e7 e8 e9; have l0 := k0.lt))
                go_wp2_with (go_at_call_of 49 (Value.slice ad t.dt.length cd); go_loud ((with_reducible refine (hDb.out _ nx).mono ?_); rintro e w2 ⟨rfl, hb2⟩; replace k0 := k0.step hb2; replace nx := bgo nx hb2; clear e0 e1 e2 e3 e4 e5 e6 e7 e8 e9 l0; have e0 := k0.cell 0; have e1 := k0.cell 1; have e2 := k0.cell 2; have e3 := k0.cell 3; have e4 := k0.cell 4; have e5 := k0.cell 5; have e6 := k0.cell 6; have e7 := k0.cell 7; have e8 := k0.cell 8; have e9 := k0.cell 9; simp only [List.getElem?_toArray, List.getElem?_cons_zero, List.getElem?_cons_succ] at e0 e1 e2 e3 e4 e5 e6 e7 e8 e9; have l0 := k0.lt))
                go_ret
                exact ⟨ret_b hv.out.symm, nx⟩
              · rw [Bool.not_eq_true] at hh2
                have hDb := hid (fun w' nx => by have := hDb.out w' nx; rwa [hh2] at this)
                have hy := hid (hyA.out (by rw [hh1, hh2]; rfl))
                clear hh1 hh2 hnA hyA
                go_wp2_with (go_at_call 48; go_loud ((with_reducible refine (hBk.out _).mono ?_); rintro e w1 ⟨rfl, rfl⟩))
                go_wp2_with (go_at_call_of 49 (Value.slice am t.mt.length cm); go_loud ((with_reducible refine (hMb.out _ nx).mono ?_); rintro e w2 ⟨rfl, hb2⟩; replace k0 := k0.step hb2; replace nx := bgo nx hb2; clear e0 e1 e2 e3 e4 e5 e6 e7 e8 e9 l0; have e0 := k0.cell 0; have e1 := k0.cell 1; have e2 := k0.cell 2; have e3 := k0.cell 3; have e4 := k0.cell 4; have e5 := k0.cell 5; have e6 := k0.cell 6; have e7 := k0.cell 7; have e8 := k0.cell 8; have e9 := k0.cell 9; simp only [List.getElem?_toArray, List.getElem?_cons_zero, List.getElem?_cons_succ] at e0 e1 e2 e3 e4 e5 e6 e7 e8 e9; have l0 := k0.lt))
                go_wp2_with (go_at_call_of 49 (Value.slice ad t.dt.length cd); go_loud ((with_reducible refine (hDb.out _ nx).mono ?_); rintro e w2 ⟨rfl, hb2⟩; replace k0 := k0.step hb2; replace nx := bgo nx hb2; clear e0 e1 e2 e3 e4 e5 e6 e7 e8 e9 l0; have e0 := k0.cell 0; have e1 := k0.cell 1; have e2 := k0.cell 2; have e3 := k0.cell 3; have e4 := k0.cell 4; have e5 := k0.cell 5; have e6 := k0.cell 6; have e7 := k0.cell 7; have e8 := k0.cell 8; have e9 := k0.cell 9; simp only [List.getElem?_toArray, List.getElem?_cons_zero, List.getElem?_cons_succ] at e0 e1 e2 e3 e4 e5 e6 e7 e8 e9; have l0 := k0.lt))
                go_roundw
                case rel => exact ⟨j + 1 + 1, by omega, by go_num, hr1, hy, k0, nx⟩
                case measure => simp [intOf]; omega
          · have hv := hid (hno.out (fun hh => hlt2 (hiff.1 hh)))
            clear hno hgd hgj hb hb' hri hap hiff hnA hyA
            generalize t.rev[j + 1] = x at *
            generalize t.rev[j] = y at *
            go_wp2_with (go_at_call 48; go_loud ((with_reducible refine (hBk.out _).mono ?_); rintro e w1 ⟨rfl, rfl⟩))
            go_ret
            exact ⟨ret_b hv.out.symm, nx⟩
      · have hv := hid (hno.out (fun hh => hb (by
          unfold riseAt at hh
          rw [hgd] at hh
          exact decide_eq_true ⟨hh.1, hh.2.1⟩)))
        rw [Bool.not_eq_true] at hb
        have hBk := fun w => hBk w
        rw [hb] at hBk
        replace hBk := hid hBk
        clear hno hgd hb hri hap hnA hyA
        generalize t.rev[k] = x at *
        go_wp2_with (go_at_call 48; go_loud ((with_reducible refine (hBk.out _).mono ?_); rintro e w1 ⟨rfl, rfl⟩))
        go_ret
        exact ⟨ret_b hv.out.symm, nx⟩
    · obtain rfl : k = t.rev.length := by omega
      have hrise := hid ((rise_iff t.rev).2 hri.out)
      have hapr := hid (show ∀ j (hj : j < t.rev.length), (!hasB t.mt t.rev[j] && !hasB t.dt t.rev[j]) = true from fun j hj => hap.out j hj hj)
      clear hri hap
      go_wp2
      go_loopw [6, 70] (fun _ i wr => ∃ k : Nat, k ≤ t.mt.length ∧ i = .int .i64 k ∧ Hid (∀ j, j < k → ∀ (hj : j < t.mt.length), (!hasB t.dt t.mt[j].block) = true) ∧ Blk wr w.heap.size #[.int .i64 t.seq, .slice am t.mt.length cm, .slice ad t.dt.length cd, .slice ar t.rev.length cr, .bool t.h0.on, .int .i64 t.h0.left, .bool t.h1.on, .int .i64 t.h1.left, .bool t.h2.on, .int .i64 t.h2.left] 30 ∧ Below w.heap.size w wr) (fun _ i _ => t.mt.length - (intOf i).toNat)
      case atStart => exact ⟨0, Nat.zero_le _, rfl, hid (fun j hj => absurd hj (Nat.not_lt_zero j)), k0, nx⟩
      case round =>
        clear k0 nx e0 e1 e2 e3 e4 e5 e6 e7 e8 e9 l0
        obtain ⟨k, hk, rfl, hap, k0, nx⟩ := hrel
        have e0 := k0.cell 0; have e1 := k0.cell 1; have e2 := k0.cell 2; have e3 := k0.cell 3; have e4 := k0.cell 4; have e5 := k0.cell 5; have e6 := k0.cell 6; have e7 := k0.cell 7; have e8 := k0.cell 8; have e9 := k0.cell 9; simp only [List.getElem?_toArray, List.getElem?_cons_zero, List.getElem?_cons_succ] at e0 e1 e2 e3 e4 e5 e6 e7 e8 e9; have l0 := k0.lt
        by_cases hlt : k < t.mt.length
        · obtain ⟨b1, o1, rfl, d0, d1⟩ := RL.at2 (fun x => .int .i64 x.block) (fun x => .string x.text) (fun _ => rfl) (hm.out.below nx) hlt
          have hnA := hid (show (!hasB t.dt t.mt[k].block) = false → gT = false from fun hh => hng.out (.inr (.inr (.inr (.inr (.inl (ham.out k hlt hh)))))))
          have hyA := hid (show (!hasB t.dt t.mt[k].block) = true → ∀ j, j < k + 1 → ∀ (hj : j < t.mt.length), (!hasB t.dt t.mt[j].block) = true from fun hh j hj hj2 => by
            by_cases e : j = k
            · subst e; exact hh
            · exact hap.out j (by omega) hj2)
          generalize t.mt[k] = c at *
          obtain ⟨x, ct⟩ := c
          dsimp only at *
          have hDb := hid (fun w' (nx : Below w.heap.size w w') => txn_has t.dt x _ w' hcd.out (hd.out.below nx) n2)
          replace k0 := k0.alloc (.cells #[.int .i64 x, .string ct] 74)
          have nx' := nx
          replace nx := bal nx (.cells #[.int .i64 x, .string ct] 74)
          clear e0 e1 e2 e3 e4 e5 e6 e7 e8 e9 l0; have e0 := k0.cell 0; have e1 := k0.cell 1; have e2 := k0.cell 2; have e3 := k0.cell 3; have e4 := k0.cell 4; have e5 := k0.cell 5; have e6 := k0.cell 6; have e7 := k0.cell 7; have e8 := k0.cell 8; have e9 := k0.cell 9; simp only [List.getElem?_toArray, List.getElem?_cons_zero, List.getElem?_cons_succ] at e0 e1 e2 e3 e4 e5 e6 e7 e8 e9; have l0 := k0.lt
          have kx := Blk.new wr #[.int .i64 x, .string ct] 74
          have x0 := kx.cell 0
          simp only [List.getElem?_toArray, List.getElem?_cons_zero, List.getElem?_cons_succ] at x0
          by_cases hh2 : hasB t.dt x = true
          · have hv := hid (hnA.out (by rw [hh2]; rfl))
            have hDb := hid (fun w' nx => by have := hDb.out w' nx; rwa [hh2] at this)
            clear hh2 hnA hyA hap
            go_wp2_with (go_at_call_of 49 (Value.slice ad t.dt.length cd); go_loud ((with_reducible refine (hDb.out _ nx).mono ?_); rintro e w2 ⟨rfl, hb2⟩; replace k0 := k0.step hb2; replace nx := bgo nx hb2; clear e0 e1 e2 e3 e4 e5 e6 e7 e8 e9 l0; have e0 := k0.cell 0; have e1 := k0.cell 1; have e2 := k0.cell 2; have e3 := k0.cell 3; have e4 := k0.cell 4; have e5 := k0.cell 5; have e6 := k0.cell 6; have e7 := k0.cell 7; have e8 := k0.cell 8; have e9 := k0.cell 9; simp only [List.getElem?_toArray, List.getElem?_cons_zero, List.getElem?_cons_succ] at e0 e1 e2 e3 e4 e5 e6 e7 e8 e9; have l0 := k0.lt))
            go_ret
            exact ⟨ret_b hv.out.symm, nx⟩
          · rw [Bool.not_eq_true] at hh2
            have hDb := hid (fun w' nx => by have := hDb.out w' nx; rwa [hh2] at this)
            have hy := hid (hyA.out (by rw [hh2]; rfl))
            clear hh2 hnA hyA hap
            go_wp2_with (go_at_call_of 49 (Value.slice ad t.dt.length cd); go_loud ((with_reducible refine (hDb.out _ nx).mono ?_); rintro e w2 ⟨rfl, hb2⟩; replace k0 := k0.step hb2; replace nx := bgo nx hb2; clear e0 e1 e2 e3 e4 e5 e6 e7 e8 e9 l0; have e0 := k0.cell 0; have e1 := k0.cell 1; have e2 := k0.cell 2; have e3 := k0.cell 3; have e4 := k0.cell 4; have e5 := k0.cell 5; have e6 := k0.cell 6; have e7 := k0.cell 7; have e8 := k0.cell 8; have e9 := k0.cell 9; simp only [List.getElem?_toArray, List.getElem?_cons_zero, List.getElem?_cons_succ] at e0 e1 e2 e3 e4 e5 e6 e7 e8 e9; have l0 := k0.lt))
            go_roundw
            case rel => first | exact ⟨k + 1, by omega, by go_num, hy, k0, nx⟩ | ((repeat apply Exists.intro); refine ⟨⟨k + 1, by omega, ?_, hy, k0, nx⟩, rfl⟩; go_num)
            case measure => simp [intOf]; omega
        · obtain rfl : k = t.mt.length := by omega
          have hapm := hid (hay.out hapr.out (fun j hj => hap.out j hj hj))
          clear hap hapr
          go_wp2
          go_loopw [8, 82] (fun _ i wr => ∃ k : Nat, k ≤ 3 ∧ i = .int .i64 k ∧ Hid (∀ j, j < k → (if j = 0 then hOk t.h0 else if j = 1 then hOk t.h1 else hOk t.h2) = true) ∧ Blk wr w.heap.size #[.int .i64 t.seq, .slice am t.mt.length cm, .slice ad t.dt.length cd, .slice ar t.rev.length cr, .bool t.h0.on, .int .i64 t.h0.left, .bool t.h1.on, .int .i64 t.h1.left, .bool t.h2.on, .int .i64 t.h2.left] 30 ∧ Below w.heap.size w wr) (fun _ i _ => 3 - (intOf i).toNat)
          case atStart => exact ⟨0, by decide, rfl, hid (fun j hj => absurd hj (Nat.not_lt_zero j)), k0, nx⟩
          case round =>
            clear k0 nx e0 e1 e2 e3 e4 e5 e6 e7 e8 e9 l0
            obtain ⟨k, hk, rfl, hall, k0, nx⟩ := hrel
            have l0 := k0.lt
            by_cases hlt : k < 3
            · obtain (rfl | rfl | rfl) : k = 0 ∨ k = 1 ∨ k = 2 := by omega
              · have hi := hi3.out wr
                replace hi := hi.1
                have hof := hOk_iff' t.h0
                have hnh := fun hh => hng.out (.inr (.inr (.inr (.inr (.inr (.inl hh))))))
                generalize t.h0.on = o at *
                generalize hle : t.h0.left = lf at *
                replace hnh := hid hnh; replace hle := hid hle
                by_cases hoo : hOk t.h0 = true
                · obtain ⟨a1, a2, a3⟩ := hof.1 hoo
                  have hoo2 := hid hoo
                  have hall2 := hid (show ∀ j, j < 0 + 1 → (if j = 0 then hOk t.h0 else if j = 1 then hOk t.h1 else hOk t.h2) = true from by
                    intro j hj
                    by_cases e : j = 0
                    · subst e; exact hoo2.out
                    · exact hall.out j (by omega))
                  clear hof hoo
                  by_cases hz : lf = 0
                  · subst hz
                    cases o
                    · go_wp2
                      go_roundw
                      case rel => first | exact ⟨0 + 1, by decide, rfl, hall2, k0.alloc _, bal nx _⟩ | ((repeat apply Exists.intro); exact ⟨⟨0 + 1, by decide, rfl, hall2, k0.alloc _, bal nx _⟩, rfl⟩)
                      case measure => simp [intOf]
                    · go_wp2
                      go_roundw
                      case rel => first | exact ⟨0 + 1, by decide, rfl, hall2, k0.alloc _, bal nx _⟩ | ((repeat apply Exists.intro); exact ⟨⟨0 + 1, by decide, rfl, hall2, k0.alloc _, bal nx _⟩, rfl⟩)
                      case measure => simp [intOf]
                  · have ho : o = true := a3.resolve_right hz
                    have hz2 : 0 < lf := by omega
                    subst ho
                    clear hz a3
                    go_wp2
                    go_roundw
                    case rel => first | exact ⟨0 + 1, by decide, rfl, hall2, k0.alloc _, bal nx _⟩ | ((repeat apply Exists.intro); exact ⟨⟨0 + 1, by decide, rfl, hall2, k0.alloc _, bal nx _⟩, rfl⟩)
                    case measure => simp [intOf]
                · replace hoo : hOk t.h0 = false := by simpa using hoo
                  have hgf := hid (hnh.out hoo)
                  have hof2 : ¬ (0 ≤ lf ∧ lf ≤ 24 ∧ (o = true ∨ lf = 0)) := fun h => by rw [hof.2 h] at hoo; cases hoo
                  clear hof hoo
                  by_cases q1 : lf < 0
                  · clear hof2
                    go_wp2
                    go_ret
                    exact ⟨ret_b hgf.out.symm, bal nx _⟩
                  · by_cases q2 : 24 < lf
                    · clear hof2
                      go_wp2
                      go_ret
                      exact ⟨ret_b hgf.out.symm, bal nx _⟩
                    · have q3 : (lf != 0) = true := bne_iff_ne.2 (fun hz => hof2 ⟨by omega, by omega, .inr hz⟩)
                      have q4 : o = false := by
                        cases o
                        · rfl
                        · exact absurd ⟨by omega, by omega, .inl rfl⟩ hof2
                      subst q4
                      clear hof2
                      go_wp2
                      go_ret
                      exact ⟨ret_b hgf.out.symm, bal nx _⟩
              · have hi := hi3.out wr
                replace hi := hi.2.1
                have hof := hOk_iff' t.h1
                have hnh := fun hh => hng.out (.inr (.inr (.inr (.inr (.inr (.inr (.inl hh)))))))
                generalize t.h1.on = o at *
                generalize hle : t.h1.left = lf at *
                replace hnh := hid hnh; replace hle := hid hle
                by_cases hoo : hOk t.h1 = true
                · obtain ⟨a1, a2, a3⟩ := hof.1 hoo
                  have hoo2 := hid hoo
                  have hall2 := hid (show ∀ j, j < 1 + 1 → (if j = 0 then hOk t.h0 else if j = 1 then hOk t.h1 else hOk t.h2) = true from by
                    intro j hj
                    by_cases e : j = 1
                    · subst e; exact hoo2.out
                    · exact hall.out j (by omega))
                  clear hof hoo
                  by_cases hz : lf = 0
                  · subst hz
                    cases o
                    · go_wp2
                      go_roundw
                      case rel => first | exact ⟨1 + 1, by decide, rfl, hall2, k0.alloc _, bal nx _⟩ | ((repeat apply Exists.intro); exact ⟨⟨1 + 1, by decide, rfl, hall2, k0.alloc _, bal nx _⟩, rfl⟩)
                      case measure => simp [intOf]
                    · go_wp2
                      go_roundw
                      case rel => first | exact ⟨1 + 1, by decide, rfl, hall2, k0.alloc _, bal nx _⟩ | ((repeat apply Exists.intro); exact ⟨⟨1 + 1, by decide, rfl, hall2, k0.alloc _, bal nx _⟩, rfl⟩)
                      case measure => simp [intOf]
                  · have ho : o = true := a3.resolve_right hz
                    have hz2 : 0 < lf := by omega
                    subst ho
                    clear hz a3
                    go_wp2
                    go_roundw
                    case rel => first | exact ⟨1 + 1, by decide, rfl, hall2, k0.alloc _, bal nx _⟩ | ((repeat apply Exists.intro); exact ⟨⟨1 + 1, by decide, rfl, hall2, k0.alloc _, bal nx _⟩, rfl⟩)
                    case measure => simp [intOf]
                · replace hoo : hOk t.h1 = false := by simpa using hoo
                  have hgf := hid (hnh.out hoo)
                  have hof2 : ¬ (0 ≤ lf ∧ lf ≤ 24 ∧ (o = true ∨ lf = 0)) := fun h => by rw [hof.2 h] at hoo; cases hoo
                  clear hof hoo
                  by_cases q1 : lf < 0
                  · clear hof2
                    go_wp2
                    go_ret
                    exact ⟨ret_b hgf.out.symm, bal nx _⟩
                  · by_cases q2 : 24 < lf
                    · clear hof2
                      go_wp2
                      go_ret
                      exact ⟨ret_b hgf.out.symm, bal nx _⟩
                    · have q3 : (lf != 0) = true := bne_iff_ne.2 (fun hz => hof2 ⟨by omega, by omega, .inr hz⟩)
                      have q4 : o = false := by
                        cases o
                        · rfl
                        · exact absurd ⟨by omega, by omega, .inl rfl⟩ hof2
                      subst q4
                      clear hof2
                      go_wp2
                      go_ret
                      exact ⟨ret_b hgf.out.symm, bal nx _⟩
              · have hi := hi3.out wr
                replace hi := hi.2.2
                have hof := hOk_iff' t.h2
                have hnh := fun hh => hng.out (.inr (.inr (.inr (.inr (.inr (.inr (.inr hh)))))))
                generalize t.h2.on = o at *
                generalize hle : t.h2.left = lf at *
                replace hnh := hid hnh; replace hle := hid hle
                by_cases hoo : hOk t.h2 = true
                · obtain ⟨a1, a2, a3⟩ := hof.1 hoo
                  have hoo2 := hid hoo
                  have hall2 := hid (show ∀ j, j < 2 + 1 → (if j = 0 then hOk t.h0 else if j = 1 then hOk t.h1 else hOk t.h2) = true from by
                    intro j hj
                    by_cases e : j = 2
                    · subst e; exact hoo2.out
                    · exact hall.out j (by omega))
                  clear hof hoo
                  by_cases hz : lf = 0
                  · subst hz
                    cases o
                    · go_wp2
                      go_roundw
                      case rel => first | exact ⟨2 + 1, by decide, rfl, hall2, k0.alloc _, bal nx _⟩ | ((repeat apply Exists.intro); exact ⟨⟨2 + 1, by decide, rfl, hall2, k0.alloc _, bal nx _⟩, rfl⟩)
                      case measure => simp [intOf]
                    · go_wp2
                      go_roundw
                      case rel => first | exact ⟨2 + 1, by decide, rfl, hall2, k0.alloc _, bal nx _⟩ | ((repeat apply Exists.intro); exact ⟨⟨2 + 1, by decide, rfl, hall2, k0.alloc _, bal nx _⟩, rfl⟩)
                      case measure => simp [intOf]
                  · have ho : o = true := a3.resolve_right hz
                    have hz2 : 0 < lf := by omega
                    subst ho
                    clear hz a3
                    go_wp2
                    go_roundw
                    case rel => first | exact ⟨2 + 1, by decide, rfl, hall2, k0.alloc _, bal nx _⟩ | ((repeat apply Exists.intro); exact ⟨⟨2 + 1, by decide, rfl, hall2, k0.alloc _, bal nx _⟩, rfl⟩)
                    case measure => simp [intOf]
                · replace hoo : hOk t.h2 = false := by simpa using hoo
                  have hgf := hid (hnh.out hoo)
                  have hof2 : ¬ (0 ≤ lf ∧ lf ≤ 24 ∧ (o = true ∨ lf = 0)) := fun h => by rw [hof.2 h] at hoo; cases hoo
                  clear hof hoo
                  by_cases q1 : lf < 0
                  · clear hof2
                    go_wp2
                    go_ret
                    exact ⟨ret_b hgf.out.symm, bal nx _⟩
                  · by_cases q2 : 24 < lf
                    · clear hof2
                      go_wp2
                      go_ret
                      exact ⟨ret_b hgf.out.symm, bal nx _⟩
                    · have q3 : (lf != 0) = true := bne_iff_ne.2 (fun hz => hof2 ⟨by omega, by omega, .inr hz⟩)
                      have q4 : o = false := by
                        cases o
                        · rfl
                        · exact absurd ⟨by omega, by omega, .inl rfl⟩ hof2
                      subst q4
                      clear hof2
                      go_wp2
                      go_ret
                      exact ⟨ret_b hgf.out.symm, bal nx _⟩
            · obtain rfl : k = 3 := by omega
              have hv := hid (hyes.out hsq.out hcm'.out hcd'.out hrise.out hapm.out (hall.out 0 (by decide)) (hall.out 1 (by decide)) (hall.out 2 (by decide)))
              clear hall
              go_wp2
              go_ret
              exact ⟨ret_b hv.out.symm, nx⟩
end Go.Proofs.YtjhmfljlclajnabDoor

namespace Wb
open Go Go.RowKit
theorem w64 (x : Int) : RowKit.wrap64 x = IntKind.i64.wrap x := by
  first
    | rfl
    | (unfold RowKit.wrap64; rw [IntKind.wrap_i64])
    | (unfold RowKit.wrap64; simp [IntKind.wrap, IntKind.bits, IntKind.signed])
def askP (t : Txn) : Nat → Int
  | 0 => ((t.mt.length + t.rev.length : Nat) : Int)
  | 1 => IntKind.i64.wrap (((t.mt.length + t.rev.length : Nat) : Int) + t.h0.left)
  | 2 => IntKind.i64.wrap (IntKind.i64.wrap (((t.mt.length + t.rev.length : Nat) : Int) + t.h0.left) + t.h1.left)
  | _ => askedI t
end Wb
namespace Go.Proofs.YtjhmfljlclajnabDoor
open Go.RowKit Wb
set_option linter.unusedVariables false
set_option linter.unusedSimpArgs false
set_option maxRecDepth 100000
set_option maxHeartbeats 4000000
end Go.Proofs.YtjhmfljlclajnabDoor

namespace Wb
open Go Go.RowKit
theorem any_hit {l : List Hnd} {k : Nat} (hk : k < l.length) (h : l[k].on = true) : l.any (·.on) = true := List.any_eq_true.2 ⟨_, List.getElem_mem hk, h⟩
theorem any_step {l : List Hnd} {k : Nat} (hk : k < l.length) (h0 : (l.take k).any (·.on) = false) (h : l[k].on = false) : (l.take (k + 1)).any (·.on) = false := by
  rw [List.take_succ_eq_append_getElem hk, List.any_append, h0]
  simp [h]
theorem any_full {l : List Hnd} {k : Nat} (hk : ¬ k < l.length) (h0 : (l.take k).any (·.on) = false) : l.any (·.on) = false := by
  rw [List.take_of_length_le (by omega)] at h0; exact h0
theorem hnds_RL {w : World} {b : Nat} {t : TypeId} {x0 x1 x2 x3 : Value} (p q r : Hnd) (h : Blk w b #[x0, x1, x2, x3, .bool p.on, .int .i64 p.left, .bool q.on, .int .i64 q.left, .bool r.on, .int .i64 r.left] t) : RL hndC w (.slice (some ⟨b, 4, none⟩) 3 3) [p, q, r] := by
  refine ⟨_, _, rfl, Nat.le_refl _, by unfold maxLen; omega, .inr ⟨_, _, rfl, fun j u hj => ?_⟩⟩
  rw [h.cell]
  rw [← hj]
  have hl : j < 6 := by
    have := (List.getElem?_eq_some_iff.1 hj).1
    simpa [hndC] using this
  obtain (rfl | rfl | rfl | rfl | rfl | rfl) : j = 0 ∨ j = 1 ∨ j = 2 ∨ j = 3 ∨ j = 4 ∨ j = 5 := by omega
  all_goals rfl
end Wb
namespace Go.Proofs.YtjhmfljlclajnabDoor
open Go.RowKit Wb
set_option linter.unusedVariables false
set_option linter.unusedSimpArgs false
set_option maxRecDepth 100000
set_option maxHeartbeats 4000000
theorem txn_Open1 (h : Hnd) (w : World) : Calls Tryd.prog 64 #[.agg #[.bool h.on, .int .i64 h.left]] w fun e w' => e = .returned (.bool h.on) ∧ Below w.heap.size w w' := by
  have k0 := Blk.new w #[.bool h.on, .int .i64 h.left] 27
  have c0 := k0.cell 0; have c1 := k0.cell 1
  simp only [List.getElem?_toArray, List.getElem?_cons_zero, List.getElem?_cons_succ] at c0 c1
  go_enter Tryd.func64, Tryd.ntmps64
  go_wp2
  go_ret
  exact ⟨rfl, bal (b0 w) _⟩
theorem hnd_Index (l : List Hnd) (v : Value) (w : World) (h : RL hndC w v l) (hl : l.length ≤ 3) :
    Calls Tryd.prog 85 #[v, .func (.func 64) #[] #[]] w fun e w' => (∃ r : Int, e = .returned (.int .i64 r) ∧ (decide (r ≥ 0) = l.any (·.on))) ∧ Below w.heap.size w w' := by
  obtain ⟨a, cap, rfl, _⟩ := h.form
  have hO := fun h w => txn_Open1 h w
  have hhit := fun k (hk : k < l.length) hh => any_hit (l := l) hk hh
  have hst := fun k (hk : k < l.length) h0 hh => any_step (l := l) hk h0 hh
  have hfu := fun k (hk : ¬ k < l.length) h0 => any_full (l := l) hk h0
  generalize hal : l.any (·.on) = al at *
  replace h := hid h; replace hO := hid hO; replace hhit := hid hhit; replace hst := hid hst; replace hfu := hid hfu
  clear hal
  go_enter Tryd.func85, Tryd.ntmps85
  go_wp2
  go_loopw [5, 8] (fun _ i wr => ∃ k : Nat, k ≤ l.length ∧ i = .int .i64 k ∧ Hid ((l.take k).any (·.on) = false) ∧ Below w.heap.size w wr) (fun _ i _ => l.length - (intOf i).toNat)
  case atStart => exact ⟨0, Nat.zero_le _, rfl, rfl, b0 w⟩
  case round =>
    obtain ⟨k, hk, rfl, hall, nx⟩ := hrel
    by_cases hlt : k < l.length
    · obtain ⟨b1, o1, rfl, c0, c1⟩ := RL.at2 (fun x => .bool x.on) (fun x => .int .i64 x.left) (fun _ => rfl) (h.out.below nx) hlt
      have hh1 := hid (hhit.out k hlt)
      have hh2 := hid (fun hh => hst.out k hlt hall.out hh)
      generalize l[k] = x at *
      have hOx := hO.out x
      cases hx : x.on with
      | true =>
        have hv := hid (hh1.out hx)
        rw [hx] at hOx c0
        replace hOx := hid hOx
        clear hx hh1 hh2 hall
        go_wp2_with (go_at_call 64; go_loud ((with_reducible refine (hOx.out _).mono ?_); rintro e w1 ⟨rfl, hb1⟩))
        go_ret
        exact ⟨⟨_, rfl, by rw [hv.out]; exact decide_eq_true (Int.natCast_nonneg _)⟩, bgo nx hb1⟩
      | false =>
        have hy := hid (hh2.out hx)
        rw [hx] at hOx c0
        replace hOx := hid hOx
        clear hx hh1 hh2 hall
        go_wp2_with (go_at_call 64; go_loud ((with_reducible refine (hOx.out _).mono ?_); rintro e w1 ⟨rfl, hb1⟩))
        go_roundw
        case rel => first | exact ⟨k + 1, by omega, by go_num, hy, bgo nx hb1⟩ | ((repeat apply Exists.intro); exact ⟨⟨k + 1, by omega, by go_num, hy, bgo nx hb1⟩, rfl⟩)
        case measure => simp [intOf]; omega
    · have hv := hid (hfu.out k hlt hall.out)
      clear hall
      go_wp2
      go_ret
      exact ⟨⟨_, rfl, by rw [hv.out]; rfl⟩, nx⟩
theorem hnd_Contains (l : List Hnd) (v : Value) (w : World) (h : RL hndC w v l) (hl : l.length ≤ 3) :
    Calls Tryd.prog 63 #[v, .func (.func 64) #[] #[]] w fun e w' => e = .returned (.bool (l.any (·.on))) ∧ Below w.heap.size w w' := by
  have hI := hid (hnd_Index l v w h hl)
  obtain ⟨a, cap, rfl, _⟩ := h.form
  generalize l.any (·.on) = al at *
  clear h
  go_enter Tryd.func63, Tryd.ntmps63
  go_wp2_with (go_at_call 85; go_loud ((with_reducible refine hI.out.mono ?_); rintro e w1 ⟨⟨r, rfl, hr⟩, hb1⟩; replace hr := hid hr))
  all_goals
    go_ret
    refine ⟨ret_b ?_, hb1⟩
    have := hr.out
    first | exact this | (rw [← this]; (try simp_all); (try omega))
theorem txn_Open (t : Txn) (v : Value) (w : World) (h : RTxn w v t) :
    Calls Tryd.prog 32 #[v] w fun e w' => e = .returned (.bool (openB t)) ∧ Below w.heap.size w w' := by
  obtain ⟨vm, vd, vr, rfl, hm, hd, hr, n1, n2, n3⟩ := h
  obtain ⟨am, cm, rfl, _⟩ := hm.form
  obtain ⟨ad, cd, rfl, _⟩ := hd.form
  obtain ⟨ar, cr, rfl, _⟩ := hr.form
  unfold txnV
  have k0 := Blk.new w #[.int .i64 t.seq, .slice am t.mt.length cm, .slice ad t.dt.length cd, .slice ar t.rev.length cr, .bool t.h0.on, .int .i64 t.h0.left, .bool t.h1.on, .int .i64 t.h1.left, .bool t.h2.on, .int .i64 t.h2.left] 30
  have nx := bal (b0 w) (.cells #[.int .i64 t.seq, .slice am t.mt.length cm, .slice ad t.dt.length cd, .slice ar t.rev.length cr, .bool t.h0.on, .int .i64 t.h0.left, .bool t.h1.on, .int .i64 t.h1.left, .bool t.h2.on, .int .i64 t.h2.left] 30)
  have hC := hnd_Contains [t.h0, t.h1, t.h2] _ _ (hnds_RL t.h0 t.h1 t.h2 k0) (Nat.le_refl 3)
  have e : [t.h0, t.h1, t.h2].any (·.on) = openB t := by unfold openB; simp [Bool.or_assoc]
  rw [e] at hC
  generalize openB t = ob at *
  replace hC := hid hC
  clear hm hd hr e k0
  go_enter Tryd.func32, Tryd.ntmps32
  go_wp2_with (go_at_call 63; go_loud ((with_reducible refine hC.out.mono ?_); rintro e w1 ⟨rfl, hb1⟩))
  go_ret
  exact ⟨rfl, bgo nx hb1⟩
end Go.Proofs.YtjhmfljlclajnabDoor

namespace Go.Proofs.YtjhmfljlclajnabDoor
open Go.RowKit Wb
set_option linter.unusedVariables false
set_option linter.unusedSimpArgs false
set_option maxRecDepth 100000

theorem takeE_bad {r : Ring} {n : Int} (h : goodR r = false ∨ n < 0) : takeE r n = 2 := by unfold takeE; rw [if_pos h]
theorem takeE_full {r : Ring} {n : Int} (h : ¬ (goodR r = false ∨ n < 0)) (h2 : n > 24 - r.used) : takeE r n = 6 := by unfold takeE; rw [if_neg h, if_pos h2]
theorem takeE_ok {r : Ring} {n : Int} (h : ¬ (goodR r = false ∨ n < 0)) (h2 : ¬ n > 24 - r.used) : takeE r n = 0 := by unfold takeE; rw [if_neg h, if_neg h2]
theorem takeR_bad {r : Ring} {n : Int} (h : takeE r n ≠ 0) : takeR r n = r := by unfold takeR; rw [if_neg h]
theorem takeL_bad {r : Ring} {n : Int} (h : takeE r n ≠ 0) : takeL r n = [] := by unfold takeL; rw [if_neg h]
theorem takeR_ok {r : Ring} {n : Int} (h : takeE r n = 0) : takeR r n = ⟨(r.head + n) % 24, r.used + n⟩ := by unfold takeR; rw [if_pos h]
theorem takeL_ok {r : Ring} {n : Int} (h : takeE r n = 0) : takeL r n = places r.head n.toNat := by unfold takeL; rw [if_pos h]


theorem ring_Take (r : Ring) (n : Int) (w : World) :
    Calls Tryd.prog 34 #[r.val, .int .i64 n] w fun e w' =>
      ∃ v, e = .returned (.tuple #[(takeR r n).val, v, .int .i64 (takeE r n)]) ∧ Wb.Own intC w.heap.size 3 1 w' v (takeL r n) ∧ Below w.heap.size w w' := by
  obtain ⟨p, u⟩ := r
  have hG := fun w => ring_Good ⟨p, u⟩ w
  have hgi := goodR_iff ⟨p, u⟩
  by_cases hb : goodR ⟨p, u⟩ = false ∨ n < 0
  · rw [takeR_bad (by rw [takeE_bad hb]; decide), takeL_bad (by rw [takeE_bad hb]; decide), takeE_bad hb]
    clear hgi
    generalize goodR ⟨p, u⟩ = g at *
    replace hG := hid hG
    unfold Ring.val at *
    dsimp only at *
    cases g
    · clear hb
      go_enter Tryd.func34, Tryd.ntmps34
      go_wp2_with (go_at_call 31; refine (hG.out _).mono ?_; rintro e w1 ⟨rfl, hb1⟩; obtain ⟨hbc, hbf⟩ := bcell hb1; have hbz := hb1.size; try simp only [World.size_alloc, World.size_setCell, World.size_drew] at hbz; have hz0 := Nat.lt_of_lt_of_le (n := w.heap.size) (by omega) hbz; have hz1 := Nat.lt_of_lt_of_le (n := w.heap.size + 1) (by omega) hbz)
      exact bodyPost_ret (v := .tuple #[.agg #[.int .i64 p, .int .i64 u], .slice none 0 0, .int .i64 2]) (by simp [results, Tryd.results34, go_sem, hbc]) rfl ⟨_, rfl, Own.nil _ _ _ _ _, by repeat (first | exact Below.refl _ _ | with_reducible assumption | (refine allocB ?_ (by first | omega | (simp; done) | (simp; omega)) _) | (refine Below.setCell ?_ (by first | omega | (simp; done) | (simp; omega)) _) | refine Below.drew ?_ | (refine Below.trans ?_ (Below.mono (by with_reducible assumption) (by first | omega | (simp; done) | (simp; omega)))))⟩
    · replace hb : n < 0 := by simpa using hb
      go_enter Tryd.func34, Tryd.ntmps34
      go_wp2_with (go_at_call 31; refine (hG.out _).mono ?_; rintro e w1 ⟨rfl, hb1⟩; obtain ⟨hbc, hbf⟩ := bcell hb1; have hbz := hb1.size; try simp only [World.size_alloc, World.size_setCell, World.size_drew] at hbz; have hz0 := Nat.lt_of_lt_of_le (n := w.heap.size) (by omega) hbz; have hz1 := Nat.lt_of_lt_of_le (n := w.heap.size + 1) (by omega) hbz)
      exact bodyPost_ret (v := .tuple #[.agg #[.int .i64 p, .int .i64 u], .slice none 0 0, .int .i64 2]) (by simp [results, Tryd.results34, go_sem, hbc]) rfl ⟨_, rfl, Own.nil _ _ _ _ _, by repeat (first | exact Below.refl _ _ | with_reducible assumption | (refine allocB ?_ (by first | omega | (simp; done) | (simp; omega)) _) | (refine Below.setCell ?_ (by first | omega | (simp; done) | (simp; omega)) _) | refine Below.drew ?_ | (refine Below.trans ?_ (Below.mono (by with_reducible assumption) (by first | omega | (simp; done) | (simp; omega)))))⟩
  · obtain ⟨hg, hn⟩ : goodR ⟨p, u⟩ = true ∧ 0 ≤ n := by simpa using hb
    obtain ⟨g1, g2, g3, g4⟩ := hgi.1 hg
    dsimp only at g1 g2 g3 g4
    rw [hg] at hG
    have hF := fun w => ring_Free ⟨p, u⟩ w g3 g4
    replace hG := hid hG
    replace hF := hid hF
    by_cases hs : n > 24 - u
    · rw [takeR_bad (by rw [takeE_full hb hs]; decide), takeL_bad (by rw [takeE_full hb hs]; decide), takeE_full hb hs]
      clear hgi hb hg
      unfold Ring.val at *
      dsimp only at *
      go_enter Tryd.func34, Tryd.ntmps34
      go_wp2_with (first | (go_at_call 31; refine (hG.out _).mono ?_; rintro e w1 ⟨rfl, hb1⟩; obtain ⟨hbc, hbf⟩ := bcell hb1; have hbz := hb1.size; try simp only [World.size_alloc, World.size_setCell, World.size_drew] at hbz; have hz0 := Nat.lt_of_lt_of_le (n := w.heap.size) (by omega) hbz; have hz1 := Nat.lt_of_lt_of_le (n := w.heap.size + 1) (by omega) hbz) | (go_at_call 66; refine (hF.out _).mono ?_; rintro e w2 ⟨rfl, hb1⟩; obtain ⟨hbc, hbf⟩ := bcell hb1; have hbz := hb1.size; try simp only [World.size_alloc, World.size_setCell, World.size_drew] at hbz; have hz0 := Nat.lt_of_lt_of_le (n := w.heap.size) (by omega) hbz; have hz1 := Nat.lt_of_lt_of_le (n := w.heap.size + 1) (by omega) hbz))
      exact bodyPost_ret (v := .tuple #[.agg #[.int .i64 p, .int .i64 u], .slice none 0 0, .int .i64 6]) (by simp [results, Tryd.results34, go_sem, *]) rfl ⟨_, rfl, Own.nil _ _ _ _ _, by repeat (first | exact Below.refl _ _ | with_reducible assumption | (refine allocB ?_ (by first | omega | (simp; done) | (simp; omega)) _) | (refine Below.setCell ?_ (by first | omega | (simp; done) | (simp; omega)) _) | refine Below.drew ?_ | (refine Below.trans ?_ (Below.mono (by with_reducible assumption) (by first | omega | (simp; done) | (simp; omega)))))⟩
    · rw [takeR_ok (takeE_ok hb hs), takeL_ok (takeE_ok hb hs), takeE_ok hb hs]
      clear hgi hb hg
      unfold Ring.val at *
      dsimp only at *
      go_enter Tryd.func34, Tryd.ntmps34
      go_wp2_with (first | (go_at_call 31; refine (hG.out _).mono ?_; rintro e w1 ⟨rfl, hb1⟩; obtain ⟨hbc, hbf⟩ := bcell hb1; have hbz := hb1.size; try simp only [World.size_alloc, World.size_setCell, World.size_drew] at hbz; have hz0 := Nat.lt_of_lt_of_le (n := w.heap.size) (by omega) hbz; have hz1 := Nat.lt_of_lt_of_le (n := w.heap.size + 1) (by omega) hbz) | (go_at_call 66; refine (hF.out _).mono ?_; rintro e w2 ⟨rfl, hb1⟩; obtain ⟨hbc, hbf⟩ := bcell hb1; have hbz := hb1.size; try simp only [World.size_alloc, World.size_setCell, World.size_drew] at hbz; have hz0 := Nat.lt_of_lt_of_le (n := w.heap.size) (by omega) hbz; have hz1 := Nat.lt_of_lt_of_le (n := w.heap.size + 1) (by omega) hbz))
      have k1 : Blk w2 w.heap.size #[.int .i64 p, .int .i64 u] 23 := (((Blk.new w _ _).alloc _).step (by assumption)).step (by assumption)
      have k2 : Blk w2 (w.heap.size + 1) #[.int .i64 0, .int .i64 0] 23 := ((Blk.newAt (w := w.alloc _) (by simp)).step (by assumption)).step (by assumption)
      have hw2 : Below w.heap.size w w2 := by repeat (first | exact Below.refl _ _ | with_reducible assumption | (refine allocB ?_ (by first | omega | (simp; done) | (simp; omega)) _) | (refine Below.setCell ?_ (by first | omega | (simp; done) | (simp; omega)) _) | refine Below.drew ?_ | (refine Below.trans ?_ (Below.mono (by with_reducible assumption) (by first | omega | (simp; done) | (simp; omega)))))
      clear hbc hbf
      go_loopw [7, 22] (fun l i wr => ∃ k : Nat, (k : Int) ≤ n ∧ i = .int .i64 k ∧ Wb.Own intC (w.heap.size + 2) 3 1 wr l (places p k) ∧ Blk wr w.heap.size #[.int .i64 ((p + k) % 24), .int .i64 u] 23 ∧ Blk wr (w.heap.size + 1) #[.int .i64 0, .int .i64 0] 23 ∧ Below w.heap.size w wr ∧ w.heap.size + 1 < wr.heap.size) (fun _ i _ => (n - intOf i).toNat)
      case atStart => exact ⟨0, by omega, rfl, Own.nil _ _ _ _ _, by rw [show (p + ((0 : Nat) : Int)) % 24 = p by omega]; exact k1, k2, hw2, by omega⟩
      case round =>
        obtain ⟨k, hk, rfl, hown, b1, b2, hnx, hz⟩ := hrel
        have hz0 : w.heap.size < wr.heap.size := by omega
        have c0 := b1.cell 0
        have c1 := b1.cell 1
        have f0 := b1.free 0
        have f1 := b1.free 1
        simp only [List.getElem?_toArray, List.getElem?_cons_zero, List.getElem?_cons_succ] at c0 c1
        by_cases hlt : (k : Int) < n
        · go_wp2_with (at_builtin; go_loud (refine wpList_push rfl _ _ _ rfl (w.heap.size + 2) _ 1 8 intC_flat elemInt hown rfl ((p + k) % 24) rfl rfl ?c1 ?c2 ?c3 ?c4))
          case c1 => rw [places_len]; omega
          case c2 => rw [places_len]; unfold maxLen; omega
          case c3 => omega
          case c4 =>
            intro v' w' hown' hbel hgrow
            rw [← places_succ] at hown'
            have b1' := b1.below hbel (by omega)
            have b2' := b2.below hbel (by omega)
            have hnx' := hnx.trans (hbel.mono (by omega))
            have hz' := hbel.size
            have c0' := b1'.cell 0
            have f0' := b1'.free 0
            simp only [List.getElem?_toArray, List.getElem?_cons_zero, List.getElem?_cons_succ] at c0'
            go_wp2
            go_roundw
            case rel => 
              refine ⟨k + 1, by omega, by go_num, hown'.setCell (by simp) _, ?_, b2'.set_other _ _ (by simp), hnx'.setCell (Nat.le_refl _) _, by simp; omega⟩
              have hbb := b1'.set 0 (.int .i64 ((p + k + 1) % 24))
              rw [show (p + ((k + 1 : Nat) : Int)) = p + k + 1 by omega]
              simpa using hbb
            case measure => simp [intOf]; omega
        · have c2 := b2.cell 0
          have c3 := b2.cell 1
          have f2 := b2.free 0
          have f3 := b2.free 1
          simp only [List.getElem?_toArray, List.getElem?_cons_zero, List.getElem?_cons_succ] at c2 c3
          go_wp2
          obtain rfl : n = k := by omega
          refine bodyPost_ret (v := .tuple #[.agg #[.int .i64 ((p + k) % 24), .int .i64 (u + k)], u7, .int .i64 0]) (by simp [results, Tryd.results34, go_sem, c0, c1, c2, c3]) rfl ⟨_, rfl, ?_, ?_⟩
          · rw [Int.toNat_natCast]
            exact (((hown.setCell (by simp) _).setCell (by simp) _).setCell (by simp) _).mono (by omega)
          · repeat (first | exact Below.refl _ _ | with_reducible assumption | (refine allocB ?_ (by first | omega | (simp; done) | (simp; omega)) _) | (refine Below.setCell ?_ (by first | omega | (simp; done) | (simp; omega)) _) | refine Below.drew ?_ | (refine Below.trans ?_ (Below.mono (by with_reducible assumption) (by first | omega | (simp; done) | (simp; omega)))))

theorem ref_TakeRing (r : Ring) (n : Int) (w : World) :
    Calls Tryd.prog 46 #[r.val, .int .i64 n] w fun e w' =>
      ∃ v, e = .returned (.tuple #[(takeR r n).val, v, .int .i64 (takeE r n)]) ∧ Wb.Own intC w.heap.size 3 1 w' v (takeL r n) ∧ Below w.heap.size w w' := by
  obtain ⟨p, u⟩ := r
  have hG := fun w => ring_GoodRing ⟨p, u⟩ w
  have hgi := goodR_iff ⟨p, u⟩
  by_cases hb : goodR ⟨p, u⟩ = false ∨ n < 0
  · rw [takeR_bad (by rw [takeE_bad hb]; decide), takeL_bad (by rw [takeE_bad hb]; decide), takeE_bad hb]
    clear hgi
    generalize goodR ⟨p, u⟩ = g at *
    replace hG := hid hG
    unfold Ring.val at *
    dsimp only at *
    cases g
    · clear hb
      go_enter Tryd.func46, Tryd.ntmps46
      go_wp2_with (go_at_call 42; refine (hG.out _).mono ?_; rintro e w1 ⟨rfl, hb1⟩; obtain ⟨hbc, hbf⟩ := bcell hb1; have hbz := hb1.size; try simp only [World.size_alloc, World.size_setCell, World.size_drew] at hbz; have hz0 := Nat.lt_of_lt_of_le (n := w.heap.size) (by omega) hbz; have hz1 := Nat.lt_of_lt_of_le (n := w.heap.size + 1) (by omega) hbz)
      exact bodyPost_ret (v := .tuple #[.agg #[.int .i64 p, .int .i64 u], .slice none 0 0, .int .i64 2]) (by simp [results, Tryd.results46, go_sem, hbc]) rfl ⟨_, rfl, Own.nil _ _ _ _ _, by repeat (first | exact Below.refl _ _ | with_reducible assumption | (refine allocB ?_ (by first | omega | (simp; done) | (simp; omega)) _) | (refine Below.setCell ?_ (by first | omega | (simp; done) | (simp; omega)) _) | refine Below.drew ?_ | (refine Below.trans ?_ (Below.mono (by with_reducible assumption) (by first | omega | (simp; done) | (simp; omega)))))⟩
    · replace hb : n < 0 := by simpa using hb
      go_enter Tryd.func46, Tryd.ntmps46
      go_wp2_with (go_at_call 42; refine (hG.out _).mono ?_; rintro e w1 ⟨rfl, hb1⟩; obtain ⟨hbc, hbf⟩ := bcell hb1; have hbz := hb1.size; try simp only [World.size_alloc, World.size_setCell, World.size_drew] at hbz; have hz0 := Nat.lt_of_lt_of_le (n := w.heap.size) (by omega) hbz; have hz1 := Nat.lt_of_lt_of_le (n := w.heap.size + 1) (by omega) hbz)
      exact bodyPost_ret (v := .tuple #[.agg #[.int .i64 p, .int .i64 u], .slice none 0 0, .int .i64 2]) (by simp [results, Tryd.results46, go_sem, hbc]) rfl ⟨_, rfl, Own.nil _ _ _ _ _, by repeat (first | exact Below.refl _ _ | with_reducible assumption | (refine allocB ?_ (by first | omega | (simp; done) | (simp; omega)) _) | (refine Below.setCell ?_ (by first | omega | (simp; done) | (simp; omega)) _) | refine Below.drew ?_ | (refine Below.trans ?_ (Below.mono (by with_reducible assumption) (by first | omega | (simp; done) | (simp; omega)))))⟩
  · obtain ⟨hg, hn⟩ : goodR ⟨p, u⟩ = true ∧ 0 ≤ n := by simpa using hb
    obtain ⟨g1, g2, g3, g4⟩ := hgi.1 hg
    dsimp only at g1 g2 g3 g4
    rw [hg] at hG
    replace hG := hid hG
    by_cases hs : n > 24 - u
    · rw [takeR_bad (by rw [takeE_full hb hs]; decide), takeL_bad (by rw [takeE_full hb hs]; decide), takeE_full hb hs]
      clear hgi hb hg
      unfold Ring.val at *
      dsimp only at *
      go_enter Tryd.func46, Tryd.ntmps46
      go_wp2_with (go_at_call 42; refine (hG.out _).mono ?_; rintro e w1 ⟨rfl, hb1⟩; obtain ⟨hbc, hbf⟩ := bcell hb1; have hbz := hb1.size; try simp only [World.size_alloc, World.size_setCell, World.size_drew] at hbz; have hz0 := Nat.lt_of_lt_of_le (n := w.heap.size) (by omega) hbz; have hz1 := Nat.lt_of_lt_of_le (n := w.heap.size + 1) (by omega) hbz)
      exact bodyPost_ret (v := .tuple #[.agg #[.int .i64 p, .int .i64 u], .slice none 0 0, .int .i64 6]) (by simp [results, Tryd.results46, go_sem, *]) rfl ⟨_, rfl, Own.nil _ _ _ _ _, by repeat (first | exact Below.refl _ _ | with_reducible assumption | (refine allocB ?_ (by first | omega | (simp; done) | (simp; omega)) _) | (refine Below.setCell ?_ (by first | omega | (simp; done) | (simp; omega)) _) | refine Below.drew ?_ | (refine Below.trans ?_ (Below.mono (by with_reducible assumption) (by first | omega | (simp; done) | (simp; omega)))))⟩
    · rw [takeR_ok (takeE_ok hb hs), takeL_ok (takeE_ok hb hs), takeE_ok hb hs]
      clear hgi hb hg
      unfold Ring.val at *
      dsimp only at *
      go_enter Tryd.func46, Tryd.ntmps46
      go_wp2_with (go_at_call 42; refine (hG.out _).mono ?_; rintro e w1 ⟨rfl, hb1⟩; obtain ⟨hbc, hbf⟩ := bcell hb1; have hbz := hb1.size; try simp only [World.size_alloc, World.size_setCell, World.size_drew] at hbz; have hz0 := Nat.lt_of_lt_of_le (n := w.heap.size) (by omega) hbz; have hz1 := Nat.lt_of_lt_of_le (n := w.heap.size + 1) (by omega) hbz)
      have k1 : Blk w1 w.heap.size #[.int .i64 p, .int .i64 u] 23 := ((Blk.new w _ _).alloc _).step (by assumption)
      have k2 : Blk w1 (w.heap.size + 1) #[.int .i64 0, .int .i64 0] 23 := (Blk.newAt (w := w.alloc _) (by simp)).step (by assumption)
      have hw2 : Below w.heap.size w w1 := by repeat (first | exact Below.refl _ _ | with_reducible assumption | (refine allocB ?_ (by first | omega | (simp; done) | (simp; omega)) _) | (refine Below.setCell ?_ (by first | omega | (simp; done) | (simp; omega)) _) | refine Below.drew ?_ | (refine Below.trans ?_ (Below.mono (by with_reducible assumption) (by first | omega | (simp; done) | (simp; omega)))))
      clear hbc hbf
      go_loopw [7, 8, 24] (fun l _ i wr => ∃ k : Nat, (k : Int) ≤ n ∧ i = .int .i64 k ∧ Wb.Own intC (w.heap.size + 2) 3 1 wr l (places p k) ∧ Blk wr w.heap.size #[.int .i64 p, .int .i64 u] 23 ∧ Blk wr (w.heap.size + 1) #[.int .i64 0, .int .i64 0] 23 ∧ Below w.heap.size w wr ∧ w.heap.size + 1 < wr.heap.size) (fun _ _ i _ => (n - intOf i).toNat)
      case atStart => exact ⟨0, by omega, rfl, Own.nil _ _ _ _ _, k1, k2, hw2, by omega⟩
      case round =>
        obtain ⟨k, hk, rfl, hown, b1, b2, hnx, hz⟩ := hrel
        have hz0 : w.heap.size < wr.heap.size := by omega
        have c0 := b1.cell 0
        have c1 := b1.cell 1
        have f0 := b1.free 0
        have f1 := b1.free 1
        have c2 := b2.cell 0
        have c3 := b2.cell 1
        have f2 := b2.free 0
        have f3 := b2.free 1
        simp only [List.getElem?_toArray, List.getElem?_cons_zero, List.getElem?_cons_succ] at c0 c1 c2 c3
        by_cases hlt : (k : Int) < n
        · go_wp2_with (at_builtin; refine wpList_push rfl _ _ _ rfl (w.heap.size + 2) _ 1 8 intC_flat elemInt hown rfl ((p + k) % 24) rfl rfl ?c1 ?c2 ?c3 ?c4)
          case c1 => rw [places_len]; omega
          case c2 => rw [places_len]; unfold maxLen; omega
          case c3 => omega
          case c4 =>
            intro v' w' hown' hbel hgrow
            rw [← places_succ] at hown'
            have b1' := b1.below hbel (by omega)
            have b2' := b2.below hbel (by omega)
            have hnx' := hnx.trans (hbel.mono (by omega))
            have hz' := hbel.size
            go_wp2
            go_roundw
            case rel => exact ⟨k + 1, by omega, by go_num, hown', b1', b2', hnx', by omega⟩
            case measure => simp [intOf]; omega
        · go_wp2
          obtain rfl : n = k := by omega
          refine bodyPost_ret (v := .tuple #[.agg #[.int .i64 ((p + k) % 24), .int .i64 (u + k)], u7, .int .i64 0]) (by simp [results, Tryd.results46, go_sem, c0, c1, c2, c3]) rfl ⟨_, rfl, ?_, ?_⟩
          · rw [Int.toNat_natCast]
            exact ((hown.setCell (by simp) _).setCell (by simp) _).mono (by omega)
          · repeat (first | exact Below.refl _ _ | with_reducible assumption | (refine allocB ?_ (by first | omega | (simp; done) | (simp; omega)) _) | (refine Below.setCell ?_ (by first | omega | (simp; done) | (simp; omega)) _) | refine Below.drew ?_ | (refine Below.trans ?_ (Below.mono (by with_reducible assumption) (by first | omega | (simp; done) | (simp; omega)))))

end Go.Proofs.YtjhmfljlclajnabDoor

namespace Go.Proofs.YtjhmfljlclajnabDoor
open Go.RowKit Wb
set_option linter.unusedVariables false
set_option linter.unusedSimpArgs false
set_option maxRecDepth 100000

end Go.Proofs.YtjhmfljlclajnabDoor

namespace Go.Proofs.YtjhmfljlclajnabDoor
open Go.RowKit Wb
set_option linter.unusedVariables false
set_option linter.unusedSimpArgs false
set_option maxRecDepth 100000

theorem take22 : takeR ⟨22, 0⟩ 3 = ⟨1, 3⟩ ∧ takeL ⟨22, 0⟩ 3 = [22, 23, 0] ∧ takeE ⟨22, 0⟩ 3 = 0 := ⟨rfl, rfl, rfl⟩

end Go.Proofs.YtjhmfljlclajnabDoor

namespace Go.Proofs.YtjhmfljlclajnabDoor
open Go.RowKit Wb
set_option linter.unusedVariables false
set_option linter.unusedSimpArgs false
set_option maxRecDepth 100000
set_option maxHeartbeats 4000000

theorem str_app (x y : List UInt8) : str x ++ str y = str (x ++ y) := by
  apply ba_ext; simp [str]
theorem byte_mod (n : Int) : byte (n % 256) = byte n := by unfold byte; rw [Int.emod_emod_of_dvd _ (by decide)]

theorem ref_byteOf (n : Int) (w : World) : Calls Tryd.prog 77 #[.int .i64 n] w fun e w' => e = .returned (.string (str [byte n])) ∧ Below w.heap.size w w' := by
  have hr : RL byteC (w.alloc (.cells #[.int .u8 (n % 256)] 5 (0, 0))) (.slice (some ⟨w.heap.size, 0, none⟩) 1 1) [byte n] := by
    have h := RL.new1 (f := byteC) w 5 (0, 0) (byte n)
    simpa [byteC, byte_val] using h
  have hcv := run_toString (P := Tryd.prog) (src := 120) (dst := 9) _ Tryd.underlying120 Tryd.underlying5 Tryd.underlying9 hr
  clear hr
  go_enter Tryd.func77, Tryd.ntmps77
  go_wp2
  go_ret
  exact ⟨rfl, by repeat (first | exact Below.refl _ _ | with_reducible assumption | (refine allocB ?_ (by first | omega | (simp; done) | (simp; omega)) _) | (refine Below.setCell ?_ (by first | omega | (simp; done) | (simp; omega)) _) | refine Below.drew ?_ | (refine Below.trans ?_ (Below.mono (by with_reducible assumption) (by first | omega | (simp; done) | (simp; omega)))))⟩

theorem ref_EncodeMark (m : Mrk) (v : Value) (w : World) (hm : RMark w v m) :
    Calls Tryd.prog 51 #[v] w fun e w' => e = .returned (.tuple #[.string (markS m), .int .i64 (markE m)]) ∧ Below w.heap.size w w' := by
  have hG := fun w (hh : RMark w v m) => ref_GoodMark m v w hh
  have hm2 := hm
  obtain ⟨vt, vb, rfl, ht, hbk, n1, n2⟩ := hm
  by_cases hE : markE m = 0
  · have hS : markS m = str (markL m) := by unfold markS; rw [if_pos hE]
    have hfit : fit (str (headL m ++ bodyL m)) = markS m := by rw [hS]; exact fit_str _
    rw [hE] at hG ⊢
    obtain ⟨hA, hB, hC, hD⟩ := markE_good hE
    clear hS hE
    generalize markS m = ms at *
    obtain ⟨kd, sq, at_, tags, blks⟩ := m
    unfold badKind at hA
    unfold badNum at hB
    unfold badForm at hC
    unfold badLen at hD
    dsimp only at *
    obtain ⟨ta, tcap, rfl, tc1, tc2⟩ := ht.form
    obtain ⟨ba, bcap, rfl, bc1, bc2⟩ := hbk.form
    unfold maxLen at tc2 bc2
    have hk : kd = 1 ∨ kd = 2 ∨ kd = 3 ∨ kd = 4 := by omega
    obtain ⟨q1, q2, q3, q4⟩ : 1 ≤ sq ∧ sq ≤ 2147483647 ∧ 0 ≤ at_ ∧ at_ < 24 := by omega
    have g4 : tags.length ≤ 10 := by omega
    have g5 : blks.length ≤ 20 := by omega
    clear hA hB hC hD
    have hFt := fun s w hs => ref_FitText s w hs
    have hO := fun n w => ref_byteOf n w
    replace hFt := hid hFt
    replace hO := hid hO
    replace hG := hid hG
    replace hm2 := hid hm2
    replace hfit := hid hfit
    replace ht := hid ht
    replace hbk := hid hbk
    clear n1 n2 tc1 tc2 bc1 bc2
    have nf : 0 < w.heap.size + 1 := by omega
    go_enter Tryd.func51, Tryd.ntmps51
    go_wp2_with (go_at_call 76; refine (hG.out _ (hm2.out.below (by repeat (first | exact Below.refl _ _ | with_reducible assumption | (refine allocB ?_ (by first | omega | (simp; done) | (simp; omega)) _) | (refine Below.setCell ?_ (by first | omega | (simp; done) | (simp; omega)) _) | refine Below.drew ?_ | (refine Below.trans ?_ (Below.mono (by with_reducible assumption) (by first | omega | (simp; done) | (simp; omega)))))))).mono ?_; rintro e w1 ⟨rfl, hb1⟩; obtain ⟨hbc, hbf⟩ := bcell hb1; have hbz := hb1.size; try simp only [World.size_alloc, World.size_setCell, World.size_drew] at hbz; have hz0 := Nat.lt_of_lt_of_le (n := w.heap.size) (by omega) hbz)
    have kb : Blk w1 w.heap.size #[.int .i64 kd, .int .i64 sq, .int .i64 at_, .slice ta tags.length tcap, .slice ba blks.length bcap] 81 := (Blk.new w _ _).step hb1
    have hnx : Below w.heap.size w w1 := by repeat (first | exact Below.refl _ _ | with_reducible assumption | (refine allocB ?_ (by first | omega | (simp; done) | (simp; omega)) _) | (refine Below.setCell ?_ (by first | omega | (simp; done) | (simp; omega)) _) | refine Below.drew ?_ | (refine Below.trans ?_ (Below.mono (by with_reducible assumption) (by first | omega | (simp; done) | (simp; omega)))))
    clear hb1 hbc hbf hm2 hG
    have c0 := kb.cell 0
    have c1 := kb.cell 1
    have c2 := kb.cell 2
    have c3 := kb.cell 3
    have c4 := kb.cell 4
    simp only [List.getElem?_toArray, List.getElem?_cons_zero, List.getElem?_cons_succ] at c0 c1 c2 c3 c4
    have z1 := str_size
    have z2 := str_app
    have z3 := byte_mod
    have z4 : (⟨#[87, 66, 75, 49]⟩ : ByteArray) = str magic := rfl
    have z5 : magic.length = 4 := rfl
    (refine wp_region_below (by kernel_rfl) (by kernel_rfl) ?_); (repeat (go_big_quiet_step ((go_at_call 77; exact BW.call (hO.out _ _))) )); refine wpQuiet_nil ?_; intro wq hw'; obtain ⟨⟨_, hb1⟩, rfl⟩ := hw'
    have hl9 : (magic ++ [byte kd, byte (sq / 16777216), byte (sq / 65536), byte (sq / 256), byte sq]).length = 9 := rfl
    obtain ⟨bd, hbd⟩ : ∃ l, l = bodyL ⟨kd, sq, at_, tags, blks⟩ := ⟨_, rfl⟩
    rw [← hbd] at hfit
    replace hfit : Hid (fit (str ((magic ++ [byte kd, byte (sq / 16777216), byte (sq / 65536), byte (sq / 256), byte sq]) ++ bd)) = ms) := hfit
    generalize magic ++ [byte kd, byte (sq / 16777216), byte (sq / 65536), byte (sq / 256), byte sq] = hd at *
    have kb2 := kb.below hb1 (by omega)
    have hnx2 : Below w.heap.size w wq := by repeat (first | exact Below.refl _ _ | with_reducible assumption | (refine allocB ?_ (by first | omega | (simp; done) | (simp; omega)) _) | (refine Below.setCell ?_ (by first | omega | (simp; done) | (simp; omega)) _) | refine Below.drew ?_ | (refine Below.trans ?_ (Below.mono (by with_reducible assumption) (by first | omega | (simp; done) | (simp; omega)))))
    have hz2 : w.heap.size + 1 ≤ wq.heap.size := Nat.le_trans hbz hb1.size
    clear kb hnx hb1 c0 c1 c2 c3 c4 hbz hz0 z3 z4 z5
    have c0 := kb2.cell 0
    have c2 := kb2.cell 2
    have c3 := kb2.cell 3
    have c4 := kb2.cell 4
    simp only [List.getElem?_toArray, List.getElem?_cons_zero, List.getElem?_cons_succ] at c0 c2 c3 c4
    have lt0 := kb2.lt
    have z6 : (⟨#[0]⟩ : ByteArray) = str [0] := rfl
    have z7 : (⟨#[1]⟩ : ByteArray) = str [1] := rfl
    go_upto_block 0 with fail
    go_cut [5] (fun s5 wx => s5 = .string (str (hd ++ bd)) ∧ Below w.heap.size w wx)
    case first =>
      rcases hk with rfl | rfl | rfl | rfl
      · have hbody : bd = [byte at_] := hbd
        replace hbody := hid hbody
        clear hbd
        go_wp2_with (go_at_call 77; refine (hO.out _ _).mono ?_; rintro e w2 ⟨rfl, hb2⟩)
        go_meet
        exact ⟨by rw [hbody.out], hnx2.trans (hb2.mono (by omega))⟩
      · have hbody : bd = [byte tags.length] ++ tags.flatMap tagB := hbd
        replace hbody := hid hbody
        clear hbd
        go_wp2_with (go_at_call 77; refine (hO.out _ _).mono ?_; rintro e w2 ⟨rfl, hb2⟩; have hnx3 := hnx2.trans (hb2.mono (by omega)); have hz3 := hb2.size; have c3 := (kb2.below hb2 (by omega)).cell 3; simp only [List.getElem?_toArray, List.getElem?_cons_zero, List.getElem?_cons_succ] at c3)
        go_loopw [5, 7, 61] (fun s5 _ i wr => ∃ k : Nat, k ≤ tags.length ∧ i = .int .i64 k ∧ s5 = .string (str (hd ++ ([byte tags.length] ++ (tags.take k).flatMap tagB))) ∧ Below w.heap.size w wr ∧ w.heap.size + 1 ≤ wr.heap.size) (fun _ _ i _ => tags.length - (intOf i).toNat)
        case atStart => exact ⟨0, Nat.zero_le _, rfl, by simp, hnx3, by omega⟩
        case round =>
          obtain ⟨k, hk, rfl, rfl, hnx, hz⟩ := hrel
          by_cases hlt : k < tags.length
          · obtain ⟨b, off, rfl, d0, d1⟩ := RL.at2 (fun x => .int .i64 x.block) (fun x => .bool x.esc) (fun _ => rfl) (ht.out.below hnx) hlt
            have lt1 := World.block_lt_of_cell? _ _ d0
            dsimp only at lt1
            have hstep : tags.take (k + 1) = tags.take k ++ [tags[k]] := by rw [List.take_succ_eq_append_getElem hlt]
            have hln : (hd ++ ([byte tags.length] ++ (tags.take k).flatMap tagB)).length = 10 + k * 2 := by
              rw [List.length_append, List.length_append, hl9, tagBs_len, List.length_take, Nat.min_eq_left hk]; simp; omega
            have hjoin : ∀ x : Tag, tags[k] = x → (hd ++ ([byte tags.length] ++ (tags.take k).flatMap tagB)) ++ tagB x = hd ++ ([byte tags.length] ++ (tags.take (k + 1)).flatMap tagB) := by
              rintro x rfl
              rw [hstep, List.flatMap_append, List.flatMap_cons, List.flatMap_nil, List.append_nil]
              simp only [List.append_assoc]
            replace hjoin := hid (hjoin _ rfl)
            clear hstep
            generalize hd ++ ([byte tags.length] ++ (tags.take k).flatMap tagB) = ls at *
            generalize tags[k] = x at *
            obtain ⟨xb, xe⟩ := x
            dsimp only at d0 d1
            cases xe
            all_goals
              go_wp2_with (go_at_call 77; refine (hO.out _ _).mono ?_; rintro e w4 ⟨rfl, hb1⟩; obtain ⟨hbc, hbf⟩ := bcell hb1; have hbz := hb1.size; try simp only [World.size_alloc, World.size_setCell, World.size_drew] at hbz; have hz0 := Nat.lt_of_lt_of_le (n := w.heap.size) (by omega) hbz)
              go_roundw
              case rel => exact ⟨k + 1, by omega, by go_num, by rw [← hjoin.out]; rfl, (allocB hnx (by omega) _).trans (hb1.mono (by simp; omega)), by omega⟩
              case measure => simp [intOf]; omega
          · obtain rfl : k = tags.length := by omega
            rw [List.take_length]
            go_wp2
            go_meet
            exact ⟨by rw [hbody.out], hnx⟩
      · have hbody : bd = [byte blks.length] ++ blks.map byte := hbd
        replace hbody := hid hbody
        clear hbd
        go_wp2_with (go_at_call 77; refine (hO.out _ _).mono ?_; rintro e w2 ⟨rfl, hb2⟩; have hnx3 := hnx2.trans (hb2.mono (by omega)); have hz3 := hb2.size; have c4 := (kb2.below hb2 (by omega)).cell 4; simp only [List.getElem?_toArray, List.getElem?_cons_zero, List.getElem?_cons_succ] at c4)
        go_loopw [5, 9, 88] (fun s5 _ i wr => ∃ k : Nat, k ≤ blks.length ∧ i = .int .i64 k ∧ s5 = .string (str (hd ++ ([byte blks.length] ++ (blks.take k).map byte))) ∧ Below w.heap.size w wr ∧ w.heap.size + 1 ≤ wr.heap.size) (fun _ _ i _ => blks.length - (intOf i).toNat)
        case atStart => exact ⟨0, Nat.zero_le _, rfl, by simp, hnx3, by omega⟩
        case round =>
          obtain ⟨k, hk, rfl, rfl, hnx, hz⟩ := hrel
          by_cases hlt : k < blks.length
          · obtain ⟨b, off, rfl, d0⟩ := RL.at1 (fun x => .int .i64 x) (fun _ => rfl) (hbk.out.below hnx) hlt
            have lt1 := World.block_lt_of_cell? _ _ d0
            dsimp only at lt1
            have hstep : blks.take (k + 1) = blks.take k ++ [blks[k]] := by rw [List.take_succ_eq_append_getElem hlt]
            have hln : (hd ++ ([byte blks.length] ++ (blks.take k).map byte)).length = 10 + k := by
              rw [List.length_append, List.length_append, hl9, List.length_map, List.length_take, Nat.min_eq_left hk]; simp; omega
            have hjoin : ∀ x : Int, blks[k] = x → (hd ++ ([byte blks.length] ++ (blks.take k).map byte)) ++ [byte x] = hd ++ ([byte blks.length] ++ (blks.take (k + 1)).map byte) := by
              rintro x rfl
              rw [hstep, List.map_append, List.map_cons, List.map_nil]
              simp only [List.append_assoc]
            replace hjoin := hid (hjoin _ rfl)
            clear hstep
            generalize hd ++ ([byte blks.length] ++ (blks.take k).map byte) = ls at *
            generalize blks[k] = x at *
            go_wp2_with (go_at_call 77; refine (hO.out _ _).mono ?_; rintro e w4 ⟨rfl, hb1⟩)
            go_roundw
            case rel => exact ⟨k + 1, by omega, by go_num, by rw [← hjoin.out], hnx.trans (hb1.mono (by omega)), Nat.le_trans hz hb1.size⟩
            case measure => simp [intOf]; omega
          · obtain rfl : k = blks.length := by omega
            rw [List.take_length]
            go_wp2
            go_meet
            exact ⟨by rw [hbody.out], hnx⟩
      · have hbody : bd = [] := hbd
        replace hbody := hid hbody
        clear hbd
        go_wp2
        go_meet
        exact ⟨by rw [hbody.out, List.append_nil], hnx2⟩
    case rest =>
      obtain ⟨rfl, hnx5⟩ := hcut
      have hsz : (str (hd ++ bd)).size ≤ 9223372036854775807 := by
        have hb := bodyL_len ⟨kd, sq, at_, tags, blks⟩ g4 g5
        rw [str_size, List.length_append, hl9, hbd]; omega
      replace hfit := hid hfit
      clear z1 z2
      generalize str (hd ++ bd) = sb at *
      go_wp2_with (go_at_call 78; refine (hFt.out _ _ hsz).mono ?_; rintro e w1 ⟨rfl, hb1⟩)
      go_ret2
      exact ⟨ret_st hfit.out.out, hnx5.trans (hb1.mono hnx5.size)⟩
  · have hS : markS m = str [] := by unfold markS; rw [if_neg hE]
    rw [hS]
    have hne : (markE m != 0) = true := bne_iff_ne.2 hE
    generalize markE m = er at *
    replace hG := hid hG
    replace hm2 := hid hm2
    obtain ⟨kd, sq, at_, tags, blks⟩ := m
    dsimp only at *
    clear hS hE ht hbk
    go_enter Tryd.func51, Tryd.ntmps51
    go_wp2_with (go_at_call 76; refine (hG.out _ (hm2.out.below (by repeat (first | exact Below.refl _ _ | with_reducible assumption | (refine allocB ?_ (by first | omega | (simp; done) | (simp; omega)) _) | (refine Below.setCell ?_ (by first | omega | (simp; done) | (simp; omega)) _) | refine Below.drew ?_ | (refine Below.trans ?_ (Below.mono (by with_reducible assumption) (by first | omega | (simp; done) | (simp; omega)))))))).mono ?_; rintro e w1 ⟨rfl, hb1⟩; obtain ⟨hbc, hbf⟩ := bcell hb1; have hbz := hb1.size; try simp only [World.size_alloc, World.size_setCell, World.size_drew] at hbz; have hz0 := Nat.lt_of_lt_of_le (n := w.heap.size) (by omega) hbz)
    go_ret2
    exact ⟨rfl, by repeat (first | exact Below.refl _ _ | with_reducible assumption | (refine allocB ?_ (by first | omega | (simp; done) | (simp; omega)) _) | (refine Below.setCell ?_ (by first | omega | (simp; done) | (simp; omega)) _) | refine Below.drew ?_ | (refine Below.trans ?_ (Below.mono (by with_reducible assumption) (by first | omega | (simp; done) | (simp; omega)))))⟩
end Go.Proofs.YtjhmfljlclajnabDoor

namespace Go.Proofs.YtjhmfljlclajnabDoor
open Go.RowKit Wb
set_option linter.unusedVariables false
set_option linter.unusedSimpArgs false
set_option maxRecDepth 100000
set_option maxHeartbeats 4000000

theorem pre_isEsc (s : ByteArray) : Lib.hasPrefix s.data.toList [87, 66, 75, 49] = isEsc s := by
  rw [← Lib.hasPrefix_of_take, Bool.eq_iff_iff, Bool.and_eq_true, decide_eq_true_iff, beq_iff_eq]
  constructor
  · intro hh
    exact decide_eq_true hh.2
  · intro hh
    exact ⟨by rw [ba_len]; exact isEsc_len hh, of_decide_eq_true hh⟩
theorem take_isEsc (s : ByteArray) : ((s.extract 0 4).toList == [87, 66, 75, 49]) = isEsc s := by
  rw [Lib.toList_data, Lib.extract_data, List.drop_zero]
  unfold isEsc
  rw [Bool.eq_iff_iff, decide_eq_true_iff, beq_iff_eq]
  rfl
theorem drop_str (p : List UInt8) (s : ByteArray) (h : 4 ≤ s.size) : str p ++ s.extract 4 s.size = str (p ++ s.data.toList.drop 4) := by
  apply ba_ext
  rw [ByteArray.data_append, Array.toList_append, Lib.extract_data, List.take_of_length_le (by rw [List.length_drop, ba_len]; omega)]
  simp [str]

theorem stamp_Escape (s : ByteArray) (w : World) (hs : s.size ≤ 9223372036854775807) :
    Calls Tryd.prog 41 #[.string s] w fun e w' => e = .returned (.tuple #[.string (escS s), .bool (isEsc s)]) ∧ Below w.heap.size w w' := by
  have hP := fun w => Tryd.strings_HasPrefix s ⟨#[87, 66, 75, 49]⟩ w
  have hb := pre_isEsc s
  dsimp only at hP
  rw [hb] at hP
  clear hb
  cases hc : isEsc s
  · rw [hc] at hP
    have hv : escS s = s := by unfold escS; rw [hc]; rfl
    rw [hv]
    replace hP := hid hP
    go_enter Tryd.func41, Tryd.ntmps41
    go_wp2_with (go_at_call 71; refine (hP.out _).mono ?_; rintro e w1 ⟨rfl, rfl⟩)
    go_ret2
    exact ⟨rfl, by repeat (first | exact Below.refl _ _ | with_reducible assumption | (refine allocB ?_ (by first | omega | (simp; done) | (simp; omega)) _) | (refine Below.setCell ?_ (by first | omega | (simp; done) | (simp; omega)) _) | refine Below.drew ?_ | (refine Below.trans ?_ (Below.mono (by with_reducible assumption) (by first | omega | (simp; done) | (simp; omega)))))⟩
  · rw [hc] at hP
    have h4 := isEsc_len hc
    have hv : (⟨#[0, 0, 0, 0]⟩ : ByteArray) ++ s.extract 4 s.size = escS s := by unfold escS; rw [hc]; exact drop_str [0, 0, 0, 0] s h4
    have hx : (s.extract 4 s.size).size = s.size - 4 := by simp
    replace hP := hid hP
    go_enter Tryd.func41, Tryd.ntmps41
    go_wp2_with (go_at_call 71; refine (hP.out _).mono ?_; rintro e w1 ⟨rfl, rfl⟩)
    go_ret2
    exact ⟨rfl, by repeat (first | exact Below.refl _ _ | with_reducible assumption | (refine allocB ?_ (by first | omega | (simp; done) | (simp; omega)) _) | (refine Below.setCell ?_ (by first | omega | (simp; done) | (simp; omega)) _) | refine Below.drew ?_ | (refine Below.trans ?_ (Below.mono (by with_reducible assumption) (by first | omega | (simp; done) | (simp; omega)))))⟩

theorem ref_EscapeBlock (s : ByteArray) (w : World) (hs : s.size ≤ 9223372036854775807) :
    Calls Tryd.prog 73 #[.string s] w fun e w' => e = .returned (.tuple #[.string (escS s), .bool (isEsc s)]) ∧ Below w.heap.size w w' := by
  have hb := take_isEsc s
  by_cases h4 : 4 ≤ s.size
  · cases hc : isEsc s
    · rw [hc] at hb
      have hv : escS s = s := by unfold escS; rw [hc]; rfl
      rw [hv]
      go_enter Tryd.func73, Tryd.ntmps73
      go_wp2
      go_ret2
      exact ⟨rfl, by repeat (first | exact Below.refl _ _ | with_reducible assumption | (refine allocB ?_ (by first | omega | (simp; done) | (simp; omega)) _) | (refine Below.setCell ?_ (by first | omega | (simp; done) | (simp; omega)) _) | refine Below.drew ?_ | (refine Below.trans ?_ (Below.mono (by with_reducible assumption) (by first | omega | (simp; done) | (simp; omega)))))⟩
    · rw [hc] at hb
      have hv : (⟨#[0, 0, 0, 0]⟩ : ByteArray) ++ s.extract 4 s.size = escS s := by unfold escS; rw [hc]; exact drop_str [0, 0, 0, 0] s h4
      have hx : (s.extract 4 s.size).size = s.size - 4 := by simp
      go_enter Tryd.func73, Tryd.ntmps73
      go_wp2
      go_ret2
      exact ⟨rfl, by repeat (first | exact Below.refl _ _ | with_reducible assumption | (refine allocB ?_ (by first | omega | (simp; done) | (simp; omega)) _) | (refine Below.setCell ?_ (by first | omega | (simp; done) | (simp; omega)) _) | refine Below.drew ?_ | (refine Below.trans ?_ (Below.mono (by with_reducible assumption) (by first | omega | (simp; done) | (simp; omega)))))⟩
  · have hc : isEsc s = false := isEsc_short (by omega)
    have hv : escS s = s := by unfold escS; rw [hc]; rfl
    rw [hv, hc]
    go_enter Tryd.func73, Tryd.ntmps73
    go_wp2
    go_ret2
    exact ⟨rfl, by repeat (first | exact Below.refl _ _ | with_reducible assumption | (refine allocB ?_ (by first | omega | (simp; done) | (simp; omega)) _) | (refine Below.setCell ?_ (by first | omega | (simp; done) | (simp; omega)) _) | refine Below.drew ?_ | (refine Below.trans ?_ (Below.mono (by with_reducible assumption) (by first | omega | (simp; done) | (simp; omega)))))⟩

theorem stamp_Unescape (s : ByteArray) (e : Bool) (w : World) (hs : s.size ≤ 9223372036854775807) :
    Calls Tryd.prog 83 #[.string s, .bool e] w fun r w' => r = .returned (.string (unescS s e)) ∧ Below w.heap.size w w' := by
  by_cases h4 : 4 ≤ s.size
  · have hx : (s.extract 4 s.size).size = s.size - 4 := by simp
    have hv1 : (⟨#[87, 66, 75, 49]⟩ : ByteArray) ++ s.extract 4 s.size = unescS s true := by unfold unescS; rw [if_pos ⟨rfl, h4⟩]; exact drop_str magic s h4
    have hv0 : unescS s false = s := by unfold unescS; simp
    cases e
    · rw [hv0]
      clear hv1
      go_enter Tryd.func83, Tryd.ntmps83
      go_wp2
      go_ret
      exact ⟨rfl, by repeat (first | exact Below.refl _ _ | with_reducible assumption | (refine allocB ?_ (by first | omega | (simp; done) | (simp; omega)) _) | (refine Below.setCell ?_ (by first | omega | (simp; done) | (simp; omega)) _) | refine Below.drew ?_ | (refine Below.trans ?_ (Below.mono (by with_reducible assumption) (by first | omega | (simp; done) | (simp; omega)))))⟩
    · go_enter Tryd.func83, Tryd.ntmps83
      go_wp2
      go_ret
      exact ⟨rfl, by repeat (first | exact Below.refl _ _ | with_reducible assumption | (refine allocB ?_ (by first | omega | (simp; done) | (simp; omega)) _) | (refine Below.setCell ?_ (by first | omega | (simp; done) | (simp; omega)) _) | refine Below.drew ?_ | (refine Below.trans ?_ (Below.mono (by with_reducible assumption) (by first | omega | (simp; done) | (simp; omega)))))⟩
  · have hv : unescS s e = s := by unfold unescS; rw [if_neg (fun hh => h4 hh.2)]
    rw [hv]
    cases e
    all_goals
      go_enter Tryd.func83, Tryd.ntmps83
      go_wp2
      go_ret
      exact ⟨rfl, by repeat (first | exact Below.refl _ _ | with_reducible assumption | (refine allocB ?_ (by first | omega | (simp; done) | (simp; omega)) _) | (refine Below.setCell ?_ (by first | omega | (simp; done) | (simp; omega)) _) | refine Below.drew ?_ | (refine Below.trans ?_ (Below.mono (by with_reducible assumption) (by first | omega | (simp; done) | (simp; omega)))))⟩

end Go.Proofs.YtjhmfljlclajnabDoor
