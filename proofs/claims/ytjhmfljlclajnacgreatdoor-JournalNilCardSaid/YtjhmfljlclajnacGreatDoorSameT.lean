/- The walks of SameCopies and SameTxn, at two that are alike. -/
import Derived.Test.YtjhmfljlclajnacGreatDoorTxnP
import Derived.Test.YtjhmfljlclajnacGreatDoorRegCall
import Derived.Test.YtjhmfljlclajnacGreatDoorHnds
import Derived.Deep.QuietTactic
import Derived.BigQuiet
namespace Go.Proofs.YtjhmfljlclajnacGreatDoor
open Go.RowKit Wb
set_option linter.unusedVariables false
set_option linter.unusedSimpArgs false
set_option maxRecDepth 100000
set_option maxHeartbeats 2000000

theorem ref_SameCopies (l : List Cpy) (v1 v2 : Value) (w : World) (h1 : RL cpyC w v1 l) (h2 : RL cpyC w v2 l) (hl : l.length ≤ 5864062014805) :
    Calls Tryz.prog 42 #[v1, v2] w fun e w' => e = .returned (.bool true) ∧ Below w.heap.size w w' := by
  obtain ⟨a, cap, rfl, _⟩ := h1.form
  obtain ⟨b, bcap, rfl, _⟩ := h2.form
  have hle : ((l.length : Int) != (l.length : Int)) = false := by simp
  replace h1 := hid h1
  replace h2 := hid h2
  go_enter Tryz.func42, Tryz.ntmps42
  go_wp2
  go_loopw [13] (fun i wr => ∃ k : Nat, k ≤ l.length ∧ i = .int .i64 k ∧ Below w.heap.size w wr) (fun i _ => l.length - (intOf i).toNat)
  case atStart => exact ⟨0, Nat.zero_le _, rfl, b0 w⟩
  case round =>
    obtain ⟨k, hk, rfl, nx⟩ := hrel
    by_cases hlt : k < l.length
    · obtain ⟨b1, o1, rfl, c0, c1⟩ := RL.at2 (fun x => .int .i64 x.block) (fun x => .string x.text) (fun _ => rfl) (h1.out.below nx) hlt
      obtain ⟨b2, o2, rfl, d0, d1⟩ := RL.at2 (fun x => .int .i64 x.block) (fun x => .string x.text) (fun _ => rfl) (h2.out.below nx) hlt
      generalize l[k] = x at *
      go_wp2
      go_quiet (fail)
      go_wp2
      go_roundw
      case rel => exact ⟨k + 1, by omega, by go_num, belowDrewN nx⟩
      case measure => simp [intOf]; omega
    · go_wp2
      go_ret
      exact ⟨rfl, nx⟩

theorem ref_SameTxn (t : Txn) (v1 v2 : Value) (w : World) (h1 : RTxn w v1 t) (h2 : RTxn w v2 t) :
    Calls Tryz.prog 12 #[v1, v2] w fun e w' => e = .returned (.bool true) ∧ Below w.heap.size w w' := by
  obtain ⟨vm, vd, vr, rfl, hm, hd, hr, n1, n2, n3⟩ := h1
  obtain ⟨vm2, vd2, vr2, rfl, hm2, hd2, hr2, _⟩ := h2
  unfold txnV
  have hSm := fun w h1 h2 => ref_SameCopies t.mt vm vm2 w h1 h2 n1
  have hSd := fun w h1 h2 => ref_SameCopies t.dt vd vd2 w h1 h2 n2
  obtain ⟨am, cm, rfl, _⟩ := hm.form
  obtain ⟨am2, cm2, rfl, _⟩ := hm2.form
  obtain ⟨ad, cd, rfl, _⟩ := hd.form
  obtain ⟨ad2, cd2, rfl, _⟩ := hd2.form
  obtain ⟨ar, cr, rfl, _⟩ := hr.form
  obtain ⟨ar2, cr2, rfl, _⟩ := hr2.form
  have hle : ((t.rev.length : Int) != (t.rev.length : Int)) = false := by simp
  replace hm := hid hm; replace hm2 := hid hm2; replace hd := hid hd; replace hd2 := hid hd2; replace hr := hid hr; replace hr2 := hid hr2; replace hSm := hid hSm; replace hSd := hid hSd
  obtain ⟨seq, mt, dt, rev, ⟨on0, l0⟩, ⟨on1, l1⟩, ⟨on2, l2⟩⟩ := t
  dsimp only at *
  have hH := fun w => run_neq_hnds w on0 on1 on2 l0 l1 l2
  have k0 := (Blk.new w #[.int .i64 seq, .slice am mt.length cm, .slice ad dt.length cd, .slice ar rev.length cr, .bool on0, .int .i64 l0, .bool on1, .int .i64 l1, .bool on2, .int .i64 l2] 40).alloc (.cells #[.int .i64 seq, .slice am2 mt.length cm2, .slice ad2 dt.length cd2, .slice ar2 rev.length cr2, .bool on0, .int .i64 l0, .bool on1, .int .i64 l1, .bool on2, .int .i64 l2] 40)
  have k1 : Blk ((w.alloc (.cells #[.int .i64 seq, .slice am mt.length cm, .slice ad dt.length cd, .slice ar rev.length cr, .bool on0, .int .i64 l0, .bool on1, .int .i64 l1, .bool on2, .int .i64 l2] 40)).alloc (.cells #[.int .i64 seq, .slice am2 mt.length cm2, .slice ad2 dt.length cd2, .slice ar2 rev.length cr2, .bool on0, .int .i64 l0, .bool on1, .int .i64 l1, .bool on2, .int .i64 l2] 40)) (w.heap.size + 1) #[.int .i64 seq, .slice am2 mt.length cm2, .slice ad2 dt.length cd2, .slice ar2 rev.length cr2, .bool on0, .int .i64 l0, .bool on1, .int .i64 l1, .bool on2, .int .i64 l2] 40 := Blk.newAt (by simp)
  have nx0 : Below w.heap.size w ((w.alloc (.cells #[.int .i64 seq, .slice am mt.length cm, .slice ad dt.length cd, .slice ar rev.length cr, .bool on0, .int .i64 l0, .bool on1, .int .i64 l1, .bool on2, .int .i64 l2] 40)).alloc (.cells #[.int .i64 seq, .slice am2 mt.length cm2, .slice ad2 dt.length cd2, .slice ar2 rev.length cr2, .bool on0, .int .i64 l0, .bool on1, .int .i64 l1, .bool on2, .int .i64 l2] 40)) := bal (bal (b0 w) _) _
  have hne : ¬ (w.heap.size = w.heap.size + 1) := by omega
  go_enter Tryz.func12, Tryz.ntmps12
  go_wp2_with (first
    | (go_at_call_of 42 (Value.slice am2 mt.length cm2); go_loud (refine (hSm.out _ (hm.out.below nx0) (hm2.out.below nx0)).mono ?_; rintro e w1 ⟨rfl, hb1⟩; replace k0 := k0.step hb1; replace k1 := k1.step hb1; have nx1 := bgo nx0 hb1; have l0' := k0.lt; have l1' := k1.lt; have c0 := k0.cell 2; have c1 := k1.cell 2; have c2 := k0.cell 3; have c3 := k1.cell 3; simp only [List.getElem?_toArray, List.getElem?_cons_zero, List.getElem?_cons_succ] at c0 c1 c2 c3))
    | (go_at_call_of 42 (Value.slice ad2 dt.length cd2); go_loud (refine (hSd.out _ (hd.out.below nx1) (hd2.out.below nx1)).mono ?_; rintro e w2 ⟨rfl, hb2⟩; replace k0 := k0.step hb2; replace k1 := k1.step hb2; have nx2 := bgo nx1 hb2; (try clear l0' l1' c0 c1 c2 c3); have l0' := k0.lt; have l1' := k1.lt; have c2 := k0.cell 3; have c3 := k1.cell 3; simp only [List.getElem?_toArray, List.getElem?_cons_zero, List.getElem?_cons_succ] at c2 c3)))
  clear l0' l1' c2 c3
  go_loopw [46] (fun i wr => ∃ k : Nat, k ≤ rev.length ∧ i = .int .i64 k ∧ Below w2.heap.size w2 wr) (fun i _ => rev.length - (intOf i).toNat)
  case atStart => exact ⟨0, Nat.zero_le _, rfl, b0 w2⟩
  case round =>
    obtain ⟨k, hk, rfl, nx⟩ := hrel
    have nx3 := bgo nx2 nx
    by_cases hlt : k < rev.length
    · obtain ⟨b1, o1, rfl, d0⟩ := RL.at1 (fun x => .int .i64 x) (fun _ => rfl) (hr.out.below nx3) hlt
      obtain ⟨b2, o2, rfl, d1⟩ := RL.at1 (fun x => .int .i64 x) (fun _ => rfl) (hr2.out.below nx3) hlt
      replace k0 := k0.step nx; replace k1 := k1.step nx
      have l0' := k0.lt; have l1' := k1.lt; have c2 := k0.cell 3; have c3 := k1.cell 3; simp only [List.getElem?_toArray, List.getElem?_cons_zero, List.getElem?_cons_succ] at c2 c3
      generalize rev[k] = x at *
      go_wp2
      go_quiet (fail)
      go_wp2
      go_roundw
      case rel => exact ⟨k + 1, by omega, by go_num, belowDrewN nx⟩
      case measure => simp [intOf]; omega
    · go_wp2
      go_ret
      exact ⟨rfl, nx3⟩
end Go.Proofs.YtjhmfljlclajnacGreatDoor
