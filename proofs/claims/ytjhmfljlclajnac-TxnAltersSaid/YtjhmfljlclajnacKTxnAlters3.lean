/- The walks of txn: copies, Asked, Open, handle. The walks of txn: Good. The walks of txn: Asked. The walks of txn: Open. The walks of AskedOf and OpenOf of the reference. Counting blocks. No program in sight. An element of an array value. No program in sight. The walks of the ring: each call answers what the plain functions say. The walks of the reference's rising and GoodMark. -/
import Derived.Test.YtjhmfljlclajnacKTxnAlters1
import Derived.Test.YtjhmfljlclajnacKTxnAlters2
import Derived.Test.YtjhmfljlclajnacKTxnAlters0
import Derived.Test.YtjhmfljlclajnacRows
import Derived.BigQuiet
namespace Wb
open Go Go.RowKit
def stepC (l : List Cpy) (k : Nat) : Prop := ∀ (hk : k < l.length), isBlk l[k].block = true ∧ l[k].text.size = 32 ∧ (∀ (h : 0 < k), l[k - 1].block < l[k].block)
theorem copies_iff (l : List Cpy) : copiesB l = true ↔ ∀ k, k < l.length → stepC l k := by
  unfold copiesB
  rw [Bool.and_eq_true, rise_iff, List.all_eq_true]
  have hg : ∀ j (hj : j < l.length), (blks l).getD j 0 = l[j].block := fun j hj => by simp [blks, hj]
  have hlen : (blks l).length = l.length := by simp [blks]
  constructor
  · rintro ⟨h1, h2⟩ k hk hk2
    have := h1 k (by omega)
    unfold riseAt at this
    rw [hg k hk] at this
    refine ⟨decide_eq_true ⟨this.1, this.2.1⟩, of_decide_eq_true (h2 _ (List.getElem_mem hk)), fun h => ?_⟩
    have h3 := this.2.2 h
    rw [hg (k - 1) (by omega)] at h3
    exact h3
  · intro h
    refine ⟨fun k hk => ?_, fun x hx => ?_⟩
    · have hk2 : k < l.length := by omega
      obtain ⟨g1, g2, g3⟩ := h k hk2 hk2
      have g1 := of_decide_eq_true g1
      unfold riseAt
      rw [hg k hk2]
      refine ⟨g1.1, g1.2, fun h0 => ?_⟩
      rw [hg (k - 1) (by omega)]
      exact g3 h0
    · obtain ⟨k, hk, rfl⟩ := List.mem_iff_getElem.1 hx
      exact decide_eq_true (h k hk hk).2.1
theorem copies_bad {l : List Cpy} {k : Nat} (hk : k < l.length) (h : ¬ stepC l k) : copiesB l = false := by
  rw [← Bool.not_eq_true, copies_iff]
  exact fun hh => h (hh k hk)
def hndC (h : Hnd) : List Value := [.bool h.on, .int .i64 h.left]
end Wb
namespace Go.Proofs.Ytjhmfljlclajnac
open Go.RowKit Wb
set_option linter.unusedVariables false
set_option linter.unusedSimpArgs false
set_option maxRecDepth 100000
set_option maxHeartbeats 4000000
theorem txn_handle (b : Int) (w : World) : Calls Try.prog 48 #[.int .i64 b] w fun e w' => e = .returned (.bool (isHnd b)) ∧ w = w' := by
  by_cases h0 : 0 ≤ b
  · by_cases h1 : b < 3
    · have hv : isHnd b = true := decide_eq_true ⟨h0, h1⟩
      rw [hv]
      go_enter Try.func48, Try.ntmps48
      go_wp2
      go_ret
      exact ⟨rfl, rfl⟩
    · have hv : isHnd b = false := decide_eq_false fun hh => h1 hh.2
      rw [hv]
      go_enter Try.func48, Try.ntmps48
      go_wp2
      go_ret
      exact ⟨rfl, rfl⟩
  · have hv : isHnd b = false := decide_eq_false fun hh => h0 hh.1
    rw [hv]
    go_enter Try.func48, Try.ntmps48
    go_wp2
    go_ret
    exact ⟨rfl, rfl⟩

theorem txn_copies (l : List Cpy) (v : Value) (w : World) (h : RL cpyC w v l) (hl : l.length ≤ 5864062014805) :
    Calls Try.prog 45 #[v] w fun e w' => e = .returned (.bool (copiesB l)) ∧ Below w.heap.size w w' := by
  obtain ⟨a, cap, rfl, _⟩ := h.form
  have hci := copies_iff l
  have hno := fun k hk hh => copies_bad (l := l) (k := k) hk hh
  have hB := fun b w => txn_block b w
  generalize copiesB l = cb at *
  replace h := hid h; replace hci := hid hci; replace hno := hid hno; replace hB := hid hB
  go_enter Try.func45, Try.ntmps45
  go_wp2
  go_loopw [3, 4, 7] (fun _ _ i wr => ∃ k : Nat, k ≤ l.length ∧ i = .int .i64 k ∧ Hid (∀ j, j < k → stepC l j) ∧ Below w.heap.size w wr) (fun _ _ i _ => l.length - (intOf i).toNat)
  case atStart => exact ⟨0, Nat.zero_le _, rfl, hid (fun j hj => absurd hj (Nat.not_lt_zero j)), b0 w⟩
  case round =>
    obtain ⟨k, hk, rfl, hall, nx⟩ := hrel
    by_cases hlt : k < l.length
    · obtain ⟨b1, o1, rfl, d0, d1⟩ := RL.at2 (fun x => .int .i64 x.block) (fun x => .string x.text) (fun _ => rfl) (h.out.below nx) hlt
      have hsk := hid (show isBlk l[k].block = true → l[k].text.size = 32 → (∀ (h : 0 < k), l[k - 1].block < l[k].block) → ∀ j, j < k + 1 → stepC l j from fun h1 h2 h3 j hj => by
        by_cases e : j = k
        · subst e; exact fun _ => ⟨h1, h2, h3⟩
        · exact hall.out j (by omega))
      have hnk := hid (show ¬ (isBlk l[k].block = true ∧ l[k].text.size = 32 ∧ (∀ (h : 0 < k), l[k - 1].block < l[k].block)) → cb = false from fun h => hno.out k hlt (fun hh => h (hh hlt)))
      have hBk := hB.out l[k].block
      by_cases hb : isBlk l[k].block = true
      · rw [hb] at hBk
        by_cases hs : l[k].text.size = 32
        · have hs2 : ((l[k].text.size : Int) != 32) = false := by rw [hs]; rfl
          rcases Nat.eq_zero_or_pos k with hk0 | hk0
          · subst hk0
            have hs3 := hid (hsk.out hb hs (fun h => absurd h (Nat.lt_irrefl 0)))
            simp only [Nat.zero_mul, Nat.add_zero] at d0 d1
            clear hsk hnk hs hb hall
            replace hBk := hid hBk
            generalize l[0] = x at *
            obtain ⟨xb, xt⟩ := x
            dsimp only at *
            have kx := Blk.new wr #[.int .i64 xb, .string xt] 68
            have x0 := kx.cell 0; have x1 := kx.cell 1
            simp only [List.getElem?_toArray, List.getElem?_cons_zero, List.getElem?_cons_succ] at x0 x1
            go_wp2
            refine wp_region_below (by kernel_rfl) (by kernel_rfl) ?_
            repeat (go_big_quiet_step ((go_at_call 46; exact BW.call_same (hBk.out _))))
            refine wpQuiet_nil ?_
            intro _ hw'
            obtain ⟨⟨wq, hq⟩, rfl⟩ := hw'
            go_wp2
            go_roundw
            case rel => exact ⟨1, by omega, by go_num, hs3, (bal nx _).trans (hq.mono (by have := nx.size; simp; omega))⟩
            case measure => simp [intOf]; omega
          · obtain ⟨j, rfl⟩ : ∃ j, k = j + 1 := ⟨k - 1, by omega⟩
            have hlj : j < l.length := by omega
            obtain ⟨b2, off2, hbb, d2, d3⟩ := RL.at2 (fun x => .int .i64 x.block) (fun x => .string x.text) (fun _ => rfl) (h.out.below nx) hlj
            simp only [Option.some.injEq, Addr.mk.injEq] at hbb
            obtain ⟨rfl, rfl, _⟩ := hbb
            have e1 : j + 1 - 1 = j := by omega
            by_cases hlt2 : l[j].block < l[j + 1].block
            · have hs3 := hid (hsk.out hb hs (fun h => hlt2))
              clear hsk hnk hs hb hall
              replace hBk := hid hBk
              generalize l[j + 1] = x at *
              generalize l[j] = y at *
              obtain ⟨xb, xt⟩ := x
              obtain ⟨yb, yt⟩ := y
              dsimp only at *
              have kx := Blk.new wr #[.int .i64 xb, .string xt] 68
              have x0 := kx.cell 0; have x1 := kx.cell 1
              simp only [List.getElem?_toArray, List.getElem?_cons_zero, List.getElem?_cons_succ] at x0 x1
              have lt1 := World.block_lt_of_cell? _ _ d2
              dsimp only at lt1
              go_wp2
              refine wp_region_below (by kernel_rfl) (by kernel_rfl) ?_
              repeat (go_big_quiet_step ((go_at_call 46; exact BW.call_same (hBk.out _))))
              refine wpQuiet_nil ?_
              intro _ hw'
              obtain ⟨⟨wq, hq⟩, rfl⟩ := hw'
              go_wp2
              go_roundw
              case rel => exact ⟨j + 1 + 1, by omega, by go_num, hs3, (bal nx _).trans (hq.mono (by have := nx.size; simp; omega))⟩
              case measure => simp [intOf]; omega
            · have hv := hnk.out (fun hh => hlt2 (hh.2.2 (by omega)))
              subst hv
              clear hsk hnk hs hb hall
              replace hBk := hid hBk
              generalize l[j + 1] = x at *
              generalize l[j] = y at *
              obtain ⟨xb, xt⟩ := x
              obtain ⟨yb, yt⟩ := y
              dsimp only at *
              have kx := Blk.new wr #[.int .i64 xb, .string xt] 68
              have x0 := kx.cell 0; have x1 := kx.cell 1
              simp only [List.getElem?_toArray, List.getElem?_cons_zero, List.getElem?_cons_succ] at x0 x1
              have lt1 := World.block_lt_of_cell? _ _ d2
              dsimp only at lt1
              go_wp2
              refine wp_region_below (by kernel_rfl) (by kernel_rfl) ?_
              repeat (go_big_quiet_step ((go_at_call 46; exact BW.call_same (hBk.out _))))
              refine wpQuiet_nil ?_
              intro _ hw'
              obtain ⟨⟨wq, hq⟩, rfl⟩ := hw'
              go_wp2
              go_ret
              exact ⟨rfl, (bal nx _).trans (hq.mono (by have := nx.size; simp; omega))⟩
        · have hv := hnk.out (fun hh => hs hh.2.1)
          subst hv
          have hs2 : ((l[k].text.size : Int) != 32) = true := bne_iff_ne.2 (by omega)
          clear hsk hnk hs hb hall
          replace hBk := hid hBk
          generalize l[k] = x at *
          obtain ⟨xb, xt⟩ := x
          dsimp only at *
          have kx := Blk.new wr #[.int .i64 xb, .string xt] 68
          have x0 := kx.cell 0; have x1 := kx.cell 1
          simp only [List.getElem?_toArray, List.getElem?_cons_zero, List.getElem?_cons_succ] at x0 x1
          go_wp2
          refine wp_region_below (by kernel_rfl) (by kernel_rfl) ?_
          repeat (go_big_quiet_step ((go_at_call 46; exact BW.call_same (hBk.out _))))
          refine wpQuiet_nil ?_
          intro _ hw'
          obtain ⟨⟨wq, hq⟩, rfl⟩ := hw'
          go_wp2
          go_ret
          exact ⟨rfl, (bal nx _).trans (hq.mono (by have := nx.size; simp; omega))⟩
      · have hv := hnk.out (fun hh => hb hh.1)
        subst hv
        rw [Bool.not_eq_true] at hb
        rw [hb] at hBk
        clear hsk hnk hb hall
        replace hBk := hid hBk
        generalize l[k] = x at *
        obtain ⟨xb, xt⟩ := x
        dsimp only at *
        have kx := Blk.new wr #[.int .i64 xb, .string xt] 68
        have x0 := kx.cell 0; have x1 := kx.cell 1
        simp only [List.getElem?_toArray, List.getElem?_cons_zero, List.getElem?_cons_succ] at x0 x1
        go_wp2
        refine wp_region_below (by kernel_rfl) (by kernel_rfl) ?_
        repeat (go_big_quiet_step ((go_at_call 46; exact BW.call_same (hBk.out _))))
        refine wpQuiet_nil ?_
        intro _ hw'
        obtain ⟨⟨wq, hq⟩, rfl⟩ := hw'
        go_wp2
        go_ret
        exact ⟨rfl, (bal nx _).trans (hq.mono (by have := nx.size; simp; omega))⟩
    · have hv := hci.out.2 (fun j hj => hall.out j (by omega))
      subst hv
      clear hall
      go_wp2
      go_ret
      exact ⟨rfl, nx⟩
end Go.Proofs.Ytjhmfljlclajnac

namespace Wb
open Go Go.RowKit
theorem apart_rev {t : Txn} {k : Nat} (hk : k < t.rev.length) (h : (!hasB t.mt t.rev[k] && !hasB t.dt t.rev[k]) = false) : apart t = false := by
  unfold apart
  rw [all_no (p := fun b => !hasB t.mt b && !hasB t.dt b) hk h]
  rfl
theorem apart_mt {t : Txn} {k : Nat} (hk : k < t.mt.length) (h : (!hasB t.dt t.mt[k].block) = false) : apart t = false := by
  unfold apart
  rw [all_no (p := fun c : Cpy => !hasB t.dt c.block) hk h, Bool.and_false]
theorem apart_yes {t : Txn} (h1 : ∀ k (hk : k < t.rev.length), (!hasB t.mt t.rev[k] && !hasB t.dt t.rev[k]) = true) (h2 : ∀ k (hk : k < t.mt.length), (!hasB t.dt t.mt[k].block) = true) : apart t = true := by
  unfold apart
  rw [Bool.and_eq_true, List.all_eq_true, List.all_eq_true]
  refine ⟨fun x hx => ?_, fun x hx => ?_⟩
  · obtain ⟨k, hk, rfl⟩ := List.mem_iff_getElem.1 hx
    exact h1 k hk
  · obtain ⟨k, hk, rfl⟩ := List.mem_iff_getElem.1 hx
    exact h2 k hk
end Wb
namespace Go.Proofs.Ytjhmfljlclajnac
open Go.RowKit Wb
set_option linter.unusedVariables false
set_option linter.unusedSimpArgs false
set_option maxRecDepth 100000
set_option maxHeartbeats 16000000
theorem idx3 (w : World) (o0 o1 o2 : Bool) (l0 l1 l2 : Int) :
    (Instr.index 26 (.agg #[.bool o0, .int .i64 l0, .bool o1, .int .i64 l1, .bool o2, .int .i64 l2]) (.int .i64 0)).run Try.prog w = .ok (.agg #[.bool o0, .int .i64 l0]) w ∧
    (Instr.index 26 (.agg #[.bool o0, .int .i64 l0, .bool o1, .int .i64 l1, .bool o2, .int .i64 l2]) (.int .i64 1)).run Try.prog w = .ok (.agg #[.bool o1, .int .i64 l1]) w ∧
    (Instr.index 26 (.agg #[.bool o0, .int .i64 l0, .bool o1, .int .i64 l1, .bool o2, .int .i64 l2]) (.int .i64 2)).run Try.prog w = .ok (.agg #[.bool o2, .int .i64 l2]) w :=
  ⟨by kernel_rfl, by kernel_rfl, by kernel_rfl⟩

theorem txn_Good (t : Txn) (v : Value) (w : World) (h : RTxn w v t) :
    Calls Try.prog 20 #[v] w fun e w' => e = .returned (.bool (goodT t)) ∧ Below w.heap.size w w' := by
  obtain ⟨vm, vd, vr, rfl, hm, hd, hr, n1, n2, n3⟩ := h
  obtain ⟨am, cm, rfl, _⟩ := hm.form
  obtain ⟨ad, cd, rfl, _⟩ := hd.form
  obtain ⟨ar, cr, rfl, _⟩ := hr.form
  have hng := fun hh => notGood' (t := t) hh
  have hyes := fun h1 h2 h3 h4 h5 h6 h7 h8 => (goodT_iff t).2 ⟨h1, h2, h3, h4, h5, h6, h7, h8⟩
  have hi3 := fun w => idx3 w t.h0.on t.h1.on t.h2.on t.h0.left t.h1.left t.h2.left
  have hCm := fun w' (nx : Below w.heap.size w w') => txn_copies t.mt _ w' (hm.below nx) n1
  have hCd := fun w' (nx : Below w.heap.size w w') => txn_copies t.dt _ w' (hd.below nx) n2
  have har := fun k hk hh => apart_rev (t := t) (k := k) hk hh
  have ham := fun k hk hh => apart_mt (t := t) (k := k) hk hh
  have hay := fun h1 h2 => apart_yes (t := t) h1 h2
  unfold txnV
  generalize goodT t = gT at *
  have k0 := Blk.new w #[.int .i64 t.seq, .slice am t.mt.length cm, .slice ad t.dt.length cd, .slice ar t.rev.length cr, .bool t.h0.on, .int .i64 t.h0.left, .bool t.h1.on, .int .i64 t.h1.left, .bool t.h2.on, .int .i64 t.h2.left] 28
  have nx := bal (b0 w) (.cells #[.int .i64 t.seq, .slice am t.mt.length cm, .slice ad t.dt.length cd, .slice ar t.rev.length cr, .bool t.h0.on, .int .i64 t.h0.left, .bool t.h1.on, .int .i64 t.h1.left, .bool t.h2.on, .int .i64 t.h2.left] 28)
  have e0 := k0.cell 0; have e1 := k0.cell 1; have e2 := k0.cell 2; have e3 := k0.cell 3; have e4 := k0.cell 4; have e5 := k0.cell 5; have e6 := k0.cell 6; have e7 := k0.cell 7; have e8 := k0.cell 8; have e9 := k0.cell 9; simp only [List.getElem?_toArray, List.getElem?_cons_zero, List.getElem?_cons_succ] at e0 e1 e2 e3 e4 e5 e6 e7 e8 e9; have l0 := k0.lt
  replace hm := hid hm; replace hd := hid hd; replace hr := hid hr; replace hng := hid hng; replace hyes := hid hyes; replace hi3 := hid hi3; replace har := hid har; replace ham := hid ham; replace hay := hid hay
  have COPM := hid hCm; have COPD := hid hCd
  clear hCm hCd
  by_cases hs1 : t.seq < 1
  · have hv := hid (hng.out (.inl (decide_eq_false (by omega))))
    go_enter Try.func20, Try.ntmps20
    go_wp2
    go_ret
    exact ⟨ret_b hv.out.symm, nx⟩
  by_cases hs2 : 2147483647 < t.seq
  · have hv := hid (hng.out (.inl (decide_eq_false (by omega))))
    go_enter Try.func20, Try.ntmps20
    go_wp2
    go_ret
    exact ⟨ret_b hv.out.symm, nx⟩
  have hsq : seqOk t.seq = true := decide_eq_true (by omega)
  cases hcm : copiesB t.mt with
  | false =>
    have hv := hid (hng.out (.inr (.inl hcm)))
    have C1 := COPM.out _ nx
    rw [hcm] at C1
    replace C1 := hid C1
    clear hcm
    go_enter Try.func20, Try.ntmps20
    go_wp2_with (go_at_call_of 45 (Value.slice am t.mt.length cm); go_loud ((with_reducible refine C1.out.mono ?_); rintro e w1 ⟨rfl, hb1⟩; replace nx := bgo nx hb1))
    go_ret
    exact ⟨ret_b hv.out.symm, nx⟩
  | true =>
  have C1 := COPM.out _ nx
  rw [hcm] at C1
  cases hcd : copiesB t.dt with
  | false =>
    have hv := hid (hng.out (.inr (.inr (.inl hcd))))
    have C2 := fun w' nx => COPD.out w' nx
    rw [hcd] at C2
    replace C1 := hid C1; replace C2 := hid C2
    clear hcm hcd
    go_enter Try.func20, Try.ntmps20
    go_wp2_with (go_at_call_of 45 (Value.slice am t.mt.length cm); go_loud ((with_reducible refine C1.out.mono ?_); rintro e w1 ⟨rfl, hb1⟩; replace k0 := k0.step hb1; replace nx := bgo nx hb1; clear e0 e1 e2 e3 e4 e5 e6 e7 e8 e9 l0; have e0 := k0.cell 0; have e1 := k0.cell 1; have e2 := k0.cell 2; have e3 := k0.cell 3; have e4 := k0.cell 4; have e5 := k0.cell 5; have e6 := k0.cell 6; have e7 := k0.cell 7; have e8 := k0.cell 8; have e9 := k0.cell 9; simp only [List.getElem?_toArray, List.getElem?_cons_zero, List.getElem?_cons_succ] at e0 e1 e2 e3 e4 e5 e6 e7 e8 e9; have l0 := k0.lt))
    go_wp2_with (go_at_call_of 45 (Value.slice ad t.dt.length cd); go_loud ((with_reducible refine (C2.out _ nx).mono ?_); rintro e w1 ⟨rfl, hb1⟩; replace nx := bgo nx hb1))
    go_ret
    exact ⟨ret_b hv.out.symm, nx⟩
  | true =>
  have C2 := fun w' nx => COPD.out w' nx
  rw [hcd] at C2
  replace C1 := hid C1; replace C2 := hid C2
  have hcm' := hid hcm; have hcd' := hid hcd
  have hcm : rise (blks t.mt) = true := by unfold copiesB at hcm; rw [Bool.and_eq_true] at hcm; exact hcm.1
  have hcd : rise (blks t.dt) = true := by unfold copiesB at hcd; rw [Bool.and_eq_true] at hcd; exact hcd.1
  replace hcm := hid hcm; replace hcd := hid hcd; replace hsq := hid hsq
  clear COPM COPD
  go_enter Try.func20, Try.ntmps20
  go_wp2_with (go_at_call_of 45 (Value.slice am t.mt.length cm); go_loud ((with_reducible refine C1.out.mono ?_); rintro e w1 ⟨rfl, hb1⟩; replace k0 := k0.step hb1; replace nx := bgo nx hb1; clear e0 e1 e2 e3 e4 e5 e6 e7 e8 e9 l0; have e0 := k0.cell 0; have e1 := k0.cell 1; have e2 := k0.cell 2; have e3 := k0.cell 3; have e4 := k0.cell 4; have e5 := k0.cell 5; have e6 := k0.cell 6; have e7 := k0.cell 7; have e8 := k0.cell 8; have e9 := k0.cell 9; simp only [List.getElem?_toArray, List.getElem?_cons_zero, List.getElem?_cons_succ] at e0 e1 e2 e3 e4 e5 e6 e7 e8 e9; have l0 := k0.lt))
  go_wp2_with (go_at_call_of 45 (Value.slice ad t.dt.length cd); go_loud ((with_reducible refine (C2.out _ nx).mono ?_); rintro e w2 ⟨rfl, hb2⟩; replace k0 := k0.step hb2; replace nx := bgo nx hb2; clear e0 e1 e2 e3 e4 e5 e6 e7 e8 e9 l0; have e0 := k0.cell 0; have e1 := k0.cell 1; have e2 := k0.cell 2; have e3 := k0.cell 3; have e4 := k0.cell 4; have e5 := k0.cell 5; have e6 := k0.cell 6; have e7 := k0.cell 7; have e8 := k0.cell 8; have e9 := k0.cell 9; simp only [List.getElem?_toArray, List.getElem?_cons_zero, List.getElem?_cons_succ] at e0 e1 e2 e3 e4 e5 e6 e7 e8 e9; have l0 := k0.lt))
  clear C1 C2 hb1 hb2
  go_loopw [3, 4, 32] (fun _ _ i wr => ∃ k : Nat, k ≤ t.rev.length ∧ i = .int .i64 k ∧ Hid (riseTo t.rev k) ∧ Hid (∀ j, j < k → ∀ (hj : j < t.rev.length), (!hasB t.mt t.rev[j] && !hasB t.dt t.rev[j]) = true) ∧ Blk wr w.heap.size #[.int .i64 t.seq, .slice am t.mt.length cm, .slice ad t.dt.length cd, .slice ar t.rev.length cr, .bool t.h0.on, .int .i64 t.h0.left, .bool t.h1.on, .int .i64 t.h1.left, .bool t.h2.on, .int .i64 t.h2.left] 28 ∧ Below w.heap.size w wr) (fun _ _ i _ => t.rev.length - (intOf i).toNat)
  case atStart => exact ⟨0, Nat.zero_le _, rfl, hid (fun j hj => absurd hj (Nat.not_lt_zero j)), hid (fun j hj => absurd hj (Nat.not_lt_zero j)), k0, nx⟩
  case round =>
    clear k0 nx e0 e1 e2 e3 e4 e5 e6 e7 e8 e9 l0
    obtain ⟨k, hk, rfl, hri, hap, k0, nx⟩ := hrel
    have e0 := k0.cell 0; have e1 := k0.cell 1; have e2 := k0.cell 2; have e3 := k0.cell 3; have e4 := k0.cell 4; have e5 := k0.cell 5; have e6 := k0.cell 6; have e7 := k0.cell 7; have e8 := k0.cell 8; have e9 := k0.cell 9; simp only [List.getElem?_toArray, List.getElem?_cons_zero, List.getElem?_cons_succ] at e0 e1 e2 e3 e4 e5 e6 e7 e8 e9; have l0 := k0.lt
    by_cases hlt : k < t.rev.length
    · obtain ⟨b1, o1, rfl, d0⟩ := RL.at1 (fun x => .int .i64 x) (fun _ => rfl) (hr.out.below nx) hlt
      have hgd : t.rev.getD k 0 = t.rev[k] := by simp [hlt]
      have hno := hid (show ¬ riseAt t.rev k → gT = false from fun hh => hng.out (.inr (.inr (.inr (.inl (rise_no hlt hh))))))
      have hnA := hid (show (!hasB t.mt t.rev[k] && !hasB t.dt t.rev[k]) = false → gT = false from fun hh => hng.out (.inr (.inr (.inr (.inr (.inl (har.out k hlt hh)))))))
      have hyA := hid (show (!hasB t.mt t.rev[k] && !hasB t.dt t.rev[k]) = true → ∀ j, j < k + 1 → ∀ (hj : j < t.rev.length), (!hasB t.mt t.rev[j] && !hasB t.dt t.rev[j]) = true from fun hh j hj hj2 => by
        by_cases e : j = k
        · subst e; exact hh
        · exact hap.out j (by omega) hj2)
      have hBk := txn_block t.rev[k]
      by_cases hb : isBlk t.rev[k] = true
      · have hb' := of_decide_eq_true hb
        have hBk := fun w => hBk w
        rw [hb] at hBk
        replace hBk := hid hBk
        rcases Nat.eq_zero_or_pos k with hk0 | hk0
        · subst hk0
          have hr1 := hid (riseTo_succ hri.out (show riseAt t.rev 0 from by unfold riseAt; rw [hgd]; exact ⟨hb'.1, hb'.2, fun h => absurd h (Nat.lt_irrefl 0)⟩))
          simp only [Nat.add_zero] at d0
          clear hno hgd hb hb' hri hap
          generalize t.rev[0] = x at *
          have hMb := hid (fun w' (nx : Below w.heap.size w w') => txn_has t.mt x _ w' hcm.out (hm.out.below nx) n1)
          have hDb := hid (fun w' (nx : Below w.heap.size w w') => txn_has t.dt x _ w' hcd.out (hd.out.below nx) n2)
          by_cases hh1 : hasB t.mt x = true
          · have hv := hid (hnA.out (by rw [hh1]; rfl))
            have hMb := hid (fun w' nx => by have := hMb.out w' nx; rwa [hh1] at this)
            clear hh1 hDb hnA hyA
            go_wp2_with (go_at_call 46; go_loud ((with_reducible refine (hBk.out _).mono ?_); rintro e w1 ⟨rfl, rfl⟩))
            go_wp2_with (go_at_call_of 24 (Value.slice am t.mt.length cm); go_loud ((with_reducible refine (hMb.out _ nx).mono ?_); rintro e w2 ⟨rfl, hb2⟩; replace k0 := k0.step hb2; replace nx := bgo nx hb2; clear e0 e1 e2 e3 e4 e5 e6 e7 e8 e9 l0; have e0 := k0.cell 0; have e1 := k0.cell 1; have e2 := k0.cell 2; have e3 := k0.cell 3; have e4 := k0.cell 4; have e5 := k0.cell 5; have e6 := k0.cell 6; have e7 := k0.cell 7; have e8 := k0.cell 8; have e9 := k0.cell 9; simp only [List.getElem?_toArray, List.getElem?_cons_zero, List.getElem?_cons_succ] at e0 e1 e2 e3 e4 e5 e6 e7 e8 e9; have l0 := k0.lt))
            go_ret
            exact ⟨ret_b hv.out.symm, nx⟩
          · rw [Bool.not_eq_true] at hh1
            have hMb := hid (fun w' nx => by have := hMb.out w' nx; rwa [hh1] at this)
            by_cases hh2 : hasB t.dt x = true
            · have hv := hid (hnA.out (by rw [hh1, hh2]; rfl))
              have hDb := hid (fun w' nx => by have := hDb.out w' nx; rwa [hh2] at this)
              clear hh1 hh2 hnA hyA
              go_wp2_with (go_at_call 46; go_loud ((with_reducible refine (hBk.out _).mono ?_); rintro e w1 ⟨rfl, rfl⟩))
              go_wp2_with (go_at_call_of 24 (Value.slice am t.mt.length cm); go_loud ((with_reducible refine (hMb.out _ nx).mono ?_); rintro e w2 ⟨rfl, hb2⟩; replace k0 := k0.step hb2; replace nx := bgo nx hb2; clear e0 e1 e2 e3 e4 e5 e6 e7 e8 e9 l0; have e0 := k0.cell 0; have e1 := k0.cell 1; have e2 := k0.cell 2; have e3 := k0.cell 3; have e4 := k0.cell 4; have e5 := k0.cell 5; have e6 := k0.cell 6; have e7 := k0.cell 7; have e8 := k0.cell 8; have e9 := k0.cell 9; simp only [List.getElem?_toArray, List.getElem?_cons_zero, List.getElem?_cons_succ] at e0 e1 e2 e3 e4 e5 e6 e7 e8 e9; have l0 := k0.lt))
              go_wp2_with (go_at_call_of 24 (Value.slice ad t.dt.length cd); go_loud ((with_reducible refine (hDb.out _ nx).mono ?_); rintro e w2 ⟨rfl, hb2⟩; replace k0 := k0.step hb2; replace nx := bgo nx hb2; clear e0 e1 e2 e3 e4 e5 e6 e7 e8 e9 l0; have e0 := k0.cell 0; have e1 := k0.cell 1; have e2 := k0.cell 2; have e3 := k0.cell 3; have e4 := k0.cell 4; have e5 := k0.cell 5; have e6 := k0.cell 6; have e7 := k0.cell 7; have e8 := k0.cell 8; have e9 := k0.cell 9; simp only [List.getElem?_toArray, List.getElem?_cons_zero, List.getElem?_cons_succ] at e0 e1 e2 e3 e4 e5 e6 e7 e8 e9; have l0 := k0.lt))
              go_ret
              exact ⟨ret_b hv.out.symm, nx⟩
            · rw [Bool.not_eq_true] at hh2
              have hDb := hid (fun w' nx => by have := hDb.out w' nx; rwa [hh2] at this)
              have hy := hid (hyA.out (by rw [hh1, hh2]; rfl))
              clear hh1 hh2 hnA hyA
              go_wp2_with (go_at_call 46; go_loud ((with_reducible refine (hBk.out _).mono ?_); rintro e w1 ⟨rfl, rfl⟩))
              go_wp2_with (go_at_call_of 24 (Value.slice am t.mt.length cm); go_loud ((with_reducible refine (hMb.out _ nx).mono ?_); rintro e w2 ⟨rfl, hb2⟩; replace k0 := k0.step hb2; replace nx := bgo nx hb2; clear e0 e1 e2 e3 e4 e5 e6 e7 e8 e9 l0; have e0 := k0.cell 0; have e1 := k0.cell 1; have e2 := k0.cell 2; have e3 := k0.cell 3; have e4 := k0.cell 4; have e5 := k0.cell 5; have e6 := k0.cell 6; have e7 := k0.cell 7; have e8 := k0.cell 8; have e9 := k0.cell 9; simp only [List.getElem?_toArray, List.getElem?_cons_zero, List.getElem?_cons_succ] at e0 e1 e2 e3 e4 e5 e6 e7 e8 e9; have l0 := k0.lt))
              go_wp2_with (go_at_call_of 24 (Value.slice ad t.dt.length cd); go_loud ((with_reducible refine (hDb.out _ nx).mono ?_); rintro e w2 ⟨rfl, hb2⟩; replace k0 := k0.step hb2; replace nx := bgo nx hb2; clear e0 e1 e2 e3 e4 e5 e6 e7 e8 e9 l0; have e0 := k0.cell 0; have e1 := k0.cell 1; have e2 := k0.cell 2; have e3 := k0.cell 3; have e4 := k0.cell 4; have e5 := k0.cell 5; have e6 := k0.cell 6; have e7 := k0.cell 7; have e8 := k0.cell 8; have e9 := k0.cell 9; simp only [List.getElem?_toArray, List.getElem?_cons_zero, List.getElem?_cons_succ] at e0 e1 e2 e3 e4 e5 e6 e7 e8 e9; have l0 := k0.lt))
              go_roundw
              case rel => exact ⟨0 + 1, by omega, by go_num, hr1, hy, k0, nx⟩
              case measure => simp [intOf]; omega
        · obtain ⟨j, rfl⟩ : ∃ j, k = j + 1 := ⟨k - 1, by omega⟩
          have hlj : j < t.rev.length := by omega
          obtain ⟨b2, off2, hbb, d2⟩ := RL.at1 (fun x => .int .i64 x) (fun _ => rfl) (hr.out.below nx) hlj
          simp only [Option.some.injEq, Addr.mk.injEq] at hbb
          obtain ⟨rfl, rfl, _⟩ := hbb
          have hgj : t.rev.getD j 0 = t.rev[j] := by simp [hlj]
          have hiff : riseAt t.rev (j + 1) ↔ t.rev[j] < t.rev[j + 1] := by
            unfold riseAt
            rw [hgd, Nat.add_sub_cancel, hgj]
            exact ⟨fun h => h.2.2 (by omega), fun h => ⟨hb'.1, hb'.2, fun _ => h⟩⟩
          by_cases hlt2 : t.rev[j] < t.rev[j + 1]
          · have hr1 := hid (riseTo_succ hri.out (hiff.2 hlt2))
            clear hno hgd hgj hb hb' hri hap hiff
            generalize t.rev[j + 1] = x at *
            generalize t.rev[j] = y at *
            have hMb := hid (fun w' (nx : Below w.heap.size w w') => txn_has t.mt x _ w' hcm.out (hm.out.below nx) n1)
            have hDb := hid (fun w' (nx : Below w.heap.size w w') => txn_has t.dt x _ w' hcd.out (hd.out.below nx) n2)
            by_cases hh1 : hasB t.mt x = true
            · have hv := hid (hnA.out (by rw [hh1]; rfl))
              have hMb := hid (fun w' nx => by have := hMb.out w' nx; rwa [hh1] at this)
              clear hh1 hDb hnA hyA
              go_wp2_with (go_at_call 46; go_loud ((with_reducible refine (hBk.out _).mono ?_); rintro e w1 ⟨rfl, rfl⟩))
              go_wp2_with (go_at_call_of 24 (Value.slice am t.mt.length cm); go_loud ((with_reducible refine (hMb.out _ nx).mono ?_); rintro e w2 ⟨rfl, hb2⟩; replace k0 := k0.step hb2; replace nx := bgo nx hb2; clear e0 e1 e2 e3 e4 e5 e6 e7 e8 e9 l0; have e0 := k0.cell 0; have e1 := k0.cell 1; have e2 := k0.cell 2; have e3 := k0.cell 3; have e4 := k0.cell 4; have e5 := k0.cell 5; have e6 := k0.cell 6; have e7 := k0.cell 7; have e8 := k0.cell 8; have e9 := k0.cell 9; simp only [List.getElem?_toArray, List.getElem?_cons_zero, List.getElem?_cons_succ] at e0 e1 e2 e3 e4 e5 e6 e7 e8 e9; have l0 := k0.lt))
              go_ret
              exact ⟨ret_b hv.out.symm, nx⟩
            · rw [Bool.not_eq_true] at hh1
              have hMb := hid (fun w' nx => by have := hMb.out w' nx; rwa [hh1] at this)
              by_cases hh2 : hasB t.dt x = true
              · have hv := hid (hnA.out (by rw [hh1, hh2]; rfl))
                have hDb := hid (fun w' nx => by have := hDb.out w' nx; rwa [hh2] at this)
                clear hh1 hh2 hnA hyA
                go_wp2_with (go_at_call 46; go_loud ((with_reducible refine (hBk.out _).mono ?_); rintro e w1 ⟨rfl, rfl⟩))
                go_wp2_with (go_at_call_of 24 (Value.slice am t.mt.length cm); go_loud ((with_reducible refine (hMb.out _ nx).mono ?_); rintro e w2 ⟨rfl, hb2⟩; replace k0 := k0.step hb2; replace nx := bgo nx hb2; clear e0 e1 e2 e3 e4 e5 e6 e7 e8 e9 l0; have e0 := k0.cell 0; have e1 := k0.cell 1; have e2 := k0.cell 2; have e3 := k0.cell 3; have e4 := k0.cell 4; have e5 := k0.cell 5; have e6 := k0.cell 6; have e7 := k0.cell 7; have e8 := k0.cell 8; have e9 := k0.cell 9; simp only [List.getElem?_toArray, List.getElem?_cons_zero, List.getElem?_cons_succ] at e0 e1 e2 e3 e4 e5 e6 e7 e8 e9; have l0 := k0.lt))
                go_wp2_with (go_at_call_of 24 (Value.slice ad t.dt.length cd); go_loud ((with_reducible refine (hDb.out _ nx).mono ?_); rintro e w2 ⟨rfl, hb2⟩; replace k0 := k0.step hb2; replace nx := bgo nx hb2; clear e0 e1 e2 e3 e4 e5 e6 e7 e8 e9 l0; have e0 := k0.cell 0; have e1 := k0.cell 1; have e2 := k0.cell 2; have e3 := k0.cell 3; have e4 := k0.cell 4; have e5 := k0.cell 5; have e6 := k0.cell 6; have e7 := k0.cell 7; have e8 := k0.cell 8; have e9 := k0.cell 9; simp only [List.getElem?_toArray, List.getElem?_cons_zero, List.getElem?_cons_succ] at e0 e1 e2 e3 e4 e5 e6 e7 e8 e9; have l0 := k0.lt))
                go_ret
                exact ⟨ret_b hv.out.symm, nx⟩
              · rw [Bool.not_eq_true] at hh2
                have hDb := hid (fun w' nx => by have := hDb.out w' nx; rwa [hh2] at this)
                have hy := hid (hyA.out (by rw [hh1, hh2]; rfl))
                clear hh1 hh2 hnA hyA
                go_wp2_with (go_at_call 46; go_loud ((with_reducible refine (hBk.out _).mono ?_); rintro e w1 ⟨rfl, rfl⟩))
                go_wp2_with (go_at_call_of 24 (Value.slice am t.mt.length cm); go_loud ((with_reducible refine (hMb.out _ nx).mono ?_); rintro e w2 ⟨rfl, hb2⟩; replace k0 := k0.step hb2; replace nx := bgo nx hb2; clear e0 e1 e2 e3 e4 e5 e6 e7 e8 e9 l0; have e0 := k0.cell 0; have e1 := k0.cell 1; have e2 := k0.cell 2; have e3 := k0.cell 3; have e4 := k0.cell 4; have e5 := k0.cell 5; have e6 := k0.cell 6; have e7 := k0.cell 7; have e8 := k0.cell 8; have e9 := k0.cell 9; simp only [List.getElem?_toArray, List.getElem?_cons_zero, List.getElem?_cons_succ] at e0 e1 e2 e3 e4 e5 e6 e7 e8 e9; have l0 := k0.lt))
                go_wp2_with (go_at_call_of 24 (Value.slice ad t.dt.length cd); go_loud ((with_reducible refine (hDb.out _ nx).mono ?_); rintro e w2 ⟨rfl, hb2⟩; replace k0 := k0.step hb2; replace nx := bgo nx hb2; clear e0 e1 e2 e3 e4 e5 e6 e7 e8 e9 l0; have e0 := k0.cell 0; have e1 := k0.cell 1; have e2 := k0.cell 2; have e3 := k0.cell 3; have e4 := k0.cell 4; have e5 := k0.cell 5; have e6 := k0.cell 6; have e7 := k0.cell 7; have e8 := k0.cell 8; have e9 := k0.cell 9; simp only [List.getElem?_toArray, List.getElem?_cons_zero, List.getElem?_cons_succ] at e0 e1 e2 e3 e4 e5 e6 e7 e8 e9; have l0 := k0.lt))
                go_roundw
                case rel => exact ⟨j + 1 + 1, by omega, by go_num, hr1, hy, k0, nx⟩
                case measure => simp [intOf]; omega
          · have hv := hid (hno.out (fun hh => hlt2 (hiff.1 hh)))
            clear hno hgd hgj hb hb' hri hap hiff hnA hyA
            generalize t.rev[j + 1] = x at *
            generalize t.rev[j] = y at *
            go_wp2_with (go_at_call 46; go_loud ((with_reducible refine (hBk.out _).mono ?_); rintro e w1 ⟨rfl, rfl⟩))
            go_ret
            exact ⟨ret_b hv.out.symm, nx⟩
      · have hv := hid (hno.out (fun hh => hb (by
          unfold riseAt at hh
          rw [hgd] at hh
          exact decide_eq_true ⟨hh.1, hh.2.1⟩)))
        rw [Bool.not_eq_true] at hb
        have hBk := fun w => hBk w
        rw [hb] at hBk
        replace hBk := hid hBk
        clear hno hgd hb hri hap hnA hyA
        generalize t.rev[k] = x at *
        go_wp2_with (go_at_call 46; go_loud ((with_reducible refine (hBk.out _).mono ?_); rintro e w1 ⟨rfl, rfl⟩))
        go_ret
        exact ⟨ret_b hv.out.symm, nx⟩
    · obtain rfl : k = t.rev.length := by omega
      have hrise := hid ((rise_iff t.rev).2 hri.out)
      have hapr := hid (show ∀ j (hj : j < t.rev.length), (!hasB t.mt t.rev[j] && !hasB t.dt t.rev[j]) = true from fun j hj => hap.out j hj hj)
      clear hri hap
      go_wp2
      go_loopw [6, 70] (fun _ i wr => ∃ k : Nat, k ≤ t.mt.length ∧ i = .int .i64 k ∧ Hid (∀ j, j < k → ∀ (hj : j < t.mt.length), (!hasB t.dt t.mt[j].block) = true) ∧ Blk wr w.heap.size #[.int .i64 t.seq, .slice am t.mt.length cm, .slice ad t.dt.length cd, .slice ar t.rev.length cr, .bool t.h0.on, .int .i64 t.h0.left, .bool t.h1.on, .int .i64 t.h1.left, .bool t.h2.on, .int .i64 t.h2.left] 28 ∧ Below w.heap.size w wr) (fun _ i _ => t.mt.length - (intOf i).toNat)
      case atStart => exact ⟨0, Nat.zero_le _, rfl, hid (fun j hj => absurd hj (Nat.not_lt_zero j)), k0, nx⟩
      case round =>
        clear k0 nx e0 e1 e2 e3 e4 e5 e6 e7 e8 e9 l0
        obtain ⟨k, hk, rfl, hap, k0, nx⟩ := hrel
        have e0 := k0.cell 0; have e1 := k0.cell 1; have e2 := k0.cell 2; have e3 := k0.cell 3; have e4 := k0.cell 4; have e5 := k0.cell 5; have e6 := k0.cell 6; have e7 := k0.cell 7; have e8 := k0.cell 8; have e9 := k0.cell 9; simp only [List.getElem?_toArray, List.getElem?_cons_zero, List.getElem?_cons_succ] at e0 e1 e2 e3 e4 e5 e6 e7 e8 e9; have l0 := k0.lt
        by_cases hlt : k < t.mt.length
        · obtain ⟨b1, o1, rfl, d0, d1⟩ := RL.at2 (fun x => .int .i64 x.block) (fun x => .string x.text) (fun _ => rfl) (hm.out.below nx) hlt
          have hnA := hid (show (!hasB t.dt t.mt[k].block) = false → gT = false from fun hh => hng.out (.inr (.inr (.inr (.inr (.inl (ham.out k hlt hh)))))))
          have hyA := hid (show (!hasB t.dt t.mt[k].block) = true → ∀ j, j < k + 1 → ∀ (hj : j < t.mt.length), (!hasB t.dt t.mt[j].block) = true from fun hh j hj hj2 => by
            by_cases e : j = k
            · subst e; exact hh
            · exact hap.out j (by omega) hj2)
          generalize t.mt[k] = c at *
          obtain ⟨x, ct⟩ := c
          dsimp only at *
          have hDb := hid (fun w' (nx : Below w.heap.size w w') => txn_has t.dt x _ w' hcd.out (hd.out.below nx) n2)
          replace k0 := k0.alloc (.cells #[.int .i64 x, .string ct] 68)
          have nx' := nx
          replace nx := bal nx (.cells #[.int .i64 x, .string ct] 68)
          clear e0 e1 e2 e3 e4 e5 e6 e7 e8 e9 l0; have e0 := k0.cell 0; have e1 := k0.cell 1; have e2 := k0.cell 2; have e3 := k0.cell 3; have e4 := k0.cell 4; have e5 := k0.cell 5; have e6 := k0.cell 6; have e7 := k0.cell 7; have e8 := k0.cell 8; have e9 := k0.cell 9; simp only [List.getElem?_toArray, List.getElem?_cons_zero, List.getElem?_cons_succ] at e0 e1 e2 e3 e4 e5 e6 e7 e8 e9; have l0 := k0.lt
          have kx := Blk.new wr #[.int .i64 x, .string ct] 68
          have x0 := kx.cell 0
          simp only [List.getElem?_toArray, List.getElem?_cons_zero, List.getElem?_cons_succ] at x0
          by_cases hh2 : hasB t.dt x = true
          · have hv := hid (hnA.out (by rw [hh2]; rfl))
            have hDb := hid (fun w' nx => by have := hDb.out w' nx; rwa [hh2] at this)
            clear hh2 hnA hyA hap
            go_wp2_with (go_at_call_of 24 (Value.slice ad t.dt.length cd); go_loud ((with_reducible refine (hDb.out _ nx).mono ?_); rintro e w2 ⟨rfl, hb2⟩; replace k0 := k0.step hb2; replace nx := bgo nx hb2; clear e0 e1 e2 e3 e4 e5 e6 e7 e8 e9 l0; have e0 := k0.cell 0; have e1 := k0.cell 1; have e2 := k0.cell 2; have e3 := k0.cell 3; have e4 := k0.cell 4; have e5 := k0.cell 5; have e6 := k0.cell 6; have e7 := k0.cell 7; have e8 := k0.cell 8; have e9 := k0.cell 9; simp only [List.getElem?_toArray, List.getElem?_cons_zero, List.getElem?_cons_succ] at e0 e1 e2 e3 e4 e5 e6 e7 e8 e9; have l0 := k0.lt))
            go_ret
            exact ⟨ret_b hv.out.symm, nx⟩
          · rw [Bool.not_eq_true] at hh2
            have hDb := hid (fun w' nx => by have := hDb.out w' nx; rwa [hh2] at this)
            have hy := hid (hyA.out (by rw [hh2]; rfl))
            clear hh2 hnA hyA hap
            go_wp2_with (go_at_call_of 24 (Value.slice ad t.dt.length cd); go_loud ((with_reducible refine (hDb.out _ nx).mono ?_); rintro e w2 ⟨rfl, hb2⟩; replace k0 := k0.step hb2; replace nx := bgo nx hb2; clear e0 e1 e2 e3 e4 e5 e6 e7 e8 e9 l0; have e0 := k0.cell 0; have e1 := k0.cell 1; have e2 := k0.cell 2; have e3 := k0.cell 3; have e4 := k0.cell 4; have e5 := k0.cell 5; have e6 := k0.cell 6; have e7 := k0.cell 7; have e8 := k0.cell 8; have e9 := k0.cell 9; simp only [List.getElem?_toArray, List.getElem?_cons_zero, List.getElem?_cons_succ] at e0 e1 e2 e3 e4 e5 e6 e7 e8 e9; have l0 := k0.lt))
            go_roundw
            case rel => first | exact ⟨k + 1, by omega, by go_num, hy, k0, nx⟩ | ((repeat apply Exists.intro); refine ⟨⟨k + 1, by omega, ?_, hy, k0, nx⟩, rfl⟩; go_num)
            case measure => simp [intOf]; omega
        · obtain rfl : k = t.mt.length := by omega
          have hapm := hid (hay.out hapr.out (fun j hj => hap.out j hj hj))
          clear hap hapr
          go_wp2
          go_loopw [8, 82] (fun _ i wr => ∃ k : Nat, k ≤ 3 ∧ i = .int .i64 k ∧ Hid (∀ j, j < k → (if j = 0 then hOk t.h0 else if j = 1 then hOk t.h1 else hOk t.h2) = true) ∧ Blk wr w.heap.size #[.int .i64 t.seq, .slice am t.mt.length cm, .slice ad t.dt.length cd, .slice ar t.rev.length cr, .bool t.h0.on, .int .i64 t.h0.left, .bool t.h1.on, .int .i64 t.h1.left, .bool t.h2.on, .int .i64 t.h2.left] 28 ∧ Below w.heap.size w wr) (fun _ i _ => 3 - (intOf i).toNat)
          case atStart => exact ⟨0, by decide, rfl, hid (fun j hj => absurd hj (Nat.not_lt_zero j)), k0, nx⟩
          case round =>
            clear k0 nx e0 e1 e2 e3 e4 e5 e6 e7 e8 e9 l0
            obtain ⟨k, hk, rfl, hall, k0, nx⟩ := hrel
            have l0 := k0.lt
            by_cases hlt : k < 3
            · obtain (rfl | rfl | rfl) : k = 0 ∨ k = 1 ∨ k = 2 := by omega
              · have hi := hi3.out wr
                replace hi := hi.1
                have hof := hOk_iff' t.h0
                have hnh := fun hh => hng.out (.inr (.inr (.inr (.inr (.inr (.inl hh))))))
                generalize t.h0.on = o at *
                generalize hle : t.h0.left = lf at *
                replace hnh := hid hnh; replace hle := hid hle
                by_cases hoo : hOk t.h0 = true
                · obtain ⟨a1, a2, a3⟩ := hof.1 hoo
                  have hoo2 := hid hoo
                  have hall2 := hid (show ∀ j, j < 0 + 1 → (if j = 0 then hOk t.h0 else if j = 1 then hOk t.h1 else hOk t.h2) = true from by
                    intro j hj
                    by_cases e : j = 0
                    · subst e; exact hoo2.out
                    · exact hall.out j (by omega))
                  clear hof hoo
                  by_cases hz : lf = 0
                  · subst hz
                    cases o
                    · go_wp2
                      go_roundw
                      case rel => first | exact ⟨0 + 1, by decide, rfl, hall2, k0.alloc _, bal nx _⟩ | ((repeat apply Exists.intro); exact ⟨⟨0 + 1, by decide, rfl, hall2, k0.alloc _, bal nx _⟩, rfl⟩)
                      case measure => simp [intOf]
                    · go_wp2
                      go_roundw
                      case rel => first | exact ⟨0 + 1, by decide, rfl, hall2, k0.alloc _, bal nx _⟩ | ((repeat apply Exists.intro); exact ⟨⟨0 + 1, by decide, rfl, hall2, k0.alloc _, bal nx _⟩, rfl⟩)
                      case measure => simp [intOf]
                  · have ho : o = true := a3.resolve_right hz
                    have hz2 : 0 < lf := by omega
                    subst ho
                    clear hz a3
                    go_wp2
                    go_roundw
                    case rel => first | exact ⟨0 + 1, by decide, rfl, hall2, k0.alloc _, bal nx _⟩ | ((repeat apply Exists.intro); exact ⟨⟨0 + 1, by decide, rfl, hall2, k0.alloc _, bal nx _⟩, rfl⟩)
                    case measure => simp [intOf]
                · replace hoo : hOk t.h0 = false := by simpa using hoo
                  have hgf := hid (hnh.out hoo)
                  have hof2 : ¬ (0 ≤ lf ∧ lf ≤ 24 ∧ (o = true ∨ lf = 0)) := fun h => by rw [hof.2 h] at hoo; cases hoo
                  clear hof hoo
                  by_cases q1 : lf < 0
                  · clear hof2
                    go_wp2
                    go_ret
                    exact ⟨ret_b hgf.out.symm, bal nx _⟩
                  · by_cases q2 : 24 < lf
                    · clear hof2
                      go_wp2
                      go_ret
                      exact ⟨ret_b hgf.out.symm, bal nx _⟩
                    · have q3 : (lf != 0) = true := bne_iff_ne.2 (fun hz => hof2 ⟨by omega, by omega, .inr hz⟩)
                      have q4 : o = false := by
                        cases o
                        · rfl
                        · exact absurd ⟨by omega, by omega, .inl rfl⟩ hof2
                      subst q4
                      clear hof2
                      go_wp2
                      go_ret
                      exact ⟨ret_b hgf.out.symm, bal nx _⟩
              · have hi := hi3.out wr
                replace hi := hi.2.1
                have hof := hOk_iff' t.h1
                have hnh := fun hh => hng.out (.inr (.inr (.inr (.inr (.inr (.inr (.inl hh)))))))
                generalize t.h1.on = o at *
                generalize hle : t.h1.left = lf at *
                replace hnh := hid hnh; replace hle := hid hle
                by_cases hoo : hOk t.h1 = true
                · obtain ⟨a1, a2, a3⟩ := hof.1 hoo
                  have hoo2 := hid hoo
                  have hall2 := hid (show ∀ j, j < 1 + 1 → (if j = 0 then hOk t.h0 else if j = 1 then hOk t.h1 else hOk t.h2) = true from by
                    intro j hj
                    by_cases e : j = 1
                    · subst e; exact hoo2.out
                    · exact hall.out j (by omega))
                  clear hof hoo
                  by_cases hz : lf = 0
                  · subst hz
                    cases o
                    · go_wp2
                      go_roundw
                      case rel => first | exact ⟨1 + 1, by decide, rfl, hall2, k0.alloc _, bal nx _⟩ | ((repeat apply Exists.intro); exact ⟨⟨1 + 1, by decide, rfl, hall2, k0.alloc _, bal nx _⟩, rfl⟩)
                      case measure => simp [intOf]
                    · go_wp2
                      go_roundw
                      case rel => first | exact ⟨1 + 1, by decide, rfl, hall2, k0.alloc _, bal nx _⟩ | ((repeat apply Exists.intro); exact ⟨⟨1 + 1, by decide, rfl, hall2, k0.alloc _, bal nx _⟩, rfl⟩)
                      case measure => simp [intOf]
                  · have ho : o = true := a3.resolve_right hz
                    have hz2 : 0 < lf := by omega
                    subst ho
                    clear hz a3
                    go_wp2
                    go_roundw
                    case rel => first | exact ⟨1 + 1, by decide, rfl, hall2, k0.alloc _, bal nx _⟩ | ((repeat apply Exists.intro); exact ⟨⟨1 + 1, by decide, rfl, hall2, k0.alloc _, bal nx _⟩, rfl⟩)
                    case measure => simp [intOf]
                · replace hoo : hOk t.h1 = false := by simpa using hoo
                  have hgf := hid (hnh.out hoo)
                  have hof2 : ¬ (0 ≤ lf ∧ lf ≤ 24 ∧ (o = true ∨ lf = 0)) := fun h => by rw [hof.2 h] at hoo; cases hoo
                  clear hof hoo
                  by_cases q1 : lf < 0
                  · clear hof2
                    go_wp2
                    go_ret
                    exact ⟨ret_b hgf.out.symm, bal nx _⟩
                  · by_cases q2 : 24 < lf
                    · clear hof2
                      go_wp2
                      go_ret
                      exact ⟨ret_b hgf.out.symm, bal nx _⟩
                    · have q3 : (lf != 0) = true := bne_iff_ne.2 (fun hz => hof2 ⟨by omega, by omega, .inr hz⟩)
                      have q4 : o = false := by
                        cases o
                        · rfl
                        · exact absurd ⟨by omega, by omega, .inl rfl⟩ hof2
                      subst q4
                      clear hof2
                      go_wp2
                      go_ret
                      exact ⟨ret_b hgf.out.symm, bal nx _⟩
              · have hi := hi3.out wr
                replace hi := hi.2.2
                have hof := hOk_iff' t.h2
                have hnh := fun hh => hng.out (.inr (.inr (.inr (.inr (.inr (.inr (.inr hh)))))))
                generalize t.h2.on = o at *
                generalize hle : t.h2.left = lf at *
                replace hnh := hid hnh; replace hle := hid hle
                by_cases hoo : hOk t.h2 = true
                · obtain ⟨a1, a2, a3⟩ := hof.1 hoo
                  have hoo2 := hid hoo
                  have hall2 := hid (show ∀ j, j < 2 + 1 → (if j = 0 then hOk t.h0 else if j = 1 then hOk t.h1 else hOk t.h2) = true from by
                    intro j hj
                    by_cases e : j = 2
                    · subst e; exact hoo2.out
                    · exact hall.out j (by omega))
                  clear hof hoo
                  by_cases hz : lf = 0
                  · subst hz
                    cases o
                    · go_wp2
                      go_roundw
                      case rel => first | exact ⟨2 + 1, by decide, rfl, hall2, k0.alloc _, bal nx _⟩ | ((repeat apply Exists.intro); exact ⟨⟨2 + 1, by decide, rfl, hall2, k0.alloc _, bal nx _⟩, rfl⟩)
                      case measure => simp [intOf]
                    · go_wp2
                      go_roundw
                      case rel => first | exact ⟨2 + 1, by decide, rfl, hall2, k0.alloc _, bal nx _⟩ | ((repeat apply Exists.intro); exact ⟨⟨2 + 1, by decide, rfl, hall2, k0.alloc _, bal nx _⟩, rfl⟩)
                      case measure => simp [intOf]
                  · have ho : o = true := a3.resolve_right hz
                    have hz2 : 0 < lf := by omega
                    subst ho
                    clear hz a3
                    go_wp2
                    go_roundw
                    case rel => first | exact ⟨2 + 1, by decide, rfl, hall2, k0.alloc _, bal nx _⟩ | ((repeat apply Exists.intro); exact ⟨⟨2 + 1, by decide, rfl, hall2, k0.alloc _, bal nx _⟩, rfl⟩)
                    case measure => simp [intOf]
                · replace hoo : hOk t.h2 = false := by simpa using hoo
                  have hgf := hid (hnh.out hoo)
                  have hof2 : ¬ (0 ≤ lf ∧ lf ≤ 24 ∧ (o = true ∨ lf = 0)) := fun h => by rw [hof.2 h] at hoo; cases hoo
                  clear hof hoo
                  by_cases q1 : lf < 0
                  · clear hof2
                    go_wp2
                    go_ret
                    exact ⟨ret_b hgf.out.symm, bal nx _⟩
                  · by_cases q2 : 24 < lf
                    · clear hof2
                      go_wp2
                      go_ret
                      exact ⟨ret_b hgf.out.symm, bal nx _⟩
                    · have q3 : (lf != 0) = true := bne_iff_ne.2 (fun hz => hof2 ⟨by omega, by omega, .inr hz⟩)
                      have q4 : o = false := by
                        cases o
                        · rfl
                        · exact absurd ⟨by omega, by omega, .inl rfl⟩ hof2
                      subst q4
                      clear hof2
                      go_wp2
                      go_ret
                      exact ⟨ret_b hgf.out.symm, bal nx _⟩
            · obtain rfl : k = 3 := by omega
              have hv := hid (hyes.out hsq.out hcm'.out hcd'.out hrise.out hapm.out (hall.out 0 (by decide)) (hall.out 1 (by decide)) (hall.out 2 (by decide)))
              clear hall
              go_wp2
              go_ret
              exact ⟨ret_b hv.out.symm, nx⟩
end Go.Proofs.Ytjhmfljlclajnac

namespace Wb
open Go Go.RowKit
theorem w64 (x : Int) : RowKit.wrap64 x = IntKind.i64.wrap x := by
  first
    | rfl
    | (unfold RowKit.wrap64; rw [IntKind.wrap_i64])
    | (unfold RowKit.wrap64; simp [IntKind.wrap, IntKind.bits, IntKind.signed])
def askP (t : Txn) : Nat → Int
  | 0 => ((t.mt.length + t.rev.length : Nat) : Int)
  | 1 => IntKind.i64.wrap (((t.mt.length + t.rev.length : Nat) : Int) + t.h0.left)
  | 2 => IntKind.i64.wrap (IntKind.i64.wrap (((t.mt.length + t.rev.length : Nat) : Int) + t.h0.left) + t.h1.left)
  | _ => askedI t
end Wb
namespace Go.Proofs.Ytjhmfljlclajnac
open Go.RowKit Wb
set_option linter.unusedVariables false
set_option linter.unusedSimpArgs false
set_option maxRecDepth 100000
set_option maxHeartbeats 4000000
theorem txn_Asked (t : Txn) (v : Value) (w : World) (h : RTxn w v t) :
    Calls Try.prog 17 #[v] w fun e w' => e = .returned (.int .i64 (askedI t)) ∧ Below w.heap.size w w' := by
  obtain ⟨vm, vd, vr, rfl, hm, hd, hr, n1, n2, n3⟩ := h
  obtain ⟨am, cm, rfl, _⟩ := hm.form
  obtain ⟨ad, cd, rfl, _⟩ := hd.form
  obtain ⟨ar, cr, rfl, _⟩ := hr.form
  have hi3 := fun w => idx3 w t.h0.on t.h1.on t.h2.on t.h0.left t.h1.left t.h2.left
  have h0 : askP t 0 = (t.mt.length : Int) + (t.rev.length : Int) := by show ((t.mt.length + t.rev.length : Nat) : Int) = _; omega
  have h3 : askP t 3 = askedI t := rfl
  have hw : IntKind.i64.wrap ((t.mt.length : Int) + (t.rev.length : Int)) = (t.mt.length : Int) + (t.rev.length : Int) := IntWalk.i64_in _ (by omega)
  unfold txnV
  generalize askedI t = aI at *
  have k0 := Blk.new w #[.int .i64 t.seq, .slice am t.mt.length cm, .slice ad t.dt.length cd, .slice ar t.rev.length cr, .bool t.h0.on, .int .i64 t.h0.left, .bool t.h1.on, .int .i64 t.h1.left, .bool t.h2.on, .int .i64 t.h2.left] 28
  have nx := bal (b0 w) (.cells #[.int .i64 t.seq, .slice am t.mt.length cm, .slice ad t.dt.length cd, .slice ar t.rev.length cr, .bool t.h0.on, .int .i64 t.h0.left, .bool t.h1.on, .int .i64 t.h1.left, .bool t.h2.on, .int .i64 t.h2.left] 28)
  have e0 := k0.cell 0; have e1 := k0.cell 1; have e2 := k0.cell 2; have e3 := k0.cell 3; have e4 := k0.cell 4; have e5 := k0.cell 5; have e6 := k0.cell 6; have e7 := k0.cell 7; have e8 := k0.cell 8; have e9 := k0.cell 9; simp only [List.getElem?_toArray, List.getElem?_cons_zero, List.getElem?_cons_succ] at e0 e1 e2 e3 e4 e5 e6 e7 e8 e9; have l0 := k0.lt
  replace hi3 := hid hi3; replace h0 := hid h0; replace h3 := hid h3
  clear hm hd hr
  go_enter Try.func17, Try.ntmps17
  go_wp2
  go_loopw [3, 5, 15] (fun s _ i wr => ∃ k : Nat, k ≤ 3 ∧ i = .int .i64 k ∧ s = .int .i64 (askP t k) ∧ Blk wr w.heap.size #[.int .i64 t.seq, .slice am t.mt.length cm, .slice ad t.dt.length cd, .slice ar t.rev.length cr, .bool t.h0.on, .int .i64 t.h0.left, .bool t.h1.on, .int .i64 t.h1.left, .bool t.h2.on, .int .i64 t.h2.left] 28 ∧ Below w.heap.size w wr) (fun _ _ i _ => 3 - (intOf i).toNat)
  case atStart => exact ⟨0, by decide, rfl, by rw [h0.out], k0, nx⟩
  case round =>
    clear k0 nx e0 e1 e2 e3 e4 e5 e6 e7 e8 e9 l0
    obtain ⟨k, hk, rfl, rfl, k0, nx⟩ := hrel
    have l0 := k0.lt
    by_cases hlt : k < 3
    · obtain (rfl | rfl | rfl) : k = 0 ∨ k = 1 ∨ k = 2 := by omega
      · have hi := hi3.out wr
        replace hi := hi.1
        have hs := hid (show askP t (0 + 1) = RowKit.wrap64 (askP t 0 + t.h0.left) from (w64 _).symm)
        generalize askP t 0 = a0 at *
        go_wp2
        go_roundw
        case rel => first | exact ⟨0 + 1, by decide, rfl, by rw [hs.out], k0.alloc _, bal nx _⟩ | ((repeat apply Exists.intro); exact ⟨⟨0 + 1, by decide, rfl, by rw [hs.out], k0.alloc _, bal nx _⟩, rfl⟩)
        case measure => simp [intOf]
      · have hi := hi3.out wr
        replace hi := hi.2.1
        have hs := hid (show askP t (1 + 1) = RowKit.wrap64 (askP t 1 + t.h1.left) from (w64 _).symm)
        generalize askP t 1 = a0 at *
        go_wp2
        go_roundw
        case rel => first | exact ⟨1 + 1, by decide, rfl, by rw [hs.out], k0.alloc _, bal nx _⟩ | ((repeat apply Exists.intro); exact ⟨⟨1 + 1, by decide, rfl, by rw [hs.out], k0.alloc _, bal nx _⟩, rfl⟩)
        case measure => simp [intOf]
      · have hi := hi3.out wr
        replace hi := hi.2.2
        have hs := hid (show askP t (2 + 1) = RowKit.wrap64 (askP t 2 + t.h2.left) from (w64 _).symm)
        generalize askP t 2 = a0 at *
        go_wp2
        go_roundw
        case rel => first | exact ⟨2 + 1, by decide, rfl, by rw [hs.out], k0.alloc _, bal nx _⟩ | ((repeat apply Exists.intro); exact ⟨⟨2 + 1, by decide, rfl, by rw [hs.out], k0.alloc _, bal nx _⟩, rfl⟩)
        case measure => simp [intOf]
    · obtain rfl : k = 3 := by omega
      rw [h3.out]
      go_wp2
      go_ret
      exact ⟨rfl, nx⟩
end Go.Proofs.Ytjhmfljlclajnac

namespace Wb
open Go Go.RowKit
theorem any_hit {l : List Hnd} {k : Nat} (hk : k < l.length) (h : l[k].on = true) : l.any (·.on) = true := List.any_eq_true.2 ⟨_, List.getElem_mem hk, h⟩
theorem any_step {l : List Hnd} {k : Nat} (hk : k < l.length) (h0 : (l.take k).any (·.on) = false) (h : l[k].on = false) : (l.take (k + 1)).any (·.on) = false := by
  rw [List.take_succ_eq_append_getElem hk, List.any_append, h0]
  simp [h]
theorem any_full {l : List Hnd} {k : Nat} (hk : ¬ k < l.length) (h0 : (l.take k).any (·.on) = false) : l.any (·.on) = false := by
  rw [List.take_of_length_le (by omega)] at h0; exact h0
theorem hnds_RL {w : World} {b : Nat} {t : TypeId} {x0 x1 x2 x3 : Value} (p q r : Hnd) (h : Blk w b #[x0, x1, x2, x3, .bool p.on, .int .i64 p.left, .bool q.on, .int .i64 q.left, .bool r.on, .int .i64 r.left] t) : RL hndC w (.slice (some ⟨b, 4, none⟩) 3 3) [p, q, r] := by
  refine ⟨_, _, rfl, Nat.le_refl _, by unfold maxLen; omega, .inr ⟨_, _, rfl, fun j u hj => ?_⟩⟩
  rw [h.cell]
  rw [← hj]
  have hl : j < 6 := by
    have := (List.getElem?_eq_some_iff.1 hj).1
    simpa [hndC] using this
  obtain (rfl | rfl | rfl | rfl | rfl | rfl) : j = 0 ∨ j = 1 ∨ j = 2 ∨ j = 3 ∨ j = 4 ∨ j = 5 := by omega
  all_goals rfl
end Wb
namespace Go.Proofs.Ytjhmfljlclajnac
open Go.RowKit Wb
set_option linter.unusedVariables false
set_option linter.unusedSimpArgs false
set_option maxRecDepth 100000
set_option maxHeartbeats 4000000
theorem txn_Open1 (h : Hnd) (w : World) : Calls Try.prog 62 #[.agg #[.bool h.on, .int .i64 h.left]] w fun e w' => e = .returned (.bool h.on) ∧ Below w.heap.size w w' := by
  have k0 := Blk.new w #[.bool h.on, .int .i64 h.left] 25
  have c0 := k0.cell 0; have c1 := k0.cell 1
  simp only [List.getElem?_toArray, List.getElem?_cons_zero, List.getElem?_cons_succ] at c0 c1
  go_enter Try.func62, Try.ntmps62
  go_wp2
  go_ret
  exact ⟨rfl, bal (b0 w) _⟩
theorem hnd_Index (l : List Hnd) (v : Value) (w : World) (h : RL hndC w v l) (hl : l.length ≤ 3) :
    Calls Try.prog 77 #[v, .func (.func 62) #[] #[]] w fun e w' => (∃ r : Int, e = .returned (.int .i64 r) ∧ (decide (r ≥ 0) = l.any (·.on))) ∧ Below w.heap.size w w' := by
  obtain ⟨a, cap, rfl, _⟩ := h.form
  have hO := fun h w => txn_Open1 h w
  have hhit := fun k (hk : k < l.length) hh => any_hit (l := l) hk hh
  have hst := fun k (hk : k < l.length) h0 hh => any_step (l := l) hk h0 hh
  have hfu := fun k (hk : ¬ k < l.length) h0 => any_full (l := l) hk h0
  generalize hal : l.any (·.on) = al at *
  replace h := hid h; replace hO := hid hO; replace hhit := hid hhit; replace hst := hid hst; replace hfu := hid hfu
  clear hal
  go_enter Try.func77, Try.ntmps77
  go_wp2
  go_loopw [5, 8] (fun _ i wr => ∃ k : Nat, k ≤ l.length ∧ i = .int .i64 k ∧ Hid ((l.take k).any (·.on) = false) ∧ Below w.heap.size w wr) (fun _ i _ => l.length - (intOf i).toNat)
  case atStart => exact ⟨0, Nat.zero_le _, rfl, rfl, b0 w⟩
  case round =>
    obtain ⟨k, hk, rfl, hall, nx⟩ := hrel
    by_cases hlt : k < l.length
    · obtain ⟨b1, o1, rfl, c0, c1⟩ := RL.at2 (fun x => .bool x.on) (fun x => .int .i64 x.left) (fun _ => rfl) (h.out.below nx) hlt
      have hh1 := hid (hhit.out k hlt)
      have hh2 := hid (fun hh => hst.out k hlt hall.out hh)
      generalize l[k] = x at *
      have hOx := hO.out x
      cases hx : x.on with
      | true =>
        have hv := hid (hh1.out hx)
        rw [hx] at hOx c0
        replace hOx := hid hOx
        clear hx hh1 hh2 hall
        go_wp2_with (go_at_call 62; go_loud ((with_reducible refine (hOx.out _).mono ?_); rintro e w1 ⟨rfl, hb1⟩))
        go_ret
        exact ⟨⟨_, rfl, by rw [hv.out]; exact decide_eq_true (Int.natCast_nonneg _)⟩, bgo nx hb1⟩
      | false =>
        have hy := hid (hh2.out hx)
        rw [hx] at hOx c0
        replace hOx := hid hOx
        clear hx hh1 hh2 hall
        go_wp2_with (go_at_call 62; go_loud ((with_reducible refine (hOx.out _).mono ?_); rintro e w1 ⟨rfl, hb1⟩))
        go_roundw
        case rel => first | exact ⟨k + 1, by omega, by go_num, hy, bgo nx hb1⟩ | ((repeat apply Exists.intro); exact ⟨⟨k + 1, by omega, by go_num, hy, bgo nx hb1⟩, rfl⟩)
        case measure => simp [intOf]; omega
    · have hv := hid (hfu.out k hlt hall.out)
      clear hall
      go_wp2
      go_ret
      exact ⟨⟨_, rfl, by rw [hv.out]; rfl⟩, nx⟩
theorem hnd_Contains (l : List Hnd) (v : Value) (w : World) (h : RL hndC w v l) (hl : l.length ≤ 3) :
    Calls Try.prog 61 #[v, .func (.func 62) #[] #[]] w fun e w' => e = .returned (.bool (l.any (·.on))) ∧ Below w.heap.size w w' := by
  have hI := hid (hnd_Index l v w h hl)
  obtain ⟨a, cap, rfl, _⟩ := h.form
  generalize l.any (·.on) = al at *
  clear h
  go_enter Try.func61, Try.ntmps61
  go_wp2_with (go_at_call 77; go_loud ((with_reducible refine hI.out.mono ?_); rintro e w1 ⟨⟨r, rfl, hr⟩, hb1⟩; replace hr := hid hr))
  all_goals
    go_ret
    refine ⟨ret_b ?_, hb1⟩
    have := hr.out
    first | exact this | (rw [← this]; (try simp_all); (try omega))
theorem txn_Open (t : Txn) (v : Value) (w : World) (h : RTxn w v t) :
    Calls Try.prog 42 #[v] w fun e w' => e = .returned (.bool (openB t)) ∧ Below w.heap.size w w' := by
  obtain ⟨vm, vd, vr, rfl, hm, hd, hr, n1, n2, n3⟩ := h
  obtain ⟨am, cm, rfl, _⟩ := hm.form
  obtain ⟨ad, cd, rfl, _⟩ := hd.form
  obtain ⟨ar, cr, rfl, _⟩ := hr.form
  unfold txnV
  have k0 := Blk.new w #[.int .i64 t.seq, .slice am t.mt.length cm, .slice ad t.dt.length cd, .slice ar t.rev.length cr, .bool t.h0.on, .int .i64 t.h0.left, .bool t.h1.on, .int .i64 t.h1.left, .bool t.h2.on, .int .i64 t.h2.left] 28
  have nx := bal (b0 w) (.cells #[.int .i64 t.seq, .slice am t.mt.length cm, .slice ad t.dt.length cd, .slice ar t.rev.length cr, .bool t.h0.on, .int .i64 t.h0.left, .bool t.h1.on, .int .i64 t.h1.left, .bool t.h2.on, .int .i64 t.h2.left] 28)
  have hC := hnd_Contains [t.h0, t.h1, t.h2] _ _ (hnds_RL t.h0 t.h1 t.h2 k0) (Nat.le_refl 3)
  have e : [t.h0, t.h1, t.h2].any (·.on) = openB t := by unfold openB; simp [Bool.or_assoc]
  rw [e] at hC
  generalize openB t = ob at *
  replace hC := hid hC
  clear hm hd hr e k0
  go_enter Try.func42, Try.ntmps42
  go_wp2_with (go_at_call 61; go_loud ((with_reducible refine hC.out.mono ?_); rintro e w1 ⟨rfl, hb1⟩))
  go_ret
  exact ⟨rfl, bgo nx hb1⟩
end Go.Proofs.Ytjhmfljlclajnac

namespace Go.Proofs.Ytjhmfljlclajnac
open Go.RowKit Wb
set_option linter.unusedVariables false
set_option linter.unusedSimpArgs false
set_option maxRecDepth 100000
set_option maxHeartbeats 4000000
end Go.Proofs.Ytjhmfljlclajnac

namespace Wb
open Go Go.RowKit
def cntI (bs : List Int) (x : Int) : Int := (bs.countP (fun b => b == x) : Nat)
def cntL (bs : List Int) : List Int := (List.range 12).map fun (k : Nat) => cntI bs k
theorem cnt_append (l1 l2 : List Int) (x : Int) : cntI (l1 ++ l2) x = cntI l1 x + cntI l2 x := by simp [cntI]
theorem cnt_one (b x : Int) : cntI [b] x = if b = x then 1 else 0 := by
  by_cases h : b = x <;> simp [cntI, h]
theorem cntL_len (bs : List Int) : (cntL bs).length = 12 := by simp [cntL]
theorem cntL_nil : cntL [] = List.replicate 12 0 := rfl
theorem cntL_get (bs : List Int) {k : Nat} (hk : k < 12) : (cntL bs)[k]'(by rw [cntL_len]; exact hk) = cntI bs k := by simp [cntL]
theorem cnt_nonneg (bs : List Int) (x : Int) : 0 ≤ cntI bs x := by unfold cntI; omega
theorem cnt_le (bs : List Int) (x : Int) : cntI bs x ≤ bs.length := by
  unfold cntI
  have := List.countP_le_length (p := fun b => b == x) (l := bs)
  omega
theorem cntL_step (bs : List Int) {b : Nat} (_hb : b < 12) : cntL (bs ++ [(b : Int)]) = (cntL bs).set b (cntI bs b + 1) := by
  refine List.ext_getElem (by simp [cntL]) fun n h1 h2 => ?_
  rw [cntL_len] at h1
  rw [cntL_get _ h1, List.getElem_set, cnt_append, cnt_one]
  by_cases h : b = n
  · subst h; rw [if_pos rfl, if_pos rfl]
  · rw [if_neg (by omega), if_neg h, cntL_get _ h1]; omega
theorem inI_false {l : List Int} {x : Int} (h : ∀ b ∈ l, b ≠ x) : inI l x = false := by
  unfold inI
  rw [List.any_eq_false]
  intro b hb hh
  exact h b hb (beq_iff_eq.1 hh)
theorem cnt_rise {r : List Int} (h : ∀ k (hk : k < r.length), ∀ i (hi : i < k), r[i] < r[k]) (x : Int) : cntI r x = if inI r x then 1 else 0 := by
  have key : ∀ k, k ≤ r.length → cntI (r.take k) x = if inI (r.take k) x then 1 else 0 := by
    intro k
    induction k with
    | zero => intro _; rfl
    | succ k ih =>
      intro hk
      have hk' : k < r.length := by omega
      rw [inI_step hk', List.take_succ_eq_append_getElem hk', cnt_append, cnt_one, ih (by omega)]
      by_cases hx : r[k] = x
      · have hn : inI (r.take k) x = false := inI_false fun b hb => by
          obtain ⟨i, hi, rfl⟩ := List.mem_iff_getElem.1 hb
          rw [List.length_take] at hi
          rw [List.getElem_take]
          have := h k hk' i (by omega)
          omega
        rw [hn, if_pos hx, beq_iff_eq.2 hx]
        simp
      · have hb : (r[k] == x) = false := beq_eq_false_iff_ne.2 hx
        rw [if_neg hx, hb, Bool.or_false]
        omega
  have := key r.length (Nat.le_refl _)
  rwa [List.take_length] at this
theorem inI_blks (l : List Cpy) (x : Int) : inI (blks l) x = hasB l x := by simp [inI, blks, hasB, List.any_map, Function.comp_def]
theorem cnt_copies {l : List Cpy} (h : copiesB l = true) (x : Int) : cntI (blks l) x = if hasB l x then 1 else 0 := by
  rw [← inI_blks]
  refine cnt_rise (fun k hk i hi => ?_) x
  have hk' : k < l.length := by simpa [blks] using hk
  have := (copies_get h hk').2.2.1 i hi
  simpa [blks] using this
theorem cnt_rev {r : List Int} (h : rise r = true) (x : Int) : cntI r x = if inI r x then 1 else 0 := cnt_rise (fun _ hk i hi => (rise_get h hk).2.2 i hi) x
theorem hasB_mem {l : List Cpy} {b : Int} : hasB l b = true ↔ ∃ c ∈ l, c.block = b := by simp [hasB]
theorem inI_mem {l : List Int} {b : Int} : inI l b = true ↔ b ∈ l := by simp [inI]
theorem apart_iff (t : Txn) : apart t = true ↔ (∀ x, ¬ (inI t.rev x = true ∧ hasB t.mt x = true)) ∧ (∀ x, ¬ (inI t.rev x = true ∧ hasB t.dt x = true)) ∧ (∀ x, ¬ (hasB t.mt x = true ∧ hasB t.dt x = true)) := by
  unfold apart
  rw [Bool.and_eq_true, List.all_eq_true, List.all_eq_true]
  constructor
  · rintro ⟨h1, h2⟩
    refine ⟨fun x ⟨hx, hy⟩ => ?_, fun x ⟨hx, hy⟩ => ?_, fun x ⟨hx, hy⟩ => ?_⟩
    · have := h1 x (inI_mem.1 hx)
      rw [hy] at this; cases this
    · have := h1 x (inI_mem.1 hx)
      rw [hy] at this; simp at this
    · obtain ⟨c, hc, rfl⟩ := hasB_mem.1 hx
      have := h2 c hc
      rw [hy] at this; cases this
  · rintro ⟨h1, h2, h3⟩
    refine ⟨fun b hb => ?_, fun c hc => ?_⟩
    · have hx := inI_mem.2 hb
      cases hm : hasB t.mt b
      · cases hd : hasB t.dt b
        · rfl
        · exact absurd ⟨hx, hd⟩ (h2 b)
      · exact absurd ⟨hx, hm⟩ (h1 b)
    · cases hd : hasB t.dt c.block
      · rfl
      · exact absurd ⟨hasB_mem.2 ⟨c, hc, rfl⟩, hd⟩ (h3 c.block)
/-- All that a transaction names. -/
def allOf (t : Txn) : List Int := (blks t.mt ++ blks t.dt) ++ t.rev
theorem cnt_all {t : Txn} (h1 : copiesB t.mt = true) (h2 : copiesB t.dt = true) (h3 : rise t.rev = true) (x : Int) :
    cntI (allOf t) x = (if hasB t.mt x then 1 else 0) + (if hasB t.dt x then 1 else 0) + (if inI t.rev x then 1 else 0) := by
  unfold allOf
  rw [cnt_append, cnt_append, cnt_copies h1, cnt_copies h2, cnt_rev h3]
theorem apart_cnt {t : Txn} (h1 : copiesB t.mt = true) (h2 : copiesB t.dt = true) (h3 : rise t.rev = true) (h : apart t = true) (x : Int) : cntI (allOf t) x ≤ 1 := by
  rw [cnt_all h1 h2 h3]
  obtain ⟨g1, g2, g3⟩ := (apart_iff t).1 h
  have g1 := g1 x; have g2 := g2 x; have g3 := g3 x
  cases hm : hasB t.mt x <;> cases hd : hasB t.dt x <;> cases hr : inI t.rev x <;> simp_all
theorem cnt_apart {t : Txn} (h1 : copiesB t.mt = true) (h2 : copiesB t.dt = true) (h3 : rise t.rev = true) (h : ∀ k : Nat, k < 12 → cntI (allOf t) k ≤ 1) : apart t = true := by
  have hall : ∀ x, cntI (allOf t) x ≤ 1 := by
    intro x
    by_cases hx : 0 ≤ x ∧ x < 12
    · have := h x.toNat (by omega)
      rwa [Int.toNat_of_nonneg hx.1] at this
    · rw [cnt_all h1 h2 h3]
      have hm : hasB t.mt x = false := by
        cases hh : hasB t.mt x
        · rfl
        · obtain ⟨c, hc, rfl⟩ := hasB_mem.1 hh
          obtain ⟨k, hk, rfl⟩ := List.mem_iff_getElem.1 hc
          exact absurd (of_decide_eq_true (copies_get h1 hk).1) hx
      have hd : hasB t.dt x = false := by
        cases hh : hasB t.dt x
        · rfl
        · obtain ⟨c, hc, rfl⟩ := hasB_mem.1 hh
          obtain ⟨k, hk, rfl⟩ := List.mem_iff_getElem.1 hc
          exact absurd (of_decide_eq_true (copies_get h2 hk).1) hx
      rw [hm, hd]
      cases inI t.rev x <;> decide
  rw [apart_iff]
  refine ⟨fun x ⟨a, b⟩ => ?_, fun x ⟨a, b⟩ => ?_, fun x ⟨a, b⟩ => ?_⟩
  all_goals
    have := hall x
    rw [cnt_all h1 h2 h3, a, b] at this
  · cases hd : hasB t.dt x <;> simp [hd] at this
  · cases hd : hasB t.mt x <;> simp [hd] at this
  · cases hd : inI t.rev x <;> simp [hd] at this
/-! ### Copies, one by one -/
def okC (l : List Cpy) (k : Nat) : Prop := riseAt (blks l) k ∧ (l.getD k ⟨0, ⟨#[]⟩⟩).text.size = 32
def okTo (l : List Cpy) (n : Nat) : Prop := ∀ k, k < n → okC l k
theorem copies_okTo (l : List Cpy) : copiesB l = true ↔ okTo l l.length := by
  unfold copiesB
  rw [Bool.and_eq_true, rise_iff]
  have hl : (blks l).length = l.length := by simp [blks]
  rw [hl]
  constructor
  · rintro ⟨h1, h2⟩ k hk
    refine ⟨h1 k hk, ?_⟩
    rw [List.getD_eq_getElem?_getD, List.getElem?_eq_getElem hk]
    exact of_decide_eq_true (List.all_eq_true.1 h2 _ (List.getElem_mem hk))
  · intro h
    refine ⟨fun k hk => (h k hk).1, ?_⟩
    rw [List.all_eq_true]
    intro c hc
    obtain ⟨k, hk, rfl⟩ := List.mem_iff_getElem.1 hc
    have := (h k hk).2
    rw [List.getD_eq_getElem?_getD, List.getElem?_eq_getElem hk] at this
    exact decide_eq_true this
theorem copies_no {l : List Cpy} {k : Nat} (hk : k < l.length) (h : ¬ okC l k) : copiesB l = false := by
  cases hc : copiesB l
  · rfl
  · exact absurd ((copies_okTo l).1 hc k hk) h
/-- The block before place k. -/
def lastB (l : List Int) (k : Nat) : Int := if k = 0 then -1 else l.getD (k - 1) 0
theorem lastB_succ {l : List Int} {k : Nat} (hk : k < l.length) : lastB l (k + 1) = l[k] := by
  unfold lastB
  rw [if_neg (by omega), Nat.add_sub_cancel]
  simp [hk]
theorem okC_iff {l : List Cpy} {k : Nat} (hk : k < l.length) (hto : okTo l k) : okC l k ↔ lastB (blks l) k < l[k].block ∧ l[k].block < 12 ∧ l[k].text.size = 32 := by
  have e : (blks l).getD k 0 = l[k].block := by simp [blks, hk]
  have e2 : l.getD k ⟨0, ⟨#[]⟩⟩ = l[k] := by simp [hk]
  unfold okC riseAt lastB
  rw [e, e2]
  by_cases h0 : k = 0
  · subst h0
    simp only [Nat.lt_irrefl, false_implies, and_true, if_true]
    omega
  · rw [if_neg h0]
    have hp : 0 ≤ (blks l).getD (k - 1) 0 := (hto (k - 1) (by omega)).1.1
    constructor
    · rintro ⟨⟨a, b, c⟩, d⟩
      exact ⟨c (by omega), b, d⟩
    · rintro ⟨a, b, c⟩
      exact ⟨⟨by omega, b, fun _ => a⟩, c⟩
end Wb

namespace Wb
open Go Go.RowKit
theorem run_index_ints {P : Program} {t e : TypeId} {n : Nat} {i : TypeInfo} (w : World) (ht : P.underlying t = some (.array n e)) (hi : P.info? e = some i) (hs : i.size = 1) (hz : (isAgg e).run P w = .ok false w) (l : List Int) (hl : l.length = n) {k : Nat} (hk : k < l.length) :
    (Instr.index t (.agg (l.map (Value.int .i64)).toArray) (.int .i64 (k : Int))).run P w = .ok (.int .i64 l[k]) w := by
  have h0 : (0 : Int) ≤ (k : Int) ∧ (k : Int) < (n : Int) := by omega
  simp [Instr.index, asIntOf, run_underlying ht, h0, Go.sizeOf, typeInfo, hi, hs, part, hz, Result.andThen, hk]
  omega
end Wb

namespace Go.Proofs.Ytjhmfljlclajnac
open Go.RowKit Wb
set_option linter.unusedVariables false
set_option linter.unusedSimpArgs false

theorem elemInt : Elem Try.prog 23 3 1 8 := Elem.mk' (z := .int .i64 0) Try.underlying23 (by kernel_rfl) rfl

theorem ring_parts (n e : Int) (w : World) (h0 : 0 ≤ n) (h1 : n ≤ 24) (h2 : 10 ≤ e) (h3 : e ≤ 20) :
    Calls Try.prog 47 #[.int .i64 n, .int .i64 e] w fun e' w' => e' = .returned (.int .i64 (partsOf n e)) ∧ w = w' := by
  have h4 : (e == 0) = false := beq_eq_false_iff_ne.2 (by omega)
  go_enter Try.func47, Try.ntmps47
  go_wp2
  go_ret
  exact ⟨ret_i rfl, rfl⟩

theorem ring_Need (m r : Int) (w : World) :
    Calls Try.prog 21 #[.int .i64 m, .int .i64 r] w fun e' w' => e' = .returned (.tuple #[.int .i64 (needN m r), .int .i64 (needE m r)]) ∧ w = w' := by
  by_cases h : m < 0 ∨ m > 12 ∨ r < 0 ∨ r > 12
  · have e1 : needE m r = 2 := by simp [needE, h]
    have e2 : needN m r = 0 := by simp [needN, e1]
    rw [e1, e2]
    clear e1 e2
    go_enter Try.func21, Try.ntmps21
    go_wp2
    all_goals
      go_ret2
      exact ⟨rfl, rfl⟩
  · have e1 : needE m r = 0 := by simp [needE, h]
    have e2 : needN m r = partsOf r 20 + partsOf m 10 + m + 1 := by simp [needN, e1]
    rw [e1, e2]
    have g1 : 0 ≤ partsOf r 20 ∧ partsOf r 20 ≤ 2 := by unfold partsOf; omega
    have g2 : 0 ≤ partsOf m 10 ∧ partsOf m 10 ≤ 3 := by unfold partsOf; omega
    obtain ⟨g1, g1'⟩ := g1
    obtain ⟨g2, g2'⟩ := g2
    have a1 : 0 ≤ m := by omega
    have a2 : m ≤ 12 := by omega
    have a3 : 0 ≤ r := by omega
    have a4 : r ≤ 12 := by omega
    clear e1 e2 h
    go_enter Try.func21, Try.ntmps21
    go_wp2_with (go_at_call 47; refine (ring_parts _ _ _ (by omega) (by omega) (by omega) (by omega)).mono ?_; rintro e w' ⟨rfl, rfl⟩)
    go_ret2
    exact ⟨rfl, rfl⟩


theorem ring_Most (n : Int) (w : World) :
    Calls Try.prog 22 #[.int .i64 n] w fun e' w' => e' = .returned (.int .i64 (mostN n)) ∧ w = w' := by
  have e2 : mostN n = clamp24 n + partsOf (clamp24 n) 10 + partsOf (clamp24 n) 20 + 1 := rfl
  have g0 : 0 ≤ clamp24 n ∧ clamp24 n ≤ 24 := by unfold clamp24; omega
  have g1 : 0 ≤ partsOf (clamp24 n) 20 ∧ partsOf (clamp24 n) 20 ≤ 2 := by unfold partsOf; omega
  have g2 : 0 ≤ partsOf (clamp24 n) 10 ∧ partsOf (clamp24 n) 10 ≤ 3 := by unfold partsOf; omega
  obtain ⟨g1, g1'⟩ := g1
  obtain ⟨g2, g2'⟩ := g2
  obtain ⟨g0, g0'⟩ := g0
  rw [e2]
  have hc : (n ≤ 0 ∧ clamp24 n = 0) ∨ (24 < n ∧ clamp24 n = 24) ∨ (0 < n ∧ n ≤ 24 ∧ clamp24 n = n) := by unfold clamp24; omega
  clear e2
  generalize clamp24 n = c at *
  rcases hc with ⟨h1, rfl⟩ | ⟨h1, rfl⟩ | ⟨h1, h1', rfl⟩
  all_goals
    go_enter Try.func22, Try.ntmps22
    go_wp2_with (go_at_call 47; refine (ring_parts _ _ _ (by omega) (by omega) (by omega) (by omega)).mono ?_; rintro e w' ⟨rfl, rfl⟩)
    go_ret
    exact ⟨ret_i (by omega), rfl⟩

end Go.Proofs.Ytjhmfljlclajnac

namespace Go.Proofs.Ytjhmfljlclajnac
open Go.RowKit Wb
set_option linter.unusedVariables false
set_option linter.unusedSimpArgs false
set_option maxRecDepth 100000
set_option maxHeartbeats 4000000

theorem rlist_getD {xs : List Int} {k : Nat} (hk : k < xs.length) : xs.getD k 0 = xs[k] := by simp [hk]

theorem ref_rising (v : Value) (xs : List Int) (w : World) (hx : RL intC w v xs) :
    Calls Try.prog 53 #[v] w fun e w' => e = .returned (.bool (rise xs)) ∧ w = w' := by
  obtain ⟨a, cap, rfl, c1, c2⟩ := hx.form
  unfold maxLen at c2
  have hyes : riseTo xs xs.length → rise xs = true := (rise_iff xs).2
  have hno : ∀ k, k < xs.length → ¬ riseAt xs k → rise xs = false := fun k => rise_no
  generalize rise xs = r at *
  replace hyes := hid hyes
  replace hno := hid hno
  go_enter Try.func53, Try.ntmps53
  go_wp2
  go_loop [2, 3, 5, 8] (fun _ q _ i => ∃ (k : Nat) (p : Int), k ≤ xs.length ∧ i = .int .i64 k ∧ q = .int .i64 p ∧ riseTo xs k ∧ (k = 0 → p = -1) ∧ (0 < k → p = xs.getD (k - 1) 0)) (fun _ _ _ i => xs.length - (intOf i).toNat)
  case atStart => exact ⟨0, -1, Nat.zero_le _, rfl, rfl, fun j hj => absurd hj (Nat.not_lt_zero j), fun _ => rfl, fun h => absurd h (Nat.lt_irrefl 0)⟩
  case round =>
    obtain ⟨k, p, hk, rfl, rfl, hr, hp0, hp1⟩ := hrel
    by_cases hlt : k < xs.length
    · obtain ⟨b, off, rfl, d0⟩ := RL.at1 (fun x => .int .i64 x) (fun _ => rfl) hx hlt
      have hxk := rlist_getD hlt
      have hiff : riseAt xs k ↔ p < xs[k] ∧ xs[k] ≤ 11 := by
        unfold riseAt
        rw [hxk]
        rcases Nat.eq_zero_or_pos k with h0 | h0
        · have := hp0 h0; omega
        · have h2 := hr (k - 1) (by omega)
          unfold riseAt at h2
          have h3 := hp1 h0
          omega
      by_cases hok : p < xs[k] ∧ xs[k] ≤ 11
      · have hr1 := riseTo_succ hr (hiff.2 hok)
        replace hr1 := hid hr1
        have hp2 : xs[k] = xs.getD (k + 1 - 1) 0 := by rw [Nat.add_sub_cancel, hxk]
        replace hp2 := hid hp2
        generalize xs[k] = x at *
        obtain ⟨o1, o2⟩ := hok
        clear hiff hxk hp0 hp1 hr
        go_wp2
        go_round
        case rel => exact ⟨k + 1, x, by omega, by go_num, rfl, hr1.out, fun h => absurd h (by omega), fun _ => hp2.out⟩
        case measure => simp [intOf]; omega
      · obtain rfl := hno.out k hlt (fun hh => hok (hiff.1 hh))
        have hbad : xs[k] ≤ p ∨ 11 < xs[k] := by omega
        generalize xs[k] = x at *
        clear hiff hxk hp0 hp1 hr hok hyes
        go_wp2
        all_goals
          go_ret
          exact ⟨rfl, rfl⟩
    · obtain rfl : k = xs.length := by omega
      obtain rfl := hyes.out hr
      clear hp0 hp1 hr
      go_wp2
      go_ret
      exact ⟨rfl, rfl⟩
end Go.Proofs.Ytjhmfljlclajnac
