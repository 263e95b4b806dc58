/- The walks of put, may, pay. The walk of pay. What Change, Fill and Revoke compute, and that a transaction stays good. No program in sight. How many blocks a transaction asks for: what turns that number, and that the log has room. No program in sight. -/
import Derived.Test.YtjhmfljlclajnabKTxnBegins2
import Derived.Test.YtjhmfljlclajnabKTxnBegins4
namespace Go.Proofs.Ytjhmfljlclajnab
open Go.RowKit Wb
set_option linter.unusedVariables false
set_option linter.unusedSimpArgs false
set_option maxRecDepth 100000
set_option maxHeartbeats 8000000

theorem txn_put (l : List Cpy) (b : Int) (s : ByteArray) (v : Value) (w : World) (hs : rise (blks l) = true) (h : RL cpyC w v l) (hl : l.length ≤ 1000000) :
    Calls Try.prog 94 #[v, .int .i64 b, .string s] w fun e w' => ∃ v', e = .returned v' ∧ Own cpyC w.heap.size 93 2 w' v' (putL l b s) ∧ Below w.heap.size w w' := by
  have hF := hid (txn_find l b v w hs h (by omega))
  have hC := hid (fun w' (hb : Below w.heap.size w w') => slices_CloneC l v w' (h.below hb) (by omega))
  have hha := has_at (b := b) hs
  obtain ⟨_, _, hp⟩ := pos_at b hs
  obtain ⟨a, cap, rfl, _⟩ := h.form
  unfold putL
  generalize posB l b = p at *
  cases hb : hasB l b with
  | true =>
    rw [hb] at hF
    obtain ⟨hk, hkb⟩ := hha.1 hb
    rw [if_pos rfl]
    have hy : cpyC ⟨b, s⟩ = (cpyC l[p]).set 1 (.string s) := by simp [cpyC, hkb]
    replace hy := hid hy
    clear hs h hha hb hp
    go_enter Try.func94, Try.ntmps94
    go_wp2_with (first
      | (go_at_call 87; go_loud ((with_reducible refine hF.out.mono ?_); rintro e w1 ⟨rfl, hb1⟩))
      | (go_at_call 106; go_loud ((with_reducible refine (hC.out _ hb1).mono ?_); rintro e w2 ⟨v2, rfl, ho2, hb2⟩; obtain ⟨g, cap2, rfl, hbg, hgw, hq, hnew⟩ := Own.poke cpyC_flat ho2 hk; have q0 := (hq 1 (by decide)).1; have q1 := (hq 1 (by decide)).2; have hn2 := hid (hnew 1 _ _ (by decide) hy.out); have nx := hb1.trans (hb2.mono hb1.size); have hgs := Nat.le_trans hb1.size hbg; simp only [cpyC, List.getElem?_cons_succ, List.getElem?_cons_zero] at q1; replace nx := hid nx; clear hq hnew ho2)))
    go_ret
    exact ⟨_, rfl, hn2.out.mono hb1.size, nx.out.setCell hgs _⟩
  | false =>
    rw [hb] at hF
    rw [if_neg (by decide)]
    clear hs h hha hb
    go_enter Try.func94, Try.ntmps94
    go_wp2_with (first
      | (go_at_call 87; go_loud ((with_reducible refine hF.out.mono ?_); rintro e w1 ⟨rfl, hb1⟩))
      | (go_at_call 106; go_loud ((with_reducible refine (hC.out _ hb1).mono ?_); rintro e w2 ⟨v2, rfl, ho2, hb2⟩; have hlt2 := World.ownsRow.lt ho2; have hbase := hb1.trans (hb2.mono hb1.size); have ho3 := hid (ho2.mono hb1.size); have hI := hid (slices_InsertC l p ⟨b, s⟩ v2 w2.heap.size w.heap.size (w2.alloc (.cells #[.int .i64 b, .string s] 93)) (ho3.out.alloc _) (by have := hbase.size; simp; omega) (Blk.new w2 _ _) (fun hh => by have := (hlt2 _ hh).2; omega) hp hl); obtain ⟨a2, cap2, rfl⟩ := ho2.form; replace hbase := hid hbase; clear hlt2 ho2))
      | (go_at_call 107; go_loud ((with_reducible refine hI.out.mono ?_); rintro e w3 ⟨v3, rfl, ho4, hb3⟩)))
    go_ret
    exact ⟨_, rfl, ho4, (hbase.out.alloc (by have := hbase.out.size; omega) _).trans hb3⟩
theorem txn_may (t : Txn) (h b : Int) (v : Value) (w : World) (ht : RTxn w v t) :
    Calls Try.prog 89 #[v, .int .i64 h, .int .i64 b] w fun e w' => e = .returned (.int .i64 (mayE t h b)) ∧ Below w.heap.size w w' := by
  have hG0 := fun w' (hh : Below w.heap.size w w') => txn_Good t _ w' (ht.below hh)
  obtain ⟨vm, vd, vr, rfl, hm, hd, hr, n1, n2, n3⟩ := ht
  obtain ⟨am, cm, rfl, _⟩ := hm.form
  obtain ⟨ad, cd, rfl, _⟩ := hd.form
  obtain ⟨ar, cr, rfl, _⟩ := hr.form
  have hH := fun w => txn_handle h w
  have hB := fun w => txn_block b w
  obtain ⟨seq, mt, dt, rev, ⟨o0, l0⟩, ⟨o1, l1⟩, ⟨o2, l2⟩⟩ := t
  unfold txnV at hG0 ⊢
  dsimp only at *
  have k0 : Blk (w.alloc (.cells #[.int .i64 seq, .slice am mt.length cm, .slice ad dt.length cd, .slice ar rev.length cr, .bool o0, .int .i64 l0, .bool o1, .int .i64 l1, .bool o2, .int .i64 l2] 64)) w.heap.size #[.int .i64 seq, .slice am mt.length cm, .slice ad dt.length cd, .slice ar rev.length cr, .bool o0, .int .i64 l0, .bool o1, .int .i64 l1, .bool o2, .int .i64 l2] 64 := Blk.new w _ _
  have nx := bal (b0 w) (.cells #[.int .i64 seq, .slice am mt.length cm, .slice ad dt.length cd, .slice ar rev.length cr, .bool o0, .int .i64 l0, .bool o1, .int .i64 l1, .bool o2, .int .i64 l2] 64)
  have e0 := k0.cell 0; have e1 := k0.cell 1; have e2 := k0.cell 2; have e3 := k0.cell 3; have e4 := k0.cell 4; have e5 := k0.cell 5; have e6 := k0.cell 6; have e7 := k0.cell 7; have e8 := k0.cell 8; have e9 := k0.cell 9; simp only [List.getElem?_toArray, List.getElem?_cons_zero, List.getElem?_cons_succ] at e0 e1 e2 e3 e4 e5 e6 e7 e8 e9; have l0' := k0.lt
  clear hm hd hr
  cases hg : goodT ⟨seq, mt, dt, rev, ⟨o0, l0⟩, ⟨o1, l1⟩, ⟨o2, l2⟩⟩ with
  | false =>
    have hv := hid (may_bad (h := h) (b := b) hg)
    rw [hg] at hG0
    have hG := hid hG0
    clear hg hG0 hH hB
    go_enter Try.func89, Try.ntmps89
    go_wp2_with (go_at_call 38; go_loud ((with_reducible refine (hG.out _ nx).mono ?_); rintro e w1 ⟨rfl, hb1⟩; replace k0 := k0.step hb1; replace nx := bgo nx hb1; clear e0 e1 e2 e3 e4 e5 e6 e7 e8 e9 l0'; have e0 := k0.cell 0; have e1 := k0.cell 1; have e2 := k0.cell 2; have e3 := k0.cell 3; have e4 := k0.cell 4; have e5 := k0.cell 5; have e6 := k0.cell 6; have e7 := k0.cell 7; have e8 := k0.cell 8; have e9 := k0.cell 9; simp only [List.getElem?_toArray, List.getElem?_cons_zero, List.getElem?_cons_succ] at e0 e1 e2 e3 e4 e5 e6 e7 e8 e9; have l0' := k0.lt))
    go_ret
    exact ⟨ret_i hv.out.symm, nx⟩
  | true =>
    rw [hg] at hG0
    have hG := hid hG0
    clear hG0
    by_cases hh : 0 ≤ h ∧ h ≤ 2
    rotate_left
    · have hv := hid (may_none (b := b) hg (.inl hh))
      have hhf : isHnd h = false := decide_eq_false (by omega)
      rw [hhf] at hH
      replace hH := hid hH
      clear hhf hg hB
      by_cases hneg : h < 0
      · clear hh
        go_enter Try.func89, Try.ntmps89
        go_wp2_with (go_at_call 38; go_loud ((with_reducible refine (hG.out _ nx).mono ?_); rintro e w1 ⟨rfl, hb1⟩; replace k0 := k0.step hb1; replace nx := bgo nx hb1; clear e0 e1 e2 e3 e4 e5 e6 e7 e8 e9 l0'; have e0 := k0.cell 0; have e1 := k0.cell 1; have e2 := k0.cell 2; have e3 := k0.cell 3; have e4 := k0.cell 4; have e5 := k0.cell 5; have e6 := k0.cell 6; have e7 := k0.cell 7; have e8 := k0.cell 8; have e9 := k0.cell 9; simp only [List.getElem?_toArray, List.getElem?_cons_zero, List.getElem?_cons_succ] at e0 e1 e2 e3 e4 e5 e6 e7 e8 e9; have l0' := k0.lt))
        go_wp2_with (first | (go_at_call 64; go_loud ((with_reducible refine (hH.out _).mono ?_); rintro e w1 ⟨rfl, rfl⟩)) | (go_at_call 68; go_loud ((with_reducible refine (hB.out _).mono ?_); rintro e w1 ⟨rfl, rfl⟩)))
        go_ret
        exact ⟨ret_i hv.out.symm, nx⟩
      · have hgt : 2 < h := by omega
        clear hh
        go_enter Try.func89, Try.ntmps89
        go_wp2_with (go_at_call 38; go_loud ((with_reducible refine (hG.out _ nx).mono ?_); rintro e w1 ⟨rfl, hb1⟩; replace k0 := k0.step hb1; replace nx := bgo nx hb1; clear e0 e1 e2 e3 e4 e5 e6 e7 e8 e9 l0'; have e0 := k0.cell 0; have e1 := k0.cell 1; have e2 := k0.cell 2; have e3 := k0.cell 3; have e4 := k0.cell 4; have e5 := k0.cell 5; have e6 := k0.cell 6; have e7 := k0.cell 7; have e8 := k0.cell 8; have e9 := k0.cell 9; simp only [List.getElem?_toArray, List.getElem?_cons_zero, List.getElem?_cons_succ] at e0 e1 e2 e3 e4 e5 e6 e7 e8 e9; have l0' := k0.lt))
        go_wp2_with (first | (go_at_call 64; go_loud ((with_reducible refine (hH.out _).mono ?_); rintro e w1 ⟨rfl, rfl⟩)) | (go_at_call 68; go_loud ((with_reducible refine (hB.out _).mono ?_); rintro e w1 ⟨rfl, rfl⟩)))
        go_ret
        exact ⟨ret_i hv.out.symm, nx⟩
    have hht : isHnd h = true := decide_eq_true (by omega)
    rw [hht] at hH
    replace hH := hid hH
    clear hht
    obtain (rfl | rfl | rfl) : h = 0 ∨ h = 1 ∨ h = 2 := by omega
    · cases o0 with
      | false =>
        have hv := hid (may_none (h := 0) (b := b) hg (.inr (.inl (by simp [getH]))))
        clear hg hh hB
        go_enter Try.func89, Try.ntmps89
        go_wp2_with (go_at_call 38; go_loud ((with_reducible refine (hG.out _ nx).mono ?_); rintro e w1 ⟨rfl, hb1⟩; replace k0 := k0.step hb1; replace nx := bgo nx hb1; clear e0 e1 e2 e3 e4 e5 e6 e7 e8 e9 l0'; have e0 := k0.cell 0; have e1 := k0.cell 1; have e2 := k0.cell 2; have e3 := k0.cell 3; have e4 := k0.cell 4; have e5 := k0.cell 5; have e6 := k0.cell 6; have e7 := k0.cell 7; have e8 := k0.cell 8; have e9 := k0.cell 9; simp only [List.getElem?_toArray, List.getElem?_cons_zero, List.getElem?_cons_succ] at e0 e1 e2 e3 e4 e5 e6 e7 e8 e9; have l0' := k0.lt))
        go_wp2_with (first | (go_at_call 64; go_loud ((with_reducible refine (hH.out _).mono ?_); rintro e w1 ⟨rfl, rfl⟩)) | (go_at_call 68; go_loud ((with_reducible refine (hB.out _).mono ?_); rintro e w1 ⟨rfl, rfl⟩)))
        go_ret
        exact ⟨ret_i hv.out.symm, nx⟩
      | true =>
        cases hbb : isBlk b with
        | false =>
          have hv := hid (may_none (h := 0) (b := b) hg (.inr (.inr hbb)))
          rw [hbb] at hB
          replace hB := hid hB
          clear hg hh hbb
          go_enter Try.func89, Try.ntmps89
          go_wp2_with (go_at_call 38; go_loud ((with_reducible refine (hG.out _ nx).mono ?_); rintro e w1 ⟨rfl, hb1⟩; replace k0 := k0.step hb1; replace nx := bgo nx hb1; clear e0 e1 e2 e3 e4 e5 e6 e7 e8 e9 l0'; have e0 := k0.cell 0; have e1 := k0.cell 1; have e2 := k0.cell 2; have e3 := k0.cell 3; have e4 := k0.cell 4; have e5 := k0.cell 5; have e6 := k0.cell 6; have e7 := k0.cell 7; have e8 := k0.cell 8; have e9 := k0.cell 9; simp only [List.getElem?_toArray, List.getElem?_cons_zero, List.getElem?_cons_succ] at e0 e1 e2 e3 e4 e5 e6 e7 e8 e9; have l0' := k0.lt))
          go_wp2_with (first | (go_at_call 64; go_loud ((with_reducible refine (hH.out _).mono ?_); rintro e w1 ⟨rfl, rfl⟩)) | (go_at_call 68; go_loud ((with_reducible refine (hB.out _).mono ?_); rintro e w1 ⟨rfl, rfl⟩)))
          go_ret
          exact ⟨ret_i hv.out.symm, nx⟩
        | true =>
          have hv := hid (may_ok (h := 0) (b := b) hg (by decide) (by simp [getH]) hbb)
          rw [hbb] at hB
          replace hB := hid hB
          clear hg hh hbb
          go_enter Try.func89, Try.ntmps89
          go_wp2_with (go_at_call 38; go_loud ((with_reducible refine (hG.out _ nx).mono ?_); rintro e w1 ⟨rfl, hb1⟩; replace k0 := k0.step hb1; replace nx := bgo nx hb1; clear e0 e1 e2 e3 e4 e5 e6 e7 e8 e9 l0'; have e0 := k0.cell 0; have e1 := k0.cell 1; have e2 := k0.cell 2; have e3 := k0.cell 3; have e4 := k0.cell 4; have e5 := k0.cell 5; have e6 := k0.cell 6; have e7 := k0.cell 7; have e8 := k0.cell 8; have e9 := k0.cell 9; simp only [List.getElem?_toArray, List.getElem?_cons_zero, List.getElem?_cons_succ] at e0 e1 e2 e3 e4 e5 e6 e7 e8 e9; have l0' := k0.lt))
          go_wp2_with (first | (go_at_call 64; go_loud ((with_reducible refine (hH.out _).mono ?_); rintro e w1 ⟨rfl, rfl⟩)) | (go_at_call 68; go_loud ((with_reducible refine (hB.out _).mono ?_); rintro e w1 ⟨rfl, rfl⟩)))
          go_ret
          exact ⟨ret_i hv.out.symm, nx⟩
    · cases o1 with
      | false =>
        have hv := hid (may_none (h := 1) (b := b) hg (.inr (.inl (by simp [getH]))))
        clear hg hh hB
        go_enter Try.func89, Try.ntmps89
        go_wp2_with (go_at_call 38; go_loud ((with_reducible refine (hG.out _ nx).mono ?_); rintro e w1 ⟨rfl, hb1⟩; replace k0 := k0.step hb1; replace nx := bgo nx hb1; clear e0 e1 e2 e3 e4 e5 e6 e7 e8 e9 l0'; have e0 := k0.cell 0; have e1 := k0.cell 1; have e2 := k0.cell 2; have e3 := k0.cell 3; have e4 := k0.cell 4; have e5 := k0.cell 5; have e6 := k0.cell 6; have e7 := k0.cell 7; have e8 := k0.cell 8; have e9 := k0.cell 9; simp only [List.getElem?_toArray, List.getElem?_cons_zero, List.getElem?_cons_succ] at e0 e1 e2 e3 e4 e5 e6 e7 e8 e9; have l0' := k0.lt))
        go_wp2_with (first | (go_at_call 64; go_loud ((with_reducible refine (hH.out _).mono ?_); rintro e w1 ⟨rfl, rfl⟩)) | (go_at_call 68; go_loud ((with_reducible refine (hB.out _).mono ?_); rintro e w1 ⟨rfl, rfl⟩)))
        go_ret
        exact ⟨ret_i hv.out.symm, nx⟩
      | true =>
        cases hbb : isBlk b with
        | false =>
          have hv := hid (may_none (h := 1) (b := b) hg (.inr (.inr hbb)))
          rw [hbb] at hB
          replace hB := hid hB
          clear hg hh hbb
          go_enter Try.func89, Try.ntmps89
          go_wp2_with (go_at_call 38; go_loud ((with_reducible refine (hG.out _ nx).mono ?_); rintro e w1 ⟨rfl, hb1⟩; replace k0 := k0.step hb1; replace nx := bgo nx hb1; clear e0 e1 e2 e3 e4 e5 e6 e7 e8 e9 l0'; have e0 := k0.cell 0; have e1 := k0.cell 1; have e2 := k0.cell 2; have e3 := k0.cell 3; have e4 := k0.cell 4; have e5 := k0.cell 5; have e6 := k0.cell 6; have e7 := k0.cell 7; have e8 := k0.cell 8; have e9 := k0.cell 9; simp only [List.getElem?_toArray, List.getElem?_cons_zero, List.getElem?_cons_succ] at e0 e1 e2 e3 e4 e5 e6 e7 e8 e9; have l0' := k0.lt))
          go_wp2_with (first | (go_at_call 64; go_loud ((with_reducible refine (hH.out _).mono ?_); rintro e w1 ⟨rfl, rfl⟩)) | (go_at_call 68; go_loud ((with_reducible refine (hB.out _).mono ?_); rintro e w1 ⟨rfl, rfl⟩)))
          go_ret
          exact ⟨ret_i hv.out.symm, nx⟩
        | true =>
          have hv := hid (may_ok (h := 1) (b := b) hg (by decide) (by simp [getH]) hbb)
          rw [hbb] at hB
          replace hB := hid hB
          clear hg hh hbb
          go_enter Try.func89, Try.ntmps89
          go_wp2_with (go_at_call 38; go_loud ((with_reducible refine (hG.out _ nx).mono ?_); rintro e w1 ⟨rfl, hb1⟩; replace k0 := k0.step hb1; replace nx := bgo nx hb1; clear e0 e1 e2 e3 e4 e5 e6 e7 e8 e9 l0'; have e0 := k0.cell 0; have e1 := k0.cell 1; have e2 := k0.cell 2; have e3 := k0.cell 3; have e4 := k0.cell 4; have e5 := k0.cell 5; have e6 := k0.cell 6; have e7 := k0.cell 7; have e8 := k0.cell 8; have e9 := k0.cell 9; simp only [List.getElem?_toArray, List.getElem?_cons_zero, List.getElem?_cons_succ] at e0 e1 e2 e3 e4 e5 e6 e7 e8 e9; have l0' := k0.lt))
          go_wp2_with (first | (go_at_call 64; go_loud ((with_reducible refine (hH.out _).mono ?_); rintro e w1 ⟨rfl, rfl⟩)) | (go_at_call 68; go_loud ((with_reducible refine (hB.out _).mono ?_); rintro e w1 ⟨rfl, rfl⟩)))
          go_ret
          exact ⟨ret_i hv.out.symm, nx⟩
    · cases o2 with
      | false =>
        have hv := hid (may_none (h := 2) (b := b) hg (.inr (.inl (by simp [getH]))))
        clear hg hh hB
        go_enter Try.func89, Try.ntmps89
        go_wp2_with (go_at_call 38; go_loud ((with_reducible refine (hG.out _ nx).mono ?_); rintro e w1 ⟨rfl, hb1⟩; replace k0 := k0.step hb1; replace nx := bgo nx hb1; clear e0 e1 e2 e3 e4 e5 e6 e7 e8 e9 l0'; have e0 := k0.cell 0; have e1 := k0.cell 1; have e2 := k0.cell 2; have e3 := k0.cell 3; have e4 := k0.cell 4; have e5 := k0.cell 5; have e6 := k0.cell 6; have e7 := k0.cell 7; have e8 := k0.cell 8; have e9 := k0.cell 9; simp only [List.getElem?_toArray, List.getElem?_cons_zero, List.getElem?_cons_succ] at e0 e1 e2 e3 e4 e5 e6 e7 e8 e9; have l0' := k0.lt))
        go_wp2_with (first | (go_at_call 64; go_loud ((with_reducible refine (hH.out _).mono ?_); rintro e w1 ⟨rfl, rfl⟩)) | (go_at_call 68; go_loud ((with_reducible refine (hB.out _).mono ?_); rintro e w1 ⟨rfl, rfl⟩)))
        go_ret
        exact ⟨ret_i hv.out.symm, nx⟩
      | true =>
        cases hbb : isBlk b with
        | false =>
          have hv := hid (may_none (h := 2) (b := b) hg (.inr (.inr hbb)))
          rw [hbb] at hB
          replace hB := hid hB
          clear hg hh hbb
          go_enter Try.func89, Try.ntmps89
          go_wp2_with (go_at_call 38; go_loud ((with_reducible refine (hG.out _ nx).mono ?_); rintro e w1 ⟨rfl, hb1⟩; replace k0 := k0.step hb1; replace nx := bgo nx hb1; clear e0 e1 e2 e3 e4 e5 e6 e7 e8 e9 l0'; have e0 := k0.cell 0; have e1 := k0.cell 1; have e2 := k0.cell 2; have e3 := k0.cell 3; have e4 := k0.cell 4; have e5 := k0.cell 5; have e6 := k0.cell 6; have e7 := k0.cell 7; have e8 := k0.cell 8; have e9 := k0.cell 9; simp only [List.getElem?_toArray, List.getElem?_cons_zero, List.getElem?_cons_succ] at e0 e1 e2 e3 e4 e5 e6 e7 e8 e9; have l0' := k0.lt))
          go_wp2_with (first | (go_at_call 64; go_loud ((with_reducible refine (hH.out _).mono ?_); rintro e w1 ⟨rfl, rfl⟩)) | (go_at_call 68; go_loud ((with_reducible refine (hB.out _).mono ?_); rintro e w1 ⟨rfl, rfl⟩)))
          go_ret
          exact ⟨ret_i hv.out.symm, nx⟩
        | true =>
          have hv := hid (may_ok (h := 2) (b := b) hg (by decide) (by simp [getH]) hbb)
          rw [hbb] at hB
          replace hB := hid hB
          clear hg hh hbb
          go_enter Try.func89, Try.ntmps89
          go_wp2_with (go_at_call 38; go_loud ((with_reducible refine (hG.out _ nx).mono ?_); rintro e w1 ⟨rfl, hb1⟩; replace k0 := k0.step hb1; replace nx := bgo nx hb1; clear e0 e1 e2 e3 e4 e5 e6 e7 e8 e9 l0'; have e0 := k0.cell 0; have e1 := k0.cell 1; have e2 := k0.cell 2; have e3 := k0.cell 3; have e4 := k0.cell 4; have e5 := k0.cell 5; have e6 := k0.cell 6; have e7 := k0.cell 7; have e8 := k0.cell 8; have e9 := k0.cell 9; simp only [List.getElem?_toArray, List.getElem?_cons_zero, List.getElem?_cons_succ] at e0 e1 e2 e3 e4 e5 e6 e7 e8 e9; have l0' := k0.lt))
          go_wp2_with (first | (go_at_call 64; go_loud ((with_reducible refine (hH.out _).mono ?_); rintro e w1 ⟨rfl, rfl⟩)) | (go_at_call 68; go_loud ((with_reducible refine (hB.out _).mono ?_); rintro e w1 ⟨rfl, rfl⟩)))
          go_ret
          exact ⟨ret_i hv.out.symm, nx⟩
end Go.Proofs.Ytjhmfljlclajnab

namespace Go.Proofs.Ytjhmfljlclajnab
open Go.RowKit Wb
set_option linter.unusedVariables false
set_option linter.unusedSimpArgs false
set_option maxRecDepth 100000
set_option maxHeartbeats 8000000
theorem txn_pay_free0 (seq : Int) (mt dt : List Cpy) (rev : List Int) (o0 o1 o2 : Bool) (l0 l1 l2 : Int) (am ad ar : Option Addr) (cm cd cr : Nat) (b : Int) (g : Nat) (w : World) (k0 : Blk w g #[.int .i64 seq, .slice am mt.length cm, .slice ad dt.length cd, .slice ar rev.length cr, .bool o0, .int .i64 l0, .bool o1, .int .i64 l1, .bool o2, .int .i64 l2] 64) (hs : rise (blks mt) = true) (hm : RL cpyC w (.slice am mt.length cm) mt) (hr : RL intC w (.slice ar rev.length cr) rev) (n1 : mt.length ≤ 5864062014805) (n3 : rev.length ≤ 17592186044160) (hf : (hasB mt b || inI rev b) = true) :
    Calls Try.prog 90 #[.pointer (some ⟨g, 0, none⟩), .int .i64 0, .int .i64 b] w fun e w' => e = .returned (.int .i64 0) ∧ Below w.heap.size w w' := by
  have hM := txn_has mt b _ w hs hm n1
  have hC := hid (fun w' (hh : RL intC w' (.slice ar rev.length cr) rev) => slices_ContainsI rev b _ w' hh n3)
  replace hr := hid hr
  have e0 := k0.cell 0; have e1 := k0.cell 1; have e2 := k0.cell 2; have e3 := k0.cell 3; have e4 := k0.cell 4; have e5 := k0.cell 5; have e6 := k0.cell 6; have e7 := k0.cell 7; have e8 := k0.cell 8; have e9 := k0.cell 9; simp only [List.getElem?_toArray, List.getElem?_cons_zero, List.getElem?_cons_succ] at e0 e1 e2 e3 e4 e5 e6 e7 e8 e9; have l0' := k0.lt; have f5 := k0.free 5; have f7 := k0.free 7; have f9 := k0.free 9
  clear hm hs
  cases hb : hasB mt b with
  | true =>
    rw [hb] at hM
    replace hM := hid hM
    clear hb hf
    go_enter Try.func90, Try.ntmps90
    go_wp2_with (go_at_call 69; go_loud ((with_reducible refine hM.out.mono ?_); rintro e w1 ⟨rfl, hb1⟩; replace k0 := k0.step hb1; have nx := hb1; have hr1 := hid (hr.out.below hb1); replace hC := hid (hC.out _ hr1.out); clear e0 e1 e2 e3 e4 e5 e6 e7 e8 e9 l0' f5 f7 f9; have e0 := k0.cell 0; have e1 := k0.cell 1; have e2 := k0.cell 2; have e3 := k0.cell 3; have e4 := k0.cell 4; have e5 := k0.cell 5; have e6 := k0.cell 6; have e7 := k0.cell 7; have e8 := k0.cell 8; have e9 := k0.cell 9; simp only [List.getElem?_toArray, List.getElem?_cons_zero, List.getElem?_cons_succ] at e0 e1 e2 e3 e4 e5 e6 e7 e8 e9; have l0' := k0.lt; have f5 := k0.free 5; have f7 := k0.free 7; have f9 := k0.free 9))
    go_ret
    exact ⟨rfl, nx⟩
  | false =>
    rw [hb] at hM hf
    rw [Bool.false_or] at hf
    rw [hf] at hC
    replace hM := hid hM
    clear hb hf
    go_enter Try.func90, Try.ntmps90
    go_wp2_with (first | (go_at_call 69; go_loud ((with_reducible refine hM.out.mono ?_); rintro e w1 ⟨rfl, hb1⟩; replace k0 := k0.step hb1; have nx := hb1; have hr1 := hid (hr.out.below hb1); replace hC := hid (hC.out _ hr1.out); clear e0 e1 e2 e3 e4 e5 e6 e7 e8 e9 l0' f5 f7 f9; have e0 := k0.cell 0; have e1 := k0.cell 1; have e2 := k0.cell 2; have e3 := k0.cell 3; have e4 := k0.cell 4; have e5 := k0.cell 5; have e6 := k0.cell 6; have e7 := k0.cell 7; have e8 := k0.cell 8; have e9 := k0.cell 9; simp only [List.getElem?_toArray, List.getElem?_cons_zero, List.getElem?_cons_succ] at e0 e1 e2 e3 e4 e5 e6 e7 e8 e9; have l0' := k0.lt; have f5 := k0.free 5; have f7 := k0.free 7; have f9 := k0.free 9)) | (go_at_call 104; go_loud ((with_reducible refine hC.out.mono ?_); rintro e w2 ⟨rfl, rfl⟩)))
    go_ret
    exact ⟨rfl, nx⟩
theorem txn_pay_none0 (seq : Int) (mt dt : List Cpy) (rev : List Int) (o0 o1 o2 : Bool) (l0 l1 l2 : Int) (am ad ar : Option Addr) (cm cd cr : Nat) (b : Int) (g : Nat) (w : World) (k0 : Blk w g #[.int .i64 seq, .slice am mt.length cm, .slice ad dt.length cd, .slice ar rev.length cr, .bool o0, .int .i64 l0, .bool o1, .int .i64 l1, .bool o2, .int .i64 l2] 64) (hs : rise (blks mt) = true) (hm : RL cpyC w (.slice am mt.length cm) mt) (hr : RL intC w (.slice ar rev.length cr) rev) (n1 : mt.length ≤ 5864062014805) (n3 : rev.length ≤ 17592186044160) (hf : (hasB mt b || inI rev b) = false) (h0 : l0 = 0) :
    Calls Try.prog 90 #[.pointer (some ⟨g, 0, none⟩), .int .i64 0, .int .i64 b] w fun e w' => e = .returned (.int .i64 7) ∧ Below w.heap.size w w' := by
  have hM := txn_has mt b _ w hs hm n1
  have hC := hid (fun w' (hh : RL intC w' (.slice ar rev.length cr) rev) => slices_ContainsI rev b _ w' hh n3)
  replace hr := hid hr
  have e0 := k0.cell 0; have e1 := k0.cell 1; have e2 := k0.cell 2; have e3 := k0.cell 3; have e4 := k0.cell 4; have e5 := k0.cell 5; have e6 := k0.cell 6; have e7 := k0.cell 7; have e8 := k0.cell 8; have e9 := k0.cell 9; simp only [List.getElem?_toArray, List.getElem?_cons_zero, List.getElem?_cons_succ] at e0 e1 e2 e3 e4 e5 e6 e7 e8 e9; have l0' := k0.lt; have f5 := k0.free 5; have f7 := k0.free 7; have f9 := k0.free 9
  clear hm hs
  obtain ⟨hb, hf⟩ := Bool.or_eq_false_iff.1 hf
  rw [hb] at hM
  rw [hf] at hC
  replace hM := hid hM
  subst h0
  clear hb hf
  go_enter Try.func90, Try.ntmps90
  go_wp2_with (first | (go_at_call 69; go_loud ((with_reducible refine hM.out.mono ?_); rintro e w1 ⟨rfl, hb1⟩; replace k0 := k0.step hb1; have nx := hb1; have hr1 := hid (hr.out.below hb1); replace hC := hid (hC.out _ hr1.out); clear e0 e1 e2 e3 e4 e5 e6 e7 e8 e9 l0' f5 f7 f9; have e0 := k0.cell 0; have e1 := k0.cell 1; have e2 := k0.cell 2; have e3 := k0.cell 3; have e4 := k0.cell 4; have e5 := k0.cell 5; have e6 := k0.cell 6; have e7 := k0.cell 7; have e8 := k0.cell 8; have e9 := k0.cell 9; simp only [List.getElem?_toArray, List.getElem?_cons_zero, List.getElem?_cons_succ] at e0 e1 e2 e3 e4 e5 e6 e7 e8 e9; have l0' := k0.lt; have f5 := k0.free 5; have f7 := k0.free 7; have f9 := k0.free 9)) | (go_at_call 104; go_loud ((with_reducible refine hC.out.mono ?_); rintro e w2 ⟨rfl, rfl⟩)))
  go_ret
  exact ⟨rfl, nx⟩
theorem txn_pay_one0 (seq : Int) (mt dt : List Cpy) (rev : List Int) (o0 o1 o2 : Bool) (l0 l1 l2 : Int) (am ad ar : Option Addr) (cm cd cr : Nat) (b : Int) (g : Nat) (w : World) (k0 : Blk w g #[.int .i64 seq, .slice am mt.length cm, .slice ad dt.length cd, .slice ar rev.length cr, .bool o0, .int .i64 l0, .bool o1, .int .i64 l1, .bool o2, .int .i64 l2] 64) (hs : rise (blks mt) = true) (hm : RL cpyC w (.slice am mt.length cm) mt) (hr : RL intC w (.slice ar rev.length cr) rev) (n1 : mt.length ≤ 5864062014805) (n3 : rev.length ≤ 17592186044160) (hf : (hasB mt b || inI rev b) = false) (h0 : 0 < l0) (h1 : l0 ≤ 24) :
    Calls Try.prog 90 #[.pointer (some ⟨g, 0, none⟩), .int .i64 0, .int .i64 b] w fun e w' => e = .returned (.int .i64 0) ∧ ∃ w1, Below w.heap.size w w1 ∧ w' = w1.setCell ⟨g, 5, none⟩ (.int .i64 (l0 - 1)) := by
  have hM := txn_has mt b _ w hs hm n1
  have hC := hid (fun w' (hh : RL intC w' (.slice ar rev.length cr) rev) => slices_ContainsI rev b _ w' hh n3)
  replace hr := hid hr
  have e0 := k0.cell 0; have e1 := k0.cell 1; have e2 := k0.cell 2; have e3 := k0.cell 3; have e4 := k0.cell 4; have e5 := k0.cell 5; have e6 := k0.cell 6; have e7 := k0.cell 7; have e8 := k0.cell 8; have e9 := k0.cell 9; simp only [List.getElem?_toArray, List.getElem?_cons_zero, List.getElem?_cons_succ] at e0 e1 e2 e3 e4 e5 e6 e7 e8 e9; have l0' := k0.lt; have f5 := k0.free 5; have f7 := k0.free 7; have f9 := k0.free 9
  clear hm hs
  obtain ⟨hb, hf⟩ := Bool.or_eq_false_iff.1 hf
  have hnz : ¬ l0 = 0 := by omega
  have hwr : IntKind.i64.wrap (l0 - 1) = l0 - 1 := IntWalk.i64_in _ (by omega)
  rw [hb] at hM
  rw [hf] at hC
  replace hM := hid hM
  clear hb hf
  go_enter Try.func90, Try.ntmps90
  go_wp2_with (first | (go_at_call 69; go_loud ((with_reducible refine hM.out.mono ?_); rintro e w1 ⟨rfl, hb1⟩; replace k0 := k0.step hb1; have nx := hb1; have hr1 := hid (hr.out.below hb1); replace hC := hid (hC.out _ hr1.out); clear e0 e1 e2 e3 e4 e5 e6 e7 e8 e9 l0' f5 f7 f9; have e0 := k0.cell 0; have e1 := k0.cell 1; have e2 := k0.cell 2; have e3 := k0.cell 3; have e4 := k0.cell 4; have e5 := k0.cell 5; have e6 := k0.cell 6; have e7 := k0.cell 7; have e8 := k0.cell 8; have e9 := k0.cell 9; simp only [List.getElem?_toArray, List.getElem?_cons_zero, List.getElem?_cons_succ] at e0 e1 e2 e3 e4 e5 e6 e7 e8 e9; have l0' := k0.lt; have f5 := k0.free 5; have f7 := k0.free 7; have f9 := k0.free 9)) | (go_at_call 104; go_loud ((with_reducible refine hC.out.mono ?_); rintro e w2 ⟨rfl, rfl⟩)))
  go_region_law (fail "no call")
  all_goals go_wp2
  all_goals go_ret
  all_goals exact ⟨rfl, _, nx.drew, rfl⟩
theorem txn_pay_free1 (seq : Int) (mt dt : List Cpy) (rev : List Int) (o0 o1 o2 : Bool) (l0 l1 l2 : Int) (am ad ar : Option Addr) (cm cd cr : Nat) (b : Int) (g : Nat) (w : World) (k0 : Blk w g #[.int .i64 seq, .slice am mt.length cm, .slice ad dt.length cd, .slice ar rev.length cr, .bool o0, .int .i64 l0, .bool o1, .int .i64 l1, .bool o2, .int .i64 l2] 64) (hs : rise (blks mt) = true) (hm : RL cpyC w (.slice am mt.length cm) mt) (hr : RL intC w (.slice ar rev.length cr) rev) (n1 : mt.length ≤ 5864062014805) (n3 : rev.length ≤ 17592186044160) (hf : (hasB mt b || inI rev b) = true) :
    Calls Try.prog 90 #[.pointer (some ⟨g, 0, none⟩), .int .i64 1, .int .i64 b] w fun e w' => e = .returned (.int .i64 0) ∧ Below w.heap.size w w' := by
  have hM := txn_has mt b _ w hs hm n1
  have hC := hid (fun w' (hh : RL intC w' (.slice ar rev.length cr) rev) => slices_ContainsI rev b _ w' hh n3)
  replace hr := hid hr
  have e0 := k0.cell 0; have e1 := k0.cell 1; have e2 := k0.cell 2; have e3 := k0.cell 3; have e4 := k0.cell 4; have e5 := k0.cell 5; have e6 := k0.cell 6; have e7 := k0.cell 7; have e8 := k0.cell 8; have e9 := k0.cell 9; simp only [List.getElem?_toArray, List.getElem?_cons_zero, List.getElem?_cons_succ] at e0 e1 e2 e3 e4 e5 e6 e7 e8 e9; have l0' := k0.lt; have f5 := k0.free 5; have f7 := k0.free 7; have f9 := k0.free 9
  clear hm hs
  cases hb : hasB mt b with
  | true =>
    rw [hb] at hM
    replace hM := hid hM
    clear hb hf
    go_enter Try.func90, Try.ntmps90
    go_wp2_with (go_at_call 69; go_loud ((with_reducible refine hM.out.mono ?_); rintro e w1 ⟨rfl, hb1⟩; replace k0 := k0.step hb1; have nx := hb1; have hr1 := hid (hr.out.below hb1); replace hC := hid (hC.out _ hr1.out); clear e0 e1 e2 e3 e4 e5 e6 e7 e8 e9 l0' f5 f7 f9; have e0 := k0.cell 0; have e1 := k0.cell 1; have e2 := k0.cell 2; have e3 := k0.cell 3; have e4 := k0.cell 4; have e5 := k0.cell 5; have e6 := k0.cell 6; have e7 := k0.cell 7; have e8 := k0.cell 8; have e9 := k0.cell 9; simp only [List.getElem?_toArray, List.getElem?_cons_zero, List.getElem?_cons_succ] at e0 e1 e2 e3 e4 e5 e6 e7 e8 e9; have l0' := k0.lt; have f5 := k0.free 5; have f7 := k0.free 7; have f9 := k0.free 9))
    go_ret
    exact ⟨rfl, nx⟩
  | false =>
    rw [hb] at hM hf
    rw [Bool.false_or] at hf
    rw [hf] at hC
    replace hM := hid hM
    clear hb hf
    go_enter Try.func90, Try.ntmps90
    go_wp2_with (first | (go_at_call 69; go_loud ((with_reducible refine hM.out.mono ?_); rintro e w1 ⟨rfl, hb1⟩; replace k0 := k0.step hb1; have nx := hb1; have hr1 := hid (hr.out.below hb1); replace hC := hid (hC.out _ hr1.out); clear e0 e1 e2 e3 e4 e5 e6 e7 e8 e9 l0' f5 f7 f9; have e0 := k0.cell 0; have e1 := k0.cell 1; have e2 := k0.cell 2; have e3 := k0.cell 3; have e4 := k0.cell 4; have e5 := k0.cell 5; have e6 := k0.cell 6; have e7 := k0.cell 7; have e8 := k0.cell 8; have e9 := k0.cell 9; simp only [List.getElem?_toArray, List.getElem?_cons_zero, List.getElem?_cons_succ] at e0 e1 e2 e3 e4 e5 e6 e7 e8 e9; have l0' := k0.lt; have f5 := k0.free 5; have f7 := k0.free 7; have f9 := k0.free 9)) | (go_at_call 104; go_loud ((with_reducible refine hC.out.mono ?_); rintro e w2 ⟨rfl, rfl⟩)))
    go_ret
    exact ⟨rfl, nx⟩
theorem txn_pay_none1 (seq : Int) (mt dt : List Cpy) (rev : List Int) (o0 o1 o2 : Bool) (l0 l1 l2 : Int) (am ad ar : Option Addr) (cm cd cr : Nat) (b : Int) (g : Nat) (w : World) (k0 : Blk w g #[.int .i64 seq, .slice am mt.length cm, .slice ad dt.length cd, .slice ar rev.length cr, .bool o0, .int .i64 l0, .bool o1, .int .i64 l1, .bool o2, .int .i64 l2] 64) (hs : rise (blks mt) = true) (hm : RL cpyC w (.slice am mt.length cm) mt) (hr : RL intC w (.slice ar rev.length cr) rev) (n1 : mt.length ≤ 5864062014805) (n3 : rev.length ≤ 17592186044160) (hf : (hasB mt b || inI rev b) = false) (h0 : l1 = 0) :
    Calls Try.prog 90 #[.pointer (some ⟨g, 0, none⟩), .int .i64 1, .int .i64 b] w fun e w' => e = .returned (.int .i64 7) ∧ Below w.heap.size w w' := by
  have hM := txn_has mt b _ w hs hm n1
  have hC := hid (fun w' (hh : RL intC w' (.slice ar rev.length cr) rev) => slices_ContainsI rev b _ w' hh n3)
  replace hr := hid hr
  have e0 := k0.cell 0; have e1 := k0.cell 1; have e2 := k0.cell 2; have e3 := k0.cell 3; have e4 := k0.cell 4; have e5 := k0.cell 5; have e6 := k0.cell 6; have e7 := k0.cell 7; have e8 := k0.cell 8; have e9 := k0.cell 9; simp only [List.getElem?_toArray, List.getElem?_cons_zero, List.getElem?_cons_succ] at e0 e1 e2 e3 e4 e5 e6 e7 e8 e9; have l0' := k0.lt; have f5 := k0.free 5; have f7 := k0.free 7; have f9 := k0.free 9
  clear hm hs
  obtain ⟨hb, hf⟩ := Bool.or_eq_false_iff.1 hf
  rw [hb] at hM
  rw [hf] at hC
  replace hM := hid hM
  subst h0
  clear hb hf
  go_enter Try.func90, Try.ntmps90
  go_wp2_with (first | (go_at_call 69; go_loud ((with_reducible refine hM.out.mono ?_); rintro e w1 ⟨rfl, hb1⟩; replace k0 := k0.step hb1; have nx := hb1; have hr1 := hid (hr.out.below hb1); replace hC := hid (hC.out _ hr1.out); clear e0 e1 e2 e3 e4 e5 e6 e7 e8 e9 l0' f5 f7 f9; have e0 := k0.cell 0; have e1 := k0.cell 1; have e2 := k0.cell 2; have e3 := k0.cell 3; have e4 := k0.cell 4; have e5 := k0.cell 5; have e6 := k0.cell 6; have e7 := k0.cell 7; have e8 := k0.cell 8; have e9 := k0.cell 9; simp only [List.getElem?_toArray, List.getElem?_cons_zero, List.getElem?_cons_succ] at e0 e1 e2 e3 e4 e5 e6 e7 e8 e9; have l0' := k0.lt; have f5 := k0.free 5; have f7 := k0.free 7; have f9 := k0.free 9)) | (go_at_call 104; go_loud ((with_reducible refine hC.out.mono ?_); rintro e w2 ⟨rfl, rfl⟩)))
  go_ret
  exact ⟨rfl, nx⟩
theorem txn_pay_one1 (seq : Int) (mt dt : List Cpy) (rev : List Int) (o0 o1 o2 : Bool) (l0 l1 l2 : Int) (am ad ar : Option Addr) (cm cd cr : Nat) (b : Int) (g : Nat) (w : World) (k0 : Blk w g #[.int .i64 seq, .slice am mt.length cm, .slice ad dt.length cd, .slice ar rev.length cr, .bool o0, .int .i64 l0, .bool o1, .int .i64 l1, .bool o2, .int .i64 l2] 64) (hs : rise (blks mt) = true) (hm : RL cpyC w (.slice am mt.length cm) mt) (hr : RL intC w (.slice ar rev.length cr) rev) (n1 : mt.length ≤ 5864062014805) (n3 : rev.length ≤ 17592186044160) (hf : (hasB mt b || inI rev b) = false) (h0 : 0 < l1) (h1 : l1 ≤ 24) :
    Calls Try.prog 90 #[.pointer (some ⟨g, 0, none⟩), .int .i64 1, .int .i64 b] w fun e w' => e = .returned (.int .i64 0) ∧ ∃ w1, Below w.heap.size w w1 ∧ w' = w1.setCell ⟨g, 7, none⟩ (.int .i64 (l1 - 1)) := by
  have hM := txn_has mt b _ w hs hm n1
  have hC := hid (fun w' (hh : RL intC w' (.slice ar rev.length cr) rev) => slices_ContainsI rev b _ w' hh n3)
  replace hr := hid hr
  have e0 := k0.cell 0; have e1 := k0.cell 1; have e2 := k0.cell 2; have e3 := k0.cell 3; have e4 := k0.cell 4; have e5 := k0.cell 5; have e6 := k0.cell 6; have e7 := k0.cell 7; have e8 := k0.cell 8; have e9 := k0.cell 9; simp only [List.getElem?_toArray, List.getElem?_cons_zero, List.getElem?_cons_succ] at e0 e1 e2 e3 e4 e5 e6 e7 e8 e9; have l0' := k0.lt; have f5 := k0.free 5; have f7 := k0.free 7; have f9 := k0.free 9
  clear hm hs
  obtain ⟨hb, hf⟩ := Bool.or_eq_false_iff.1 hf
  have hnz : ¬ l1 = 0 := by omega
  have hwr : IntKind.i64.wrap (l1 - 1) = l1 - 1 := IntWalk.i64_in _ (by omega)
  rw [hb] at hM
  rw [hf] at hC
  replace hM := hid hM
  clear hb hf
  go_enter Try.func90, Try.ntmps90
  go_wp2_with (first | (go_at_call 69; go_loud ((with_reducible refine hM.out.mono ?_); rintro e w1 ⟨rfl, hb1⟩; replace k0 := k0.step hb1; have nx := hb1; have hr1 := hid (hr.out.below hb1); replace hC := hid (hC.out _ hr1.out); clear e0 e1 e2 e3 e4 e5 e6 e7 e8 e9 l0' f5 f7 f9; have e0 := k0.cell 0; have e1 := k0.cell 1; have e2 := k0.cell 2; have e3 := k0.cell 3; have e4 := k0.cell 4; have e5 := k0.cell 5; have e6 := k0.cell 6; have e7 := k0.cell 7; have e8 := k0.cell 8; have e9 := k0.cell 9; simp only [List.getElem?_toArray, List.getElem?_cons_zero, List.getElem?_cons_succ] at e0 e1 e2 e3 e4 e5 e6 e7 e8 e9; have l0' := k0.lt; have f5 := k0.free 5; have f7 := k0.free 7; have f9 := k0.free 9)) | (go_at_call 104; go_loud ((with_reducible refine hC.out.mono ?_); rintro e w2 ⟨rfl, rfl⟩)))
  go_region_law (fail "no call")
  all_goals go_wp2
  all_goals go_ret
  all_goals exact ⟨rfl, _, nx.drew, rfl⟩
theorem txn_pay_free2 (seq : Int) (mt dt : List Cpy) (rev : List Int) (o0 o1 o2 : Bool) (l0 l1 l2 : Int) (am ad ar : Option Addr) (cm cd cr : Nat) (b : Int) (g : Nat) (w : World) (k0 : Blk w g #[.int .i64 seq, .slice am mt.length cm, .slice ad dt.length cd, .slice ar rev.length cr, .bool o0, .int .i64 l0, .bool o1, .int .i64 l1, .bool o2, .int .i64 l2] 64) (hs : rise (blks mt) = true) (hm : RL cpyC w (.slice am mt.length cm) mt) (hr : RL intC w (.slice ar rev.length cr) rev) (n1 : mt.length ≤ 5864062014805) (n3 : rev.length ≤ 17592186044160) (hf : (hasB mt b || inI rev b) = true) :
    Calls Try.prog 90 #[.pointer (some ⟨g, 0, none⟩), .int .i64 2, .int .i64 b] w fun e w' => e = .returned (.int .i64 0) ∧ Below w.heap.size w w' := by
  have hM := txn_has mt b _ w hs hm n1
  have hC := hid (fun w' (hh : RL intC w' (.slice ar rev.length cr) rev) => slices_ContainsI rev b _ w' hh n3)
  replace hr := hid hr
  have e0 := k0.cell 0; have e1 := k0.cell 1; have e2 := k0.cell 2; have e3 := k0.cell 3; have e4 := k0.cell 4; have e5 := k0.cell 5; have e6 := k0.cell 6; have e7 := k0.cell 7; have e8 := k0.cell 8; have e9 := k0.cell 9; simp only [List.getElem?_toArray, List.getElem?_cons_zero, List.getElem?_cons_succ] at e0 e1 e2 e3 e4 e5 e6 e7 e8 e9; have l0' := k0.lt; have f5 := k0.free 5; have f7 := k0.free 7; have f9 := k0.free 9
  clear hm hs
  cases hb : hasB mt b with
  | true =>
    rw [hb] at hM
    replace hM := hid hM
    clear hb hf
    go_enter Try.func90, Try.ntmps90
    go_wp2_with (go_at_call 69; go_loud ((with_reducible refine hM.out.mono ?_); rintro e w1 ⟨rfl, hb1⟩; replace k0 := k0.step hb1; have nx := hb1; have hr1 := hid (hr.out.below hb1); replace hC := hid (hC.out _ hr1.out); clear e0 e1 e2 e3 e4 e5 e6 e7 e8 e9 l0' f5 f7 f9; have e0 := k0.cell 0; have e1 := k0.cell 1; have e2 := k0.cell 2; have e3 := k0.cell 3; have e4 := k0.cell 4; have e5 := k0.cell 5; have e6 := k0.cell 6; have e7 := k0.cell 7; have e8 := k0.cell 8; have e9 := k0.cell 9; simp only [List.getElem?_toArray, List.getElem?_cons_zero, List.getElem?_cons_succ] at e0 e1 e2 e3 e4 e5 e6 e7 e8 e9; have l0' := k0.lt; have f5 := k0.free 5; have f7 := k0.free 7; have f9 := k0.free 9))
    go_ret
    exact ⟨rfl, nx⟩
  | false =>
    rw [hb] at hM hf
    rw [Bool.false_or] at hf
    rw [hf] at hC
    replace hM := hid hM
    clear hb hf
    go_enter Try.func90, Try.ntmps90
    go_wp2_with (first | (go_at_call 69; go_loud ((with_reducible refine hM.out.mono ?_); rintro e w1 ⟨rfl, hb1⟩; replace k0 := k0.step hb1; have nx := hb1; have hr1 := hid (hr.out.below hb1); replace hC := hid (hC.out _ hr1.out); clear e0 e1 e2 e3 e4 e5 e6 e7 e8 e9 l0' f5 f7 f9; have e0 := k0.cell 0; have e1 := k0.cell 1; have e2 := k0.cell 2; have e3 := k0.cell 3; have e4 := k0.cell 4; have e5 := k0.cell 5; have e6 := k0.cell 6; have e7 := k0.cell 7; have e8 := k0.cell 8; have e9 := k0.cell 9; simp only [List.getElem?_toArray, List.getElem?_cons_zero, List.getElem?_cons_succ] at e0 e1 e2 e3 e4 e5 e6 e7 e8 e9; have l0' := k0.lt; have f5 := k0.free 5; have f7 := k0.free 7; have f9 := k0.free 9)) | (go_at_call 104; go_loud ((with_reducible refine hC.out.mono ?_); rintro e w2 ⟨rfl, rfl⟩)))
    go_ret
    exact ⟨rfl, nx⟩
theorem txn_pay_none2 (seq : Int) (mt dt : List Cpy) (rev : List Int) (o0 o1 o2 : Bool) (l0 l1 l2 : Int) (am ad ar : Option Addr) (cm cd cr : Nat) (b : Int) (g : Nat) (w : World) (k0 : Blk w g #[.int .i64 seq, .slice am mt.length cm, .slice ad dt.length cd, .slice ar rev.length cr, .bool o0, .int .i64 l0, .bool o1, .int .i64 l1, .bool o2, .int .i64 l2] 64) (hs : rise (blks mt) = true) (hm : RL cpyC w (.slice am mt.length cm) mt) (hr : RL intC w (.slice ar rev.length cr) rev) (n1 : mt.length ≤ 5864062014805) (n3 : rev.length ≤ 17592186044160) (hf : (hasB mt b || inI rev b) = false) (h0 : l2 = 0) :
    Calls Try.prog 90 #[.pointer (some ⟨g, 0, none⟩), .int .i64 2, .int .i64 b] w fun e w' => e = .returned (.int .i64 7) ∧ Below w.heap.size w w' := by
  have hM := txn_has mt b _ w hs hm n1
  have hC := hid (fun w' (hh : RL intC w' (.slice ar rev.length cr) rev) => slices_ContainsI rev b _ w' hh n3)
  replace hr := hid hr
  have e0 := k0.cell 0; have e1 := k0.cell 1; have e2 := k0.cell 2; have e3 := k0.cell 3; have e4 := k0.cell 4; have e5 := k0.cell 5; have e6 := k0.cell 6; have e7 := k0.cell 7; have e8 := k0.cell 8; have e9 := k0.cell 9; simp only [List.getElem?_toArray, List.getElem?_cons_zero, List.getElem?_cons_succ] at e0 e1 e2 e3 e4 e5 e6 e7 e8 e9; have l0' := k0.lt; have f5 := k0.free 5; have f7 := k0.free 7; have f9 := k0.free 9
  clear hm hs
  obtain ⟨hb, hf⟩ := Bool.or_eq_false_iff.1 hf
  rw [hb] at hM
  rw [hf] at hC
  replace hM := hid hM
  subst h0
  clear hb hf
  go_enter Try.func90, Try.ntmps90
  go_wp2_with (first | (go_at_call 69; go_loud ((with_reducible refine hM.out.mono ?_); rintro e w1 ⟨rfl, hb1⟩; replace k0 := k0.step hb1; have nx := hb1; have hr1 := hid (hr.out.below hb1); replace hC := hid (hC.out _ hr1.out); clear e0 e1 e2 e3 e4 e5 e6 e7 e8 e9 l0' f5 f7 f9; have e0 := k0.cell 0; have e1 := k0.cell 1; have e2 := k0.cell 2; have e3 := k0.cell 3; have e4 := k0.cell 4; have e5 := k0.cell 5; have e6 := k0.cell 6; have e7 := k0.cell 7; have e8 := k0.cell 8; have e9 := k0.cell 9; simp only [List.getElem?_toArray, List.getElem?_cons_zero, List.getElem?_cons_succ] at e0 e1 e2 e3 e4 e5 e6 e7 e8 e9; have l0' := k0.lt; have f5 := k0.free 5; have f7 := k0.free 7; have f9 := k0.free 9)) | (go_at_call 104; go_loud ((with_reducible refine hC.out.mono ?_); rintro e w2 ⟨rfl, rfl⟩)))
  go_ret
  exact ⟨rfl, nx⟩
theorem txn_pay_one2 (seq : Int) (mt dt : List Cpy) (rev : List Int) (o0 o1 o2 : Bool) (l0 l1 l2 : Int) (am ad ar : Option Addr) (cm cd cr : Nat) (b : Int) (g : Nat) (w : World) (k0 : Blk w g #[.int .i64 seq, .slice am mt.length cm, .slice ad dt.length cd, .slice ar rev.length cr, .bool o0, .int .i64 l0, .bool o1, .int .i64 l1, .bool o2, .int .i64 l2] 64) (hs : rise (blks mt) = true) (hm : RL cpyC w (.slice am mt.length cm) mt) (hr : RL intC w (.slice ar rev.length cr) rev) (n1 : mt.length ≤ 5864062014805) (n3 : rev.length ≤ 17592186044160) (hf : (hasB mt b || inI rev b) = false) (h0 : 0 < l2) (h1 : l2 ≤ 24) :
    Calls Try.prog 90 #[.pointer (some ⟨g, 0, none⟩), .int .i64 2, .int .i64 b] w fun e w' => e = .returned (.int .i64 0) ∧ ∃ w1, Below w.heap.size w w1 ∧ w' = w1.setCell ⟨g, 9, none⟩ (.int .i64 (l2 - 1)) := by
  have hM := txn_has mt b _ w hs hm n1
  have hC := hid (fun w' (hh : RL intC w' (.slice ar rev.length cr) rev) => slices_ContainsI rev b _ w' hh n3)
  replace hr := hid hr
  have e0 := k0.cell 0; have e1 := k0.cell 1; have e2 := k0.cell 2; have e3 := k0.cell 3; have e4 := k0.cell 4; have e5 := k0.cell 5; have e6 := k0.cell 6; have e7 := k0.cell 7; have e8 := k0.cell 8; have e9 := k0.cell 9; simp only [List.getElem?_toArray, List.getElem?_cons_zero, List.getElem?_cons_succ] at e0 e1 e2 e3 e4 e5 e6 e7 e8 e9; have l0' := k0.lt; have f5 := k0.free 5; have f7 := k0.free 7; have f9 := k0.free 9
  clear hm hs
  obtain ⟨hb, hf⟩ := Bool.or_eq_false_iff.1 hf
  have hnz : ¬ l2 = 0 := by omega
  have hwr : IntKind.i64.wrap (l2 - 1) = l2 - 1 := IntWalk.i64_in _ (by omega)
  rw [hb] at hM
  rw [hf] at hC
  replace hM := hid hM
  clear hb hf
  go_enter Try.func90, Try.ntmps90
  go_wp2_with (first | (go_at_call 69; go_loud ((with_reducible refine hM.out.mono ?_); rintro e w1 ⟨rfl, hb1⟩; replace k0 := k0.step hb1; have nx := hb1; have hr1 := hid (hr.out.below hb1); replace hC := hid (hC.out _ hr1.out); clear e0 e1 e2 e3 e4 e5 e6 e7 e8 e9 l0' f5 f7 f9; have e0 := k0.cell 0; have e1 := k0.cell 1; have e2 := k0.cell 2; have e3 := k0.cell 3; have e4 := k0.cell 4; have e5 := k0.cell 5; have e6 := k0.cell 6; have e7 := k0.cell 7; have e8 := k0.cell 8; have e9 := k0.cell 9; simp only [List.getElem?_toArray, List.getElem?_cons_zero, List.getElem?_cons_succ] at e0 e1 e2 e3 e4 e5 e6 e7 e8 e9; have l0' := k0.lt; have f5 := k0.free 5; have f7 := k0.free 7; have f9 := k0.free 9)) | (go_at_call 104; go_loud ((with_reducible refine hC.out.mono ?_); rintro e w2 ⟨rfl, rfl⟩)))
  go_region_law (fail "no call")
  all_goals go_wp2
  all_goals go_ret
  all_goals exact ⟨rfl, _, nx.drew, rfl⟩
end Go.Proofs.Ytjhmfljlclajnab

namespace Wb
open Go Go.RowKit

theorem ne32 {s : ByteArray} (h : ((s.size : Int) != 32) = false) : s.size = 32 := by
  have : (s.size : Int) = 32 := by simpa using h
  omega
theorem ne32' {s : ByteArray} (h : ((s.size : Int) != 32) = true) : ¬ s.size = 32 := fun e => by rw [e] at h; cases h
/-! ### What they compute -/
/-- A block that is named newly is owed for. -/
def owed (t : Txn) (b : Int) : Bool := !(hasB t.mt b || inI t.rev b)
def payE (t : Txn) (h b : Int) : Int := if owed t b = true ∧ (getH t h).left = 0 then 7 else 0
def payT (t : Txn) (h b : Int) : Txn := if owed t b = true then setH t h ⟨(getH t h).on, (getH t h).left - 1⟩ else t
def chgE (t : Txn) (h b : Int) (s : ByteArray) : Int := if mayE t h b ≠ 0 then mayE t h b else if s.size ≠ 32 then 1 else if hasB t.dt b = true then 8 else payE t h b
def chgT (t : Txn) (h b : Int) (s : ByteArray) : Txn := if chgE t h b s = 0 then { payT t h b with mt := putL t.mt b s, rev := offI t.rev b } else t
def filE (t : Txn) (h b : Int) (s : ByteArray) : Int := if mayE t h b ≠ 0 then mayE t h b else if s.size ≠ 32 then 1 else if owed t b = false then 8 else 0
def filT (t : Txn) (h b : Int) (s : ByteArray) : Txn := if filE t h b s = 0 then { t with dt := putL t.dt b s } else t
def rvkE (t : Txn) (h b : Int) : Int := if mayE t h b ≠ 0 then mayE t h b else if inI t.rev b = true then 5 else payE t h b
def rvkT (t : Txn) (h b : Int) : Txn := if rvkE t h b = 0 then { payT t h b with mt := dropC t.mt b, dt := dropC t.dt b, rev := insI t.rev b } else t

theorem setH_same (t : Txn) (h : Int) (x : Hnd) : (setH t h x).seq = t.seq ∧ (setH t h x).mt = t.mt ∧ (setH t h x).dt = t.dt ∧ (setH t h x).rev = t.rev := by
  unfold setH; split
  · exact ⟨rfl, rfl, rfl, rfl⟩
  · split <;> exact ⟨rfl, rfl, rfl, rfl⟩
theorem payT_same (t : Txn) (h b : Int) : (payT t h b).seq = t.seq ∧ (payT t h b).mt = t.mt ∧ (payT t h b).dt = t.dt ∧ (payT t h b).rev = t.rev := by
  unfold payT; split
  · exact setH_same _ _ _
  · exact ⟨rfl, rfl, rfl, rfl⟩

/-- What pay leaves. -/
def payU (t : Txn) (h b : Int) : Txn := if payE t h b = 0 then payT t h b else t
theorem payU_zero {t : Txn} {h b : Int} (e : payE t h b = 0) : payU t h b = payT t h b := if_pos e
theorem payU_same (t : Txn) (h b : Int) : (payU t h b).seq = t.seq ∧ (payU t h b).mt = t.mt ∧ (payU t h b).dt = t.dt ∧ (payU t h b).rev = t.rev := by
  unfold payU; split
  · exact payT_same _ _ _
  · exact ⟨rfl, rfl, rfl, rfl⟩
theorem chg_may {t : Txn} {h b : Int} {s : ByteArray} (hm : ¬ mayE t h b = 0) : chgE t h b s = mayE t h b ∧ chgT t h b s = t := by
  have e : chgE t h b s = mayE t h b := by unfold chgE; rw [if_pos hm]
  exact ⟨e, by unfold chgT; rw [e, if_neg hm]⟩
theorem chg_form {t : Txn} {h b : Int} {s : ByteArray} (hm : mayE t h b = 0) (hs : ¬ s.size = 32) : chgE t h b s = 1 ∧ chgT t h b s = t := by
  have e : chgE t h b s = 1 := by unfold chgE; rw [if_neg (by simp [hm]), if_pos hs]
  exact ⟨e, by unfold chgT; rw [e, if_neg (by decide)]⟩
theorem chg_role {t : Txn} {h b : Int} {s : ByteArray} (hm : mayE t h b = 0) (hs : s.size = 32) (hd : hasB t.dt b = true) : chgE t h b s = 8 ∧ chgT t h b s = t := by
  have e : chgE t h b s = 8 := by unfold chgE; rw [if_neg (by simp [hm]), if_neg (by simp [hs]), if_pos hd]
  exact ⟨e, by unfold chgT; rw [e, if_neg (by decide)]⟩
theorem chg_pay {t : Txn} {h b : Int} {s : ByteArray} (hm : mayE t h b = 0) (hs : s.size = 32) (hd : hasB t.dt b = false) : chgE t h b s = payE t h b := by
  unfold chgE; rw [if_neg (by simp [hm]), if_neg (by simp [hs]), if_neg (by simp [hd])]
theorem chg_broke {t : Txn} {h b : Int} {s : ByteArray} (hm : mayE t h b = 0) (hs : s.size = 32) (hd : hasB t.dt b = false) (hp : ¬ payE t h b = 0) : chgE t h b s = payE t h b ∧ chgT t h b s = t :=
  ⟨chg_pay hm hs hd, by unfold chgT; rw [chg_pay hm hs hd, if_neg hp]⟩
theorem chg_ok {t : Txn} {h b : Int} {s : ByteArray} (hm : mayE t h b = 0) (hs : s.size = 32) (hd : hasB t.dt b = false) (hp : payE t h b = 0) : chgE t h b s = 0 ∧ chgT t h b s = { payU t h b with mt := putL t.mt b s, rev := offI t.rev b } := by
  have e : chgE t h b s = 0 := by rw [chg_pay hm hs hd, hp]
  exact ⟨e, by unfold chgT; rw [if_pos e, payU_zero hp]⟩
theorem fil_may {t : Txn} {h b : Int} {s : ByteArray} (hm : ¬ mayE t h b = 0) : filE t h b s = mayE t h b ∧ filT t h b s = t := by
  have e : filE t h b s = mayE t h b := by unfold filE; rw [if_pos hm]
  exact ⟨e, by unfold filT; rw [e, if_neg hm]⟩
theorem fil_form {t : Txn} {h b : Int} {s : ByteArray} (hm : mayE t h b = 0) (hs : ¬ s.size = 32) : filE t h b s = 1 ∧ filT t h b s = t := by
  have e : filE t h b s = 1 := by unfold filE; rw [if_neg (by simp [hm]), if_pos hs]
  exact ⟨e, by unfold filT; rw [e, if_neg (by decide)]⟩
theorem fil_role {t : Txn} {h b : Int} {s : ByteArray} (hm : mayE t h b = 0) (hs : s.size = 32) (hd : (hasB t.mt b || inI t.rev b) = true) : filE t h b s = 8 ∧ filT t h b s = t := by
  have e : filE t h b s = 8 := by unfold filE owed; rw [if_neg (by simp [hm]), if_neg (by simp [hs]), if_pos (by rw [hd]; rfl)]
  exact ⟨e, by unfold filT; rw [e, if_neg (by decide)]⟩
theorem fil_ok {t : Txn} {h b : Int} {s : ByteArray} (hm : mayE t h b = 0) (hs : s.size = 32) (hd : (hasB t.mt b || inI t.rev b) = false) : filE t h b s = 0 ∧ filT t h b s = { t with dt := putL t.dt b s } := by
  have e : filE t h b s = 0 := by unfold filE owed; rw [if_neg (by simp [hm]), if_neg (by simp [hs]), if_neg (by rw [hd]; decide)]
  exact ⟨e, by unfold filT; rw [if_pos e]⟩
theorem rvk_may {t : Txn} {h b : Int} (hm : ¬ mayE t h b = 0) : rvkE t h b = mayE t h b ∧ rvkT t h b = t := by
  have e : rvkE t h b = mayE t h b := by unfold rvkE; rw [if_pos hm]
  exact ⟨e, by unfold rvkT; rw [e, if_neg hm]⟩
theorem rvk_twice {t : Txn} {h b : Int} (hm : mayE t h b = 0) (hr : inI t.rev b = true) : rvkE t h b = 5 ∧ rvkT t h b = t := by
  have e : rvkE t h b = 5 := by unfold rvkE; rw [if_neg (by simp [hm]), if_pos hr]
  exact ⟨e, by unfold rvkT; rw [e, if_neg (by decide)]⟩
theorem rvk_pay {t : Txn} {h b : Int} (hm : mayE t h b = 0) (hr : inI t.rev b = false) : rvkE t h b = payE t h b := by
  unfold rvkE; rw [if_neg (by simp [hm]), if_neg (by simp [hr])]
theorem rvk_broke {t : Txn} {h b : Int} (hm : mayE t h b = 0) (hr : inI t.rev b = false) (hp : ¬ payE t h b = 0) : rvkE t h b = payE t h b ∧ rvkT t h b = t :=
  ⟨rvk_pay hm hr, by unfold rvkT; rw [rvk_pay hm hr, if_neg hp]⟩
theorem rvk_ok {t : Txn} {h b : Int} (hm : mayE t h b = 0) (hr : inI t.rev b = false) (hp : payE t h b = 0) : rvkE t h b = 0 ∧ rvkT t h b = { payU t h b with mt := dropC t.mt b, dt := dropC t.dt b, rev := insI t.rev b } := by
  have e : rvkE t h b = 0 := by rw [rvk_pay hm hr, hp]
  exact ⟨e, by unfold rvkT; rw [if_pos e, payU_zero hp]⟩

/-! ### Good -/
theorem apart_iff2 (t : Txn) : apart t = true ↔ (∀ b, inI t.rev b = true → hasB t.mt b = false ∧ hasB t.dt b = false) ∧ (∀ b, hasB t.mt b = true → hasB t.dt b = false) := by
  unfold apart
  rw [Bool.and_eq_true, List.all_eq_true, List.all_eq_true]
  constructor
  · rintro ⟨h1, h2⟩
    refine ⟨fun b hb => ?_, fun b hb => ?_⟩
    · have := h1 b (inI_iff.1 hb)
      simpa using this
    · obtain ⟨c, hc, rfl⟩ := hasB_iff.1 hb
      have := h2 c hc
      simpa using this
  · rintro ⟨h1, h2⟩
    refine ⟨fun b hb => ?_, fun c hc => ?_⟩
    · obtain ⟨a1, a2⟩ := h1 b (inI_iff.2 hb)
      simp [a1, a2]
    · simp [h2 c.block (hasB_iff.2 ⟨c, hc, rfl⟩)]
structure GoodT (t : Txn) : Prop where
  seq : 1 ≤ t.seq ∧ t.seq ≤ 2147483647
  mt : copiesB t.mt = true
  dt : copiesB t.dt = true
  rev : rise t.rev = true
  ap : (∀ b, inI t.rev b = true → hasB t.mt b = false ∧ hasB t.dt b = false) ∧ (∀ b, hasB t.mt b = true → hasB t.dt b = false)
  h0 : hOk t.h0 = true
  h1 : hOk t.h1 = true
  h2 : hOk t.h2 = true
theorem goodT_of {t : Txn} : goodT t = true ↔ GoodT t := by
  rw [goodT_iff]
  constructor
  · rintro ⟨a, b, c, d, e, f, g, h⟩
    exact ⟨of_decide_eq_true a, b, c, d, (apart_iff2 t).1 e, f, g, h⟩
  · rintro ⟨a, b, c, d, e, f, g, h⟩
    exact ⟨decide_eq_true a, b, c, d, (apart_iff2 t).2 e, f, g, h⟩
theorem may_zero {t : Txn} {h b : Int} (e : mayE t h b = 0) : goodT t = true ∧ (0 ≤ h ∧ h ≤ 2) ∧ (getH t h).on = true ∧ isBlk b = true := by
  unfold mayE at e
  split at e
  · cases e
  · rename_i hg
    split at e
    · cases e
    · rename_i hn
      refine ⟨by simpa using hg, ?_, ?_, ?_⟩
      · exact Decidable.byContradiction fun hh => hn (.inl hh)
      · cases ho : (getH t h).on with
        | true => rfl
        | false => exact absurd (.inr (.inl ho)) hn
      · cases hb : isBlk b with
        | true => rfl
        | false => exact absurd (.inr (.inr hb)) hn
theorem getH_ok {t : Txn} (g : GoodT t) (h : Int) : hOk (getH t h) = true := by
  unfold getH; split
  · exact g.h0
  · split
    · exact g.h1
    · exact g.h2
theorem setH_good {t : Txn} (g : GoodT t) (h : Int) {x : Hnd} (hx : hOk x = true) : GoodT (setH t h x) := by
  obtain ⟨e1, e2, e3, e4⟩ := setH_same t h x
  refine ⟨by rw [e1]; exact g.seq, by rw [e2]; exact g.mt, by rw [e3]; exact g.dt, by rw [e4]; exact g.rev, by rw [e2, e3, e4]; exact g.ap, ?_, ?_, ?_⟩
  · unfold setH; split
    · exact hx
    · split <;> exact g.h0
  · unfold setH; split
    · exact g.h1
    · split
      · exact hx
      · exact g.h1
  · unfold setH; split
    · exact g.h2
    · split
      · exact g.h2
      · exact hx
theorem payE_zero {t : Txn} {h b : Int} (e : payE t h b = 0) : owed t b = true → (getH t h).left ≠ 0 := fun ho hl => by
  unfold payE at e; rw [if_pos ⟨ho, hl⟩] at e; cases e
theorem payE_cases (t : Txn) (h b : Int) : payE t h b = 0 ∨ payE t h b = 7 := by
  unfold payE; split
  · exact .inr rfl
  · exact .inl rfl
theorem pay_good {t : Txn} (g : GoodT t) {h b : Int} (ho : (getH t h).on = true) (e : payE t h b = 0) : GoodT (payT t h b) := by
  unfold payT
  split
  · rename_i hw
    have hl := payE_zero e hw
    have hk := (hOk_iff' _).1 (getH_ok g h)
    refine setH_good g h ((hOk_iff' _).2 ⟨?_, ?_, .inl ho⟩)
    · show 0 ≤ (getH t h).left - 1; omega
    · show (getH t h).left - 1 ≤ 24; omega
  · exact g
theorem chgE_zero {t : Txn} {h b : Int} {s : ByteArray} (e : chgE t h b s = 0) : mayE t h b = 0 ∧ s.size = 32 ∧ hasB t.dt b = false ∧ payE t h b = 0 := by
  unfold chgE at e
  split at e
  · rename_i h1; exact absurd e h1
  · rename_i h1
    split at e
    · cases e
    · rename_i h2
      split at e
      · cases e
      · rename_i h3
        exact ⟨Decidable.not_not.1 h1, Decidable.not_not.1 h2, by simpa using h3, e⟩
theorem filE_zero {t : Txn} {h b : Int} {s : ByteArray} (e : filE t h b s = 0) : mayE t h b = 0 ∧ s.size = 32 ∧ hasB t.mt b = false ∧ inI t.rev b = false := by
  unfold filE at e
  split at e
  · rename_i h1; exact absurd e h1
  · rename_i h1
    split at e
    · cases e
    · rename_i h2
      split at e
      · cases e
      · rename_i h3
        have : owed t b = true := by simpa using h3
        unfold owed at this
        rw [Bool.not_eq_true', Bool.or_eq_false_iff] at this
        exact ⟨Decidable.not_not.1 h1, Decidable.not_not.1 h2, this.1, this.2⟩
theorem rvkE_zero {t : Txn} {h b : Int} (e : rvkE t h b = 0) : mayE t h b = 0 ∧ inI t.rev b = false ∧ payE t h b = 0 := by
  unfold rvkE at e
  split at e
  · rename_i h1; exact absurd e h1
  · rename_i h1
    split at e
    · cases e
    · rename_i h3
      exact ⟨Decidable.not_not.1 h1, by simpa using h3, e⟩
theorem chg_good {t : Txn} {h b : Int} {s : ByteArray} (hg : goodT t = true) : goodT (chgT t h b s) = true := by
  unfold chgT
  split
  · rename_i e
    obtain ⟨hm, hs, hd, hp⟩ := chgE_zero e
    obtain ⟨_, hh, ho, hb⟩ := may_zero hm
    have g := goodT_of.1 hg
    have gp := pay_good g ho hp
    obtain ⟨e1, e2, e3, e4⟩ := payT_same t h b
    refine goodT_of.2 ⟨gp.seq, put_copies g.mt hb hs, gp.dt, off_rise b g.rev, ?_, gp.h0, gp.h1, gp.h2⟩
    dsimp only
    rw [e3]
    refine ⟨fun x hx => ?_, fun x hx => ?_⟩
    · rw [off_in, Bool.and_eq_true, decide_eq_true_eq] at hx
      rw [put_has b s g.mt]
      have := g.ap.1 x hx.1
      simp [this.1, this.2, hx.2]
    · rw [put_has b s g.mt, Bool.or_eq_true, decide_eq_true_eq] at hx
      rcases hx with rfl | hx
      · exact hd
      · exact g.ap.2 x hx
  · exact hg
theorem fil_good {t : Txn} {h b : Int} {s : ByteArray} (hg : goodT t = true) : goodT (filT t h b s) = true := by
  unfold filT
  split
  · rename_i e
    obtain ⟨hm, hs, hn, hr⟩ := filE_zero e
    obtain ⟨_, hh, ho, hb⟩ := may_zero hm
    have g := goodT_of.1 hg
    refine goodT_of.2 ⟨g.seq, g.mt, put_copies g.dt hb hs, g.rev, ?_, g.h0, g.h1, g.h2⟩
    dsimp only
    refine ⟨fun x hx => ?_, fun x hx => ?_⟩
    · rw [put_has b s g.dt]
      have := g.ap.1 x hx
      have hne : x ≠ b := fun hxb => by rw [hxb, hr] at hx; cases hx
      simp [this.1, this.2, hne]
    · rw [put_has b s g.dt]
      have hne : x ≠ b := fun hxb => by rw [hxb, hn] at hx; cases hx
      simp [g.ap.2 x hx, hne]
  · exact hg
theorem rvk_good {t : Txn} {h b : Int} (hg : goodT t = true) : goodT (rvkT t h b) = true := by
  unfold rvkT
  split
  · rename_i e
    obtain ⟨hm, hr, hp⟩ := rvkE_zero e
    obtain ⟨_, hh, ho, hb⟩ := may_zero hm
    have g := goodT_of.1 hg
    have gp := pay_good g ho hp
    refine goodT_of.2 ⟨gp.seq, drop_copies b g.mt, drop_copies b g.dt, ins_rise g.rev hb hr, ?_, gp.h0, gp.h1, gp.h2⟩
    dsimp only
    refine ⟨fun x hx => ?_, fun x hx => ?_⟩
    · rw [ins_in, Bool.or_eq_true, decide_eq_true_eq] at hx
      rw [drop_has, drop_has]
      rcases hx with rfl | hx
      · simp
      · have := g.ap.1 x hx
        simp [this.1, this.2]
    · rw [drop_has, Bool.and_eq_true] at hx
      rw [drop_has]
      simp [g.ap.2 x hx.1]
  · exact hg
theorem beg_good {t : Txn} {h n free : Int} (hg : goodT t = true) : goodT (begT t h n free) = true := by
  unfold begT
  split
  · rename_i e
    unfold begE at e
    have g := goodT_of.1 hg
    have hn : 0 ≤ n ∧ n ≤ 12 := by
      repeat (first | (split at e <;> first | (cases e; done) | skip) | omega)
    exact goodT_of.2 (setH_good g h ((hOk_iff' _).2 ⟨hn.1, by show n ≤ 24; omega, .inl rfl⟩))
  · exact hg
theorem stop_good {t : Txn} {h : Int} (hg : goodT t = true) : goodT (stopT t h) = true := by
  unfold stopT
  split
  · exact goodT_of.2 (setH_good (goodT_of.1 hg) h (by decide))
  · exact hg
end Wb

namespace Wb
open Go Go.RowKit
def askN (t : Txn) : Int := (t.mt.length : Int) + t.rev.length + t.h0.left + t.h1.left + t.h2.left
theorem lens {t : Txn} (g : GoodT t) : t.mt.length ≤ 12 ∧ t.dt.length ≤ 12 ∧ t.rev.length ≤ 12 := ⟨copies_len g.mt, copies_len g.dt, rise_len g.rev⟩
theorem asked_ask {t : Txn} (hg : goodT t = true) : askedI t = askN t := by
  obtain ⟨a, _, b⟩ := lens (goodT_of.1 hg)
  exact asked_sum hg (by omega) (by omega)
theorem hnds_bd {t : Txn} (g : GoodT t) : (0 ≤ t.h0.left ∧ t.h0.left ≤ 24) ∧ (0 ≤ t.h1.left ∧ t.h1.left ≤ 24) ∧ (0 ≤ t.h2.left ∧ t.h2.left ≤ 24) := hnd_of_good (goodT_of.2 g)
theorem ask_bd {t : Txn} (g : GoodT t) : 0 ≤ askN t ∧ askN t ≤ 96 := by
  obtain ⟨a, _, b⟩ := lens g
  have := hnds_bd g
  unfold askN; omega
theorem ask_set (t : Txn) {h : Int} (hh : 0 ≤ h ∧ h ≤ 2) (x : Hnd) : askN (setH t h x) = askN t - (getH t h).left + x.left := by
  obtain (rfl | rfl | rfl) : h = 0 ∨ h = 1 ∨ h = 2 := by omega
  · have e1 : setH t 0 x = { t with h0 := x } := rfl
    have e2 : getH t 0 = t.h0 := rfl
    rw [e1, e2]; simp only [askN]; omega
  · have e1 : setH t 1 x = { t with h1 := x } := rfl
    have e2 : getH t 1 = t.h1 := rfl
    rw [e1, e2]; simp only [askN]; omega
  · have e1 : setH t 2 x = { t with h2 := x } := rfl
    have e2 : getH t 2 = t.h2 := rfl
    rw [e1, e2]; simp only [askN]; omega
theorem drop_len {l : List Cpy} (b : Int) (h : copiesB l = true) : (dropC l b).length + (if hasB l b then 1 else 0) = l.length := by
  have h1 := ((copies_pw l).1 h).1
  clear h
  induction l with
  | nil => rfl
  | cons x l ih =>
    rw [blks, List.map_cons, List.pairwise_cons] at h1
    have := ih h1.2
    by_cases e : x.block = b
    · have hn : hasB l b = false := by
        cases hb : hasB l b with
        | false => rfl
        | true =>
          obtain ⟨c, hc, hcb⟩ := hasB_iff.1 hb
          have := h1.1 c.block (List.mem_map_of_mem hc); omega
      rw [hn] at this
      have hi : hasB (x :: l) b = true := hasB_iff.2 ⟨x, by simp, e⟩
      rw [hi]
      simp [dropC, e] at this ⊢
      exact this
    · have hi : hasB (x :: l) b = hasB l b := by
        unfold hasB; rw [List.any_cons]; simp [e]
      rw [hi]
      simp [dropC, e] at this ⊢
      omega
theorem ask_pay (t : Txn) {h b : Int} (hh : 0 ≤ h ∧ h ≤ 2) : askN (payT t h b) = askN t - (if owed t b then 1 else 0) := by
  unfold payT
  split
  · rename_i e
    rw [ask_set t hh]; simp only; omega
  · omega
theorem ask_swap (t : Txn) (m d : List Cpy) (r : List Int) : askN { t with mt := m, dt := d, rev := r } = askN t - t.mt.length - t.rev.length + m.length + r.length := by
  simp only [askN]; omega
theorem chg_ask {t : Txn} {h b : Int} {s : ByteArray} (hg : goodT t = true) : askN (chgT t h b s) = askN t := by
  unfold chgT
  split
  · rename_i e
    obtain ⟨hm, hs, hd, hp⟩ := chgE_zero e
    obtain ⟨_, hh, ho, hb⟩ := may_zero hm
    have g := goodT_of.1 hg
    obtain ⟨e1, e2, e3, e4⟩ := payT_same t h b
    have h1 := ask_swap (payT t h b) (putL t.mt b s) (payT t h b).dt (offI t.rev b)
    have h2 := put_len b s g.mt
    have h3 := off_len b g.rev
    have h4 := ask_pay t (b := b) hh
    have h5 := g.ap.1 b
    rw [h1, h4, e2, e4]
    unfold owed
    cases hq : hasB t.mt b <;> cases hr : inI t.rev b <;> rw [hq] at h2 <;> rw [hr] at h3
    · simp at h2 h3 ⊢; omega
    · simp at h2 h3 ⊢; omega
    · simp at h2 h3 ⊢; omega
    · have := (h5 hr).1; rw [hq] at this; cases this
  · rfl
theorem fil_ask {t : Txn} {h b : Int} {s : ByteArray} : askN (filT t h b s) = askN t := by
  unfold filT
  split <;> rfl
theorem rvk_ask {t : Txn} {h b : Int} (hg : goodT t = true) : askN (rvkT t h b) = askN t := by
  unfold rvkT
  split
  · rename_i e
    obtain ⟨hm, hr, hp⟩ := rvkE_zero e
    obtain ⟨_, hh, ho, hb⟩ := may_zero hm
    have g := goodT_of.1 hg
    obtain ⟨e1, e2, e3, e4⟩ := payT_same t h b
    have h1 := ask_swap (payT t h b) (dropC t.mt b) (dropC t.dt b) (insI t.rev b)
    have h2 := drop_len b g.mt
    have h3 := ins_len t.rev b
    have h4 := ask_pay t (b := b) hh
    rw [h1, h4, e2, e4]
    unfold owed
    rw [hr]
    cases hq : hasB t.mt b <;> rw [hq] at h2
    · simp at h2 ⊢; omega
    · simp at h2 ⊢; omega
  · rfl
theorem stop_ask {t : Txn} {h : Int} (hg : goodT t = true) : askN (stopT t h) ≤ askN t := by
  unfold stopT
  split
  · rename_i e
    have hh : 0 ≤ h ∧ h ≤ 2 := by
      unfold stopE at e
      rw [if_neg (by rw [hg]; decide)] at e
      split at e
      · cases e
      · rename_i hn
        exact Decidable.byContradiction fun hh => hn (.inl hh)
    rw [ask_set t hh]
    have := (hOk_iff' _).1 (getH_ok (goodT_of.1 hg) h)
    simp only [hnd0]; omega
  · omega
theorem begE_zero {t : Txn} {h n free : Int} (e : begE t h n free = 0) : goodT t = true ∧ (0 ≤ h ∧ h ≤ 2) ∧ (getH t h).on = false ∧ (0 ≤ n ∧ n ≤ 12) ∧ askedI t + n ≤ 24 ∧ mostN (askedI t + n) ≤ free := by
  unfold begE at e
  split at e
  · cases e
  · rename_i h1
    split at e
    · cases e
    · rename_i h2
      split at e
      · cases e
      · rename_i h3
        split at e
        · cases e
        · rename_i h4
          split at e
          · cases e
          · rename_i h5
            exact ⟨by simpa using h1, Decidable.not_not.1 h2, by simpa using h3, by omega, by omega, by omega⟩
theorem beg_ask {t : Txn} {h n free : Int} (e : begE t h n free = 0) : askN (begT t h n free) = askN t + n ∧ askN t + n ≤ 24 ∧ mostN (askN t + n) ≤ free := by
  obtain ⟨hg, hh, ho, hn, h1, h2⟩ := begE_zero e
  rw [asked_ask hg] at h1 h2
  refine ⟨?_, h1, h2⟩
  unfold begT
  rw [if_pos e, ask_set t hh]
  have hk := (hOk_iff' _).1 (getH_ok (goodT_of.1 hg) h)
  have : (getH t h).left = 0 := by
    rcases hk.2.2 with h | h
    · rw [ho] at h; cases h
    · exact h
  rw [this]; simp only; omega
theorem most_mono {a b : Int} (h : a ≤ b) : mostN a ≤ mostN b := by unfold mostN clamp24 partsOf; omega
theorem need_most {t : Txn} (g : GoodT t) : needN t.mt.length t.rev.length ≤ mostN (askN t) ∧ needE t.mt.length t.rev.length = 0 := by
  obtain ⟨a, _, b⟩ := lens g
  obtain ⟨h0, h1, h2⟩ := hnds_bd g
  have e : needE t.mt.length t.rev.length = 0 := by unfold needE; rw [if_neg (by omega)]
  refine ⟨?_, e⟩
  unfold needN
  rw [if_pos e]
  unfold mostN clamp24 partsOf askN
  omega
end Wb
