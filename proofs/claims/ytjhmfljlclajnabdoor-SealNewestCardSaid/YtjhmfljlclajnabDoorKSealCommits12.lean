/- The walk of the reference's CommitSteps. Three handles are what they are. The walks of SameCopies and SameTxn, at two that are alike. The walks of SameSteps and of seals. The walk of the law SealCommits. The world of the witness, where the program's own step 'flush' stands as its text lays it. What the listed variable holds: the step 'flush'. -/
import Derived.Test.YtjhmfljlclajnabDoorKSealCommits10
import Derived.Test.YtjhmfljlclajnabDoorKSealCommits11
import Derived.Test.YtjhmfljlclajnabDoorKSealCommits7
import Derived.Test.YtjhmfljlclajnabDoorKSealCommits4
import Derived.Test.YtjhmfljlclajnabDoorBase
import Derived.Test.YtjhmfljlclajnabDoorChecked
import Derived.ChangeKeysEq
import Derived.Test.YtjhmfljlclajnabDoorKSealCommits0
import Derived.Test.YtjhmfljlclajnabDoorKSealCommits2
import Derived.Deep.QuietTactic
import Derived.BigQuiet
import Derived.Test.YtjhmfljlclajnabDoorKSealCommits5
import Derived.Test.YtjhmfljlclajnabDoorCards
import Derived.Test.YtjhmfljlclajnabDoorTie
import Derived.Test.YtjhmfljlclajnabDoorKSealCommits3
import Derived.Lib.LaidTab
set_option linter.unusedVariables false
set_option linter.unusedSimpArgs false
namespace Go.Proofs.YtjhmfljlclajnabDoor
open Go.RowKit Wb
set_option linter.unusedVariables false
set_option linter.unusedSimpArgs false
set_option maxRecDepth 100000
set_option maxHeartbeats 16000000
/-- It refuses: a ring, a transaction that is none, or a handle that is on. -/
theorem ref_CommitSteps_bad (r : Ring) (t : Txn) (v : Value) (w0 : World) (ht : RTxn w0 v t) (hb : goodR r = false ∨ goodT t = false ∨ openB t = true) :
    Calls Tryd.prog 9 #[r.val, v] w0 fun e w' => e = .returned (.tuple #[r.val, .slice none 0 0, .int .i64 2]) ∧ Below w0.heap.size w0 w' := by
  have hG := fun w' (hb : Below w0.heap.size w0 w') => ref_GoodTxn t _ w' (ht.below hb)
  have hO := fun w' (hb : Below w0.heap.size w0 w') => ref_OpenOf t _ w' (ht.below hb)
  have hRG := fun w' => ring_GoodRing r w'
  obtain ⟨vm, vd, vr, rfl, hm, hd, hr, n1, n2, n3⟩ := ht
  obtain ⟨h0, u0⟩ := r
  generalize goodT t = gt at *
  generalize openB t = ot at *
  generalize goodR ⟨h0, u0⟩ = gr at *
  unfold txnV at *
  simp only [Ring.val] at *
  have X : St [] w0 w0 [] [] := St.start [] w0
  replace hG := hid hG; replace hO := hid hO; replace hRG := hid hRG
  clear hm hd hr
  cases gr with
  | false =>
    clear hb
    go_enter Tryd.func9, Tryd.ntmps9
    go_wp2_with (first
      | (refine at_mem rfl ?_; refine at_want2 (by kernel_rfl) ?_; (first | (refine at_load rfl ?_; (first | (refine c_load1 rfl _ _ rfl rfl X (by repeat (first | exact ReadA.here rfl | apply ReadA.there)) ?_) | (refine c_loadN rfl _ _ rfl rfl X (by repeat (first | exact ReadB.here (Nat.le_of_ble_eq_true rfl) | apply ReadB.there)) ?_))) | (refine at_store rfl ?_; (first | (refine c_store1 rfl _ _ _ rfl rfl (by first | exact EvR.const _ | exact EvR.tmp rfl rfl) X rfl rfl (by repeat (first | exact PutA.here (Nat.le_of_ble_eq_true rfl) | apply PutA.there)) ?_; intro w X2; (try simp only [upd] at X2); replace X := X2; clear X2) | (refine c_storeN rfl _ _ _ rfl rfl rfl X rfl rfl (by repeat (first | exact PutA.here (Nat.le_of_ble_eq_true rfl) | apply PutA.there)) ?_; intro w X2; (try simp only [upd] at X2); replace X := X2; clear X2))) | (refine m_alloc rfl _ rfl X ?_; intro g w X2; (replace X := X2; clear X2)) | (refine m_box rfl _ _ rfl (by first | exact EvR.const _ | exact EvR.tmp rfl rfl) rfl X ?_; intro g w X2; (replace X := X2; clear X2))); (simp only [Act.put, List.setIfInBounds_toArray, List.set_cons_succ, List.set_cons_zero, List.drop_succ_cons, List.drop_zero, List.take_succ_cons, List.take_zero, Nat.reduceAdd]))
      | (go_at_call 42; go_loud ((with_reducible refine (hRG.out _).mono ?_); rintro e w1 ⟨rfl, hb1⟩; replace X := X.call hb1; clear hb1)))
    exact m_ret3 rfl (.tmp rfl rfl) (.tmp rfl rfl) (.tmp rfl rfl) X (.head _) rfl rfl ⟨rfl, X.below⟩
  | true =>
    cases gt with
    | false =>
      clear hb
      go_enter Tryd.func9, Tryd.ntmps9
      go_wp2_with (first
        | (refine at_mem rfl ?_; refine at_want2 (by kernel_rfl) ?_; (first | (refine at_load rfl ?_; (first | (refine c_load1 rfl _ _ rfl rfl X (by repeat (first | exact ReadA.here rfl | apply ReadA.there)) ?_) | (refine c_loadN rfl _ _ rfl rfl X (by repeat (first | exact ReadB.here (Nat.le_of_ble_eq_true rfl) | apply ReadB.there)) ?_))) | (refine at_store rfl ?_; (first | (refine c_store1 rfl _ _ _ rfl rfl (by first | exact EvR.const _ | exact EvR.tmp rfl rfl) X rfl rfl (by repeat (first | exact PutA.here (Nat.le_of_ble_eq_true rfl) | apply PutA.there)) ?_; intro w X2; (try simp only [upd] at X2); replace X := X2; clear X2) | (refine c_storeN rfl _ _ _ rfl rfl rfl X rfl rfl (by repeat (first | exact PutA.here (Nat.le_of_ble_eq_true rfl) | apply PutA.there)) ?_; intro w X2; (try simp only [upd] at X2); replace X := X2; clear X2))) | (refine m_alloc rfl _ rfl X ?_; intro g w X2; (replace X := X2; clear X2)) | (refine m_box rfl _ _ rfl (by first | exact EvR.const _ | exact EvR.tmp rfl rfl) rfl X ?_; intro g w X2; (replace X := X2; clear X2))); (simp only [Act.put, List.setIfInBounds_toArray, List.set_cons_succ, List.set_cons_zero, List.drop_succ_cons, List.drop_zero, List.take_succ_cons, List.take_zero, Nat.reduceAdd]))
        | (go_at_call 42; go_loud ((with_reducible refine (hRG.out _).mono ?_); rintro e w1 ⟨rfl, hb1⟩; replace X := X.call hb1; clear hb1))
        | (go_at_call 43; go_loud ((with_reducible refine (hG.out _ X.below).mono ?_); rintro e w1 ⟨rfl, hb1⟩; replace X := X.call hb1; clear hb1)))
      exact m_ret3 rfl (.tmp rfl rfl) (.tmp rfl rfl) (.tmp rfl rfl) X (.head _) rfl rfl ⟨rfl, X.below⟩
    | true =>
      obtain rfl : ot = true := by rcases hb with h | h | h <;> first | exact h | cases h
      clear hb
      go_enter Tryd.func9, Tryd.ntmps9
      go_wp2_with (first
        | (refine at_mem rfl ?_; refine at_want2 (by kernel_rfl) ?_; (first | (refine at_load rfl ?_; (first | (refine c_load1 rfl _ _ rfl rfl X (by repeat (first | exact ReadA.here rfl | apply ReadA.there)) ?_) | (refine c_loadN rfl _ _ rfl rfl X (by repeat (first | exact ReadB.here (Nat.le_of_ble_eq_true rfl) | apply ReadB.there)) ?_))) | (refine at_store rfl ?_; (first | (refine c_store1 rfl _ _ _ rfl rfl (by first | exact EvR.const _ | exact EvR.tmp rfl rfl) X rfl rfl (by repeat (first | exact PutA.here (Nat.le_of_ble_eq_true rfl) | apply PutA.there)) ?_; intro w X2; (try simp only [upd] at X2); replace X := X2; clear X2) | (refine c_storeN rfl _ _ _ rfl rfl rfl X rfl rfl (by repeat (first | exact PutA.here (Nat.le_of_ble_eq_true rfl) | apply PutA.there)) ?_; intro w X2; (try simp only [upd] at X2); replace X := X2; clear X2))) | (refine m_alloc rfl _ rfl X ?_; intro g w X2; (replace X := X2; clear X2)) | (refine m_box rfl _ _ rfl (by first | exact EvR.const _ | exact EvR.tmp rfl rfl) rfl X ?_; intro g w X2; (replace X := X2; clear X2))); (simp only [Act.put, List.setIfInBounds_toArray, List.set_cons_succ, List.set_cons_zero, List.drop_succ_cons, List.drop_zero, List.take_succ_cons, List.take_zero, Nat.reduceAdd]))
        | (go_at_call 42; go_loud ((with_reducible refine (hRG.out _).mono ?_); rintro e w1 ⟨rfl, hb1⟩; replace X := X.call hb1; clear hb1))
        | (go_at_call 43; go_loud ((with_reducible refine (hG.out _ X.below).mono ?_); rintro e w1 ⟨rfl, hb1⟩; replace X := X.call hb1; clear hb1))
        | (go_at_call 44; go_loud ((with_reducible refine (hO.out _ X.below).mono ?_); rintro e w1 ⟨rfl, hb1⟩; replace X := X.call hb1; clear hb1)))

      exact m_ret3 rfl (.tmp rfl rfl) (.tmp rfl rfl) (.tmp rfl rfl) X (.head _) rfl rfl ⟨rfl, X.below⟩
/-- It refuses: there is no room. -/
theorem ref_CommitSteps_full (r : Ring) (t : Txn) (v : Value) (w0 : World) (ht : RTxn w0 v t) (hb : ¬ (goodR r = false ∨ goodT t = false ∨ openB t = true)) (hn : takeE r (comN t) ≠ 0) :
    Calls Tryd.prog 9 #[r.val, v] w0 fun e w' => e = .returned (.tuple #[r.val, .slice none 0 0, .int .i64 (takeE r (comN t))]) ∧ Below w0.heap.size w0 w' := by
  have hbb := hb
  simp only [not_or, Bool.not_eq_false, Bool.not_eq_true] at hb
  obtain ⟨q1, q2, q3⟩ := hb
  have hB := fun w' (hb : Below w0.heap.size w0 w') => ref_blocksOf t q2 _ w' (ht.below hb)
  have hG := fun w' (hb : Below w0.heap.size w0 w') => ref_GoodTxn t _ w' (ht.below hb)
  have hO := fun w' (hb : Below w0.heap.size w0 w') => ref_OpenOf t _ w' (ht.below hb)
  have hRG := fun w' => ring_GoodRing r w'
  have hTk := fun w' => ref_TakeRing r (comN t) w'
  rw [q2] at hG
  rw [q3] at hO
  rw [q1] at hRG
  obtain ⟨_, _, _, f4, f5⟩ := com_full hbb hn
  rw [f4, f5] at hTk
  have hcl := com_len (goodT_of.1 q2)
  generalize takeE r (comN t) = te at *
  have hte : (te != 0) = true := bne_iff_ne.2 hn
  generalize logT t = LG at *
  rw [← hcl] at hTk
  obtain ⟨vm, vd, vr, rfl, hm, hd, hr, n1, n2, n3⟩ := ht
  obtain ⟨h0, u0⟩ := r
  unfold txnV at *
  simp only [Ring.val] at *
  have X : St [] w0 w0 [] [] := St.start [] w0
  replace hG := hid hG; replace hO := hid hO; replace hRG := hid hRG; replace hB := hid hB; replace hTk := hid hTk; replace hcl := hid hcl
  clear hm hd hr hbb hn q1 q2 q3 f4 f5
  go_enter Tryd.func9, Tryd.ntmps9
  go_wp2_with (first
    | (refine at_mem rfl ?_; refine at_want2 (by kernel_rfl) ?_; (first | (refine at_load rfl ?_; (first | (refine c_load1 rfl _ _ rfl rfl X (by repeat (first | exact ReadA.here rfl | apply ReadA.there)) ?_) | (refine c_loadN rfl _ _ rfl rfl X (by repeat (first | exact ReadB.here (Nat.le_of_ble_eq_true rfl) | apply ReadB.there)) ?_))) | (refine at_store rfl ?_; (first | (refine c_store1 rfl _ _ _ rfl rfl (by first | exact EvR.const _ | exact EvR.tmp rfl rfl) X rfl rfl (by repeat (first | exact PutA.here (Nat.le_of_ble_eq_true rfl) | apply PutA.there)) ?_; intro w X2; (try simp only [upd] at X2); replace X := X2; clear X2) | (refine c_storeN rfl _ _ _ rfl rfl rfl X rfl rfl (by repeat (first | exact PutA.here (Nat.le_of_ble_eq_true rfl) | apply PutA.there)) ?_; intro w X2; (try simp only [upd] at X2); replace X := X2; clear X2))) | (refine m_alloc rfl _ rfl X ?_; intro g w X2; (replace X := X2; clear X2)) | (refine m_box rfl _ _ rfl (by first | exact EvR.const _ | exact EvR.tmp rfl rfl) rfl X ?_; intro g w X2; (replace X := X2; clear X2))); (simp only [Act.put, List.setIfInBounds_toArray, List.set_cons_succ, List.set_cons_zero, List.drop_succ_cons, List.drop_zero, List.take_succ_cons, List.take_zero, Nat.reduceAdd]))
    | (go_at_call 42; go_loud ((with_reducible refine (hRG.out _).mono ?_); rintro e w1 ⟨rfl, hb1⟩; replace X := X.call hb1; clear hb1))
    | (go_at_call 43; go_loud ((with_reducible refine (hG.out _ X.below).mono ?_); rintro e w1 ⟨rfl, hb1⟩; replace X := X.call hb1; clear hb1))
    | (go_at_call 44; go_loud ((with_reducible refine (hO.out _ X.below).mono ?_); rintro e w1 ⟨rfl, hb1⟩; replace X := X.call hb1; clear hb1))
    | (go_at_call 45; go_loud ((with_reducible refine (hB.out _ X.below).mono ?_); rintro e w1 ⟨va, rfl, hoa, hb1⟩; obtain ⟨la, lc, rfl, _⟩ := hoa.reads.form; replace X := X.call hb1; clear hb1 hoa))
    | (go_at_call 46; go_loud ((with_reducible refine (hTk.out _).mono ?_); rintro e w1 ⟨va, rfl, hoa, hb1⟩; replace X := X.call hb1; clear hb1 hoa)))
  exact m_ret3 rfl (.tmp rfl rfl) (.tmp rfl rfl) (.tmp rfl rfl) X (.tail _ (.head _)) rfl rfl ⟨rfl, X.below⟩
/-- All its steps. -/
theorem ref_CommitSteps_go (r : Ring) (t : Txn) (v : Value) (w0 : World) (ht : RTxn w0 v t) (hb : ¬ (goodR r = false ∨ goodT t = false ∨ openB t = true)) (hn : takeE r (comN t) = 0) :
    Calls Tryd.prog 9 #[r.val, v] w0 fun e w' => ∃ v', e = .returned (.tuple #[(takeR r (comN t)).val, v', .int .i64 0]) ∧ Wb.Own stpC w0.heap.size 76 3 w' v' (comL r t) ∧ Below w0.heap.size w0 w' := by
  have hbb := hb
  simp only [not_or, Bool.not_eq_false, Bool.not_eq_true] at hb
  obtain ⟨q1, q2, q3⟩ := hb
  have hg := goodT_of.1 q2
  obtain ⟨l1, l2, l3⟩ := lens hg
  have hB := fun w' (hb : Below w0.heap.size w0 w') => ref_blocksOf t q2 _ w' (ht.below hb)
  have hG := fun w' (hb : Below w0.heap.size w0 w') => ref_GoodTxn t _ w' (ht.below hb)
  have hO := fun w' (hb : Below w0.heap.size w0 w') => ref_OpenOf t _ w' (ht.below hb)
  have hRG := fun w' => ring_GoodRing r w'
  have hTk := fun w' => ref_TakeRing r (comN t) w'
  rw [q2] at hG
  rw [q3] at hO
  rw [q1] at hRG
  rw [hn] at hTk
  have hce := (com_ok0 hbb hn).1
  obtain ⟨_, _, _, hroom, _⟩ := comE_zero hce
  have hcl := com_len hg
  obtain ⟨LG, DS, RS, mc, hF, hLG⟩ := refF hce
  rw [← hLG] at hB hcl
  have hu := ((goodR_iff r).1 q1).2.2
  have hTL : takeL r (comN t) = places r.head ((bodyT t).length + 1) := by
    unfold takeL
    rw [if_pos hn, ← bodyT_len hg]
    congr 1
  rw [hTL] at hTk
  rw [← hcl, hF.ln] at hTk
  rw [← hcl, hF.ln]
  generalize hnb : (bodyT t).length = nb at *
  have hnb24 : nb + 1 ≤ 24 := by omega
  generalize hCL : comL r t = CL at *
  obtain ⟨⟨rh, ru⟩, hTR⟩ : ∃ x : Ring, takeR r ((nb + 1 : Nat) : Int) = x := ⟨_, rfl⟩
  rw [hTR] at hTk ⊢
  have hcast : ((nb + 1 : Nat) : Int) = (nb : Int) + 1 := by omega
  rw [hcast] at hTk
  clear hcast
  obtain ⟨vm, vd, vr, rfl, hm, hd, hr, n1, n2, n3⟩ := ht
  obtain ⟨am, cm, rfl, hcm, _⟩ := hm.form
  obtain ⟨ad, cd, rfl, _⟩ := hd.form
  obtain ⟨ar, cr, rfl, hcr, _⟩ := hr.form
  obtain ⟨h0, u0⟩ := r
  obtain ⟨seq, mt, dt, rev, ⟨o0, x0⟩, ⟨o1, x1⟩, ⟨o2, x2⟩⟩ := t
  obtain ⟨hln, hz0, hs0, he0, hm0, hll, hdl, hc0, hg0⟩ := hF
  rw [hCL] at hc0
  have hmt := fun k (hk : k < dt.length) => map_take (f := goS) hk
  have hfu : dt.take dt.length = dt := List.take_length
  unfold txnV at *
  dsimp only [Ring.val] at *
  have X : St [] w0 w0 [] [Rd.of cpyC (.slice ad dt.length cd) dt] := (St.start [] w0).addR0 hd
  replace hG := hid hG; replace hO := hid hO; replace hRG := hid hRG; replace hB := hid hB; replace hTk := hid hTk; replace hcl := hid hcl; replace hln := hid hln; replace hz0 := hid hz0; replace hs0 := hid hs0; replace he0 := hid he0; replace hm0 := hid hm0; replace hll := hid hll; replace hdl := hid hdl; replace hc0 := hid hc0; replace hg0 := hid hg0; replace hmt := hid hmt; replace hfu := hid hfu; replace hg := hid hg; replace hd := hid hd; replace hCL := hid hCL; replace hTR := hid hTR
  clear hm hr hbb hn q1 q2 q3 hTL hce hLG hu hroom hnb
  go_enter Tryd.func9, Tryd.ntmps9
  go_upto_block 0 with (first
    | (refine at_mem rfl ?_; refine at_want2 (by kernel_rfl) ?_; (first | (refine at_load rfl ?_; (first | (refine c_load1 rfl _ _ rfl rfl X (by repeat (first | exact ReadA.here rfl | apply ReadA.there)) ?_) | (refine c_loadN rfl _ _ rfl rfl X (by repeat (first | exact ReadB.here (Nat.le_of_ble_eq_true rfl) | apply ReadB.there)) ?_))) | (refine at_store rfl ?_; (first | (refine c_store1 rfl _ _ _ rfl rfl (by first | exact EvR.const _ | exact EvR.tmp rfl rfl) X rfl rfl (by repeat (first | exact PutA.here (Nat.le_of_ble_eq_true rfl) | apply PutA.there)) ?_; intro w X2; (try simp only [upd] at X2); replace X := X2; clear X2) | (refine c_storeN rfl _ _ _ rfl rfl rfl X rfl rfl (by repeat (first | exact PutA.here (Nat.le_of_ble_eq_true rfl) | apply PutA.there)) ?_; intro w X2; (try simp only [upd] at X2); replace X := X2; clear X2))) | (refine m_alloc rfl _ rfl X ?_; intro g w X2; (replace X := X2; clear X2)) | (refine m_box rfl _ _ rfl (by first | exact EvR.const _ | exact EvR.tmp rfl rfl) rfl X ?_; intro g w X2; (replace X := X2; clear X2))); (simp only [Act.put, List.setIfInBounds_toArray, List.set_cons_succ, List.set_cons_zero, List.drop_succ_cons, List.drop_zero, List.take_succ_cons, List.take_zero, Nat.reduceAdd]))
    | (go_at_call 42; go_loud ((with_reducible refine (hRG.out _).mono ?_); rintro e w1 ⟨rfl, hb1⟩; replace X := X.call hb1; clear hb1))
    | (go_at_call 43; go_loud ((with_reducible refine (hG.out _ X.below).mono ?_); rintro e w1 ⟨rfl, hb1⟩; replace X := X.call hb1; clear hb1))
    | (go_at_call 44; go_loud ((with_reducible refine (hO.out _ X.below).mono ?_); rintro e w1 ⟨rfl, hb1⟩; replace X := X.call hb1; clear hb1))
    | (go_at_call 45; go_loud ((with_reducible refine (hB.out _ X.below).mono ?_); rintro e w1 ⟨va, rfl, hoa, hb1⟩; obtain ⟨la, lc, rfl, _⟩ := hoa.reads.form; replace X := X.addOwn hb1 hoa; clear hb1 hoa; rw [hln.out] at X; simp only [hln.out]))
    | (go_at_call 46; go_loud ((with_reducible refine (hTk.out _).mono ?_); rintro e w1 ⟨va, rfl, hoa, hb1⟩; obtain ⟨pa, pc, rfl, _⟩ := hoa.reads.form; replace X := X.addOwn hb1 hoa; clear hb1 hoa; rw [places_len] at X; simp only [places_len])))
  obtain ⟨g8, g4, g3, g2, rfl, rfl, rfl, rfl⟩ := X.gs4
  go_cut [11] (fun v11 wx => ∃ (M : List Ent), OwnM stpC 76 3 v11 (dt.map goS) M ∧ St [] w0 wx (⟨g8, [.int .i64 rh, .int .i64 ru], 23⟩ :: ⟨g4, [.int .i64 0, .int .i64 0], 23⟩ :: ⟨g3, [.int .i64 seq, .slice am mt.length cm, .slice ad dt.length cd, .slice ar rev.length cr, .bool o0, .int .i64 x0, .bool o1, .int .i64 x1, .bool o2, .int .i64 x2], 30⟩ :: ⟨g2, [.int .i64 h0, .int .i64 u0], 23⟩ :: (M ++ [])) [Rd.of intC (.slice pa (nb + 1) pc) (places h0 (nb + 1)), Rd.of strC (.slice la (nb + 1) lc) LG, Rd.of cpyC (.slice ad dt.length cd) dt])
  case first =>
    go_wp2
    go_loopw [11, 46] (fun v11 i wr => ∃ (k : Nat) (M : List Ent), k ≤ dt.length ∧ i = .int .i64 k ∧ OwnM stpC 76 3 v11 ((dt.take k).map goS) M ∧ St [] w0 wr (⟨g8, [.int .i64 rh, .int .i64 ru], 23⟩ :: ⟨g4, [.int .i64 0, .int .i64 0], 23⟩ :: ⟨g3, [.int .i64 seq, .slice am mt.length cm, .slice ad dt.length cd, .slice ar rev.length cr, .bool o0, .int .i64 x0, .bool o1, .int .i64 x1, .bool o2, .int .i64 x2], 30⟩ :: ⟨g2, [.int .i64 h0, .int .i64 u0], 23⟩ :: (M ++ [])) [Rd.of intC (.slice pa (nb + 1) pc) (places h0 (nb + 1)), Rd.of strC (.slice la (nb + 1) lc) LG, Rd.of cpyC (.slice ad dt.length cd) dt]) (fun _ i _ => dt.length - (intOf i).toNat)
    case atStart => exact ⟨0, [], Nat.zero_le _, rfl, OwnM.nil _ _ _, X⟩
    case round =>
      clear X
      obtain ⟨k, M, hk, rfl, hO2, X⟩ := hrel
      by_cases hlt : k < dt.length
      · obtain ⟨bz, oz, rfl, c0, c1⟩ := RL.at2 (fun x => .int .i64 x.block) (fun x => .string x.text) (fun _ => rfl) (hd.out.below X.below) hlt
        obtain ⟨y0, y1⟩ := of_decide_eq_true (copies_get hg.out.dt hlt).1
        have hmk := hmt.out k hlt
        have hlk : ((dt.take k).map goS).length ≤ 12 := by rw [List.length_map, List.length_take]; omega
        (try dsimp only at c0 c1 y0 y1 hmk)
        generalize dt[k] = x at *
        obtain ⟨xb, xt⟩ := x
        (try dsimp only at *)
        generalize (dt.take k).map goS = ls at *
        obtain ⟨ao, co, rfl⟩ := hO2.form
        have hwr : IntKind.i64.wrap (25 + xb) = 25 + xb := IntWalk.i64_in _ (by omega)
        have hgo : [goS ⟨xb, xt⟩].flatMap stpC = [.int .i64 1, .int .i64 (25 + xb), .string xt] := rfl
        have h40 : ls.length + 1 ≤ 1099511627776 := by omega
        replace hmk := hid hmk
        go_wp2_with (first
          | (refine at_mem rfl ?_; (first | (refine at_load rfl ?_; (first | (refine c_load1 rfl _ _ rfl rfl X (by first | exact ReadA.here rfl | exact ReadA.there (ReadA.here rfl)) ?_) | (refine c_loadN rfl _ _ rfl rfl X (by first | exact ReadB.here (Nat.le_of_ble_eq_true rfl) | exact ReadB.there (ReadB.here (Nat.le_of_ble_eq_true rfl))) ?_))) | (refine at_store rfl ?_; (first | (refine c_store1 rfl _ _ _ rfl rfl (by first | exact EvR.const _ | exact EvR.tmp rfl rfl) X rfl rfl (by first | exact PutA.here (Nat.le_of_ble_eq_true rfl) | exact PutA.there (PutA.here (Nat.le_of_ble_eq_true rfl))) ?_; intro w X2; (try simp only [upd] at X2); replace X := X2; clear X2) | (refine c_storeN rfl _ _ _ rfl rfl rfl X rfl rfl (by first | exact PutA.here (Nat.le_of_ble_eq_true rfl) | exact PutA.there (PutA.here (Nat.le_of_ble_eq_true rfl))) ?_; intro w X2; (try simp only [upd] at X2); replace X := X2; clear X2))) | (refine m_alloc rfl _ rfl X ?_; intro g w X2; (replace X := X2; clear X2))); (simp only [Act.put, List.setIfInBounds_toArray, List.set_cons_succ, List.set_cons_zero, List.drop_succ_cons, List.drop_zero, List.take_succ_cons, List.take_zero, Nat.reduceAdd]))
          | (refine at_build rfl ?_; go_loud (refine m_build1 rfl rfl (by first | exact EvR.const _ | exact EvR.tmp rfl rfl) (by rfl) (by rfl) X ?_; intro g w2 X2; replace X := X2; clear X2; (simp only [Act.put, List.setIfInBounds_toArray, List.set_cons_succ, List.set_cons_zero, List.drop_succ_cons, List.drop_zero, List.take_succ_cons, List.take_zero, Nat.reduceAdd])))
          | (at_builtin; go_loud ((refine m_app (M := M) (T := []) (n := 1) [_, _, _, _, _] rfl rfl [goS ⟨xb, xt⟩] stpC_flat X hO2 (by first | exact EvR.const _ | exact EvR.tmp rfl rfl) (by first | exact EvR.const _ | exact EvR.tmp rfl rfl) hgo rfl h40 ?_); intro a2 c2 w2 M2 hO3 X2; replace X := X2; clear X2; (simp only [Act.put, List.setIfInBounds_toArray, List.set_cons_succ, List.set_cons_zero, List.drop_succ_cons, List.drop_zero, List.take_succ_cons, List.take_zero, Nat.reduceAdd]))))
        go_roundw
        case rel => exact ⟨k + 1, M2, by omega, by go_num, by rw [hmk.out]; exact hO3, X.tail⟩
        case measure => simp only [intOf]; omega
      · obtain rfl : k = dt.length := by omega
        rw [hfu.out] at hO2
        go_wp2
        go_meet
        exact ⟨M, hO2, X⟩
  case rest =>
    clear X
    obtain ⟨M, hO2, X⟩ := hcut
    have hml : (dt.map goS).length = dt.length := List.length_map _
    have hds := hg0.out
    generalize dt.map goS = ls at *
    replace hds := hid hds
    go_upto_if 63 with (refine at_mem rfl ?_; (first | (refine at_load rfl ?_; (first | (refine c_load1 rfl _ _ rfl rfl X (by repeat (first | exact ReadA.here rfl | apply ReadA.there)) ?_) | (refine c_loadN rfl _ _ rfl rfl X (by repeat (first | exact ReadB.here (Nat.le_of_ble_eq_true rfl) | apply ReadB.there)) ?_))) | (refine at_store rfl ?_; (first | (refine c_store1 rfl _ _ _ rfl rfl (by first | exact EvR.const _ | exact EvR.tmp rfl rfl) X rfl rfl (by repeat (first | exact PutA.here (Nat.le_of_ble_eq_true rfl) | apply PutA.there)) ?_; intro w X2; (try simp only [upd] at X2); replace X := X2; clear X2) | (refine c_storeN rfl _ _ _ rfl rfl rfl X rfl rfl (by repeat (first | exact PutA.here (Nat.le_of_ble_eq_true rfl) | apply PutA.there)) ?_; intro w X2; (try simp only [upd] at X2); replace X := X2; clear X2))) | (refine m_alloc rfl _ rfl X ?_; intro g w X2; (replace X := X2; clear X2)) | (refine m_box rfl _ _ rfl (by first | exact EvR.const _ | exact EvR.tmp rfl rfl) rfl X ?_; intro g w X2; (replace X := X2; clear X2))); (simp only [Act.put, List.setIfInBounds_toArray, List.set_cons_succ, List.set_cons_zero, List.drop_succ_cons, List.drop_zero, List.take_succ_cons, List.take_zero, Nat.reduceAdd]))
    go_cut [11] (fun v11 wx => ∃ (M : List Ent), OwnM stpC 76 3 v11 DS M ∧ St [] w0 wx (⟨g8, [.int .i64 rh, .int .i64 ru], 23⟩ :: ⟨g4, [.int .i64 0, .int .i64 0], 23⟩ :: ⟨g3, [.int .i64 seq, .slice am mt.length cm, .slice ad dt.length cd, .slice ar rev.length cr, .bool o0, .int .i64 x0, .bool o1, .int .i64 x1, .bool o2, .int .i64 x2], 30⟩ :: ⟨g2, [.int .i64 h0, .int .i64 u0], 23⟩ :: (M ++ [])) [Rd.of intC (.slice pa (nb + 1) pc) (places h0 (nb + 1)), Rd.of strC (.slice la (nb + 1) lc) LG, Rd.of cpyC (.slice ad dt.length cd) dt])
    case first =>
      have hgo : [flushS].flatMap stpC = [.int .i64 2, .int .i64 0, .string ⟨#[]⟩] := rfl
      have h40 : ls.length + 1 ≤ 1099511627776 := by omega
      by_cases hz : 0 < dt.length
      · rw [if_pos hz] at hds
        have hzi : decide (0 < dt.length) = true := decide_eq_true hz
        go_wp2_with (first
          | (refine at_mem rfl ?_; (first | (refine at_load rfl ?_; (first | (refine c_load1 rfl _ _ rfl rfl X (by repeat (first | exact ReadA.here rfl | apply ReadA.there)) ?_) | (refine c_loadN rfl _ _ rfl rfl X (by repeat (first | exact ReadB.here (Nat.le_of_ble_eq_true rfl) | apply ReadB.there)) ?_))) | (refine at_store rfl ?_; (first | (refine c_store1 rfl _ _ _ rfl rfl (by first | exact EvR.const _ | exact EvR.tmp rfl rfl) X rfl rfl (by repeat (first | exact PutA.here (Nat.le_of_ble_eq_true rfl) | apply PutA.there)) ?_; intro w X2; (try simp only [upd] at X2); replace X := X2; clear X2) | (refine c_storeN rfl _ _ _ rfl rfl rfl X rfl rfl (by repeat (first | exact PutA.here (Nat.le_of_ble_eq_true rfl) | apply PutA.there)) ?_; intro w X2; (try simp only [upd] at X2); replace X := X2; clear X2))) | (refine m_alloc rfl _ rfl X ?_; intro g w X2; (replace X := X2; clear X2)) | (refine m_box rfl _ _ rfl (by first | exact EvR.const _ | exact EvR.tmp rfl rfl) rfl X ?_; intro g w X2; (replace X := X2; clear X2))); (simp only [Act.put, List.setIfInBounds_toArray, List.set_cons_succ, List.set_cons_zero, List.drop_succ_cons, List.drop_zero, List.take_succ_cons, List.take_zero, Nat.reduceAdd]))
          | (refine at_build rfl ?_; go_loud (refine m_build1 rfl rfl (by first | exact EvR.const _ | exact EvR.tmp rfl rfl) (by rfl) (by rfl) X ?_; intro g w2 X2; replace X := X2; clear X2; (simp only [Act.put, List.setIfInBounds_toArray, List.set_cons_succ, List.set_cons_zero, List.drop_succ_cons, List.drop_zero, List.take_succ_cons, List.take_zero, Nat.reduceAdd])))
          | (at_builtin; go_loud ((refine m_app (M := M) (T := []) (n := 1) [_, _, _, _] rfl rfl [flushS] stpC_flat X hO2 (by first | exact EvR.const _ | exact EvR.tmp rfl rfl) (by first | exact EvR.const _ | exact EvR.tmp rfl rfl) hgo rfl h40 ?_); intro a2 c2 w2 M2 hO3 X2; replace X := X2; clear X2; (simp only [Act.put, List.setIfInBounds_toArray, List.set_cons_succ, List.set_cons_zero, List.drop_succ_cons, List.drop_zero, List.take_succ_cons, List.take_zero, Nat.reduceAdd]))))
        go_meet
        exact ⟨M2, by rw [← hds.out]; exact hO3, X⟩
      · rw [if_neg hz, List.append_nil] at hds
        have hzi : decide (0 < dt.length) = false := decide_eq_false hz
        go_wp2
        go_meet
        exact ⟨M, by rw [← hds.out]; exact hO2, X⟩
    case rest =>
      clear X hO2
      obtain ⟨M, hO2, X⟩ := hcut
      go_wp2
      go_loopw [11, 70] (fun v11 i wr => ∃ (k : Nat) (M : List Ent), k ≤ nb + 1 ∧ i = .int .i64 k ∧ OwnM stpC 76 3 v11 (DS ++ RS k) M ∧ St [] w0 wr (⟨g8, [.int .i64 rh, .int .i64 ru], 23⟩ :: ⟨g4, [.int .i64 0, .int .i64 0], 23⟩ :: ⟨g3, [.int .i64 seq, .slice am mt.length cm, .slice ad dt.length cd, .slice ar rev.length cr, .bool o0, .int .i64 x0, .bool o1, .int .i64 x1, .bool o2, .int .i64 x2], 30⟩ :: ⟨g2, [.int .i64 h0, .int .i64 u0], 23⟩ :: (M ++ [])) [Rd.of intC (.slice pa (nb + 1) pc) (places h0 (nb + 1)), Rd.of strC (.slice la (nb + 1) lc) LG, Rd.of cpyC (.slice ad dt.length cd) dt]) (fun _ i _ => nb + 1 - (intOf i).toNat)
      case atStart => exact ⟨0, M, Nat.zero_le _, rfl, by rw [hz0.out, List.append_nil]; exact hO2, X⟩
      case round =>
        clear X hO2
        obtain ⟨k, M, hk, rfl, hO2, X⟩ := hrel
        by_cases hlt : k < nb + 1
        · have hlG : k < LG.length := by rw [hln.out]; exact hlt
          have hlP : k < (places h0 (nb + 1)).length := by rw [places_len]; exact hlt
          obtain ⟨bp, op, rfl, p0⟩ := RL.at1 (fun x : Int => .int .i64 x) (fun _ => rfl) X.r0 hlP
          obtain ⟨bl, ol, rfl, c0⟩ := RL.at1 (fun x : ByteArray => .string x) (fun _ => rfl) X.r1 hlG
          have hpk : (places h0 (nb + 1))[k] = (h0 + (k : Int)) % 24 := by
            have := places_get h0 (nb + 1) k hlt
            rw [List.getElem?_eq_getElem hlP, Option.some.injEq] at this
            exact this
          rw [hpk] at p0
          have hl := hll.out k (by omega)
          have hdl2 := hdl.out
          have hlR : (DS ++ RS k).length ≤ 50 := by rw [List.length_append]; omega
          have hm24 : 0 ≤ (h0 + (k : Int)) % 24 ∧ (h0 + (k : Int)) % 24 < 24 := ⟨Int.emod_nonneg _ (by decide), Int.emod_lt_of_pos _ (by decide)⟩
          have hwr : IntKind.i64.wrap (1 + (h0 + (k : Int)) % 24) = 1 + (h0 + (k : Int)) % 24 := IntWalk.i64_in _ (by omega)
          have hmem : ∀ s, [atW ((h0 + (k : Int)) % 24) s].flatMap stpC = [.int .i64 1, .int .i64 (1 + (h0 + (k : Int)) % 24), .string s] := fun s => rfl
          by_cases hkn : k < nb
          · have hsu := hs0.out k hkn hlG
            have hgo := hmem LG[k]
            have e1 : ¬ (k : Int) = (nb : Int) := by omega
            have e2 : ¬ k = nb := by omega
            have e3 : ((k : Int) == (nb : Int)) = false := beq_eq_false_iff_ne.2 e1
            generalize LG[k] = s at *
            (try dsimp only at hsu)
            have hRk : DS ++ RS (k + 1) = (DS ++ RS k) ++ [atW ((h0 + (k : Int)) % 24) s] := by rw [hsu, List.append_assoc]
            generalize DS ++ RS k = ls at *
            generalize (h0 + (k : Int)) % 24 = pp at *
            have h40 : ls.length + 1 ≤ 1099511627776 := by omega
            replace hRk := hid hRk; replace hsu := hid hsu; replace hpk := hid hpk; replace hmem := hid hmem
            go_wp2_with (first
              | (refine at_mem rfl ?_; (first | (refine at_load rfl ?_; (first | (refine c_load1 rfl _ _ rfl rfl X (by first | exact ReadA.here rfl | exact ReadA.there (ReadA.here rfl)) ?_) | (refine c_loadN rfl _ _ rfl rfl X (by first | exact ReadB.here (Nat.le_of_ble_eq_true rfl) | exact ReadB.there (ReadB.here (Nat.le_of_ble_eq_true rfl))) ?_))) | (refine at_store rfl ?_; (first | (refine c_store1 rfl _ _ _ rfl rfl (by first | exact EvR.const _ | exact EvR.tmp rfl rfl) X rfl rfl (by first | exact PutA.here (Nat.le_of_ble_eq_true rfl) | exact PutA.there (PutA.here (Nat.le_of_ble_eq_true rfl))) ?_; intro w X2; (try simp only [upd] at X2); replace X := X2; clear X2) | (refine c_storeN rfl _ _ _ rfl rfl rfl X rfl rfl (by first | exact PutA.here (Nat.le_of_ble_eq_true rfl) | exact PutA.there (PutA.here (Nat.le_of_ble_eq_true rfl))) ?_; intro w X2; (try simp only [upd] at X2); replace X := X2; clear X2))) | (refine m_alloc rfl _ rfl X ?_; intro g w X2; (replace X := X2; clear X2))); (simp only [Act.put, List.setIfInBounds_toArray, List.set_cons_succ, List.set_cons_zero, List.drop_succ_cons, List.drop_zero, List.take_succ_cons, List.take_zero, Nat.reduceAdd]))
              | (refine at_build rfl ?_; go_loud (refine m_build1 rfl rfl (by first | exact EvR.const _ | exact EvR.tmp rfl rfl) (by rfl) (by rfl) X ?_; intro g w2 X2; replace X := X2; clear X2; (simp only [Act.put, List.setIfInBounds_toArray, List.set_cons_succ, List.set_cons_zero, List.drop_succ_cons, List.drop_zero, List.take_succ_cons, List.take_zero, Nat.reduceAdd])))
              | (at_builtin; go_loud ((refine m_app (M := M) (T := []) (n := 1) [_, _, _, _] rfl rfl [atW pp s] stpC_flat X hO2 (by first | exact EvR.const _ | exact EvR.tmp rfl rfl) (by first | exact EvR.const _ | exact EvR.tmp rfl rfl) hgo rfl h40 ?_); intro a2 c2 w2 M2 hO3 X2; replace X := X2; clear X2; (simp only [Act.put, List.setIfInBounds_toArray, List.set_cons_succ, List.set_cons_zero, List.drop_succ_cons, List.drop_zero, List.take_succ_cons, List.take_zero, Nat.reduceAdd]))))
            go_roundw
            case rel => exact ⟨k + 1, M2, by omega, by go_num, by rw [hRk.out]; exact hO3, X⟩
            case measure => simp only [intOf]; omega
          · obtain rfl : k = nb := by omega
            have hmc := hm0.out hlG
            rw [hmc] at c0
            have hgo := hmem mc
            have hfl : [flushS].flatMap stpC = [.int .i64 2, .int .i64 0, .string ⟨#[]⟩] := rfl
            have hee := he0.out
            (try dsimp only at hee)
            have hRk : DS ++ RS (k + 1) = ((DS ++ RS k) ++ (if k = 0 then [] else [flushS])) ++ [atW ((h0 + (k : Int)) % 24) mc] := by rw [hee]; simp only [List.append_assoc]
            generalize DS ++ RS k = ls at *
            generalize (h0 + (k : Int)) % 24 = pp at *
            have h40 : ls.length + 1 ≤ 1099511627776 := by omega
            have h41 : (ls ++ [flushS]).length + 1 ≤ 1099511627776 := by rw [List.length_append, List.length_singleton]; omega
            replace hee := hid hee; replace hpk := hid hpk; replace hmem := hid hmem; replace hmc := hid hmc
            by_cases hz : k = 0
            · rw [if_pos hz, List.append_nil] at hRk
              have hzi : decide (0 < k) = false := decide_eq_false (by omega)
              replace hRk := hid hRk; replace hz := hid hz
              go_wp2_with (first
                | (refine at_mem rfl ?_; (first | (refine at_load rfl ?_; (first | (refine c_load1 rfl _ _ rfl rfl X (by first | exact ReadA.here rfl | exact ReadA.there (ReadA.here rfl)) ?_) | (refine c_loadN rfl _ _ rfl rfl X (by first | exact ReadB.here (Nat.le_of_ble_eq_true rfl) | exact ReadB.there (ReadB.here (Nat.le_of_ble_eq_true rfl))) ?_))) | (refine at_store rfl ?_; (first | (refine c_store1 rfl _ _ _ rfl rfl (by first | exact EvR.const _ | exact EvR.tmp rfl rfl) X rfl rfl (by first | exact PutA.here (Nat.le_of_ble_eq_true rfl) | exact PutA.there (PutA.here (Nat.le_of_ble_eq_true rfl))) ?_; intro w X2; (try simp only [upd] at X2); replace X := X2; clear X2) | (refine c_storeN rfl _ _ _ rfl rfl rfl X rfl rfl (by first | exact PutA.here (Nat.le_of_ble_eq_true rfl) | exact PutA.there (PutA.here (Nat.le_of_ble_eq_true rfl))) ?_; intro w X2; (try simp only [upd] at X2); replace X := X2; clear X2))) | (refine m_alloc rfl _ rfl X ?_; intro g w X2; (replace X := X2; clear X2))); (simp only [Act.put, List.setIfInBounds_toArray, List.set_cons_succ, List.set_cons_zero, List.drop_succ_cons, List.drop_zero, List.take_succ_cons, List.take_zero, Nat.reduceAdd]))
                | (refine at_build rfl ?_; go_loud (refine m_build1 rfl rfl (by first | exact EvR.const _ | exact EvR.tmp rfl rfl) (by rfl) (by rfl) X ?_; intro g w2 X2; replace X := X2; clear X2; (simp only [Act.put, List.setIfInBounds_toArray, List.set_cons_succ, List.set_cons_zero, List.drop_succ_cons, List.drop_zero, List.take_succ_cons, List.take_zero, Nat.reduceAdd])))
                | (at_builtin; go_loud ((refine m_app (M := M) (T := []) (n := 1) [_, _, _, _] rfl rfl [atW pp mc] stpC_flat X hO2 (by first | exact EvR.const _ | exact EvR.tmp rfl rfl) (by first | exact EvR.const _ | exact EvR.tmp rfl rfl) hgo rfl h40 ?_); intro a2 c2 w2 M2 hO3 X2; replace X := X2; clear X2; (simp only [Act.put, List.setIfInBounds_toArray, List.set_cons_succ, List.set_cons_zero, List.drop_succ_cons, List.drop_zero, List.take_succ_cons, List.take_zero, Nat.reduceAdd]))))
              go_roundw
              case rel => exact ⟨k + 1, M2, by omega, by go_num, by rw [hRk.out]; exact hO3, X⟩
              case measure => simp only [intOf]; omega
            · rw [if_neg hz] at hRk
              have hzi : decide (0 < k) = true := decide_eq_true (by omega)
              replace hRk := hid hRk; replace hz := hid hz
              go_upto_region 20 with (first
                | (refine at_mem rfl ?_; (first | (refine at_load rfl ?_; (first | (refine c_load1 rfl _ _ rfl rfl X (by first | exact ReadA.here rfl | exact ReadA.there (ReadA.here rfl)) ?_) | (refine c_loadN rfl _ _ rfl rfl X (by first | exact ReadB.here (Nat.le_of_ble_eq_true rfl) | exact ReadB.there (ReadB.here (Nat.le_of_ble_eq_true rfl))) ?_))) | (refine at_store rfl ?_; (first | (refine c_store1 rfl _ _ _ rfl rfl (by first | exact EvR.const _ | exact EvR.tmp rfl rfl) X rfl rfl (by first | exact PutA.here (Nat.le_of_ble_eq_true rfl) | exact PutA.there (PutA.here (Nat.le_of_ble_eq_true rfl))) ?_; intro w X2; (try simp only [upd] at X2); replace X := X2; clear X2) | (refine c_storeN rfl _ _ _ rfl rfl rfl X rfl rfl (by first | exact PutA.here (Nat.le_of_ble_eq_true rfl) | exact PutA.there (PutA.here (Nat.le_of_ble_eq_true rfl))) ?_; intro w X2; (try simp only [upd] at X2); replace X := X2; clear X2))) | (refine m_alloc rfl _ rfl X ?_; intro g w X2; (replace X := X2; clear X2))); (simp only [Act.put, List.setIfInBounds_toArray, List.set_cons_succ, List.set_cons_zero, List.drop_succ_cons, List.drop_zero, List.take_succ_cons, List.take_zero, Nat.reduceAdd]))
                | (refine at_build rfl ?_; go_loud (refine m_build1 rfl rfl (by first | exact EvR.const _ | exact EvR.tmp rfl rfl) (by rfl) (by rfl) X ?_; intro g w2 X2; replace X := X2; clear X2; (simp only [Act.put, List.setIfInBounds_toArray, List.set_cons_succ, List.set_cons_zero, List.drop_succ_cons, List.drop_zero, List.take_succ_cons, List.take_zero, Nat.reduceAdd])))
                | (at_builtin; go_loud (refine m_app (M := M) (T := []) (n := 1) [_, _, _, _] rfl rfl [flushS] stpC_flat X hO2 (by first | exact EvR.const _ | exact EvR.tmp rfl rfl) (by first | exact EvR.const _ | exact EvR.tmp rfl rfl) hfl rfl h40 ?_; intro a2 c2 w2 M2 hO3 X2; replace X := X2; clear X2; (simp only [Act.put, List.setIfInBounds_toArray, List.set_cons_succ, List.set_cons_zero, List.drop_succ_cons, List.drop_zero, List.take_succ_cons, List.take_zero, Nat.reduceAdd]))))
              clear p0 c0
              obtain ⟨bq, oq, hbq, p0⟩ := RL.at1 (fun x : Int => .int .i64 x) (fun _ => rfl) X.r0 hlP
              rw [hpk.out] at p0
              cases hbq
              go_wp2_with (first
                | (refine at_mem rfl ?_; (first | (refine at_load rfl ?_; (first | (refine c_load1 rfl _ _ rfl rfl X (by first | exact ReadA.here rfl | exact ReadA.there (ReadA.here rfl)) ?_) | (refine c_loadN rfl _ _ rfl rfl X (by first | exact ReadB.here (Nat.le_of_ble_eq_true rfl) | exact ReadB.there (ReadB.here (Nat.le_of_ble_eq_true rfl))) ?_))) | (refine at_store rfl ?_; (first | (refine c_store1 rfl _ _ _ rfl rfl (by first | exact EvR.const _ | exact EvR.tmp rfl rfl) X rfl rfl (by first | exact PutA.here (Nat.le_of_ble_eq_true rfl) | exact PutA.there (PutA.here (Nat.le_of_ble_eq_true rfl))) ?_; intro w X2; (try simp only [upd] at X2); replace X := X2; clear X2) | (refine c_storeN rfl _ _ _ rfl rfl rfl X rfl rfl (by first | exact PutA.here (Nat.le_of_ble_eq_true rfl) | exact PutA.there (PutA.here (Nat.le_of_ble_eq_true rfl))) ?_; intro w X2; (try simp only [upd] at X2); replace X := X2; clear X2))) | (refine m_alloc rfl _ rfl X ?_; intro g w X2; (replace X := X2; clear X2))); (simp only [Act.put, List.setIfInBounds_toArray, List.set_cons_succ, List.set_cons_zero, List.drop_succ_cons, List.drop_zero, List.take_succ_cons, List.take_zero, Nat.reduceAdd]))
                | (refine at_build rfl ?_; go_loud (refine m_build1 rfl rfl (by first | exact EvR.const _ | exact EvR.tmp rfl rfl) (by rfl) (by rfl) X ?_; intro g w2 X2; replace X := X2; clear X2; (simp only [Act.put, List.setIfInBounds_toArray, List.set_cons_succ, List.set_cons_zero, List.drop_succ_cons, List.drop_zero, List.take_succ_cons, List.take_zero, Nat.reduceAdd])))
                | (at_builtin; go_loud (refine m_app (M := M2) (T := []) (n := 1) [_, _, _, _] rfl rfl [atW pp mc] stpC_flat X hO3 (by first | exact EvR.const _ | exact EvR.tmp rfl rfl) (by first | exact EvR.const _ | exact EvR.tmp rfl rfl) hgo rfl h41 ?_; intro a4 c4 w4 M4 hO4 X2; replace X := X2; clear X2; (simp only [Act.put, List.setIfInBounds_toArray, List.set_cons_succ, List.set_cons_zero, List.drop_succ_cons, List.drop_zero, List.take_succ_cons, List.take_zero, Nat.reduceAdd]))))
              go_roundw
              case rel => exact ⟨k + 1, M4, by omega, by go_num, by rw [hRk.out]; exact hO4, X⟩
              case measure => simp only [intOf]; omega
        · obtain rfl : k = nb + 1 := by omega
          have hl := hll.out (nb + 1) (Nat.le_refl _)
          have hdl2 := hdl.out
          have hfl : [flushS].flatMap stpC = [.int .i64 2, .int .i64 0, .string ⟨#[]⟩] := rfl
          have hcc : (DS ++ RS (nb + 1)) ++ [flushS] = CL := by rw [hc0.out]; simp only [List.append_assoc]
          have hlR : (DS ++ RS (nb + 1)).length ≤ 50 := by rw [List.length_append]; omega
          generalize DS ++ RS (nb + 1) = ls at *
          have h40 : ls.length + 1 ≤ 1099511627776 := by omega
          replace hcc := hid hcc
          go_wp2
          obtain ⟨ao, co, rfl⟩ := hO2.form
          (refine q_start 1 [] [3, 4, 5] [0] [0, 1, 2, 3, 4, 5, 6, 7] X (by kernel_rfl) (by kernel_rfl) (fun _ _ _ _ _ h => h) ?_; intro hQ X2 hL; replace X := X2; clear X2; simp only [List.take_succ_cons, List.take_zero] at hL; simp only [List.take_succ_cons, List.take_zero])
          ((first | (refine d_load1 rfl rfl (by first | exact EvR.const _ | exact EvR.tmp rfl rfl) (by repeat (first | exact ReadA.here rfl | apply ReadA.there)) rfl rfl X hL hQ ?_) | (refine d_loadN rfl rfl (by first | exact EvR.const _ | exact EvR.tmp rfl rfl) (by repeat (first | exact ReadB.here (Nat.le_of_ble_eq_true rfl) | apply ReadB.there)) rfl rfl X hL hQ ?_)); (simp only [Act.put, List.setIfInBounds_toArray, List.set_cons_succ, List.set_cons_zero, List.drop_succ_cons, List.drop_zero, List.take_succ_cons, List.take_zero, Nat.reduceAdd]))
          (refine q_move rfl rfl (by first | exact EvR.const _ | exact EvR.tmp rfl rfl) rfl rfl hQ ?_; (simp only [Act.put, List.setIfInBounds_toArray, List.set_cons_succ, List.set_cons_zero, List.drop_succ_cons, List.drop_zero, List.take_succ_cons, List.take_zero, Nat.reduceAdd]))
          (apply q_pure rfl rfl rfl hQ; (case hv => (intro w'; (try go_simp); (try exact rfl))); (simp only [Act.put, List.setIfInBounds_toArray, List.set_cons_succ, List.set_cons_zero, List.drop_succ_cons, List.drop_zero, List.take_succ_cons, List.take_zero, Nat.reduceAdd]))
          (refine q_build1 rfl rfl (by first | exact EvR.const _ | exact EvR.tmp rfl rfl) (by rfl) (by rfl) X hL rfl rfl ?_; intro g w X2 hL2; replace X := X2; replace hL := hL2; clear X2 hL2; (simp only [Act.put, List.setIfInBounds_toArray, List.set_cons_succ, List.set_cons_zero, List.drop_succ_cons, List.drop_zero, List.take_succ_cons, List.take_zero, Nat.reduceAdd]))
          (refine q_app (M := M) (T := []) (n := 1) [_, _, _, _] rfl rfl [flushS] stpC_flat X hO2 (by first | exact EvR.const _ | exact EvR.tmp rfl rfl) (by first | exact EvR.const _ | exact EvR.tmp rfl rfl) hfl rfl h40 hL (by repeat (first | exact List.nil_sublist _ | refine List.Sublist.cons_cons _ ?_ | refine List.Sublist.cons _ ?_)) rfl rfl ?_; intro a2 c2 w2 M2 hO3 X2 hL2; replace X := X2; replace hL := hL2; clear X2 hL2; (simp only [Act.put, List.setIfInBounds_toArray, List.set_cons_succ, List.set_cons_zero, List.drop_succ_cons, List.drop_zero, List.take_succ_cons, List.take_zero, Nat.reduceAdd]))
          ((first | (refine d_put1 rfl rfl (by first | exact EvR.const _ | exact EvR.tmp rfl rfl) (by first | exact EvR.const _ | exact EvR.tmp rfl rfl) X rfl rfl rfl rfl hL (by repeat (first | exact PutA.here (Nat.le_of_ble_eq_true rfl) | apply PutA.there)) (by repeat (first | exact List.nil_sublist _ | refine List.Sublist.cons_cons _ ?_ | refine List.Sublist.cons _ ?_)) ?_) | (refine d_putN rfl rfl (by first | exact EvR.const _ | exact EvR.tmp rfl rfl) rfl X rfl rfl rfl rfl hL (by repeat (first | exact PutA.here (Nat.le_of_ble_eq_true rfl) | apply PutA.there)) (by repeat (first | exact List.nil_sublist _ | refine List.Sublist.cons_cons _ ?_ | refine List.Sublist.cons _ ?_)) ?_)); intro w X2 hL2; (try simp only [upd] at X2); (try simp only [upd] at hL2); replace X := X2; clear X2; replace hL := hL2; clear hL2; (simp only [Act.put, List.setIfInBounds_toArray, List.set_cons_succ, List.set_cons_zero, List.drop_succ_cons, List.drop_zero, List.take_succ_cons, List.take_zero, Nat.reduceAdd]))
          (refine q_assign rfl rfl (by first | exact EvR.const _ | exact EvR.tmp rfl rfl) rfl rfl hQ ?_; (simp only [Act.put, List.setIfInBounds_toArray, List.set_cons_succ, List.set_cons_zero, List.drop_succ_cons, List.drop_zero, List.take_succ_cons, List.take_zero, Nat.reduceAdd]))
          (refine q_assign rfl rfl (by first | exact EvR.const _ | exact EvR.tmp rfl rfl) rfl rfl hQ ?_; (simp only [Act.put, List.setIfInBounds_toArray, List.set_cons_succ, List.set_cons_zero, List.drop_succ_cons, List.drop_zero, List.take_succ_cons, List.take_zero, Nat.reduceAdd]))
          refine q_nil ?_
          go_wp2
          exact m_ret3 rfl (.tmp rfl rfl) (.tmp rfl rfl) (.tmp rfl rfl) X (.tail _ (.head _)) rfl rfl ⟨_, rfl, by rw [← hcc.out]; exact hO3.own (L := [_, _, _, _]) stpC_flat X, X.below⟩
/-- In every case. -/
theorem ref_CommitSteps (r : Ring) (t : Txn) (v : Value) (w0 : World) (ht : RTxn w0 v t) :
    Calls Tryd.prog 9 #[r.val, v] w0 fun e w' => ∃ v', e = .returned (.tuple #[(comR r t).val, v', .int .i64 (comE r t)]) ∧ Wb.Own stpC w0.heap.size 76 3 w' v' (comL r t) ∧ Below w0.heap.size w0 w' := by
  by_cases hb : goodR r = false ∨ goodT t = false ∨ openB t = true
  · obtain ⟨e1, e2, e3⟩ := com_bad hb
    rw [e1, e2, e3]
    exact (ref_CommitSteps_bad r t v w0 ht hb).mono fun e w' ⟨h1, h2⟩ => ⟨_, h1, Own.nil _ _ _ _ _, h2⟩
  · by_cases hn : takeE r (comN t) = 0
    · obtain ⟨e1, e2⟩ := com_ok0 hb hn
      rw [e1, e2]
      exact ref_CommitSteps_go r t v w0 ht hb hn
    · obtain ⟨e1, e2, e3, _, _⟩ := com_full hb hn
      rw [e1, e2, e3]
      exact (ref_CommitSteps_full r t v w0 ht hb hn).mono fun e w' ⟨h1, h2⟩ => ⟨_, h1, Own.nil _ _ _ _ _, h2⟩
end Go.Proofs.YtjhmfljlclajnabDoor

namespace Go.Proofs.YtjhmfljlclajnabDoor
open Go.RowKit Wb
set_option linter.unusedSimpArgs false
set_option maxRecDepth 100000
theorem run_neq_hnds (w : World) (o0 o1 o2 : Bool) (l0 l1 l2 : Int) :
    (binOp .neq 28 (.agg #[.bool o0, .int .i64 l0, .bool o1, .int .i64 l1, .bool o2, .int .i64 l2]) (.agg #[.bool o0, .int .i64 l0, .bool o1, .int .i64 l1, .bool o2, .int .i64 l2])).run Tryd.prog w = .ok (.bool false) w := by
  obtain ⟨i, hi, _⟩ := info_parts (show (Tryd.prog.info? 27).map (fun i => (i.zero, i.size, i.bytes)) = some (some (.agg #[.bool false, .int .i64 0]), 2, 16) by kernel_rfl)
  have hc : Tryd.prog.cellsOf 27 = 2 := by kernel_rfl
  rw [run_neq_struct, run_equalIn_array w 9999 _ _ Tryd.underlying28 hi, hc, show List.range 3 = [0, 1, 2] from rfl]
  simp [Op.eqItems, go_sem]
end Go.Proofs.YtjhmfljlclajnabDoor

namespace Go.Proofs.YtjhmfljlclajnabDoor
open Go.RowKit Wb
set_option linter.unusedVariables false
set_option linter.unusedSimpArgs false
set_option maxRecDepth 100000
set_option maxHeartbeats 2000000

theorem ref_SameCopies (l : List Cpy) (v1 v2 : Value) (w : World) (h1 : RL cpyC w v1 l) (h2 : RL cpyC w v2 l) (hl : l.length ≤ 5864062014805) :
    Calls Tryd.prog 20 #[v1, v2] w fun e w' => e = .returned (.bool true) ∧ Below w.heap.size w w' := by
  obtain ⟨a, cap, rfl, _⟩ := h1.form
  obtain ⟨b, bcap, rfl, _⟩ := h2.form
  have hle : ((l.length : Int) != (l.length : Int)) = false := by simp
  replace h1 := hid h1
  replace h2 := hid h2
  go_enter Tryd.func20, Tryd.ntmps20
  go_wp2
  go_loopw [13] (fun i wr => ∃ k : Nat, k ≤ l.length ∧ i = .int .i64 k ∧ Below w.heap.size w wr) (fun i _ => l.length - (intOf i).toNat)
  case atStart => exact ⟨0, Nat.zero_le _, rfl, b0 w⟩
  case round =>
    obtain ⟨k, hk, rfl, nx⟩ := hrel
    by_cases hlt : k < l.length
    · obtain ⟨b1, o1, rfl, c0, c1⟩ := RL.at2 (fun x => .int .i64 x.block) (fun x => .string x.text) (fun _ => rfl) (h1.out.below nx) hlt
      obtain ⟨b2, o2, rfl, d0, d1⟩ := RL.at2 (fun x => .int .i64 x.block) (fun x => .string x.text) (fun _ => rfl) (h2.out.below nx) hlt
      generalize l[k] = x at *
      go_wp2
      go_quiet (fail)
      go_wp2
      go_roundw
      case rel => exact ⟨k + 1, by omega, by go_num, belowDrewN nx⟩
      case measure => simp [intOf]; omega
    · go_wp2
      go_ret
      exact ⟨rfl, nx⟩

theorem ref_SameTxn (t : Txn) (v1 v2 : Value) (w : World) (h1 : RTxn w v1 t) (h2 : RTxn w v2 t) :
    Calls Tryd.prog 11 #[v1, v2] w fun e w' => e = .returned (.bool true) ∧ Below w.heap.size w w' := by
  obtain ⟨vm, vd, vr, rfl, hm, hd, hr, n1, n2, n3⟩ := h1
  obtain ⟨vm2, vd2, vr2, rfl, hm2, hd2, hr2, _⟩ := h2
  unfold txnV
  have hSm := fun w h1 h2 => ref_SameCopies t.mt vm vm2 w h1 h2 n1
  have hSd := fun w h1 h2 => ref_SameCopies t.dt vd vd2 w h1 h2 n2
  obtain ⟨am, cm, rfl, _⟩ := hm.form
  obtain ⟨am2, cm2, rfl, _⟩ := hm2.form
  obtain ⟨ad, cd, rfl, _⟩ := hd.form
  obtain ⟨ad2, cd2, rfl, _⟩ := hd2.form
  obtain ⟨ar, cr, rfl, _⟩ := hr.form
  obtain ⟨ar2, cr2, rfl, _⟩ := hr2.form
  have hle : ((t.rev.length : Int) != (t.rev.length : Int)) = false := by simp
  replace hm := hid hm; replace hm2 := hid hm2; replace hd := hid hd; replace hd2 := hid hd2; replace hr := hid hr; replace hr2 := hid hr2; replace hSm := hid hSm; replace hSd := hid hSd
  obtain ⟨seq, mt, dt, rev, ⟨on0, l0⟩, ⟨on1, l1⟩, ⟨on2, l2⟩⟩ := t
  dsimp only at *
  have hH := fun w => run_neq_hnds w on0 on1 on2 l0 l1 l2
  have k0 := (Blk.new w #[.int .i64 seq, .slice am mt.length cm, .slice ad dt.length cd, .slice ar rev.length cr, .bool on0, .int .i64 l0, .bool on1, .int .i64 l1, .bool on2, .int .i64 l2] 30).alloc (.cells #[.int .i64 seq, .slice am2 mt.length cm2, .slice ad2 dt.length cd2, .slice ar2 rev.length cr2, .bool on0, .int .i64 l0, .bool on1, .int .i64 l1, .bool on2, .int .i64 l2] 30)
  have k1 : Blk ((w.alloc (.cells #[.int .i64 seq, .slice am mt.length cm, .slice ad dt.length cd, .slice ar rev.length cr, .bool on0, .int .i64 l0, .bool on1, .int .i64 l1, .bool on2, .int .i64 l2] 30)).alloc (.cells #[.int .i64 seq, .slice am2 mt.length cm2, .slice ad2 dt.length cd2, .slice ar2 rev.length cr2, .bool on0, .int .i64 l0, .bool on1, .int .i64 l1, .bool on2, .int .i64 l2] 30)) (w.heap.size + 1) #[.int .i64 seq, .slice am2 mt.length cm2, .slice ad2 dt.length cd2, .slice ar2 rev.length cr2, .bool on0, .int .i64 l0, .bool on1, .int .i64 l1, .bool on2, .int .i64 l2] 30 := Blk.newAt (by simp)
  have nx0 : Below w.heap.size w ((w.alloc (.cells #[.int .i64 seq, .slice am mt.length cm, .slice ad dt.length cd, .slice ar rev.length cr, .bool on0, .int .i64 l0, .bool on1, .int .i64 l1, .bool on2, .int .i64 l2] 30)).alloc (.cells #[.int .i64 seq, .slice am2 mt.length cm2, .slice ad2 dt.length cd2, .slice ar2 rev.length cr2, .bool on0, .int .i64 l0, .bool on1, .int .i64 l1, .bool on2, .int .i64 l2] 30)) := bal (bal (b0 w) _) _
  have hne : ¬ (w.heap.size = w.heap.size + 1) := by omega
  go_enter Tryd.func11, Tryd.ntmps11
  go_wp2_with (first
    | (go_at_call_of 20 (Value.slice am2 mt.length cm2); go_loud (refine (hSm.out _ (hm.out.below nx0) (hm2.out.below nx0)).mono ?_; rintro e w1 ⟨rfl, hb1⟩; replace k0 := k0.step hb1; replace k1 := k1.step hb1; have nx1 := bgo nx0 hb1; have l0' := k0.lt; have l1' := k1.lt; have c0 := k0.cell 2; have c1 := k1.cell 2; have c2 := k0.cell 3; have c3 := k1.cell 3; simp only [List.getElem?_toArray, List.getElem?_cons_zero, List.getElem?_cons_succ] at c0 c1 c2 c3))
    | (go_at_call_of 20 (Value.slice ad2 dt.length cd2); go_loud (refine (hSd.out _ (hd.out.below nx1) (hd2.out.below nx1)).mono ?_; rintro e w2 ⟨rfl, hb2⟩; replace k0 := k0.step hb2; replace k1 := k1.step hb2; have nx2 := bgo nx1 hb2; (try clear l0' l1' c0 c1 c2 c3); have l0' := k0.lt; have l1' := k1.lt; have c2 := k0.cell 3; have c3 := k1.cell 3; simp only [List.getElem?_toArray, List.getElem?_cons_zero, List.getElem?_cons_succ] at c2 c3)))
  clear l0' l1' c2 c3
  go_loopw [46] (fun i wr => ∃ k : Nat, k ≤ rev.length ∧ i = .int .i64 k ∧ Below w2.heap.size w2 wr) (fun i _ => rev.length - (intOf i).toNat)
  case atStart => exact ⟨0, Nat.zero_le _, rfl, b0 w2⟩
  case round =>
    obtain ⟨k, hk, rfl, nx⟩ := hrel
    have nx3 := bgo nx2 nx
    by_cases hlt : k < rev.length
    · obtain ⟨b1, o1, rfl, d0⟩ := RL.at1 (fun x => .int .i64 x) (fun _ => rfl) (hr.out.below nx3) hlt
      obtain ⟨b2, o2, rfl, d1⟩ := RL.at1 (fun x => .int .i64 x) (fun _ => rfl) (hr2.out.below nx3) hlt
      replace k0 := k0.step nx; replace k1 := k1.step nx
      have l0' := k0.lt; have l1' := k1.lt; have c2 := k0.cell 3; have c3 := k1.cell 3; simp only [List.getElem?_toArray, List.getElem?_cons_zero, List.getElem?_cons_succ] at c2 c3
      generalize rev[k] = x at *
      go_wp2
      go_quiet (fail)
      go_wp2
      go_roundw
      case rel => exact ⟨k + 1, by omega, by go_num, belowDrewN nx⟩
      case measure => simp [intOf]; omega
    · go_wp2
      go_ret
      exact ⟨rfl, nx3⟩
end Go.Proofs.YtjhmfljlclajnabDoor

namespace Wb
open Go Go.RowKit
/-- The transaction that 'seals' commits. -/
def sealT : Txn := ⟨1, [], [], [4], hnd0, hnd0, hnd0⟩
theorem sealT_good : goodT sealT = true := by decide
theorem sealT_e : comE ⟨0, 0⟩ sealT = 0 := by decide
theorem sealT_body : bodyT sealT = [markS (listM 1 [4])] := rfl
theorem sealT_r : comR ⟨0, 0⟩ sealT = ⟨2, 2⟩ := by
  unfold comR
  rw [if_pos sealT_e]
  rfl
theorem sealT_l : ∃ a b, comL ⟨0, 0⟩ sealT = [a, flushS, b, flushS] := by
  rw [comL_eq sealT_e, sealT_body]
  exact ⟨_, _, rfl⟩
end Wb
namespace Go.Proofs.YtjhmfljlclajnabDoor
open Go.RowKit Wb
set_option linter.unusedVariables false
set_option linter.unusedSimpArgs false
set_option maxRecDepth 100000
set_option maxHeartbeats 8000000
theorem ref_SameSteps (l : List Stp) (v1 v2 : Value) (w : World) (h1 : RL stpC w v1 l) (h2 : RL stpC w v2 l) (hl : l.length ≤ 5864062014805) :
    Calls Tryd.prog 10 #[v1, v2] w fun e w' => e = .returned (.bool true) ∧ Below w.heap.size w w' := by
  obtain ⟨a, cap, rfl, _⟩ := h1.form
  obtain ⟨b, bcap, rfl, _⟩ := h2.form
  have hle : ((l.length : Int) != (l.length : Int)) = false := by simp
  replace h1 := hid h1
  replace h2 := hid h2
  go_enter Tryd.func10, Tryd.ntmps10
  go_wp2
  go_loopw [13] (fun i wr => ∃ k : Nat, k ≤ l.length ∧ i = .int .i64 k ∧ Below w.heap.size w wr) (fun i _ => l.length - (intOf i).toNat)
  case atStart => exact ⟨0, Nat.zero_le _, rfl, b0 w⟩
  case round =>
    obtain ⟨k, hk, rfl, nx⟩ := hrel
    by_cases hlt : k < l.length
    · obtain ⟨b1, o1, rfl, c0, c1, c2⟩ := RL.at3 (fun x => .int .i64 x.kind) (fun x => .int .i64 x.at_) (fun x => .string x.text) (fun _ => rfl) (h1.out.below nx) hlt
      obtain ⟨b2, o2, rfl, d0, d1, d2⟩ := RL.at3 (fun x => .int .i64 x.kind) (fun x => .int .i64 x.at_) (fun x => .string x.text) (fun _ => rfl) (h2.out.below nx) hlt
      generalize l[k] = x at *
      go_wp2
      go_quiet (fail)
      go_wp2
      go_roundw
      case rel => exact ⟨k + 1, by omega, by go_num, belowDrewN nx⟩
      case measure => simp [intOf]; omega
    · go_wp2
      go_ret
      exact ⟨rfl, nx⟩
theorem law_seals (w0 : World) (hF : Sl w0 (flR 0).v 1 (flR 0).cs) :
    Calls Tryd.prog 12 #[] w0 fun e w' => e = .returned (.bool true) ∧ Below w0.heap.size w0 w' := by
  have hC := fun v w' (hb : Below w0.heap.size w0 w') (ht : RTxn w' v sealT) => seal_Commit ⟨0, 0⟩ sealT v w' ht (hF.below hb)
  rw [sealT_e, sealT_r] at hC
  obtain ⟨sa, sb, hsl⟩ := sealT_l
  rw [hsl] at hC
  have X : St [] w0 w0 [] [] := St.start [] w0
  have hRT : ∀ w' g, Blk w' g [.int .i64 4].toArray 3 → RTxn w' (.agg #[.int .i64 1, .slice none 0 0, .slice none 0 0, .slice (some ⟨g, 0, none⟩) 1 1, .bool false, .int .i64 0, .bool false, .int .i64 0, .bool false, .int .i64 0]) sealT := fun w' g hk =>
    ⟨_, _, _, rfl, RL.nil _ _, RL.nil _ _, ⟨some ⟨g, 0, none⟩, 1, rfl, by decide, by decide, .inr ⟨g, 0, rfl, fun j u hj => by
      rw [Nat.zero_add, hk.cell j]
      simpa [sealT, intC] using hj⟩⟩, by decide, by decide, by decide⟩
  simp only [Ring.val] at hC
  replace hC := hid hC
  replace hRT := hid hRT
  go_enter Tryd.func12, Tryd.ntmps12
  go_upto_region 2 with (first
    | (refine at_mem rfl ?_; (first | (refine at_load rfl ?_; (first | (refine c_load1 rfl _ _ rfl rfl X (by repeat (first | exact ReadA.here rfl | apply ReadA.there)) ?_) | (refine c_loadN rfl _ _ rfl rfl X (by repeat (first | exact ReadB.here (Nat.le_of_ble_eq_true rfl) | apply ReadB.there)) ?_))) | (refine at_store rfl ?_; (first | (refine c_store1 rfl _ _ _ rfl rfl (by first | exact EvR.const _ | exact EvR.tmp rfl rfl) X rfl rfl (by repeat (first | exact PutA.here (Nat.le_of_ble_eq_true rfl) | apply PutA.there)) ?_; intro w X2; (try simp only [upd] at X2); replace X := X2; clear X2) | (refine c_storeN rfl _ _ _ rfl rfl rfl X rfl rfl (by repeat (first | exact PutA.here (Nat.le_of_ble_eq_true rfl) | apply PutA.there)) ?_; intro w X2; (try simp only [upd] at X2); replace X := X2; clear X2))) | (refine m_alloc rfl _ rfl X ?_; intro g w X2; (replace X := X2; clear X2)) | (refine m_box rfl _ _ rfl (by first | exact EvR.const _ | exact EvR.tmp rfl rfl) rfl X ?_; intro g w X2; (replace X := X2; clear X2))); (simp only [Act.put, List.setIfInBounds_toArray, List.set_cons_succ, List.set_cons_zero, List.drop_succ_cons, List.drop_zero, List.take_succ_cons, List.take_zero, Nat.reduceAdd]))
    | (refine at_build rfl ?_; go_loud (refine m_build1 rfl rfl (by first | exact EvR.const _ | exact EvR.tmp rfl rfl) (by rfl) (by rfl) X ?_; intro g w2 X2; replace X := X2; clear X2; (simp only [Act.put, List.setIfInBounds_toArray, List.set_cons_succ, List.set_cons_zero, List.drop_succ_cons, List.drop_zero, List.take_succ_cons, List.take_zero, Nat.reduceAdd])))
    | (go_at_call 8; go_loud ((with_reducible refine (hC.out _ _ X.below (hRT.out _ _ X.k0)).mono ?_); rintro e w1 ⟨va, rfl, hoa, hb1⟩; obtain ⟨la, lc, rfl, _⟩ := own_base stpC_flat hoa (Nat.zero_lt_succ _); replace X := X.addOwn hb1 hoa; clear hb1 hoa)))
  obtain ⟨bz, oz, hbz, c0, _⟩ := RL.at3 (fun x : Stp => .int .i64 x.kind) (fun x => .int .i64 x.at_) (fun x => .string x.text) (fun _ => rfl) X.r0 (k := 3) (Nat.lt_succ_self 3)
  cases hbz
  have c0 : _ = some (Value.int .i64 2) := c0
  go_wp2_with (first
    | (refine at_mem rfl ?_; refine at_want2 (by kernel_rfl) ?_; (first | (refine at_load rfl ?_; (first | (refine c_load1 rfl _ _ rfl rfl X (by repeat (first | exact ReadA.here rfl | apply ReadA.there)) ?_) | (refine c_loadN rfl _ _ rfl rfl X (by repeat (first | exact ReadB.here (Nat.le_of_ble_eq_true rfl) | apply ReadB.there)) ?_))) | (refine at_store rfl ?_; (first | (refine c_store1 rfl _ _ _ rfl rfl (by first | exact EvR.const _ | exact EvR.tmp rfl rfl) X rfl rfl (by repeat (first | exact PutA.here (Nat.le_of_ble_eq_true rfl) | apply PutA.there)) ?_; intro w X2; (try simp only [upd] at X2); replace X := X2; clear X2) | (refine c_storeN rfl _ _ _ rfl rfl rfl X rfl rfl (by repeat (first | exact PutA.here (Nat.le_of_ble_eq_true rfl) | apply PutA.there)) ?_; intro w X2; (try simp only [upd] at X2); replace X := X2; clear X2))) | (refine m_alloc rfl _ rfl X ?_; intro g w X2; (replace X := X2; clear X2)) | (refine m_box rfl _ _ rfl (by first | exact EvR.const _ | exact EvR.tmp rfl rfl) rfl X ?_; intro g w X2; (replace X := X2; clear X2))); (simp only [Act.put, List.setIfInBounds_toArray, List.set_cons_succ, List.set_cons_zero, List.drop_succ_cons, List.drop_zero, List.take_succ_cons, List.take_zero, Nat.reduceAdd])))
  go_ret
  exact ⟨rfl, X.below⟩
theorem keep_seals (w0 : World) (hF : Sl w0 (flR 0).v 1 (flR 0).cs) :
    Calls Tryd.prog 14 #[] w0 fun e w' => e = .returned (.bool true) ∧ Below w0.heap.size w0 w' := by
  have hC := fun v w' (hb : Below w0.heap.size w0 w') (ht : RTxn w' v sealT) => seal_Commit ⟨0, 0⟩ sealT v w' ht (hF.below hb)
  rw [sealT_e, sealT_r] at hC
  obtain ⟨sa, sb, hsl⟩ := sealT_l
  rw [hsl] at hC
  have X : St [] w0 w0 [] [] := St.start [] w0
  have hRT : ∀ w' g, Blk w' g [.int .i64 4].toArray 3 → RTxn w' (.agg #[.int .i64 1, .slice none 0 0, .slice none 0 0, .slice (some ⟨g, 0, none⟩) 1 1, .bool false, .int .i64 0, .bool false, .int .i64 0, .bool false, .int .i64 0]) sealT := fun w' g hk =>
    ⟨_, _, _, rfl, RL.nil _ _, RL.nil _ _, ⟨some ⟨g, 0, none⟩, 1, rfl, by decide, by decide, .inr ⟨g, 0, rfl, fun j u hj => by
      rw [Nat.zero_add, hk.cell j]
      simpa [sealT, intC] using hj⟩⟩, by decide, by decide, by decide⟩
  simp only [Ring.val] at hC
  replace hC := hid hC
  replace hRT := hid hRT
  go_enter Tryd.func14, Tryd.ntmps14
  go_upto_region 2 with (first
    | (refine at_mem rfl ?_; (first | (refine at_load rfl ?_; (first | (refine c_load1 rfl _ _ rfl rfl X (by repeat (first | exact ReadA.here rfl | apply ReadA.there)) ?_) | (refine c_loadN rfl _ _ rfl rfl X (by repeat (first | exact ReadB.here (Nat.le_of_ble_eq_true rfl) | apply ReadB.there)) ?_))) | (refine at_store rfl ?_; (first | (refine c_store1 rfl _ _ _ rfl rfl (by first | exact EvR.const _ | exact EvR.tmp rfl rfl) X rfl rfl (by repeat (first | exact PutA.here (Nat.le_of_ble_eq_true rfl) | apply PutA.there)) ?_; intro w X2; (try simp only [upd] at X2); replace X := X2; clear X2) | (refine c_storeN rfl _ _ _ rfl rfl rfl X rfl rfl (by repeat (first | exact PutA.here (Nat.le_of_ble_eq_true rfl) | apply PutA.there)) ?_; intro w X2; (try simp only [upd] at X2); replace X := X2; clear X2))) | (refine m_alloc rfl _ rfl X ?_; intro g w X2; (replace X := X2; clear X2)) | (refine m_box rfl _ _ rfl (by first | exact EvR.const _ | exact EvR.tmp rfl rfl) rfl X ?_; intro g w X2; (replace X := X2; clear X2))); (simp only [Act.put, List.setIfInBounds_toArray, List.set_cons_succ, List.set_cons_zero, List.drop_succ_cons, List.drop_zero, List.take_succ_cons, List.take_zero, Nat.reduceAdd]))
    | (refine at_build rfl ?_; go_loud (refine m_build1 rfl rfl (by first | exact EvR.const _ | exact EvR.tmp rfl rfl) (by rfl) (by rfl) X ?_; intro g w2 X2; replace X := X2; clear X2; (simp only [Act.put, List.setIfInBounds_toArray, List.set_cons_succ, List.set_cons_zero, List.drop_succ_cons, List.drop_zero, List.take_succ_cons, List.take_zero, Nat.reduceAdd])))
    | (go_at_call 8; go_loud ((with_reducible refine (hC.out _ _ X.below (hRT.out _ _ X.k0)).mono ?_); rintro e w1 ⟨va, rfl, hoa, hb1⟩; obtain ⟨la, lc, rfl, _⟩ := own_base stpC_flat hoa (Nat.zero_lt_succ _); replace X := X.addOwn hb1 hoa; clear hb1 hoa)))
  obtain ⟨bz, oz, hbz, c0, _⟩ := RL.at3 (fun x : Stp => .int .i64 x.kind) (fun x => .int .i64 x.at_) (fun x => .string x.text) (fun _ => rfl) X.r0 (k := 3) (Nat.lt_succ_self 3)
  cases hbz
  have c0 : _ = some (Value.int .i64 2) := c0
  go_wp2_with (first
    | (refine at_mem rfl ?_; refine at_want2 (by kernel_rfl) ?_; (first | (refine at_load rfl ?_; (first | (refine c_load1 rfl _ _ rfl rfl X (by repeat (first | exact ReadA.here rfl | apply ReadA.there)) ?_) | (refine c_loadN rfl _ _ rfl rfl X (by repeat (first | exact ReadB.here (Nat.le_of_ble_eq_true rfl) | apply ReadB.there)) ?_))) | (refine at_store rfl ?_; (first | (refine c_store1 rfl _ _ _ rfl rfl (by first | exact EvR.const _ | exact EvR.tmp rfl rfl) X rfl rfl (by repeat (first | exact PutA.here (Nat.le_of_ble_eq_true rfl) | apply PutA.there)) ?_; intro w X2; (try simp only [upd] at X2); replace X := X2; clear X2) | (refine c_storeN rfl _ _ _ rfl rfl rfl X rfl rfl (by repeat (first | exact PutA.here (Nat.le_of_ble_eq_true rfl) | apply PutA.there)) ?_; intro w X2; (try simp only [upd] at X2); replace X := X2; clear X2))) | (refine m_alloc rfl _ rfl X ?_; intro g w X2; (replace X := X2; clear X2)) | (refine m_box rfl _ _ rfl (by first | exact EvR.const _ | exact EvR.tmp rfl rfl) rfl X ?_; intro g w X2; (replace X := X2; clear X2))); (simp only [Act.put, List.setIfInBounds_toArray, List.set_cons_succ, List.set_cons_zero, List.drop_succ_cons, List.drop_zero, List.take_succ_cons, List.take_zero, Nat.reduceAdd])))
  go_ret
  exact ⟨rfl, X.below⟩
end Go.Proofs.YtjhmfljlclajnabDoor

namespace Wb
open Go Go.RowKit
theorem comL_short (r : Ring) (t : Txn) : (comL r t).length ≤ 5864062014805 := by
  by_cases h : comE r t = 0
  · exact Nat.le_trans (com_ok h).2 (by decide)
  · unfold comL; rw [if_neg h]; exact Nat.zero_le _
/-- Rows of a call's own, three at once. -/
theorem St.addOTxn2 {S : List Nat} {w0 w w' : World} {L : List Ent} {R : List Rd} (X : St S w0 w L R) (hb : Below w.heap.size w w') {tc ti : TypeId} {vm vd vr : Value} {t : Txn} (h1 : Own cpyC w.heap.size tc 2 w' vm t.mt) (h2 : Own cpyC w.heap.size tc 2 w' vd t.dt) (h3 : Own intC w.heap.size ti 1 w' vr t.rev) :
    St S w0 w' L (Rd.of cpyC vm t.mt :: Rd.of cpyC vd t.dt :: Rd.of intC vr t.rev :: R) := by
  have X1 := X.call hb
  have go : ∀ {α : Type} {f : α → List Value} {e : TypeId} {c : Nat} {v : Value} {l : List α}, Own f w.heap.size e c w' v l → l.flatMap f = [] ∨ ∀ b, vblk v = some b → ∀ e ∈ L, e.g ≠ b := fun ho => .inr fun b hb e he heq => by
    have a1 := ho.fresh (Nat.le_refl _) b hb
    have a2 := X.lts e he
    omega
  exact ((X1.addR h3.reads (go h3)).addR h2.reads (go h2)).addR h1.reads (go h1)
end Wb
namespace Go.Proofs.YtjhmfljlclajnabDoor
open Go.RowKit Wb
set_option linter.unusedVariables false
set_option linter.unusedSimpArgs false
set_option maxRecDepth 100000
set_option maxHeartbeats 8000000
theorem law_SealCommits (r : Ring) (t : Txn) (v : Value) (w0 : World) (ht : RTxn w0 v t) (hF : Sl w0 (flR 0).v 1 (flR 0).cs) :
    Calls Tryd.prog 3 #[r.val, v] w0 fun e w' => e = .returned (.bool true) ∧ Below w0.heap.size w0 w' := by
  have hCp := fun w' (hb : Below w0.heap.size w0 w') => ref_CopyTxn t v w' (ht.below hb)
  have hCo := fun v w' (hb : Below w0.heap.size w0 w') (hh : RTxn w' v t) => seal_Commit r t v w' hh (hF.below hb)
  have hRC := fun w' (hb : Below w0.heap.size w0 w') => ref_CommitSteps r t v w' (ht.below hb)
  have hSe := fun w' (hb : Below w0.heap.size w0 w') => law_seals w' (hF.below hb)
  have hSm := fun v1 w' (hb : Below w0.heap.size w0 w') h1 => ref_SameTxn t v1 v w' h1 (ht.below hb)
  have hSs := fun v1 v2 w' h1 h2 => ref_SameSteps (comL r t) v1 v2 w' h1 h2 (comL_short r t)
  obtain ⟨vm, vd, vr, rfl, _, _, _, n1, n2, n3⟩ := ht
  have hRT : ∀ w' am cm ad cd ar cr, RL cpyC w' (.slice am t.mt.length cm) t.mt → RL cpyC w' (.slice ad t.dt.length cd) t.dt → RL intC w' (.slice ar t.rev.length cr) t.rev → RTxn w' (txnV t (.slice am t.mt.length cm) (.slice ad t.dt.length cd) (.slice ar t.rev.length cr)) t := fun w' am cm ad cd ar cr h1 h2 h3 => ⟨_, _, _, rfl, h1, h2, h3, n1, n2, n3⟩
  generalize comL r t = CL at *
  generalize comE r t = CE at *
  generalize comR r t = CR at *
  obtain ⟨c0, c1⟩ := CR
  obtain ⟨h0, u0⟩ := r
  simp only [txnV, Ring.val] at hCp hCo hRC hSm hRT ⊢
  have X : St [] w0 w0 [] [] := St.start [] w0
  replace hCp := hid hCp; replace hCo := hid hCo; replace hRC := hid hRC; replace hSe := hid hSe; replace hSm := hid hSm; replace hSs := hid hSs; replace hRT := hid hRT
  go_enter Tryd.func3, Tryd.ntmps3
  go_wp2_with (first
    | (refine at_mem rfl ?_; refine at_want2 (by kernel_rfl) ?_; (first | (refine at_load rfl ?_; (first | (refine c_load1 rfl _ _ rfl rfl X (by repeat (first | exact ReadA.here rfl | apply ReadA.there)) ?_) | (refine c_loadN rfl _ _ rfl rfl X (by repeat (first | exact ReadB.here (Nat.le_of_ble_eq_true rfl) | apply ReadB.there)) ?_))) | (refine at_store rfl ?_; (first | (refine c_store1 rfl _ _ _ rfl rfl (by first | exact EvR.const _ | exact EvR.tmp rfl rfl) X rfl rfl (by repeat (first | exact PutA.here (Nat.le_of_ble_eq_true rfl) | apply PutA.there)) ?_; intro w X2; (try simp only [upd] at X2); replace X := X2; clear X2) | (refine c_storeN rfl _ _ _ rfl rfl rfl X rfl rfl (by repeat (first | exact PutA.here (Nat.le_of_ble_eq_true rfl) | apply PutA.there)) ?_; intro w X2; (try simp only [upd] at X2); replace X := X2; clear X2))) | (refine m_alloc rfl _ rfl X ?_; intro g w X2; (replace X := X2; clear X2)) | (refine m_box rfl _ _ rfl (by first | exact EvR.const _ | exact EvR.tmp rfl rfl) rfl X ?_; intro g w X2; (replace X := X2; clear X2))); (simp only [Act.put, List.setIfInBounds_toArray, List.set_cons_succ, List.set_cons_zero, List.drop_succ_cons, List.drop_zero, List.take_succ_cons, List.take_zero, Nat.reduceAdd]))
    | (go_at_call 7; go_loud ((with_reducible refine (hCp.out _ X.below).mono ?_); rintro e w1 ⟨vc, rfl, ⟨vm2, vd2, vr2, rfl, o1, o2, o3, _⟩, hb1⟩; obtain ⟨am2, cm2, rfl, _⟩ := o1.reads.form; obtain ⟨ad2, cd2, rfl, _⟩ := o2.reads.form; obtain ⟨ar2, cr2, rfl, _⟩ := o3.reads.form; replace X := X.addOTxn2 hb1 o1 o2 o3; clear hb1 o1 o2 o3; simp only [txnV]))
    | (go_at_call 8; go_loud ((with_reducible refine (hCo.out _ _ X.below (hRT.out _ _ _ _ _ _ _ X.r0 X.r1 X.r2)).mono ?_); rintro e w1 ⟨va, rfl, hoa, hb1⟩; obtain ⟨la, lc, rfl, _⟩ := hoa.reads.form; replace X := X.addOwn hb1 hoa; clear hb1 hoa))
    | (go_at_call 9; go_loud ((with_reducible refine (hRC.out _ X.below).mono ?_); rintro e w1 ⟨va, rfl, hoa, hb1⟩; obtain ⟨lb, ld, rfl, _⟩ := hoa.reads.form; replace X := X.addOwn hb1 hoa; clear hb1 hoa))
    | (go_at_call 10; go_loud ((with_reducible refine (hSs.out _ _ _ X.r1 X.r0).mono ?_); rintro e w1 ⟨rfl, hb1⟩; replace X := X.call hb1; clear hb1))
    | (go_at_call 11; go_loud ((with_reducible refine (hSm.out _ _ X.below (hRT.out _ _ _ _ _ _ _ X.r2 (X.read (by simp)) (X.read (by simp)))).mono ?_); rintro e w1 ⟨rfl, hb1⟩; replace X := X.call hb1; clear hb1))
    | (go_at_call 12; go_loud ((with_reducible refine (hSe.out _ X.below).mono ?_); rintro e w1 ⟨rfl, hb1⟩; replace X := X.call hb1; clear hb1)))
  go_ret
  exact ⟨rfl, X.below⟩
end Go.Proofs.YtjhmfljlclajnabDoor

namespace Go.Proofs.YtjhmfljlclajnabDoor
open Go.ChangeShapes Go.WideShapes Go.ChangeAt Go.RowKit Wb
noncomputable def laidWorld (os : Os) : World :=
  { World.holding Tryd.prog os ⟨#[], #[], []⟩ with heap := (World.holding Tryd.prog os ⟨#[], #[], []⟩).heap.modify 0 fun
      | .cells _ t frozen => .cells #[.int .i64 2, .int .i64 0, .string ⟨#[]⟩] t frozen
      | o => o }
end Go.Proofs.YtjhmfljlclajnabDoor

namespace Go.Proofs.YtjhmfljlclajnabDoor
open Go.ChangeShapes Go.WideShapes Go.ChangeAt Go.RowKit Wb
set_option maxRecDepth 100000
theorem flush_laid {W : World} (hL : laidMetH Tryd.prog [("wastebook/seal.flush", .agg [.lit (.int .i64 2), .lit (.int .i64 0), .lit (.string [])])] W) :
    Sl W (flR 0).v 1 (flR 0).cs := by
  have h : laidMet Tryd.prog [("wastebook/seal.flush", .agg [.lit (.int .i64 2), .lit (.int .i64 0), .lit (.string [])])] W := hL
  obtain ⟨ps, ⟨g', t', cs, fuel, p, q, hg', ht', hvar, hd, _, _⟩, _⟩ := h
  have hg : Tryd.prog.globalNamed "wastebook/seal.flush" = some 0 := by kernel_rfl
  have hty : (Tryd.prog.globals[0]?).map (·.type) = some 76 := by kernel_rfl
  obtain rfl := Option.some.inj (hg.symm.trans hg')
  obtain rfl := Option.some.inj (hty.symm.trans ht')
  have hcs : cs.toList = [.int .i64 2, .int .i64 0, .string ⟨#[]⟩] := by
    obtain ⟨xs, m, _, hx, hl, hln, hg⟩ := DataW.trod_struct Tryd.underlying76 hd
    have hl3 : cs.toList.length = 3 := hl.trans (by kernel_rfl)
    generalize cs.toList = ls at *
    match ls, hl3, xs, hln with
    | [u0, u1, u2], _, [y0, y1, y2], _ =>
      have h0 : DataW.trod (fun _ => ()) Tryd.prog W 0 (fun _ => true) false m 3 [u0] = some y0 := hg 0 _ rfl
      have h1 : DataW.trod (fun _ => ()) Tryd.prog W 0 (fun _ => true) false m 3 [u1] = some y1 := hg 1 _ rfl
      have h2 : DataW.trod (fun _ => ()) Tryd.prog W 0 (fun _ => true) false m 9 [u2] = some y2 := hg 2 _ rfl
      obtain ⟨a0, e0, rfl, _⟩ := DataW.trod_int Tryd.underlying3 h0
      obtain ⟨a1, e1, rfl, _⟩ := DataW.trod_int Tryd.underlying3 h1
      obtain ⟨a2, e2, rfl, _⟩ := DataW.trod_string Tryd.underlying9 h2
      simp at e0 e1 e2 hx
      subst e0 e1 e2
      obtain ⟨⟨rfl, rfl, h3⟩, _⟩ := hx
      have : a2 = ⟨#[]⟩ := by
        obtain ⟨⟨l⟩⟩ := a2
        simp at h3
        subst h3
        rfl
      rw [this]
  refine ⟨some ⟨0, 0, none⟩, 1, rfl, Nat.le_refl _, by decide, .inr ⟨0, 0, rfl, fun j u hj => ?_⟩⟩
  have := World.var?_cell hg hvar j
  rw [Nat.zero_add, this]
  have e : cs[j]? = cs.toList[j]? := by simp
  rw [e, hcs]
  exact hj
end Go.Proofs.YtjhmfljlclajnabDoor
