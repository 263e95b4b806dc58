/- The walk of keep's names. A region that draws its order, where two effects may come in either order: walked as a tree. And stores past what is kept. No program in sight. What the law TxnLast says, plainly. An altered transaction's lists are no longer than they may be. No program in sight. -/
import Derived.Test.YtjhmfljlclajnacKTxnLast10
import Derived.Test.YtjhmfljlclajnacKTxnLast7
import Derived.Test.YtjhmfljlclajnacKTxnLast5
namespace Go.Proofs.Ytjhmfljlclajnac
open Go.RowKit Wb
set_option linter.unusedVariables false
set_option linter.unusedSimpArgs false
set_option maxRecDepth 100000
set_option maxHeartbeats 8000000
theorem keep_names (w : World) : Calls Try.prog 16 #[] w fun e w' => e = .returned (.bool true) ∧ Below w.heap.size w w' := by
  have hBeg := fun w' => txn_Begin (txn0 1) 2 3 24 (.slice none 0 0) (.slice none 0 0) (.slice none 0 0) w' (RTxn.start w' 1)
  rw [tA_beg.1, tA_beg.2] at hBeg
  simp only [txnV, txn0, tA, hnd0, List.length_nil] at hBeg
  have hFit := fun w' => disk_Fit ⟨#[120]⟩ w' (by decide)
  have hChg := fun w' vm vd vr (hr : RTxn w' (txnV tA vm vd vr) tA) => txn_Change tA 2 5 (fit ⟨#[120]⟩) vm vd vr w' hr
  obtain ⟨e1, e2⟩ := tB_chg (fit_size ⟨#[120]⟩)
  rw [e1, e2] at hChg
  have hRA : ∀ w', RTxn w' (txnV tA (.slice none 0 0) (.slice none 0 0) (.slice none 0 0)) tA := fun w' => ⟨_, _, _, rfl, RL.nil _ _, RL.nil _ _, RL.nil _ _, by simp [tA], by simp [tA], by simp [tA]⟩
  have hChg := fun w' => hChg w' _ _ _ (hRA w')
  have hOp := fun w' v (hr : RTxn w' v (tB (fit ⟨#[120]⟩))) => txn_Open _ v w' hr
  have hop : openB (tB (fit ⟨#[120]⟩)) = true := rfl
  rw [hop] at hOp
  generalize fit ⟨#[120]⟩ = F at *
  replace hBeg := hid hBeg; replace hFit := hid hFit; replace hChg := hid hChg; replace hRA := hid hRA; replace hOp := hid hOp
  clear e1 e2 hop
  have X := ((((St.start [] w).addR (RL.nil intC w) (.inl rfl)).addR (RL.nil cpyC w) (.inl rfl)).addR (RL.nil cpyC w) (.inl rfl))
  have X : St [] w w [] [Rd.of cpyC (.slice none 0 0) tA.mt, Rd.of cpyC (.slice none 0 0) tA.dt, Rd.of intC (.slice none 0 0) tA.rev] := X
  go_enter Try.func16, Try.ntmps16
  go_wp2_with (first
    | (refine at_mem rfl ?_; (first | (refine at_load rfl ?_; (first | (refine at_load1 _ _ rfl ?_; (first | (refine m_load1 rfl _ _ rfl rfl X (.head _) rfl ?_; (simp only [Act.put, List.setIfInBounds_toArray, List.set_cons_succ, List.set_cons_zero, List.drop_succ_cons, List.drop_zero, List.take_succ_cons, List.take_zero, Nat.reduceAdd])) | (refine m_load1 rfl _ _ rfl rfl X (.tail _ (.head _)) rfl ?_; (simp only [Act.put, List.setIfInBounds_toArray, List.set_cons_succ, List.set_cons_zero, List.drop_succ_cons, List.drop_zero, List.take_succ_cons, List.take_zero, Nat.reduceAdd])) | (refine m_load1 rfl _ _ rfl rfl X (.tail _ (.tail _ (.head _))) rfl ?_; (simp only [Act.put, List.setIfInBounds_toArray, List.set_cons_succ, List.set_cons_zero, List.drop_succ_cons, List.drop_zero, List.take_succ_cons, List.take_zero, Nat.reduceAdd])) | (refine m_load1 rfl _ _ rfl rfl X (.tail _ (.tail _ (.tail _ (.head _)))) rfl ?_; (simp only [Act.put, List.setIfInBounds_toArray, List.set_cons_succ, List.set_cons_zero, List.drop_succ_cons, List.drop_zero, List.take_succ_cons, List.take_zero, Nat.reduceAdd])) | (refine m_load1 rfl _ _ rfl rfl X (.tail _ (.tail _ (.tail _ (.tail _ (.head _))))) rfl ?_; (simp only [Act.put, List.setIfInBounds_toArray, List.set_cons_succ, List.set_cons_zero, List.drop_succ_cons, List.drop_zero, List.take_succ_cons, List.take_zero, Nat.reduceAdd])) | (refine m_load1 rfl _ _ rfl rfl X (.tail _ (.tail _ (.tail _ (.tail _ (.tail _ (.head _)))))) rfl ?_; (simp only [Act.put, List.setIfInBounds_toArray, List.set_cons_succ, List.set_cons_zero, List.drop_succ_cons, List.drop_zero, List.take_succ_cons, List.take_zero, Nat.reduceAdd])) | (refine m_load1 rfl _ _ rfl rfl X (.tail _ (.tail _ (.tail _ (.tail _ (.tail _ (.tail _ (.head _))))))) rfl ?_; (simp only [Act.put, List.setIfInBounds_toArray, List.set_cons_succ, List.set_cons_zero, List.drop_succ_cons, List.drop_zero, List.take_succ_cons, List.take_zero, Nat.reduceAdd])) | (refine m_load1 rfl _ _ rfl rfl X (.tail _ (.tail _ (.tail _ (.tail _ (.tail _ (.tail _ (.tail _ (.head _)))))))) rfl ?_; (simp only [Act.put, List.setIfInBounds_toArray, List.set_cons_succ, List.set_cons_zero, List.drop_succ_cons, List.drop_zero, List.take_succ_cons, List.take_zero, Nat.reduceAdd])))) | (refine m_loadN rfl _ _ rfl rfl X (.head _) (Nat.le_of_ble_eq_true rfl) ?_; (simp only [Act.put, List.setIfInBounds_toArray, List.set_cons_succ, List.set_cons_zero, List.drop_succ_cons, List.drop_zero, List.take_succ_cons, List.take_zero, Nat.reduceAdd])) | (refine m_loadN rfl _ _ rfl rfl X (.tail _ (.head _)) (Nat.le_of_ble_eq_true rfl) ?_; (simp only [Act.put, List.setIfInBounds_toArray, List.set_cons_succ, List.set_cons_zero, List.drop_succ_cons, List.drop_zero, List.take_succ_cons, List.take_zero, Nat.reduceAdd])) | (refine m_loadN rfl _ _ rfl rfl X (.tail _ (.tail _ (.head _))) (Nat.le_of_ble_eq_true rfl) ?_; (simp only [Act.put, List.setIfInBounds_toArray, List.set_cons_succ, List.set_cons_zero, List.drop_succ_cons, List.drop_zero, List.take_succ_cons, List.take_zero, Nat.reduceAdd])) | (refine m_loadN rfl _ _ rfl rfl X (.tail _ (.tail _ (.tail _ (.head _)))) (Nat.le_of_ble_eq_true rfl) ?_; (simp only [Act.put, List.setIfInBounds_toArray, List.set_cons_succ, List.set_cons_zero, List.drop_succ_cons, List.drop_zero, List.take_succ_cons, List.take_zero, Nat.reduceAdd])) | (refine m_loadN rfl _ _ rfl rfl X (.tail _ (.tail _ (.tail _ (.tail _ (.head _))))) (Nat.le_of_ble_eq_true rfl) ?_; (simp only [Act.put, List.setIfInBounds_toArray, List.set_cons_succ, List.set_cons_zero, List.drop_succ_cons, List.drop_zero, List.take_succ_cons, List.take_zero, Nat.reduceAdd])) | (refine m_loadN rfl _ _ rfl rfl X (.tail _ (.tail _ (.tail _ (.tail _ (.tail _ (.head _)))))) (Nat.le_of_ble_eq_true rfl) ?_; (simp only [Act.put, List.setIfInBounds_toArray, List.set_cons_succ, List.set_cons_zero, List.drop_succ_cons, List.drop_zero, List.take_succ_cons, List.take_zero, Nat.reduceAdd])) | (refine m_loadN rfl _ _ rfl rfl X (.tail _ (.tail _ (.tail _ (.tail _ (.tail _ (.tail _ (.head _))))))) (Nat.le_of_ble_eq_true rfl) ?_; (simp only [Act.put, List.setIfInBounds_toArray, List.set_cons_succ, List.set_cons_zero, List.drop_succ_cons, List.drop_zero, List.take_succ_cons, List.take_zero, Nat.reduceAdd])) | (refine m_loadN rfl _ _ rfl rfl X (.tail _ (.tail _ (.tail _ (.tail _ (.tail _ (.tail _ (.tail _ (.head _)))))))) (Nat.le_of_ble_eq_true rfl) ?_; (simp only [Act.put, List.setIfInBounds_toArray, List.set_cons_succ, List.set_cons_zero, List.drop_succ_cons, List.drop_zero, List.take_succ_cons, List.take_zero, Nat.reduceAdd])))) | (refine at_store rfl ?_; (first | (refine at_store1 _ _ _ rfl ?_; (first | (refine m_store1 [] _ rfl _ _ _ rfl rfl (by first | exact EvR.const _ | exact EvR.tmp rfl rfl) X (Nat.le_of_ble_eq_true rfl) rfl rfl ?_; intro w X2; (try simp only [upd, List.nil_append, List.cons_append] at X2); replace X := X2; clear X2; (simp only [Act.put, List.setIfInBounds_toArray, List.set_cons_succ, List.set_cons_zero, List.drop_succ_cons, List.drop_zero, List.take_succ_cons, List.take_zero, Nat.reduceAdd])) | (refine m_store1 [_] _ rfl _ _ _ rfl rfl (by first | exact EvR.const _ | exact EvR.tmp rfl rfl) X (Nat.le_of_ble_eq_true rfl) rfl rfl ?_; intro w X2; (try simp only [upd, List.nil_append, List.cons_append] at X2); replace X := X2; clear X2; (simp only [Act.put, List.setIfInBounds_toArray, List.set_cons_succ, List.set_cons_zero, List.drop_succ_cons, List.drop_zero, List.take_succ_cons, List.take_zero, Nat.reduceAdd])) | (refine m_store1 [_, _] _ rfl _ _ _ rfl rfl (by first | exact EvR.const _ | exact EvR.tmp rfl rfl) X (Nat.le_of_ble_eq_true rfl) rfl rfl ?_; intro w X2; (try simp only [upd, List.nil_append, List.cons_append] at X2); replace X := X2; clear X2; (simp only [Act.put, List.setIfInBounds_toArray, List.set_cons_succ, List.set_cons_zero, List.drop_succ_cons, List.drop_zero, List.take_succ_cons, List.take_zero, Nat.reduceAdd])) | (refine m_store1 [_, _, _] _ rfl _ _ _ rfl rfl (by first | exact EvR.const _ | exact EvR.tmp rfl rfl) X (Nat.le_of_ble_eq_true rfl) rfl rfl ?_; intro w X2; (try simp only [upd, List.nil_append, List.cons_append] at X2); replace X := X2; clear X2; (simp only [Act.put, List.setIfInBounds_toArray, List.set_cons_succ, List.set_cons_zero, List.drop_succ_cons, List.drop_zero, List.take_succ_cons, List.take_zero, Nat.reduceAdd])) | (refine m_store1 [_, _, _, _] _ rfl _ _ _ rfl rfl (by first | exact EvR.const _ | exact EvR.tmp rfl rfl) X (Nat.le_of_ble_eq_true rfl) rfl rfl ?_; intro w X2; (try simp only [upd, List.nil_append, List.cons_append] at X2); replace X := X2; clear X2; (simp only [Act.put, List.setIfInBounds_toArray, List.set_cons_succ, List.set_cons_zero, List.drop_succ_cons, List.drop_zero, List.take_succ_cons, List.take_zero, Nat.reduceAdd])) | (refine m_store1 [_, _, _, _, _] _ rfl _ _ _ rfl rfl (by first | exact EvR.const _ | exact EvR.tmp rfl rfl) X (Nat.le_of_ble_eq_true rfl) rfl rfl ?_; intro w X2; (try simp only [upd, List.nil_append, List.cons_append] at X2); replace X := X2; clear X2; (simp only [Act.put, List.setIfInBounds_toArray, List.set_cons_succ, List.set_cons_zero, List.drop_succ_cons, List.drop_zero, List.take_succ_cons, List.take_zero, Nat.reduceAdd])) | (refine m_store1 [_, _, _, _, _, _] _ rfl _ _ _ rfl rfl (by first | exact EvR.const _ | exact EvR.tmp rfl rfl) X (Nat.le_of_ble_eq_true rfl) rfl rfl ?_; intro w X2; (try simp only [upd, List.nil_append, List.cons_append] at X2); replace X := X2; clear X2; (simp only [Act.put, List.setIfInBounds_toArray, List.set_cons_succ, List.set_cons_zero, List.drop_succ_cons, List.drop_zero, List.take_succ_cons, List.take_zero, Nat.reduceAdd])) | (refine m_store1 [_, _, _, _, _, _, _] _ rfl _ _ _ rfl rfl (by first | exact EvR.const _ | exact EvR.tmp rfl rfl) X (Nat.le_of_ble_eq_true rfl) rfl rfl ?_; intro w X2; (try simp only [upd, List.nil_append, List.cons_append] at X2); replace X := X2; clear X2; (simp only [Act.put, List.setIfInBounds_toArray, List.set_cons_succ, List.set_cons_zero, List.drop_succ_cons, List.drop_zero, List.take_succ_cons, List.take_zero, Nat.reduceAdd])))) | (refine m_storeN [] _ rfl _ _ _ rfl rfl rfl X rfl (Nat.le_of_ble_eq_true rfl) rfl ?_; intro w X2; (try simp only [upd, List.nil_append, List.cons_append] at X2); replace X := X2; clear X2; (simp only [Act.put, List.setIfInBounds_toArray, List.set_cons_succ, List.set_cons_zero, List.drop_succ_cons, List.drop_zero, List.take_succ_cons, List.take_zero, Nat.reduceAdd])) | (refine m_storeN [_] _ rfl _ _ _ rfl rfl rfl X rfl (Nat.le_of_ble_eq_true rfl) rfl ?_; intro w X2; (try simp only [upd, List.nil_append, List.cons_append] at X2); replace X := X2; clear X2; (simp only [Act.put, List.setIfInBounds_toArray, List.set_cons_succ, List.set_cons_zero, List.drop_succ_cons, List.drop_zero, List.take_succ_cons, List.take_zero, Nat.reduceAdd])) | (refine m_storeN [_, _] _ rfl _ _ _ rfl rfl rfl X rfl (Nat.le_of_ble_eq_true rfl) rfl ?_; intro w X2; (try simp only [upd, List.nil_append, List.cons_append] at X2); replace X := X2; clear X2; (simp only [Act.put, List.setIfInBounds_toArray, List.set_cons_succ, List.set_cons_zero, List.drop_succ_cons, List.drop_zero, List.take_succ_cons, List.take_zero, Nat.reduceAdd])) | (refine m_storeN [_, _, _] _ rfl _ _ _ rfl rfl rfl X rfl (Nat.le_of_ble_eq_true rfl) rfl ?_; intro w X2; (try simp only [upd, List.nil_append, List.cons_append] at X2); replace X := X2; clear X2; (simp only [Act.put, List.setIfInBounds_toArray, List.set_cons_succ, List.set_cons_zero, List.drop_succ_cons, List.drop_zero, List.take_succ_cons, List.take_zero, Nat.reduceAdd])) | (refine m_storeN [_, _, _, _] _ rfl _ _ _ rfl rfl rfl X rfl (Nat.le_of_ble_eq_true rfl) rfl ?_; intro w X2; (try simp only [upd, List.nil_append, List.cons_append] at X2); replace X := X2; clear X2; (simp only [Act.put, List.setIfInBounds_toArray, List.set_cons_succ, List.set_cons_zero, List.drop_succ_cons, List.drop_zero, List.take_succ_cons, List.take_zero, Nat.reduceAdd])) | (refine m_storeN [_, _, _, _, _] _ rfl _ _ _ rfl rfl rfl X rfl (Nat.le_of_ble_eq_true rfl) rfl ?_; intro w X2; (try simp only [upd, List.nil_append, List.cons_append] at X2); replace X := X2; clear X2; (simp only [Act.put, List.setIfInBounds_toArray, List.set_cons_succ, List.set_cons_zero, List.drop_succ_cons, List.drop_zero, List.take_succ_cons, List.take_zero, Nat.reduceAdd])) | (refine m_storeN [_, _, _, _, _, _] _ rfl _ _ _ rfl rfl rfl X rfl (Nat.le_of_ble_eq_true rfl) rfl ?_; intro w X2; (try simp only [upd, List.nil_append, List.cons_append] at X2); replace X := X2; clear X2; (simp only [Act.put, List.setIfInBounds_toArray, List.set_cons_succ, List.set_cons_zero, List.drop_succ_cons, List.drop_zero, List.take_succ_cons, List.take_zero, Nat.reduceAdd])) | (refine m_storeN [_, _, _, _, _, _, _] _ rfl _ _ _ rfl rfl rfl X rfl (Nat.le_of_ble_eq_true rfl) rfl ?_; intro w X2; (try simp only [upd, List.nil_append, List.cons_append] at X2); replace X := X2; clear X2; (simp only [Act.put, List.setIfInBounds_toArray, List.set_cons_succ, List.set_cons_zero, List.drop_succ_cons, List.drop_zero, List.take_succ_cons, List.take_zero, Nat.reduceAdd])))) | (first | (refine m_alloc rfl _ rfl X ?_; intro g w X2; (try simp only [upd, List.nil_append, List.cons_append] at X2); replace X := X2; clear X2; (simp only [Act.put, List.setIfInBounds_toArray, List.set_cons_succ, List.set_cons_zero, List.drop_succ_cons, List.drop_zero, List.take_succ_cons, List.take_zero, Nat.reduceAdd])) | (refine m_box rfl _ _ rfl (by first | exact EvR.const _ | exact EvR.tmp rfl rfl) rfl X ?_; intro g w X2; (try simp only [upd, List.nil_append, List.cons_append] at X2); replace X := X2; clear X2; (simp only [Act.put, List.setIfInBounds_toArray, List.set_cons_succ, List.set_cons_zero, List.drop_succ_cons, List.drop_zero, List.take_succ_cons, List.take_zero, Nat.reduceAdd])))))
    | (go_at_call 41; go_loud ((with_reducible refine (hBeg.out _).mono ?_); rintro e w1 ⟨rfl, hb1⟩; replace X := X.call hb1; clear hb1)))
  (refine q_start 1 [6] [1, 2, 6] [0] [0, 1, 2, 3, 4, 5, 6, 7] X (by kernel_rfl) (by kernel_rfl) (fun _ _ _ _ _ h => h) ?_; intro hQ X2 hL; replace X := X2; clear X2; simp only [List.take_succ_cons, List.take_zero] at hL; simp only [List.take_succ_cons, List.take_zero])
  (first | (refine q_load1 rfl rfl (by first | exact EvR.const _ | exact EvR.tmp rfl rfl) (.head _) rfl rfl rfl X hL hQ ?_; (simp only [Act.put, List.setIfInBounds_toArray, List.set_cons_succ, List.set_cons_zero, List.drop_succ_cons, List.drop_zero, List.take_succ_cons, List.take_zero, Nat.reduceAdd])) | (refine q_load1 rfl rfl (by first | exact EvR.const _ | exact EvR.tmp rfl rfl) (.tail _ (.head _)) rfl rfl rfl X hL hQ ?_; (simp only [Act.put, List.setIfInBounds_toArray, List.set_cons_succ, List.set_cons_zero, List.drop_succ_cons, List.drop_zero, List.take_succ_cons, List.take_zero, Nat.reduceAdd])) | (refine q_load1 rfl rfl (by first | exact EvR.const _ | exact EvR.tmp rfl rfl) (.tail _ (.tail _ (.head _))) rfl rfl rfl X hL hQ ?_; (simp only [Act.put, List.setIfInBounds_toArray, List.set_cons_succ, List.set_cons_zero, List.drop_succ_cons, List.drop_zero, List.take_succ_cons, List.take_zero, Nat.reduceAdd])) | (refine q_load1 rfl rfl (by first | exact EvR.const _ | exact EvR.tmp rfl rfl) (.tail _ (.tail _ (.tail _ (.head _)))) rfl rfl rfl X hL hQ ?_; (simp only [Act.put, List.setIfInBounds_toArray, List.set_cons_succ, List.set_cons_zero, List.drop_succ_cons, List.drop_zero, List.take_succ_cons, List.take_zero, Nat.reduceAdd])) | (refine q_load1 rfl rfl (by first | exact EvR.const _ | exact EvR.tmp rfl rfl) (.tail _ (.tail _ (.tail _ (.tail _ (.head _))))) rfl rfl rfl X hL hQ ?_; (simp only [Act.put, List.setIfInBounds_toArray, List.set_cons_succ, List.set_cons_zero, List.drop_succ_cons, List.drop_zero, List.take_succ_cons, List.take_zero, Nat.reduceAdd])) | (refine q_load1 rfl rfl (by first | exact EvR.const _ | exact EvR.tmp rfl rfl) (.tail _ (.tail _ (.tail _ (.tail _ (.tail _ (.head _)))))) rfl rfl rfl X hL hQ ?_; (simp only [Act.put, List.setIfInBounds_toArray, List.set_cons_succ, List.set_cons_zero, List.drop_succ_cons, List.drop_zero, List.take_succ_cons, List.take_zero, Nat.reduceAdd])) | (refine q_load1 rfl rfl (by first | exact EvR.const _ | exact EvR.tmp rfl rfl) (.tail _ (.tail _ (.tail _ (.tail _ (.tail _ (.tail _ (.head _))))))) rfl rfl rfl X hL hQ ?_; (simp only [Act.put, List.setIfInBounds_toArray, List.set_cons_succ, List.set_cons_zero, List.drop_succ_cons, List.drop_zero, List.take_succ_cons, List.take_zero, Nat.reduceAdd])) | (refine q_load1 rfl rfl (by first | exact EvR.const _ | exact EvR.tmp rfl rfl) (.tail _ (.tail _ (.tail _ (.tail _ (.tail _ (.tail _ (.tail _ (.head _)))))))) rfl rfl rfl X hL hQ ?_; (simp only [Act.put, List.setIfInBounds_toArray, List.set_cons_succ, List.set_cons_zero, List.drop_succ_cons, List.drop_zero, List.take_succ_cons, List.take_zero, Nat.reduceAdd])) | (refine q_loadN rfl rfl (by first | exact EvR.const _ | exact EvR.tmp rfl rfl) (.head _) (Nat.le_of_ble_eq_true rfl) rfl rfl X hL hQ ?_; (simp only [Act.put, List.setIfInBounds_toArray, List.set_cons_succ, List.set_cons_zero, List.drop_succ_cons, List.drop_zero, List.take_succ_cons, List.take_zero, Nat.reduceAdd])) | (refine q_loadN rfl rfl (by first | exact EvR.const _ | exact EvR.tmp rfl rfl) (.tail _ (.head _)) (Nat.le_of_ble_eq_true rfl) rfl rfl X hL hQ ?_; (simp only [Act.put, List.setIfInBounds_toArray, List.set_cons_succ, List.set_cons_zero, List.drop_succ_cons, List.drop_zero, List.take_succ_cons, List.take_zero, Nat.reduceAdd])) | (refine q_loadN rfl rfl (by first | exact EvR.const _ | exact EvR.tmp rfl rfl) (.tail _ (.tail _ (.head _))) (Nat.le_of_ble_eq_true rfl) rfl rfl X hL hQ ?_; (simp only [Act.put, List.setIfInBounds_toArray, List.set_cons_succ, List.set_cons_zero, List.drop_succ_cons, List.drop_zero, List.take_succ_cons, List.take_zero, Nat.reduceAdd])) | (refine q_loadN rfl rfl (by first | exact EvR.const _ | exact EvR.tmp rfl rfl) (.tail _ (.tail _ (.tail _ (.head _)))) (Nat.le_of_ble_eq_true rfl) rfl rfl X hL hQ ?_; (simp only [Act.put, List.setIfInBounds_toArray, List.set_cons_succ, List.set_cons_zero, List.drop_succ_cons, List.drop_zero, List.take_succ_cons, List.take_zero, Nat.reduceAdd])) | (refine q_loadN rfl rfl (by first | exact EvR.const _ | exact EvR.tmp rfl rfl) (.tail _ (.tail _ (.tail _ (.tail _ (.head _))))) (Nat.le_of_ble_eq_true rfl) rfl rfl X hL hQ ?_; (simp only [Act.put, List.setIfInBounds_toArray, List.set_cons_succ, List.set_cons_zero, List.drop_succ_cons, List.drop_zero, List.take_succ_cons, List.take_zero, Nat.reduceAdd])) | (refine q_loadN rfl rfl (by first | exact EvR.const _ | exact EvR.tmp rfl rfl) (.tail _ (.tail _ (.tail _ (.tail _ (.tail _ (.head _)))))) (Nat.le_of_ble_eq_true rfl) rfl rfl X hL hQ ?_; (simp only [Act.put, List.setIfInBounds_toArray, List.set_cons_succ, List.set_cons_zero, List.drop_succ_cons, List.drop_zero, List.take_succ_cons, List.take_zero, Nat.reduceAdd])) | (refine q_loadN rfl rfl (by first | exact EvR.const _ | exact EvR.tmp rfl rfl) (.tail _ (.tail _ (.tail _ (.tail _ (.tail _ (.tail _ (.head _))))))) (Nat.le_of_ble_eq_true rfl) rfl rfl X hL hQ ?_; (simp only [Act.put, List.setIfInBounds_toArray, List.set_cons_succ, List.set_cons_zero, List.drop_succ_cons, List.drop_zero, List.take_succ_cons, List.take_zero, Nat.reduceAdd])) | (refine q_loadN rfl rfl (by first | exact EvR.const _ | exact EvR.tmp rfl rfl) (.tail _ (.tail _ (.tail _ (.tail _ (.tail _ (.tail _ (.tail _ (.head _)))))))) (Nat.le_of_ble_eq_true rfl) rfl rfl X hL hQ ?_; (simp only [Act.put, List.setIfInBounds_toArray, List.set_cons_succ, List.set_cons_zero, List.drop_succ_cons, List.drop_zero, List.take_succ_cons, List.take_zero, Nat.reduceAdd])))
  (refine q_call 15 _ _ rfl rfl _ rfl ⟨_, _, Try.func15, by kernel_rfl, rfl⟩ rfl rfl (hFit.out _) ?_; rintro e w1 ⟨rfl, hb1⟩; replace X := X.call hb1; clear hb1; refine ⟨_, rfl, fun _ _ => X.keeps hL, ?_⟩; (simp only [Act.put, List.setIfInBounds_toArray, List.set_cons_succ, List.set_cons_zero, List.drop_succ_cons, List.drop_zero, List.take_succ_cons, List.take_zero, Nat.reduceAdd]))
  (refine q_call 7 _ _ rfl rfl _ rfl ⟨_, _, Try.func7, by kernel_rfl, rfl⟩ rfl rfl (hChg.out _) ?_; rintro e w1 ⟨vm, vd, vr, rfl, hN, hb1⟩; replace X := X.addT hb1 hN (by simp) (by simp) (by simp); clear hb1 hN; refine ⟨_, rfl, fun _ _ => X.keeps hL, ?_⟩; (simp only [Act.put, List.setIfInBounds_toArray, List.set_cons_succ, List.set_cons_zero, List.drop_succ_cons, List.drop_zero, List.take_succ_cons, List.take_zero, Nat.reduceAdd]))
  obtain ⟨am, cm, hvm, _⟩ := (X.r0).form
  obtain ⟨ad, cd, hvd, _⟩ := (X.r1).form
  obtain ⟨ar, cr, hvr, _⟩ := (X.r2).form
  obtain rfl : vm = .slice am 1 cm := hvm
  obtain rfl : vd = .slice ad 0 cd := hvd
  obtain rfl : vr = .slice ar 0 cr := hvr
  simp only [txnV, tB, hnd0]
  (refine q_move rfl rfl (by first | exact EvR.const _ | exact EvR.tmp rfl rfl) rfl rfl hQ ?_; (simp only [Act.put, List.setIfInBounds_toArray, List.set_cons_succ, List.set_cons_zero, List.drop_succ_cons, List.drop_zero, List.take_succ_cons, List.take_zero, Nat.reduceAdd]))
  (refine q_extract rfl rfl (by first | exact EvR.const _ | exact EvR.tmp rfl rfl) rfl rfl rfl hQ ?_; (simp only [Act.put, List.setIfInBounds_toArray, List.set_cons_succ, List.set_cons_zero, List.drop_succ_cons, List.drop_zero, List.take_succ_cons, List.take_zero, Nat.reduceAdd]))
  (refine q_extract rfl rfl (by first | exact EvR.const _ | exact EvR.tmp rfl rfl) rfl rfl rfl hQ ?_; (simp only [Act.put, List.setIfInBounds_toArray, List.set_cons_succ, List.set_cons_zero, List.drop_succ_cons, List.drop_zero, List.take_succ_cons, List.take_zero, Nat.reduceAdd]))
  (first | (refine q_store1 [] _ rfl rfl (by first | exact EvR.const _ | exact EvR.tmp rfl rfl) (by first | exact EvR.const _ | exact EvR.tmp rfl rfl) X (Nat.le_of_ble_eq_true rfl) rfl rfl rfl rfl ?_; intro w X2; refine ⟨fun hb _ => absurd hb (by decide), ?_⟩; (try simp only [upd, List.nil_append, List.cons_append] at X2); replace X := X2; clear X2; (simp only [Act.put, List.setIfInBounds_toArray, List.set_cons_succ, List.set_cons_zero, List.drop_succ_cons, List.drop_zero, List.take_succ_cons, List.take_zero, Nat.reduceAdd])) | (refine q_store1 [_] _ rfl rfl (by first | exact EvR.const _ | exact EvR.tmp rfl rfl) (by first | exact EvR.const _ | exact EvR.tmp rfl rfl) X (Nat.le_of_ble_eq_true rfl) rfl rfl rfl rfl ?_; intro w X2; refine ⟨fun hb _ => absurd hb (by decide), ?_⟩; (try simp only [upd, List.nil_append, List.cons_append] at X2); replace X := X2; clear X2; (simp only [Act.put, List.setIfInBounds_toArray, List.set_cons_succ, List.set_cons_zero, List.drop_succ_cons, List.drop_zero, List.take_succ_cons, List.take_zero, Nat.reduceAdd])) | (refine q_store1 [_, _] _ rfl rfl (by first | exact EvR.const _ | exact EvR.tmp rfl rfl) (by first | exact EvR.const _ | exact EvR.tmp rfl rfl) X (Nat.le_of_ble_eq_true rfl) rfl rfl rfl rfl ?_; intro w X2; refine ⟨fun hb _ => absurd hb (by decide), ?_⟩; (try simp only [upd, List.nil_append, List.cons_append] at X2); replace X := X2; clear X2; (simp only [Act.put, List.setIfInBounds_toArray, List.set_cons_succ, List.set_cons_zero, List.drop_succ_cons, List.drop_zero, List.take_succ_cons, List.take_zero, Nat.reduceAdd])) | (refine q_store1 [_, _, _] _ rfl rfl (by first | exact EvR.const _ | exact EvR.tmp rfl rfl) (by first | exact EvR.const _ | exact EvR.tmp rfl rfl) X (Nat.le_of_ble_eq_true rfl) rfl rfl rfl rfl ?_; intro w X2; refine ⟨fun hb _ => absurd hb (by decide), ?_⟩; (try simp only [upd, List.nil_append, List.cons_append] at X2); replace X := X2; clear X2; (simp only [Act.put, List.setIfInBounds_toArray, List.set_cons_succ, List.set_cons_zero, List.drop_succ_cons, List.drop_zero, List.take_succ_cons, List.take_zero, Nat.reduceAdd])) | (refine q_store1 [_, _, _, _] _ rfl rfl (by first | exact EvR.const _ | exact EvR.tmp rfl rfl) (by first | exact EvR.const _ | exact EvR.tmp rfl rfl) X (Nat.le_of_ble_eq_true rfl) rfl rfl rfl rfl ?_; intro w X2; refine ⟨fun hb _ => absurd hb (by decide), ?_⟩; (try simp only [upd, List.nil_append, List.cons_append] at X2); replace X := X2; clear X2; (simp only [Act.put, List.setIfInBounds_toArray, List.set_cons_succ, List.set_cons_zero, List.drop_succ_cons, List.drop_zero, List.take_succ_cons, List.take_zero, Nat.reduceAdd])) | (refine q_store1 [_, _, _, _, _] _ rfl rfl (by first | exact EvR.const _ | exact EvR.tmp rfl rfl) (by first | exact EvR.const _ | exact EvR.tmp rfl rfl) X (Nat.le_of_ble_eq_true rfl) rfl rfl rfl rfl ?_; intro w X2; refine ⟨fun hb _ => absurd hb (by decide), ?_⟩; (try simp only [upd, List.nil_append, List.cons_append] at X2); replace X := X2; clear X2; (simp only [Act.put, List.setIfInBounds_toArray, List.set_cons_succ, List.set_cons_zero, List.drop_succ_cons, List.drop_zero, List.take_succ_cons, List.take_zero, Nat.reduceAdd])) | (refine q_store1 [_, _, _, _, _, _] _ rfl rfl (by first | exact EvR.const _ | exact EvR.tmp rfl rfl) (by first | exact EvR.const _ | exact EvR.tmp rfl rfl) X (Nat.le_of_ble_eq_true rfl) rfl rfl rfl rfl ?_; intro w X2; refine ⟨fun hb _ => absurd hb (by decide), ?_⟩; (try simp only [upd, List.nil_append, List.cons_append] at X2); replace X := X2; clear X2; (simp only [Act.put, List.setIfInBounds_toArray, List.set_cons_succ, List.set_cons_zero, List.drop_succ_cons, List.drop_zero, List.take_succ_cons, List.take_zero, Nat.reduceAdd])) | (refine q_store1 [_, _, _, _, _, _, _] _ rfl rfl (by first | exact EvR.const _ | exact EvR.tmp rfl rfl) (by first | exact EvR.const _ | exact EvR.tmp rfl rfl) X (Nat.le_of_ble_eq_true rfl) rfl rfl rfl rfl ?_; intro w X2; refine ⟨fun hb _ => absurd hb (by decide), ?_⟩; (try simp only [upd, List.nil_append, List.cons_append] at X2); replace X := X2; clear X2; (simp only [Act.put, List.setIfInBounds_toArray, List.set_cons_succ, List.set_cons_zero, List.drop_succ_cons, List.drop_zero, List.take_succ_cons, List.take_zero, Nat.reduceAdd])) | (refine q_storeN [] _ rfl rfl (by first | exact EvR.const _ | exact EvR.tmp rfl rfl) rfl X rfl (Nat.le_of_ble_eq_true rfl) rfl rfl rfl ?_; intro w X2; refine ⟨fun hb _ => absurd hb (by decide), ?_⟩; (try simp only [upd, List.nil_append, List.cons_append] at X2); replace X := X2; clear X2; (simp only [Act.put, List.setIfInBounds_toArray, List.set_cons_succ, List.set_cons_zero, List.drop_succ_cons, List.drop_zero, List.take_succ_cons, List.take_zero, Nat.reduceAdd])) | (refine q_storeN [_] _ rfl rfl (by first | exact EvR.const _ | exact EvR.tmp rfl rfl) rfl X rfl (Nat.le_of_ble_eq_true rfl) rfl rfl rfl ?_; intro w X2; refine ⟨fun hb _ => absurd hb (by decide), ?_⟩; (try simp only [upd, List.nil_append, List.cons_append] at X2); replace X := X2; clear X2; (simp only [Act.put, List.setIfInBounds_toArray, List.set_cons_succ, List.set_cons_zero, List.drop_succ_cons, List.drop_zero, List.take_succ_cons, List.take_zero, Nat.reduceAdd])) | (refine q_storeN [_, _] _ rfl rfl (by first | exact EvR.const _ | exact EvR.tmp rfl rfl) rfl X rfl (Nat.le_of_ble_eq_true rfl) rfl rfl rfl ?_; intro w X2; refine ⟨fun hb _ => absurd hb (by decide), ?_⟩; (try simp only [upd, List.nil_append, List.cons_append] at X2); replace X := X2; clear X2; (simp only [Act.put, List.setIfInBounds_toArray, List.set_cons_succ, List.set_cons_zero, List.drop_succ_cons, List.drop_zero, List.take_succ_cons, List.take_zero, Nat.reduceAdd])) | (refine q_storeN [_, _, _] _ rfl rfl (by first | exact EvR.const _ | exact EvR.tmp rfl rfl) rfl X rfl (Nat.le_of_ble_eq_true rfl) rfl rfl rfl ?_; intro w X2; refine ⟨fun hb _ => absurd hb (by decide), ?_⟩; (try simp only [upd, List.nil_append, List.cons_append] at X2); replace X := X2; clear X2; (simp only [Act.put, List.setIfInBounds_toArray, List.set_cons_succ, List.set_cons_zero, List.drop_succ_cons, List.drop_zero, List.take_succ_cons, List.take_zero, Nat.reduceAdd])) | (refine q_storeN [_, _, _, _] _ rfl rfl (by first | exact EvR.const _ | exact EvR.tmp rfl rfl) rfl X rfl (Nat.le_of_ble_eq_true rfl) rfl rfl rfl ?_; intro w X2; refine ⟨fun hb _ => absurd hb (by decide), ?_⟩; (try simp only [upd, List.nil_append, List.cons_append] at X2); replace X := X2; clear X2; (simp only [Act.put, List.setIfInBounds_toArray, List.set_cons_succ, List.set_cons_zero, List.drop_succ_cons, List.drop_zero, List.take_succ_cons, List.take_zero, Nat.reduceAdd])) | (refine q_storeN [_, _, _, _, _] _ rfl rfl (by first | exact EvR.const _ | exact EvR.tmp rfl rfl) rfl X rfl (Nat.le_of_ble_eq_true rfl) rfl rfl rfl ?_; intro w X2; refine ⟨fun hb _ => absurd hb (by decide), ?_⟩; (try simp only [upd, List.nil_append, List.cons_append] at X2); replace X := X2; clear X2; (simp only [Act.put, List.setIfInBounds_toArray, List.set_cons_succ, List.set_cons_zero, List.drop_succ_cons, List.drop_zero, List.take_succ_cons, List.take_zero, Nat.reduceAdd])) | (refine q_storeN [_, _, _, _, _, _] _ rfl rfl (by first | exact EvR.const _ | exact EvR.tmp rfl rfl) rfl X rfl (Nat.le_of_ble_eq_true rfl) rfl rfl rfl ?_; intro w X2; refine ⟨fun hb _ => absurd hb (by decide), ?_⟩; (try simp only [upd, List.nil_append, List.cons_append] at X2); replace X := X2; clear X2; (simp only [Act.put, List.setIfInBounds_toArray, List.set_cons_succ, List.set_cons_zero, List.drop_succ_cons, List.drop_zero, List.take_succ_cons, List.take_zero, Nat.reduceAdd])) | (refine q_storeN [_, _, _, _, _, _, _] _ rfl rfl (by first | exact EvR.const _ | exact EvR.tmp rfl rfl) rfl X rfl (Nat.le_of_ble_eq_true rfl) rfl rfl rfl ?_; intro w X2; refine ⟨fun hb _ => absurd hb (by decide), ?_⟩; (try simp only [upd, List.nil_append, List.cons_append] at X2); replace X := X2; clear X2; (simp only [Act.put, List.setIfInBounds_toArray, List.set_cons_succ, List.set_cons_zero, List.drop_succ_cons, List.drop_zero, List.take_succ_cons, List.take_zero, Nat.reduceAdd])))
  (refine q_assign rfl rfl (by first | exact EvR.const _ | exact EvR.tmp rfl rfl) rfl rfl hQ ?_; (simp only [Act.put, List.setIfInBounds_toArray, List.set_cons_succ, List.set_cons_zero, List.drop_succ_cons, List.drop_zero, List.take_succ_cons, List.take_zero, Nat.reduceAdd]))
  refine q_nil ?_
  have hR := hid (X.rtxn (t := tB F) (vm := .slice am 1 cm) (vd := .slice ad 0 cd) (vr := .slice ar 0 cr) (by simp [tB]) (by simp [tB]) (by simp [tB]) (by simp [tB]) (by simp [tB]) (by simp [tB]))
  replace hOp := hid (hOp.out _ _ hR.out)
  simp only [txnV, tB, hnd0] at hOp
  clear hR
  go_wp2_with (first
    | (refine at_mem rfl ?_; (first | (refine at_load rfl ?_; (first | (refine at_load1 _ _ rfl ?_; (first | (refine m_load1 rfl _ _ rfl rfl X (.head _) rfl ?_; (simp only [Act.put, List.setIfInBounds_toArray, List.set_cons_succ, List.set_cons_zero, List.drop_succ_cons, List.drop_zero, List.take_succ_cons, List.take_zero, Nat.reduceAdd])) | (refine m_load1 rfl _ _ rfl rfl X (.tail _ (.head _)) rfl ?_; (simp only [Act.put, List.setIfInBounds_toArray, List.set_cons_succ, List.set_cons_zero, List.drop_succ_cons, List.drop_zero, List.take_succ_cons, List.take_zero, Nat.reduceAdd])) | (refine m_load1 rfl _ _ rfl rfl X (.tail _ (.tail _ (.head _))) rfl ?_; (simp only [Act.put, List.setIfInBounds_toArray, List.set_cons_succ, List.set_cons_zero, List.drop_succ_cons, List.drop_zero, List.take_succ_cons, List.take_zero, Nat.reduceAdd])) | (refine m_load1 rfl _ _ rfl rfl X (.tail _ (.tail _ (.tail _ (.head _)))) rfl ?_; (simp only [Act.put, List.setIfInBounds_toArray, List.set_cons_succ, List.set_cons_zero, List.drop_succ_cons, List.drop_zero, List.take_succ_cons, List.take_zero, Nat.reduceAdd])) | (refine m_load1 rfl _ _ rfl rfl X (.tail _ (.tail _ (.tail _ (.tail _ (.head _))))) rfl ?_; (simp only [Act.put, List.setIfInBounds_toArray, List.set_cons_succ, List.set_cons_zero, List.drop_succ_cons, List.drop_zero, List.take_succ_cons, List.take_zero, Nat.reduceAdd])) | (refine m_load1 rfl _ _ rfl rfl X (.tail _ (.tail _ (.tail _ (.tail _ (.tail _ (.head _)))))) rfl ?_; (simp only [Act.put, List.setIfInBounds_toArray, List.set_cons_succ, List.set_cons_zero, List.drop_succ_cons, List.drop_zero, List.take_succ_cons, List.take_zero, Nat.reduceAdd])) | (refine m_load1 rfl _ _ rfl rfl X (.tail _ (.tail _ (.tail _ (.tail _ (.tail _ (.tail _ (.head _))))))) rfl ?_; (simp only [Act.put, List.setIfInBounds_toArray, List.set_cons_succ, List.set_cons_zero, List.drop_succ_cons, List.drop_zero, List.take_succ_cons, List.take_zero, Nat.reduceAdd])) | (refine m_load1 rfl _ _ rfl rfl X (.tail _ (.tail _ (.tail _ (.tail _ (.tail _ (.tail _ (.tail _ (.head _)))))))) rfl ?_; (simp only [Act.put, List.setIfInBounds_toArray, List.set_cons_succ, List.set_cons_zero, List.drop_succ_cons, List.drop_zero, List.take_succ_cons, List.take_zero, Nat.reduceAdd])))) | (refine m_loadN rfl _ _ rfl rfl X (.head _) (Nat.le_of_ble_eq_true rfl) ?_; (simp only [Act.put, List.setIfInBounds_toArray, List.set_cons_succ, List.set_cons_zero, List.drop_succ_cons, List.drop_zero, List.take_succ_cons, List.take_zero, Nat.reduceAdd])) | (refine m_loadN rfl _ _ rfl rfl X (.tail _ (.head _)) (Nat.le_of_ble_eq_true rfl) ?_; (simp only [Act.put, List.setIfInBounds_toArray, List.set_cons_succ, List.set_cons_zero, List.drop_succ_cons, List.drop_zero, List.take_succ_cons, List.take_zero, Nat.reduceAdd])) | (refine m_loadN rfl _ _ rfl rfl X (.tail _ (.tail _ (.head _))) (Nat.le_of_ble_eq_true rfl) ?_; (simp only [Act.put, List.setIfInBounds_toArray, List.set_cons_succ, List.set_cons_zero, List.drop_succ_cons, List.drop_zero, List.take_succ_cons, List.take_zero, Nat.reduceAdd])) | (refine m_loadN rfl _ _ rfl rfl X (.tail _ (.tail _ (.tail _ (.head _)))) (Nat.le_of_ble_eq_true rfl) ?_; (simp only [Act.put, List.setIfInBounds_toArray, List.set_cons_succ, List.set_cons_zero, List.drop_succ_cons, List.drop_zero, List.take_succ_cons, List.take_zero, Nat.reduceAdd])) | (refine m_loadN rfl _ _ rfl rfl X (.tail _ (.tail _ (.tail _ (.tail _ (.head _))))) (Nat.le_of_ble_eq_true rfl) ?_; (simp only [Act.put, List.setIfInBounds_toArray, List.set_cons_succ, List.set_cons_zero, List.drop_succ_cons, List.drop_zero, List.take_succ_cons, List.take_zero, Nat.reduceAdd])) | (refine m_loadN rfl _ _ rfl rfl X (.tail _ (.tail _ (.tail _ (.tail _ (.tail _ (.head _)))))) (Nat.le_of_ble_eq_true rfl) ?_; (simp only [Act.put, List.setIfInBounds_toArray, List.set_cons_succ, List.set_cons_zero, List.drop_succ_cons, List.drop_zero, List.take_succ_cons, List.take_zero, Nat.reduceAdd])) | (refine m_loadN rfl _ _ rfl rfl X (.tail _ (.tail _ (.tail _ (.tail _ (.tail _ (.tail _ (.head _))))))) (Nat.le_of_ble_eq_true rfl) ?_; (simp only [Act.put, List.setIfInBounds_toArray, List.set_cons_succ, List.set_cons_zero, List.drop_succ_cons, List.drop_zero, List.take_succ_cons, List.take_zero, Nat.reduceAdd])) | (refine m_loadN rfl _ _ rfl rfl X (.tail _ (.tail _ (.tail _ (.tail _ (.tail _ (.tail _ (.tail _ (.head _)))))))) (Nat.le_of_ble_eq_true rfl) ?_; (simp only [Act.put, List.setIfInBounds_toArray, List.set_cons_succ, List.set_cons_zero, List.drop_succ_cons, List.drop_zero, List.take_succ_cons, List.take_zero, Nat.reduceAdd])))) | (refine at_store rfl ?_; (first | (refine at_store1 _ _ _ rfl ?_; (first | (refine m_store1 [] _ rfl _ _ _ rfl rfl (by first | exact EvR.const _ | exact EvR.tmp rfl rfl) X (Nat.le_of_ble_eq_true rfl) rfl rfl ?_; intro w X2; (try simp only [upd, List.nil_append, List.cons_append] at X2); replace X := X2; clear X2; (simp only [Act.put, List.setIfInBounds_toArray, List.set_cons_succ, List.set_cons_zero, List.drop_succ_cons, List.drop_zero, List.take_succ_cons, List.take_zero, Nat.reduceAdd])) | (refine m_store1 [_] _ rfl _ _ _ rfl rfl (by first | exact EvR.const _ | exact EvR.tmp rfl rfl) X (Nat.le_of_ble_eq_true rfl) rfl rfl ?_; intro w X2; (try simp only [upd, List.nil_append, List.cons_append] at X2); replace X := X2; clear X2; (simp only [Act.put, List.setIfInBounds_toArray, List.set_cons_succ, List.set_cons_zero, List.drop_succ_cons, List.drop_zero, List.take_succ_cons, List.take_zero, Nat.reduceAdd])) | (refine m_store1 [_, _] _ rfl _ _ _ rfl rfl (by first | exact EvR.const _ | exact EvR.tmp rfl rfl) X (Nat.le_of_ble_eq_true rfl) rfl rfl ?_; intro w X2; (try simp only [upd, List.nil_append, List.cons_append] at X2); replace X := X2; clear X2; (simp only [Act.put, List.setIfInBounds_toArray, List.set_cons_succ, List.set_cons_zero, List.drop_succ_cons, List.drop_zero, List.take_succ_cons, List.take_zero, Nat.reduceAdd])) | (refine m_store1 [_, _, _] _ rfl _ _ _ rfl rfl (by first | exact EvR.const _ | exact EvR.tmp rfl rfl) X (Nat.le_of_ble_eq_true rfl) rfl rfl ?_; intro w X2; (try simp only [upd, List.nil_append, List.cons_append] at X2); replace X := X2; clear X2; (simp only [Act.put, List.setIfInBounds_toArray, List.set_cons_succ, List.set_cons_zero, List.drop_succ_cons, List.drop_zero, List.take_succ_cons, List.take_zero, Nat.reduceAdd])) | (refine m_store1 [_, _, _, _] _ rfl _ _ _ rfl rfl (by first | exact EvR.const _ | exact EvR.tmp rfl rfl) X (Nat.le_of_ble_eq_true rfl) rfl rfl ?_; intro w X2; (try simp only [upd, List.nil_append, List.cons_append] at X2); replace X := X2; clear X2; (simp only [Act.put, List.setIfInBounds_toArray, List.set_cons_succ, List.set_cons_zero, List.drop_succ_cons, List.drop_zero, List.take_succ_cons, List.take_zero, Nat.reduceAdd])) | (refine m_store1 [_, _, _, _, _] _ rfl _ _ _ rfl rfl (by first | exact EvR.const _ | exact EvR.tmp rfl rfl) X (Nat.le_of_ble_eq_true rfl) rfl rfl ?_; intro w X2; (try simp only [upd, List.nil_append, List.cons_append] at X2); replace X := X2; clear X2; (simp only [Act.put, List.setIfInBounds_toArray, List.set_cons_succ, List.set_cons_zero, List.drop_succ_cons, List.drop_zero, List.take_succ_cons, List.take_zero, Nat.reduceAdd])) | (refine m_store1 [_, _, _, _, _, _] _ rfl _ _ _ rfl rfl (by first | exact EvR.const _ | exact EvR.tmp rfl rfl) X (Nat.le_of_ble_eq_true rfl) rfl rfl ?_; intro w X2; (try simp only [upd, List.nil_append, List.cons_append] at X2); replace X := X2; clear X2; (simp only [Act.put, List.setIfInBounds_toArray, List.set_cons_succ, List.set_cons_zero, List.drop_succ_cons, List.drop_zero, List.take_succ_cons, List.take_zero, Nat.reduceAdd])) | (refine m_store1 [_, _, _, _, _, _, _] _ rfl _ _ _ rfl rfl (by first | exact EvR.const _ | exact EvR.tmp rfl rfl) X (Nat.le_of_ble_eq_true rfl) rfl rfl ?_; intro w X2; (try simp only [upd, List.nil_append, List.cons_append] at X2); replace X := X2; clear X2; (simp only [Act.put, List.setIfInBounds_toArray, List.set_cons_succ, List.set_cons_zero, List.drop_succ_cons, List.drop_zero, List.take_succ_cons, List.take_zero, Nat.reduceAdd])))) | (refine m_storeN [] _ rfl _ _ _ rfl rfl rfl X rfl (Nat.le_of_ble_eq_true rfl) rfl ?_; intro w X2; (try simp only [upd, List.nil_append, List.cons_append] at X2); replace X := X2; clear X2; (simp only [Act.put, List.setIfInBounds_toArray, List.set_cons_succ, List.set_cons_zero, List.drop_succ_cons, List.drop_zero, List.take_succ_cons, List.take_zero, Nat.reduceAdd])) | (refine m_storeN [_] _ rfl _ _ _ rfl rfl rfl X rfl (Nat.le_of_ble_eq_true rfl) rfl ?_; intro w X2; (try simp only [upd, List.nil_append, List.cons_append] at X2); replace X := X2; clear X2; (simp only [Act.put, List.setIfInBounds_toArray, List.set_cons_succ, List.set_cons_zero, List.drop_succ_cons, List.drop_zero, List.take_succ_cons, List.take_zero, Nat.reduceAdd])) | (refine m_storeN [_, _] _ rfl _ _ _ rfl rfl rfl X rfl (Nat.le_of_ble_eq_true rfl) rfl ?_; intro w X2; (try simp only [upd, List.nil_append, List.cons_append] at X2); replace X := X2; clear X2; (simp only [Act.put, List.setIfInBounds_toArray, List.set_cons_succ, List.set_cons_zero, List.drop_succ_cons, List.drop_zero, List.take_succ_cons, List.take_zero, Nat.reduceAdd])) | (refine m_storeN [_, _, _] _ rfl _ _ _ rfl rfl rfl X rfl (Nat.le_of_ble_eq_true rfl) rfl ?_; intro w X2; (try simp only [upd, List.nil_append, List.cons_append] at X2); replace X := X2; clear X2; (simp only [Act.put, List.setIfInBounds_toArray, List.set_cons_succ, List.set_cons_zero, List.drop_succ_cons, List.drop_zero, List.take_succ_cons, List.take_zero, Nat.reduceAdd])) | (refine m_storeN [_, _, _, _] _ rfl _ _ _ rfl rfl rfl X rfl (Nat.le_of_ble_eq_true rfl) rfl ?_; intro w X2; (try simp only [upd, List.nil_append, List.cons_append] at X2); replace X := X2; clear X2; (simp only [Act.put, List.setIfInBounds_toArray, List.set_cons_succ, List.set_cons_zero, List.drop_succ_cons, List.drop_zero, List.take_succ_cons, List.take_zero, Nat.reduceAdd])) | (refine m_storeN [_, _, _, _, _] _ rfl _ _ _ rfl rfl rfl X rfl (Nat.le_of_ble_eq_true rfl) rfl ?_; intro w X2; (try simp only [upd, List.nil_append, List.cons_append] at X2); replace X := X2; clear X2; (simp only [Act.put, List.setIfInBounds_toArray, List.set_cons_succ, List.set_cons_zero, List.drop_succ_cons, List.drop_zero, List.take_succ_cons, List.take_zero, Nat.reduceAdd])) | (refine m_storeN [_, _, _, _, _, _] _ rfl _ _ _ rfl rfl rfl X rfl (Nat.le_of_ble_eq_true rfl) rfl ?_; intro w X2; (try simp only [upd, List.nil_append, List.cons_append] at X2); replace X := X2; clear X2; (simp only [Act.put, List.setIfInBounds_toArray, List.set_cons_succ, List.set_cons_zero, List.drop_succ_cons, List.drop_zero, List.take_succ_cons, List.take_zero, Nat.reduceAdd])) | (refine m_storeN [_, _, _, _, _, _, _] _ rfl _ _ _ rfl rfl rfl X rfl (Nat.le_of_ble_eq_true rfl) rfl ?_; intro w X2; (try simp only [upd, List.nil_append, List.cons_append] at X2); replace X := X2; clear X2; (simp only [Act.put, List.setIfInBounds_toArray, List.set_cons_succ, List.set_cons_zero, List.drop_succ_cons, List.drop_zero, List.take_succ_cons, List.take_zero, Nat.reduceAdd])))) | (first | (refine m_alloc rfl _ rfl X ?_; intro g w X2; (try simp only [upd, List.nil_append, List.cons_append] at X2); replace X := X2; clear X2; (simp only [Act.put, List.setIfInBounds_toArray, List.set_cons_succ, List.set_cons_zero, List.drop_succ_cons, List.drop_zero, List.take_succ_cons, List.take_zero, Nat.reduceAdd])) | (refine m_box rfl _ _ rfl (by first | exact EvR.const _ | exact EvR.tmp rfl rfl) rfl X ?_; intro g w X2; (try simp only [upd, List.nil_append, List.cons_append] at X2); replace X := X2; clear X2; (simp only [Act.put, List.setIfInBounds_toArray, List.set_cons_succ, List.set_cons_zero, List.drop_succ_cons, List.drop_zero, List.take_succ_cons, List.take_zero, Nat.reduceAdd])))))
    | (go_at_call 42; go_loud ((with_reducible refine (hOp.out).mono ?_); rintro e w1 ⟨rfl, hb1⟩; replace X := X.call hb1; clear hb1)))
  go_ret
  exact ⟨rfl, X.below⟩
end Go.Proofs.Ytjhmfljlclajnac

namespace Wb
open Go Go.RowKit
set_option linter.unusedVariables false
set_option linter.unusedSimpArgs false
section
variable {P : Program} {ops : Array Oper} {Q : Exit → Act → World → Prop} {md : Region.Mode} {S : World → Prop} {brk eff lds : List Nat}
/-- The same exits, another end. -/
def endE (Q : Exit → Act → World → Prop) (E : Act → World → Prop) : Exit → Act → World → Prop
  | .normal => E
  | e => Q e
theorem wpOp_congQ {Q' : Exit → Act → World → Prop} {i : Nat} {K : Act → World → Prop} {a : Act} {w : World} (hp : ∀ c, Q (.panic c) = Q' (.panic c)) (ho : Q .outgrown = Q' .outgrown) (h : wpOp P ops Q i K a w) : wpOp P ops Q' i K a w := by
  have hl : LetsOut Q = LetsOut Q' := by unfold LetsOut; rw [ho]
  unfold wpOp at *
  split
  · simpa [*] using h
  · rename_i o hoi
    simp only [hoi] at h
    split
    · rename_i hw
      simp only [hw, if_true] at h
      refine h.imp (fun h => ?_) (fun h => ⟨h.1, hl ▸ h.2⟩)
      unfold Oper.wp at *
      generalize (execOp a.eval o).run P w = r at *
      cases r with
      | ok n w' =>
        cases n <;> simp only [Oper.upon] at h ⊢ <;> first | exact h | exact Calls.mono h (fun e w'' he => by cases e <;> first | exact he | (simp only [← hp]; exact he) | (simp only [← hl]; exact he))
      | halt x w' => cases x <;> simp only [Oper.upon] at h ⊢ <;> first | exact h | (rw [← hp]; exact h)
    · rename_i hw; simp only [hw] at h; exact h
def marks (x : Array Bool) : List Nat → Array Bool
  | [] => x
  | i :: r => marks (x.setIfInBounds i true) r
/-- A beginning of an order. -/
def begOk (md : Region.Mode) (ops : Array Oper) (brk eff lds : List Nat) : Array Bool → List Nat → Bool
  | _, [] => true
  | x, i :: r => (if eff.contains i = true then Region.ready md ops x == [i] else (Region.ready md ops x).contains i && Region.free md ops x i && (!lds.contains i || brk.all (fun b => waitB md ops b i))) && begOk md ops brk eff lds (x.setIfInBounds i true) r
theorem Seq.anyE {E : Act → World → Prop} (hs : Region.noSelect ops = true) (n : Nat) : ∀ (r : List Nat) (x : Array Bool) (a : Act) (w : World), begOk md ops brk eff lds x r = true → Seq P ops (endE Q E) S brk eff lds r a w → (∀ b v, E b v → AnyS P md ops Q S brk n (marks x r) b v) → AnyS P md ops Q S brk (r.length + n) x a w
  | [], x, a, w, _, h, hE => by rw [List.length_nil, Nat.zero_add]; exact hE a w h
  | i :: r, x, a, w, hk, h, hE => by
    unfold begOk at hk
    rw [Bool.and_eq_true] at hk
    obtain ⟨h1, h2⟩ := hk
    unfold Seq at h
    rw [List.length_cons, Nat.add_right_comm]
    split at h
    · rename_i he
      rw [if_pos he] at h1
      have hr : Region.ready md ops x = [i] := by simpa using h1
      refine ⟨fun e => (by rw [hr] at e; cases e), fun j hj => ?_⟩
      rw [hr] at hj
      obtain rfl : j = i := by simpa using hj
      exact wpOp_mono (fun b v hh => ⟨hh.1, Seq.anyE hs n r _ b v h2 hh.2 hE⟩) (wpOp_congQ (Q := endE Q E) (Q' := Q) (fun _ => rfl) rfl h)
    · rename_i he
      rw [if_neg he, Bool.and_eq_true, Bool.and_eq_true] at h1
      obtain ⟨⟨h3, h4⟩, h5⟩ := h1
      split at h
      · rename_i hl
        rw [hl, Bool.not_true, Bool.false_or] at h5
        obtain ⟨o, v, hi, hy, hS, hQ, hn⟩ := h
        exact AnyS.take (Q := Q) hi (Region.noSelect_spec hs) hQ (.inl ⟨rfl, h5⟩) (r.length + n) x a w (fun j oj hj hne hun hno => Region.free_spec hi h4 j oj hj hne hun hno) (by simpa using h3) hy hS (Seq.anyE hs n r _ _ _ h2 hn hE)
      · obtain ⟨o, v, hi, hy, hQ, hn⟩ := h
        exact AnyS.take (Q := Q) hi (Region.noSelect_spec hs) hQ (.inr fun _ => trivial) (r.length + n) x a w (fun j oj hj hne hun hno => Region.free_spec hi h4 j oj hj hne hun hno) (by simpa using h3) hy trivial (Seq.anyE hs n r _ _ _ h2 hn hE)
/-- An order, as a tree: where two effects may come, both ways. -/
inductive Tr where
  | fin (p : List Nat)
  | fork (p : List Nat) (t u : Tr)
def Tr.len : Tr → Nat
  | .fin p => p.length
  | .fork p t _ => p.length + t.len
def Tr.head : Tr → Option Nat
  | .fin p => p.head?
  | .fork p _ _ => p.head?
def SeqT (P : Program) (ops : Array Oper) (Q : Exit → Act → World → Prop) (S : World → Prop) (brk eff lds : List Nat) : Tr → Act → World → Prop
  | .fin p, a, w => Seq P ops Q S brk eff lds p a w
  | .fork p t u, a, w => Seq P ops (endE Q fun a w => SeqT P ops Q S brk eff lds t a w ∧ SeqT P ops Q S brk eff lds u a w) S brk eff lds p a w
/-- A beginning whose first is an effect that has been told to be one of those that are ready. -/
def hdOk (md : Region.Mode) (ops : Array Oper) (brk eff lds : List Nat) (x : Array Bool) : List Nat → Bool
  | [] => false
  | i :: r => eff.contains i && begOk md ops brk eff lds (x.setIfInBounds i true) r
def trOk (md : Region.Mode) (ops : Array Oper) (brk eff lds : List Nat) : Bool → Array Bool → Tr → Bool
  | hd, x, .fin p => (if hd then hdOk md ops brk eff lds x p else begOk md ops brk eff lds x p) && (Region.ready md ops (marks x p)).isEmpty
  | hd, x, .fork p t u => (if hd then hdOk md ops brk eff lds x p else begOk md ops brk eff lds x p) &&
      ((t.head.toList ++ u.head.toList) == Region.ready md ops (marks x p) && (t.len == u.len && (trOk md ops brk eff lds true (marks x p) t && trOk md ops brk eff lds true (marks x p) u)))
/-- What is shown of a tree: all its orders; or of what begins with its head. -/
def Shows (P : Program) (md : Region.Mode) (ops : Array Oper) (Q : Exit → Act → World → Prop) (S : World → Prop) (brk : List Nat) (hd : Bool) (n : Nat) (h : Option Nat) (x : Array Bool) (a : Act) (w : World) : Prop :=
  if hd then ∃ i m, h = some i ∧ n = m + 1 ∧ wpOp P ops Q i (fun b v => (brk.contains i = false → S w → S v) ∧ AnyS P md ops Q S brk m (x.setIfInBounds i true) b v) a w else AnyS P md ops Q S brk n x a w
theorem Seq.shows {E : Act → World → Prop} (hs : Region.noSelect ops = true) (hd : Bool) (n : Nat) (p : List Nat) (x : Array Bool) (a : Act) (w : World)
    (hk : (if hd then hdOk md ops brk eff lds x p else begOk md ops brk eff lds x p) = true) (h : Seq P ops (endE Q E) S brk eff lds p a w) (hE : ∀ b v, E b v → AnyS P md ops Q S brk n (marks x p) b v) :
    Shows P md ops Q S brk hd (p.length + n) p.head? x a w := by
  unfold Shows
  cases hd with
  | false => exact Seq.anyE hs n p x a w hk h hE
  | true =>
    cases p with
    | nil => cases hk
    | cons i r =>
      simp only [if_true] at hk ⊢
      unfold hdOk at hk
      rw [Bool.and_eq_true] at hk
      unfold Seq at h
      rw [if_pos hk.1] at h
      exact ⟨i, r.length + n, rfl, by rw [List.length_cons]; omega, wpOp_mono (fun b v hh => ⟨hh.1, Seq.anyE hs n r _ b v hk.2 hh.2 hE⟩) (wpOp_congQ (Q := endE Q E) (Q' := Q) (fun _ => rfl) rfl h)⟩
theorem endE_self : endE Q (Q .normal) = Q := by funext e; cases e <;> rfl
theorem SeqT.shows (hs : Region.noSelect ops = true) : ∀ (t : Tr) (hd : Bool) (x : Array Bool) (a : Act) (w : World), trOk md ops brk eff lds hd x t = true → SeqT P ops Q S brk eff lds t a w → Shows P md ops Q S brk hd t.len t.head x a w
  | .fin p, hd, x, a, w, hk, h => by
    unfold trOk at hk
    rw [Bool.and_eq_true] at hk
    unfold SeqT at h
    rw [← endE_self (Q := Q)] at h
    exact Seq.shows hs hd 0 p x a w hk.1 h fun b v hb => ⟨List.isEmpty_iff.1 hk.2, hb⟩
  | .fork p t u, hd, x, a, w, hk, h => by
    unfold trOk at hk
    rw [Bool.and_eq_true, Bool.and_eq_true, Bool.and_eq_true, Bool.and_eq_true] at hk
    obtain ⟨h1, h2, h3, h4, h5⟩ := hk
    unfold SeqT at h
    refine Seq.shows hs hd t.len p x a w h1 h fun b v hb => ?_
    have ht := SeqT.shows hs t true _ b v h4 hb.1
    have hu := SeqT.shows hs u true _ b v h5 hb.2
    unfold Shows at ht hu
    rw [if_pos rfl] at ht hu
    obtain ⟨i, m, hi, hm, hwi⟩ := ht
    obtain ⟨j, k, hj, hk, hwj⟩ := hu
    have h6 : t.len = u.len := by simpa using h3
    obtain rfl : m = k := by omega
    rw [hi, hj] at h2
    have hr : Region.ready md ops (marks x p) = [i, j] := (show [i, j] = Region.ready md ops (marks x p) from beq_iff_eq.1 h2).symm
    rw [hm]
    refine ⟨fun e => (by rw [hr] at e; cases e), fun l hl => ?_⟩
    rw [hr] at hl
    rcases List.mem_cons.1 hl with rfl | hl
    · exact hwi
    · obtain rfl : l = j := by simpa using hl
      exact hwj
end
section
variable {P : Program} {ops : Array Oper} {Q : Exit → Act → World → Prop} {L0 : List Ent} {brk eff lds : List Nat} {i : Nat} {r : List Nat} {o : Oper} {a : Act} {S : List Nat} {w0 w : World} {L : List Ent} {R : List Rd}
abbrev SQT (P : Program) (ops : Array Oper) (Q : Exit → Act → World → Prop) (L0 : List Ent) (brk eff lds : List Nat) : Tr → Act → World → Prop := SeqT P ops Q (Kept L0) brk eff lds
/-- THE BEGINNING of a tree. -/
theorem q_tree {id : Nat} (k : Nat) (brk eff lds : List Nat) (t : Tr) (X : St S w0 w L R) (hm : P.follows .mixedOrders = true) (hs : (Region.noSelect ops && (t.len == ops.size && trOk .any ops brk eff lds false (Array.replicate ops.size false) t)) = true) (hQ : NoLook Q)
    (h : NoLook Q → St S w0 w.drew L R → (L.take k).Sublist L → SQT P ops Q (L.take k) brk eff lds t a w.drew) : (Code.region id ops true).wp P Q a w := by
  rw [Bool.and_eq_true, Bool.and_eq_true] at hs
  obtain ⟨h1, h2, h3⟩ := hs
  have := SeqT.shows h1 t false _ a _ h3 (h hQ X.drew (List.take_sublist _ _))
  unfold Shows at this
  rw [if_neg (by decide), show t.len = ops.size by simpa using h2] at this
  exact wp_region_any hm (AnyS.any _ _ _ _ this)
theorem NoLook.endE (h : NoLook Q) (E : Act → World → Prop) : NoLook (endE Q E) := h
theorem t_fork {p : List Nat} {t u : Tr} (h : NoLook Q → SQ P ops (endE Q fun a w => SQT P ops Q L0 brk eff lds t a w ∧ SQT P ops Q L0 brk eff lds u a w) L0 brk eff lds p a w) (hQ : NoLook Q) : SQT P ops Q L0 brk eff lds (.fork p t u) a w := h hQ
theorem t_fin {p : List Nat} (h : SQ P ops Q L0 brk eff lds p a w) : SQT P ops Q L0 brk eff lds (.fin p) a w := h
theorem t_two {A B : Act → World → Prop} (h1 : A a w) (h2 : B a w) : SQ P ops (endE Q fun a w => A a w ∧ B a w) L0 brk eff lds [] a w := ⟨h1, h2⟩
/-- A store past what is kept. -/
theorem q_put1 (A B : List Ent) {x y : Operand} {T : TypeId} {g n : Nat} {cs : List Value} {t : TypeId} (hi : oAt ops i = some o) (ho : o.op = .store T x y) (hx : EvR a x (.pointer (some ⟨g, n, none⟩))) [OneT P T] {v : Value} (hy : EvR a y v)
    (X : St S w0 w (A ++ ⟨g, cs, t⟩ :: B) R) (hn : n < cs.length) (h1 : v.oneCell' = true) (hc : v.cells = #[v]) (he : eff.contains i = true) (hw : Region.wanted o (yielded ops a.tmps) = true) (hL : L0.Sublist (A ++ B))
    (h : ∀ w', St S w0 w' (A ++ ⟨g, upd n [v] cs, t⟩ :: B) R → L0.Sublist (A ++ ⟨g, upd n [v] cs, t⟩ :: B) → SQ P ops Q L0 brk eff lds r (a.put o.dst undef) w') : SQ P ops Q L0 brk eff lds (i :: r) a w :=
  q_store1 A B hi ho hx hy X hn h1 hc he hw fun w' X2 => by
    have h3 : L0.Sublist (A ++ ⟨g, upd n [v] cs, t⟩ :: B) := hL.trans (List.Sublist.append_left (List.sublist_cons_self _ _) _)
    exact ⟨fun _ _ => X2.keeps h3, h w' X2 h3⟩
theorem q_putN (A B : List Ent) {x y : Operand} {T : TypeId} {g n m : Nat} {cs : List Value} {t : TypeId} (hi : oAt ops i = some o) (ho : o.op = .store T x y) (hx : EvR a x (.pointer (some ⟨g, n, none⟩))) [hT : AggT P T m] {vs : List Value} (hy : a.eval y = .agg vs.toArray)
    (X : St S w0 w (A ++ ⟨g, cs, t⟩ :: B) R) (hm : vs.length = m) (hn : n + vs.length ≤ cs.length) (h1 : vs.all (·.oneCell') = true) (he : eff.contains i = true) (hw : Region.wanted o (yielded ops a.tmps) = true) (hL : L0.Sublist (A ++ B))
    (h : ∀ w', St S w0 w' (A ++ ⟨g, upd n vs cs, t⟩ :: B) R → L0.Sublist (A ++ ⟨g, upd n vs cs, t⟩ :: B) → SQ P ops Q L0 brk eff lds r (a.put o.dst undef) w') : SQ P ops Q L0 brk eff lds (i :: r) a w :=
  q_storeN A B hi ho hx hy X hm hn h1 he hw fun w' X2 => by
    have h3 : L0.Sublist (A ++ ⟨g, upd n vs cs, t⟩ :: B) := hL.trans (List.Sublist.append_left (List.sublist_cons_self _ _) _)
    exact ⟨fun _ _ => X2.keeps h3, h w' X2 h3⟩
end
end Wb

namespace Wb
open Go Go.RowKit
theorem getH_setH {t : Txn} {h : Int} (hh : 0 ≤ h ∧ h ≤ 2) (x : Hnd) : getH (setH t h x) h = x := by
  obtain (rfl | rfl | rfl) : h = 0 ∨ h = 1 ∨ h = 2 := by omega
  all_goals rfl
theorem getH_lists (t : Txn) (h : Int) (m d : List Cpy) (r : List Int) : getH { t with mt := m, dt := d, rev := r } h = getH t h := rfl
theorem payU_on {t : Txn} {h b : Int} (hh : 0 ≤ h ∧ h ≤ 2) (k : Int) (hk : k = h) : (getH (payU t h b) k).on = (getH t k).on := by
  subst hk
  unfold payU payT
  split
  · split
    · rw [getH_setH hh]
    · rfl
  · rfl
/-- Behind a change: what holds of the transaction it leaves. -/
theorem chg_after {t : Txn} {h b : Int} {s : ByteArray} (e : chgE t h b s = 0) :
    mayE (chgT t h b s) h b = 0 ∧ getC (chgT t h b s).mt b = some s ∧ hasB (chgT t h b s).mt b = true ∧ hasB (chgT t h b s).dt b = false ∧ inI (chgT t h b s).rev b = false := by
  obtain ⟨hm, hs, hd, hp⟩ := chgE_zero e
  obtain ⟨hgt, hh, ho, hb⟩ := may_zero hm
  have hg := goodT_of.1 hgt
  have g2 := chg_good (h := h) (b := b) (s := s) hgt
  obtain ⟨_, eT⟩ := chg_ok hm hs hd hp
  obtain ⟨_, _, pd, _⟩ := payU_same t h b
  have hget : getC (putL t.mt b s) b = some s := by rw [put_get b s hg.mt b, if_pos rfl]
  refine ⟨?_, ?_, ?_, ?_, ?_⟩
  · refine may_ok g2 hh ?_ hb
    rw [eT]
    show (getH (payU t h b) h).on = true
    rw [payU_on hh h rfl]; exact ho
  · rw [eT]; exact hget
  · rw [eT]
    show hasB (putL t.mt b s) b = true
    exact hasB_iff.2 ⟨⟨b, s⟩, (put_mem b s hg.mt _).2 (.inl rfl), rfl⟩
  · rw [eT]; show hasB (payU t h b).dt b = false; rw [pd]; exact hd
  · rw [eT]; show inI (offI t.rev b) b = false; rw [off_in]; simp
theorem getC_drop (l : List Cpy) (b : Int) : getC (dropC l b) b = none := by
  unfold getC dropC
  rw [Option.map_eq_none_iff, List.find?_eq_none]
  intro c hc
  have := (List.mem_filter.1 hc).2
  simpa using this
/-- The law's facts. -/
theorem last_facts {t : Txn} {h b : Int} {s u : ByteArray} (hu : u.size = 32) (e : chgE t h b s = 0) :
    getC (chgT t h b s).mt b = some s ∧ chgE (chgT t h b s) h b u = 0 ∧ getC (chgT (chgT t h b s) h b u).mt b = some u ∧ askedI (chgT (chgT t h b s) h b u) = askedI (chgT t h b s) ∧
    filE (chgT t h b s) h b u = 8 ∧ rvkE (chgT t h b s) h b = 0 ∧ getC (rvkT (chgT t h b s) h b).mt b = none ∧ askedI (rvkT (chgT t h b s) h b) = askedI (chgT t h b s) := by
  obtain ⟨h1, h2, h3, h4, h5⟩ := chg_after e
  obtain ⟨hm, hs, hd, hp⟩ := chgE_zero e
  have hgt := (may_zero hm).1
  have g2 := chg_good (h := h) (b := b) (s := s) hgt
  generalize chgT t h b s = x at *
  have how : owed x b = false := by unfold owed; rw [h3]; rfl
  have hp0 : payE x h b = 0 := by unfold payE; rw [how]; simp
  obtain ⟨e1, _⟩ := chg_ok (s := u) h1 hu h4 hp0
  obtain ⟨e2, eV⟩ := rvk_ok h1 h5 hp0
  refine ⟨h2, e1, (chg_after e1).2.1, ?_, ?_, e2, ?_, ?_⟩
  · rw [asked_ask (chg_good g2), asked_ask g2, chg_ask g2]
  · exact (fil_role h1 hu (by rw [h3]; rfl)).1
  · rw [eV]; exact getC_drop _ _
  · rw [asked_ask (rvk_good g2), asked_ask g2, rvk_ask g2]
end Wb

namespace Wb
open Go Go.RowKit
theorem chgT_len {t : Txn} {h b : Int} {s : ByteArray} (h1 : t.mt.length ≤ 5864062014805) (h2 : t.dt.length ≤ 5864062014805) (h3 : t.rev.length ≤ 17592186044160) : (chgT t h b s).mt.length ≤ 5864062014805 ∧ (chgT t h b s).dt.length ≤ 5864062014805 ∧ (chgT t h b s).rev.length ≤ 17592186044160 := by
  by_cases e : chgE t h b s = 0
  · have hg : GoodT (chgT t h b s) := goodT_of.1 (chg_good (may_zero (by by_cases hm : mayE t h b = 0; exact hm; rw [(chg_may (s := s) hm).1] at e; exact e)).1)
    obtain ⟨a, b, c⟩ := lens hg
    exact ⟨by omega, by omega, by omega⟩
  · have : chgT t h b s = t := by unfold chgT; rw [if_neg e]
    rw [this]; exact ⟨h1, h2, h3⟩
theorem filT_len {t : Txn} {h b : Int} {s : ByteArray} (h1 : t.mt.length ≤ 5864062014805) (h2 : t.dt.length ≤ 5864062014805) (h3 : t.rev.length ≤ 17592186044160) : (filT t h b s).mt.length ≤ 5864062014805 ∧ (filT t h b s).dt.length ≤ 5864062014805 ∧ (filT t h b s).rev.length ≤ 17592186044160 := by
  by_cases e : filE t h b s = 0
  · have hg : GoodT (filT t h b s) := goodT_of.1 (fil_good (may_zero (by by_cases hm : mayE t h b = 0; exact hm; rw [(fil_may (s := s) hm).1] at e; exact e)).1)
    obtain ⟨a, b, c⟩ := lens hg
    exact ⟨by omega, by omega, by omega⟩
  · have : filT t h b s = t := by unfold filT; rw [if_neg e]
    rw [this]; exact ⟨h1, h2, h3⟩
theorem rvkT_len {t : Txn} {h b : Int} (h1 : t.mt.length ≤ 5864062014805) (h2 : t.dt.length ≤ 5864062014805) (h3 : t.rev.length ≤ 17592186044160) : (rvkT t h b).mt.length ≤ 5864062014805 ∧ (rvkT t h b).dt.length ≤ 5864062014805 ∧ (rvkT t h b).rev.length ≤ 17592186044160 := by
  by_cases e : rvkE t h b = 0
  · have hg : GoodT (rvkT t h b) := goodT_of.1 (rvk_good (may_zero (by by_cases hm : mayE t h b = 0; exact hm; rw [(rvk_may hm).1] at e; exact e)).1)
    obtain ⟨a, b, c⟩ := lens hg
    exact ⟨by omega, by omega, by omega⟩
  · have : rvkT t h b = t := by unfold rvkT; rw [if_neg e]
    rw [this]; exact ⟨h1, h2, h3⟩
end Wb
