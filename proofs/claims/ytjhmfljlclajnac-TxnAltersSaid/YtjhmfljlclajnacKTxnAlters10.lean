/- The walks of the reference's Alter. (gen_alter.py) -/
import Derived.Test.YtjhmfljlclajnacKTxnAlters6
import Derived.Test.YtjhmfljlclajnacKTxnAlters7
import Derived.Test.YtjhmfljlclajnacKTxnAlters9
namespace Wb
open Go Go.RowKit
/-- Altered: the transaction t', in lists of the call's own. -/
def AltOk (w : World) (t' : Txn) (e : Ending) (w' : World) : Prop := ∃ vm vd vr, e = .returned (.tuple #[txnV t' vm vd vr, .int .i64 0]) ∧ (RL cpyC w' vm t'.mt ∧ ∀ b, vblk vm = some b → w.heap.size ≤ b) ∧ (RL cpyC w' vd t'.dt ∧ ∀ b, vblk vd = some b → w.heap.size ≤ b) ∧ (RL intC w' vr t'.rev ∧ ∀ b, vblk vr = some b → w.heap.size ≤ b) ∧ Below w.heap.size w w'
theorem St.gs3 {S : List Nat} {w0 w : World} {a b c : Nat} {ca cb cc : List Value} {ta tb tc : TypeId} {L : List Ent} {R : List Rd} (_ : St S w0 w (⟨a, ca, ta⟩ :: ⟨b, cb, tb⟩ :: ⟨c, cc, tc⟩ :: L) R) : ∃ x y z, x = a ∧ y = b ∧ z = c := ⟨_, _, _, rfl, rfl, rfl⟩
end Wb
namespace Go.Proofs.Ytjhmfljlclajnac
open Go.RowKit Wb
set_option linter.unusedVariables false
set_option linter.unusedSimpArgs false
set_option maxRecDepth 100000
set_option maxHeartbeats 8000000

theorem ref_Alter_bad (K : Int) {q0 : Bool} {q1 q2 q3 : Bool} (h : Int) (seq : Int) (mt dt : List Cpy) (rev : List Int) (o0 o1 o2 : Bool) (x0 x1 x2 : Int) (am ad ar : Option Addr) (cm cd cr : Nat) (b : Int) (s : ByteArray) (w0 : World) (hm : RL cpyC w0 (.slice am mt.length cm) mt) (hd : RL cpyC w0 (.slice ad dt.length cd) dt) (hr : RL intC w0 (.slice ar rev.length cr) rev) (n1 : mt.length ≤ 5864062014805) (n2 : dt.length ≤ 5864062014805) (n3 : rev.length ≤ 17592186044160) (hgt : goodT ⟨seq, mt, dt, rev, ⟨o0, x0⟩, ⟨o1, x1⟩, ⟨o2, x2⟩⟩ = false) (hblk : isBlk b = q0) (hqm : hasB mt b = q1) (hqd : hasB dt b = q2) (hqr : inI rev b = q3) :
    Calls Try.prog 8 #[.int .i64 K, .agg #[.int .i64 seq, .slice am mt.length cm, .slice ad dt.length cd, .slice ar rev.length cr, .bool o0, .int .i64 x0, .bool o1, .int .i64 x1, .bool o2, .int .i64 x2], .int .i64 h, .int .i64 b, .string s] w0 fun e w' => e = .returned (.tuple #[.agg #[.int .i64 seq, .slice am mt.length cm, .slice ad dt.length cd, .slice ar rev.length cr, .bool o0, .int .i64 x0, .bool o1, .int .i64 x1, .bool o2, .int .i64 x2], .int .i64 2]) ∧ Below w0.heap.size w0 w' := by
  have hT : RTxn w0 (txnV ⟨seq, mt, dt, rev, ⟨o0, x0⟩, ⟨o1, x1⟩, ⟨o2, x2⟩⟩ (.slice am mt.length cm) (.slice ad dt.length cd) (.slice ar rev.length cr)) ⟨seq, mt, dt, rev, ⟨o0, x0⟩, ⟨o1, x1⟩, ⟨o2, x2⟩⟩ := ⟨_, _, _, rfl, hm, hd, hr, by dsimp only; omega, by dsimp only; omega, by dsimp only; omega⟩
  have hCp := hid (fun w' (hb : Below w0.heap.size w0 w') => ref_CopyTxn _ _ w' (hT.below hb))
  have hGd := fun w' (hb : Below w0.heap.size w0 w') => ref_GoodTxn _ _ w' (hT.below hb)
  rw [hgt] at hGd
  replace hGd := hid hGd
  have hBk := hid (by simpa only [hblk] using (fun w' => ref_isBlock b w'))
  have hInM := hid (by simpa only [hqm] using (fun w' (hb : Below w0.heap.size w0 w') => ref_in mt b _ w' (hm.below hb) (by omega)))
  have hInD := hid (by simpa only [hqd] using (fun w' (hb : Below w0.heap.size w0 w') => ref_in dt b _ w' (hd.below hb) (by omega)))
  have hAm := hid (fun x w' (hb : Below w0.heap.size w0 w') => ref_among rev x _ w' (hr.below hb) (by omega))
  have hAb := hid (by simpa only [hqr] using (fun w' (hb : Below w0.heap.size w0 w') => ref_among rev b _ w' (hr.below hb) (by omega)))
  have hWm := hid (fun w' (hb : Below w0.heap.size w0 w') => ref_with mt b s _ w' (hm.below hb) (by omega))
  have hWd := hid (fun w' (hb : Below w0.heap.size w0 w') => ref_with dt b s _ w' (hd.below hb) (by omega))
  simp only [txnV] at hCp hGd
  replace hqm := hid hqm; replace hqd := hid hqd; replace hqr := hid hqr
  clear hT hm hd hr hgt
  have X := St.start [] w0
  go_enter Try.func8, Try.ntmps8
  go_wp2_with (first
    | (refine at_mem rfl ?_; (first | (refine at_load rfl ?_; (first | (refine c_load1 rfl _ _ rfl rfl X (by repeat (first | exact ReadA.here rfl | apply ReadA.there)) ?_) | (refine c_loadN rfl _ _ rfl rfl X (by repeat (first | exact ReadB.here (Nat.le_of_ble_eq_true rfl) | apply ReadB.there)) ?_))) | (refine at_store rfl ?_; (first | (refine c_store1 rfl _ _ _ rfl rfl (by first | exact EvR.const _ | exact EvR.tmp rfl rfl) X rfl rfl (by repeat (first | exact PutA.here (Nat.le_of_ble_eq_true rfl) | apply PutA.there)) ?_; intro w X2; (try simp only [upd] at X2); replace X := X2; clear X2) | (refine c_storeN rfl _ _ _ rfl rfl rfl X rfl rfl (by repeat (first | exact PutA.here (Nat.le_of_ble_eq_true rfl) | apply PutA.there)) ?_; intro w X2; (try simp only [upd] at X2); replace X := X2; clear X2))) | (refine m_alloc rfl _ rfl X ?_; intro g w X2; (replace X := X2; clear X2)) | (refine m_box rfl _ _ rfl (by first | exact EvR.const _ | exact EvR.tmp rfl rfl) rfl X ?_; intro g w X2; (replace X := X2; clear X2))); (simp only [Act.put, List.setIfInBounds_toArray, List.set_cons_succ, List.set_cons_zero, List.drop_succ_cons, List.drop_zero, List.take_succ_cons, List.take_zero, Nat.reduceAdd]))
    | (go_at_call 30; go_loud ((with_reducible refine (hGd.out _ X.below).mono ?_); rintro e w1 ⟨rfl, hb1⟩; replace X := X.call hb1; clear hb1))
    | (go_at_call 31; go_loud ((with_reducible refine (hBk.out _).mono ?_); rintro e w1 ⟨rfl, rfl⟩)))
  first | exact m_ret2 rfl (.tmp rfl rfl) (.tmp rfl rfl) X (.head _) rfl rfl ⟨rfl, X.below⟩ | exact m_ret2 rfl (.tmp rfl rfl) (.tmp rfl rfl) X (.tail _ (.head _)) rfl rfl ⟨rfl, X.below⟩

theorem ref_Alter_low (K : Int) {q0 : Bool} {q1 q2 q3 : Bool} (h : Int) (seq : Int) (mt dt : List Cpy) (rev : List Int) (o0 o1 o2 : Bool) (x0 x1 x2 : Int) (am ad ar : Option Addr) (cm cd cr : Nat) (b : Int) (s : ByteArray) (w0 : World) (hm : RL cpyC w0 (.slice am mt.length cm) mt) (hd : RL cpyC w0 (.slice ad dt.length cd) dt) (hr : RL intC w0 (.slice ar rev.length cr) rev) (n1 : mt.length ≤ 12) (n2 : dt.length ≤ 12) (n3 : rev.length ≤ 12) (hgt : goodT ⟨seq, mt, dt, rev, ⟨o0, x0⟩, ⟨o1, x1⟩, ⟨o2, x2⟩⟩ = true) (hblk : isBlk b = q0) (hqm : hasB mt b = q1) (hqd : hasB dt b = q2) (hqr : inI rev b = q3) (hh : h < 0) :
    Calls Try.prog 8 #[.int .i64 K, .agg #[.int .i64 seq, .slice am mt.length cm, .slice ad dt.length cd, .slice ar rev.length cr, .bool o0, .int .i64 x0, .bool o1, .int .i64 x1, .bool o2, .int .i64 x2], .int .i64 h, .int .i64 b, .string s] w0 fun e w' => e = .returned (.tuple #[.agg #[.int .i64 seq, .slice am mt.length cm, .slice ad dt.length cd, .slice ar rev.length cr, .bool o0, .int .i64 x0, .bool o1, .int .i64 x1, .bool o2, .int .i64 x2], .int .i64 4]) ∧ Below w0.heap.size w0 w' := by
  have hT : RTxn w0 (txnV ⟨seq, mt, dt, rev, ⟨o0, x0⟩, ⟨o1, x1⟩, ⟨o2, x2⟩⟩ (.slice am mt.length cm) (.slice ad dt.length cd) (.slice ar rev.length cr)) ⟨seq, mt, dt, rev, ⟨o0, x0⟩, ⟨o1, x1⟩, ⟨o2, x2⟩⟩ := ⟨_, _, _, rfl, hm, hd, hr, by dsimp only; omega, by dsimp only; omega, by dsimp only; omega⟩
  have hCp := hid (fun w' (hb : Below w0.heap.size w0 w') => ref_CopyTxn _ _ w' (hT.below hb))
  have hGd := fun w' (hb : Below w0.heap.size w0 w') => ref_GoodTxn _ _ w' (hT.below hb)
  rw [hgt] at hGd
  replace hGd := hid hGd
  have hBk := hid (by simpa only [hblk] using (fun w' => ref_isBlock b w'))
  have hInM := hid (by simpa only [hqm] using (fun w' (hb : Below w0.heap.size w0 w') => ref_in mt b _ w' (hm.below hb) (by omega)))
  have hInD := hid (by simpa only [hqd] using (fun w' (hb : Below w0.heap.size w0 w') => ref_in dt b _ w' (hd.below hb) (by omega)))
  have hAm := hid (fun x w' (hb : Below w0.heap.size w0 w') => ref_among rev x _ w' (hr.below hb) (by omega))
  have hAb := hid (by simpa only [hqr] using (fun w' (hb : Below w0.heap.size w0 w') => ref_among rev b _ w' (hr.below hb) (by omega)))
  have hWm := hid (fun w' (hb : Below w0.heap.size w0 w') => ref_with mt b s _ w' (hm.below hb) (by omega))
  have hWd := hid (fun w' (hb : Below w0.heap.size w0 w') => ref_with dt b s _ w' (hd.below hb) (by omega))
  have hRm := hid (fun w' (hb : Below w0.heap.size w0 w') => ref_rest mt b _ w' (hm.below hb) (by omega))
  have hRd := hid (fun w' (hb : Below w0.heap.size w0 w') => ref_rest dt b _ w' (hd.below hb) (by omega))
  simp only [txnV] at hCp hGd
  replace hqm := hid hqm; replace hqd := hid hqd; replace hqr := hid hqr
  clear hT hm hd hr hgt
  have X := St.start [] w0
  go_enter Try.func8, Try.ntmps8
  have e0 : decide (h < 0) = true := decide_eq_true hh
  go_wp2_with (first
    | (refine at_mem rfl ?_; (first | (refine at_load rfl ?_; (first | (refine c_load1 rfl _ _ rfl rfl X (by repeat (first | exact ReadA.here rfl | apply ReadA.there)) ?_) | (refine c_loadN rfl _ _ rfl rfl X (by repeat (first | exact ReadB.here (Nat.le_of_ble_eq_true rfl) | apply ReadB.there)) ?_))) | (refine at_store rfl ?_; (first | (refine c_store1 rfl _ _ _ rfl rfl (by first | exact EvR.const _ | exact EvR.tmp rfl rfl) X rfl rfl (by repeat (first | exact PutA.here (Nat.le_of_ble_eq_true rfl) | apply PutA.there)) ?_; intro w X2; (try simp only [upd] at X2); replace X := X2; clear X2) | (refine c_storeN rfl _ _ _ rfl rfl rfl X rfl rfl (by repeat (first | exact PutA.here (Nat.le_of_ble_eq_true rfl) | apply PutA.there)) ?_; intro w X2; (try simp only [upd] at X2); replace X := X2; clear X2))) | (refine m_alloc rfl _ rfl X ?_; intro g w X2; (replace X := X2; clear X2)) | (refine m_box rfl _ _ rfl (by first | exact EvR.const _ | exact EvR.tmp rfl rfl) rfl X ?_; intro g w X2; (replace X := X2; clear X2))); (simp only [Act.put, List.setIfInBounds_toArray, List.set_cons_succ, List.set_cons_zero, List.drop_succ_cons, List.drop_zero, List.take_succ_cons, List.take_zero, Nat.reduceAdd]))
    | (go_at_call 30; go_loud ((with_reducible refine (hGd.out _ X.below).mono ?_); rintro e w1 ⟨rfl, hb1⟩; replace X := X.call hb1; clear hb1))
    | (go_at_call 31; go_loud ((with_reducible refine (hBk.out _).mono ?_); rintro e w1 ⟨rfl, rfl⟩)))
  first | exact m_ret2 rfl (.tmp rfl rfl) (.tmp rfl rfl) X (.head _) rfl rfl ⟨rfl, X.below⟩ | exact m_ret2 rfl (.tmp rfl rfl) (.tmp rfl rfl) X (.tail _ (.head _)) rfl rfl ⟨rfl, X.below⟩

theorem ref_Alter_high (K : Int) {q0 : Bool} {q1 q2 q3 : Bool} (h : Int) (seq : Int) (mt dt : List Cpy) (rev : List Int) (o0 o1 o2 : Bool) (x0 x1 x2 : Int) (am ad ar : Option Addr) (cm cd cr : Nat) (b : Int) (s : ByteArray) (w0 : World) (hm : RL cpyC w0 (.slice am mt.length cm) mt) (hd : RL cpyC w0 (.slice ad dt.length cd) dt) (hr : RL intC w0 (.slice ar rev.length cr) rev) (n1 : mt.length ≤ 12) (n2 : dt.length ≤ 12) (n3 : rev.length ≤ 12) (hgt : goodT ⟨seq, mt, dt, rev, ⟨o0, x0⟩, ⟨o1, x1⟩, ⟨o2, x2⟩⟩ = true) (hblk : isBlk b = q0) (hqm : hasB mt b = q1) (hqd : hasB dt b = q2) (hqr : inI rev b = q3) (hh : 2 < h) :
    Calls Try.prog 8 #[.int .i64 K, .agg #[.int .i64 seq, .slice am mt.length cm, .slice ad dt.length cd, .slice ar rev.length cr, .bool o0, .int .i64 x0, .bool o1, .int .i64 x1, .bool o2, .int .i64 x2], .int .i64 h, .int .i64 b, .string s] w0 fun e w' => e = .returned (.tuple #[.agg #[.int .i64 seq, .slice am mt.length cm, .slice ad dt.length cd, .slice ar rev.length cr, .bool o0, .int .i64 x0, .bool o1, .int .i64 x1, .bool o2, .int .i64 x2], .int .i64 4]) ∧ Below w0.heap.size w0 w' := by
  have hT : RTxn w0 (txnV ⟨seq, mt, dt, rev, ⟨o0, x0⟩, ⟨o1, x1⟩, ⟨o2, x2⟩⟩ (.slice am mt.length cm) (.slice ad dt.length cd) (.slice ar rev.length cr)) ⟨seq, mt, dt, rev, ⟨o0, x0⟩, ⟨o1, x1⟩, ⟨o2, x2⟩⟩ := ⟨_, _, _, rfl, hm, hd, hr, by dsimp only; omega, by dsimp only; omega, by dsimp only; omega⟩
  have hCp := hid (fun w' (hb : Below w0.heap.size w0 w') => ref_CopyTxn _ _ w' (hT.below hb))
  have hGd := fun w' (hb : Below w0.heap.size w0 w') => ref_GoodTxn _ _ w' (hT.below hb)
  rw [hgt] at hGd
  replace hGd := hid hGd
  have hBk := hid (by simpa only [hblk] using (fun w' => ref_isBlock b w'))
  have hInM := hid (by simpa only [hqm] using (fun w' (hb : Below w0.heap.size w0 w') => ref_in mt b _ w' (hm.below hb) (by omega)))
  have hInD := hid (by simpa only [hqd] using (fun w' (hb : Below w0.heap.size w0 w') => ref_in dt b _ w' (hd.below hb) (by omega)))
  have hAm := hid (fun x w' (hb : Below w0.heap.size w0 w') => ref_among rev x _ w' (hr.below hb) (by omega))
  have hAb := hid (by simpa only [hqr] using (fun w' (hb : Below w0.heap.size w0 w') => ref_among rev b _ w' (hr.below hb) (by omega)))
  have hWm := hid (fun w' (hb : Below w0.heap.size w0 w') => ref_with mt b s _ w' (hm.below hb) (by omega))
  have hWd := hid (fun w' (hb : Below w0.heap.size w0 w') => ref_with dt b s _ w' (hd.below hb) (by omega))
  have hRm := hid (fun w' (hb : Below w0.heap.size w0 w') => ref_rest mt b _ w' (hm.below hb) (by omega))
  have hRd := hid (fun w' (hb : Below w0.heap.size w0 w') => ref_rest dt b _ w' (hd.below hb) (by omega))
  simp only [txnV] at hCp hGd
  replace hqm := hid hqm; replace hqd := hid hqd; replace hqr := hid hqr
  clear hT hm hd hr hgt
  have X := St.start [] w0
  go_enter Try.func8, Try.ntmps8
  have e0 : decide (h < 0) = false := decide_eq_false (by omega)
  have e1 : decide (2 < h) = true := decide_eq_true hh
  go_wp2_with (first
    | (refine at_mem rfl ?_; (first | (refine at_load rfl ?_; (first | (refine c_load1 rfl _ _ rfl rfl X (by repeat (first | exact ReadA.here rfl | apply ReadA.there)) ?_) | (refine c_loadN rfl _ _ rfl rfl X (by repeat (first | exact ReadB.here (Nat.le_of_ble_eq_true rfl) | apply ReadB.there)) ?_))) | (refine at_store rfl ?_; (first | (refine c_store1 rfl _ _ _ rfl rfl (by first | exact EvR.const _ | exact EvR.tmp rfl rfl) X rfl rfl (by repeat (first | exact PutA.here (Nat.le_of_ble_eq_true rfl) | apply PutA.there)) ?_; intro w X2; (try simp only [upd] at X2); replace X := X2; clear X2) | (refine c_storeN rfl _ _ _ rfl rfl rfl X rfl rfl (by repeat (first | exact PutA.here (Nat.le_of_ble_eq_true rfl) | apply PutA.there)) ?_; intro w X2; (try simp only [upd] at X2); replace X := X2; clear X2))) | (refine m_alloc rfl _ rfl X ?_; intro g w X2; (replace X := X2; clear X2)) | (refine m_box rfl _ _ rfl (by first | exact EvR.const _ | exact EvR.tmp rfl rfl) rfl X ?_; intro g w X2; (replace X := X2; clear X2))); (simp only [Act.put, List.setIfInBounds_toArray, List.set_cons_succ, List.set_cons_zero, List.drop_succ_cons, List.drop_zero, List.take_succ_cons, List.take_zero, Nat.reduceAdd]))
    | (go_at_call 30; go_loud ((with_reducible refine (hGd.out _ X.below).mono ?_); rintro e w1 ⟨rfl, hb1⟩; replace X := X.call hb1; clear hb1))
    | (go_at_call 31; go_loud ((with_reducible refine (hBk.out _).mono ?_); rintro e w1 ⟨rfl, rfl⟩)))
  first | exact m_ret2 rfl (.tmp rfl rfl) (.tmp rfl rfl) X (.head _) rfl rfl ⟨rfl, X.below⟩ | exact m_ret2 rfl (.tmp rfl rfl) (.tmp rfl rfl) X (.tail _ (.head _)) rfl rfl ⟨rfl, X.below⟩

theorem ref_Alter_off0 (K : Int) {q0 : Bool} {q1 q2 q3 : Bool} (seq : Int) (mt dt : List Cpy) (rev : List Int) (o0 o1 o2 : Bool) (x0 x1 x2 : Int) (am ad ar : Option Addr) (cm cd cr : Nat) (b : Int) (s : ByteArray) (w0 : World) (hm : RL cpyC w0 (.slice am mt.length cm) mt) (hd : RL cpyC w0 (.slice ad dt.length cd) dt) (hr : RL intC w0 (.slice ar rev.length cr) rev) (n1 : mt.length ≤ 12) (n2 : dt.length ≤ 12) (n3 : rev.length ≤ 12) (hgt : goodT ⟨seq, mt, dt, rev, ⟨false, x0⟩, ⟨o1, x1⟩, ⟨o2, x2⟩⟩ = true) (hblk : isBlk b = q0) (hqm : hasB mt b = q1) (hqd : hasB dt b = q2) (hqr : inI rev b = q3) :
    Calls Try.prog 8 #[.int .i64 K, .agg #[.int .i64 seq, .slice am mt.length cm, .slice ad dt.length cd, .slice ar rev.length cr, .bool false, .int .i64 x0, .bool o1, .int .i64 x1, .bool o2, .int .i64 x2], .int .i64 0, .int .i64 b, .string s] w0 fun e w' => e = .returned (.tuple #[.agg #[.int .i64 seq, .slice am mt.length cm, .slice ad dt.length cd, .slice ar rev.length cr, .bool false, .int .i64 x0, .bool o1, .int .i64 x1, .bool o2, .int .i64 x2], .int .i64 4]) ∧ Below w0.heap.size w0 w' := by
  have hT : RTxn w0 (txnV ⟨seq, mt, dt, rev, ⟨false, x0⟩, ⟨o1, x1⟩, ⟨o2, x2⟩⟩ (.slice am mt.length cm) (.slice ad dt.length cd) (.slice ar rev.length cr)) ⟨seq, mt, dt, rev, ⟨false, x0⟩, ⟨o1, x1⟩, ⟨o2, x2⟩⟩ := ⟨_, _, _, rfl, hm, hd, hr, by dsimp only; omega, by dsimp only; omega, by dsimp only; omega⟩
  have hCp := hid (fun w' (hb : Below w0.heap.size w0 w') => ref_CopyTxn _ _ w' (hT.below hb))
  have hGd := fun w' (hb : Below w0.heap.size w0 w') => ref_GoodTxn _ _ w' (hT.below hb)
  rw [hgt] at hGd
  replace hGd := hid hGd
  have hBk := hid (by simpa only [hblk] using (fun w' => ref_isBlock b w'))
  have hInM := hid (by simpa only [hqm] using (fun w' (hb : Below w0.heap.size w0 w') => ref_in mt b _ w' (hm.below hb) (by omega)))
  have hInD := hid (by simpa only [hqd] using (fun w' (hb : Below w0.heap.size w0 w') => ref_in dt b _ w' (hd.below hb) (by omega)))
  have hAm := hid (fun x w' (hb : Below w0.heap.size w0 w') => ref_among rev x _ w' (hr.below hb) (by omega))
  have hAb := hid (by simpa only [hqr] using (fun w' (hb : Below w0.heap.size w0 w') => ref_among rev b _ w' (hr.below hb) (by omega)))
  have hWm := hid (fun w' (hb : Below w0.heap.size w0 w') => ref_with mt b s _ w' (hm.below hb) (by omega))
  have hWd := hid (fun w' (hb : Below w0.heap.size w0 w') => ref_with dt b s _ w' (hd.below hb) (by omega))
  have hRm := hid (fun w' (hb : Below w0.heap.size w0 w') => ref_rest mt b _ w' (hm.below hb) (by omega))
  have hRd := hid (fun w' (hb : Below w0.heap.size w0 w') => ref_rest dt b _ w' (hd.below hb) (by omega))
  simp only [txnV] at hCp hGd
  replace hqm := hid hqm; replace hqd := hid hqd; replace hqr := hid hqr
  clear hT hm hd hr hgt
  have X := St.start [] w0
  go_enter Try.func8, Try.ntmps8
  go_wp2_with (first
    | (refine at_mem rfl ?_; (first | (refine at_load rfl ?_; (first | (refine c_load1 rfl _ _ rfl rfl X (by repeat (first | exact ReadA.here rfl | apply ReadA.there)) ?_) | (refine c_loadN rfl _ _ rfl rfl X (by repeat (first | exact ReadB.here (Nat.le_of_ble_eq_true rfl) | apply ReadB.there)) ?_))) | (refine at_store rfl ?_; (first | (refine c_store1 rfl _ _ _ rfl rfl (by first | exact EvR.const _ | exact EvR.tmp rfl rfl) X rfl rfl (by repeat (first | exact PutA.here (Nat.le_of_ble_eq_true rfl) | apply PutA.there)) ?_; intro w X2; (try simp only [upd] at X2); replace X := X2; clear X2) | (refine c_storeN rfl _ _ _ rfl rfl rfl X rfl rfl (by repeat (first | exact PutA.here (Nat.le_of_ble_eq_true rfl) | apply PutA.there)) ?_; intro w X2; (try simp only [upd] at X2); replace X := X2; clear X2))) | (refine m_alloc rfl _ rfl X ?_; intro g w X2; (replace X := X2; clear X2)) | (refine m_box rfl _ _ rfl (by first | exact EvR.const _ | exact EvR.tmp rfl rfl) rfl X ?_; intro g w X2; (replace X := X2; clear X2))); (simp only [Act.put, List.setIfInBounds_toArray, List.set_cons_succ, List.set_cons_zero, List.drop_succ_cons, List.drop_zero, List.take_succ_cons, List.take_zero, Nat.reduceAdd]))
    | (go_at_call 30; go_loud ((with_reducible refine (hGd.out _ X.below).mono ?_); rintro e w1 ⟨rfl, hb1⟩; replace X := X.call hb1; clear hb1))
    | (go_at_call 31; go_loud ((with_reducible refine (hBk.out _).mono ?_); rintro e w1 ⟨rfl, rfl⟩)))
  first | exact m_ret2 rfl (.tmp rfl rfl) (.tmp rfl rfl) X (.head _) rfl rfl ⟨rfl, X.below⟩ | exact m_ret2 rfl (.tmp rfl rfl) (.tmp rfl rfl) X (.tail _ (.head _)) rfl rfl ⟨rfl, X.below⟩

theorem ref_Alter_blk0 (K : Int) {q1 q2 q3 : Bool} (seq : Int) (mt dt : List Cpy) (rev : List Int) (o0 o1 o2 : Bool) (x0 x1 x2 : Int) (am ad ar : Option Addr) (cm cd cr : Nat) (b : Int) (s : ByteArray) (w0 : World) (hm : RL cpyC w0 (.slice am mt.length cm) mt) (hd : RL cpyC w0 (.slice ad dt.length cd) dt) (hr : RL intC w0 (.slice ar rev.length cr) rev) (n1 : mt.length ≤ 12) (n2 : dt.length ≤ 12) (n3 : rev.length ≤ 12) (hgt : goodT ⟨seq, mt, dt, rev, ⟨true, x0⟩, ⟨o1, x1⟩, ⟨o2, x2⟩⟩ = true) (hblk : isBlk b = false) (hqm : hasB mt b = q1) (hqd : hasB dt b = q2) (hqr : inI rev b = q3) :
    Calls Try.prog 8 #[.int .i64 K, .agg #[.int .i64 seq, .slice am mt.length cm, .slice ad dt.length cd, .slice ar rev.length cr, .bool true, .int .i64 x0, .bool o1, .int .i64 x1, .bool o2, .int .i64 x2], .int .i64 0, .int .i64 b, .string s] w0 fun e w' => e = .returned (.tuple #[.agg #[.int .i64 seq, .slice am mt.length cm, .slice ad dt.length cd, .slice ar rev.length cr, .bool true, .int .i64 x0, .bool o1, .int .i64 x1, .bool o2, .int .i64 x2], .int .i64 4]) ∧ Below w0.heap.size w0 w' := by
  have hT : RTxn w0 (txnV ⟨seq, mt, dt, rev, ⟨true, x0⟩, ⟨o1, x1⟩, ⟨o2, x2⟩⟩ (.slice am mt.length cm) (.slice ad dt.length cd) (.slice ar rev.length cr)) ⟨seq, mt, dt, rev, ⟨true, x0⟩, ⟨o1, x1⟩, ⟨o2, x2⟩⟩ := ⟨_, _, _, rfl, hm, hd, hr, by dsimp only; omega, by dsimp only; omega, by dsimp only; omega⟩
  have hCp := hid (fun w' (hb : Below w0.heap.size w0 w') => ref_CopyTxn _ _ w' (hT.below hb))
  have hGd := fun w' (hb : Below w0.heap.size w0 w') => ref_GoodTxn _ _ w' (hT.below hb)
  rw [hgt] at hGd
  replace hGd := hid hGd
  have hBk := hid (by simpa only [hblk] using (fun w' => ref_isBlock b w'))
  have hInM := hid (by simpa only [hqm] using (fun w' (hb : Below w0.heap.size w0 w') => ref_in mt b _ w' (hm.below hb) (by omega)))
  have hInD := hid (by simpa only [hqd] using (fun w' (hb : Below w0.heap.size w0 w') => ref_in dt b _ w' (hd.below hb) (by omega)))
  have hAm := hid (fun x w' (hb : Below w0.heap.size w0 w') => ref_among rev x _ w' (hr.below hb) (by omega))
  have hAb := hid (by simpa only [hqr] using (fun w' (hb : Below w0.heap.size w0 w') => ref_among rev b _ w' (hr.below hb) (by omega)))
  have hWm := hid (fun w' (hb : Below w0.heap.size w0 w') => ref_with mt b s _ w' (hm.below hb) (by omega))
  have hWd := hid (fun w' (hb : Below w0.heap.size w0 w') => ref_with dt b s _ w' (hd.below hb) (by omega))
  have hRm := hid (fun w' (hb : Below w0.heap.size w0 w') => ref_rest mt b _ w' (hm.below hb) (by omega))
  have hRd := hid (fun w' (hb : Below w0.heap.size w0 w') => ref_rest dt b _ w' (hd.below hb) (by omega))
  simp only [txnV] at hCp hGd
  replace hqm := hid hqm; replace hqd := hid hqd; replace hqr := hid hqr
  clear hT hm hd hr hgt
  have X := St.start [] w0
  go_enter Try.func8, Try.ntmps8
  go_wp2_with (first
    | (refine at_mem rfl ?_; (first | (refine at_load rfl ?_; (first | (refine c_load1 rfl _ _ rfl rfl X (by repeat (first | exact ReadA.here rfl | apply ReadA.there)) ?_) | (refine c_loadN rfl _ _ rfl rfl X (by repeat (first | exact ReadB.here (Nat.le_of_ble_eq_true rfl) | apply ReadB.there)) ?_))) | (refine at_store rfl ?_; (first | (refine c_store1 rfl _ _ _ rfl rfl (by first | exact EvR.const _ | exact EvR.tmp rfl rfl) X rfl rfl (by repeat (first | exact PutA.here (Nat.le_of_ble_eq_true rfl) | apply PutA.there)) ?_; intro w X2; (try simp only [upd] at X2); replace X := X2; clear X2) | (refine c_storeN rfl _ _ _ rfl rfl rfl X rfl rfl (by repeat (first | exact PutA.here (Nat.le_of_ble_eq_true rfl) | apply PutA.there)) ?_; intro w X2; (try simp only [upd] at X2); replace X := X2; clear X2))) | (refine m_alloc rfl _ rfl X ?_; intro g w X2; (replace X := X2; clear X2)) | (refine m_box rfl _ _ rfl (by first | exact EvR.const _ | exact EvR.tmp rfl rfl) rfl X ?_; intro g w X2; (replace X := X2; clear X2))); (simp only [Act.put, List.setIfInBounds_toArray, List.set_cons_succ, List.set_cons_zero, List.drop_succ_cons, List.drop_zero, List.take_succ_cons, List.take_zero, Nat.reduceAdd]))
    | (go_at_call 30; go_loud ((with_reducible refine (hGd.out _ X.below).mono ?_); rintro e w1 ⟨rfl, hb1⟩; replace X := X.call hb1; clear hb1))
    | (go_at_call 31; go_loud ((with_reducible refine (hBk.out _).mono ?_); rintro e w1 ⟨rfl, rfl⟩)))
  first | exact m_ret2 rfl (.tmp rfl rfl) (.tmp rfl rfl) X (.head _) rfl rfl ⟨rfl, X.below⟩ | exact m_ret2 rfl (.tmp rfl rfl) (.tmp rfl rfl) X (.tail _ (.head _)) rfl rfl ⟨rfl, X.below⟩

theorem ref_Alter_form00 {q1 q2 q3 : Bool} (seq : Int) (mt dt : List Cpy) (rev : List Int) (o0 o1 o2 : Bool) (x0 x1 x2 : Int) (am ad ar : Option Addr) (cm cd cr : Nat) (b : Int) (s : ByteArray) (w0 : World) (hm : RL cpyC w0 (.slice am mt.length cm) mt) (hd : RL cpyC w0 (.slice ad dt.length cd) dt) (hr : RL intC w0 (.slice ar rev.length cr) rev) (n1 : mt.length ≤ 12) (n2 : dt.length ≤ 12) (n3 : rev.length ≤ 12) (hgt : goodT ⟨seq, mt, dt, rev, ⟨true, x0⟩, ⟨o1, x1⟩, ⟨o2, x2⟩⟩ = true) (hblk : isBlk b = true) (hs : ((s.size : Int) != 32) = true) (hqm : hasB mt b = q1) (hqd : hasB dt b = q2) (hqr : inI rev b = q3) :
    Calls Try.prog 8 #[.int .i64 0, .agg #[.int .i64 seq, .slice am mt.length cm, .slice ad dt.length cd, .slice ar rev.length cr, .bool true, .int .i64 x0, .bool o1, .int .i64 x1, .bool o2, .int .i64 x2], .int .i64 0, .int .i64 b, .string s] w0 fun e w' => e = .returned (.tuple #[.agg #[.int .i64 seq, .slice am mt.length cm, .slice ad dt.length cd, .slice ar rev.length cr, .bool true, .int .i64 x0, .bool o1, .int .i64 x1, .bool o2, .int .i64 x2], .int .i64 1]) ∧ Below w0.heap.size w0 w' := by
  have hT : RTxn w0 (txnV ⟨seq, mt, dt, rev, ⟨true, x0⟩, ⟨o1, x1⟩, ⟨o2, x2⟩⟩ (.slice am mt.length cm) (.slice ad dt.length cd) (.slice ar rev.length cr)) ⟨seq, mt, dt, rev, ⟨true, x0⟩, ⟨o1, x1⟩, ⟨o2, x2⟩⟩ := ⟨_, _, _, rfl, hm, hd, hr, by dsimp only; omega, by dsimp only; omega, by dsimp only; omega⟩
  have hCp := hid (fun w' (hb : Below w0.heap.size w0 w') => ref_CopyTxn _ _ w' (hT.below hb))
  have hGd := fun w' (hb : Below w0.heap.size w0 w') => ref_GoodTxn _ _ w' (hT.below hb)
  rw [hgt] at hGd
  replace hGd := hid hGd
  have hBk := hid (by simpa only [hblk] using (fun w' => ref_isBlock b w'))
  have hInM := hid (by simpa only [hqm] using (fun w' (hb : Below w0.heap.size w0 w') => ref_in mt b _ w' (hm.below hb) (by omega)))
  have hInD := hid (by simpa only [hqd] using (fun w' (hb : Below w0.heap.size w0 w') => ref_in dt b _ w' (hd.below hb) (by omega)))
  have hAm := hid (fun x w' (hb : Below w0.heap.size w0 w') => ref_among rev x _ w' (hr.below hb) (by omega))
  have hAb := hid (by simpa only [hqr] using (fun w' (hb : Below w0.heap.size w0 w') => ref_among rev b _ w' (hr.below hb) (by omega)))
  have hWm := hid (fun w' (hb : Below w0.heap.size w0 w') => ref_with mt b s _ w' (hm.below hb) (by omega))
  have hWd := hid (fun w' (hb : Below w0.heap.size w0 w') => ref_with dt b s _ w' (hd.below hb) (by omega))
  have hRm := hid (fun w' (hb : Below w0.heap.size w0 w') => ref_rest mt b _ w' (hm.below hb) (by omega))
  have hRd := hid (fun w' (hb : Below w0.heap.size w0 w') => ref_rest dt b _ w' (hd.below hb) (by omega))
  simp only [txnV] at hCp hGd
  replace hqm := hid hqm; replace hqd := hid hqd; replace hqr := hid hqr
  clear hT hm hd hr hgt
  have X := St.start [] w0
  go_enter Try.func8, Try.ntmps8
  go_wp2_with (first
    | (refine at_mem rfl ?_; (first | (refine at_load rfl ?_; (first | (refine c_load1 rfl _ _ rfl rfl X (by repeat (first | exact ReadA.here rfl | apply ReadA.there)) ?_) | (refine c_loadN rfl _ _ rfl rfl X (by repeat (first | exact ReadB.here (Nat.le_of_ble_eq_true rfl) | apply ReadB.there)) ?_))) | (refine at_store rfl ?_; (first | (refine c_store1 rfl _ _ _ rfl rfl (by first | exact EvR.const _ | exact EvR.tmp rfl rfl) X rfl rfl (by repeat (first | exact PutA.here (Nat.le_of_ble_eq_true rfl) | apply PutA.there)) ?_; intro w X2; (try simp only [upd] at X2); replace X := X2; clear X2) | (refine c_storeN rfl _ _ _ rfl rfl rfl X rfl rfl (by repeat (first | exact PutA.here (Nat.le_of_ble_eq_true rfl) | apply PutA.there)) ?_; intro w X2; (try simp only [upd] at X2); replace X := X2; clear X2))) | (refine m_alloc rfl _ rfl X ?_; intro g w X2; (replace X := X2; clear X2)) | (refine m_box rfl _ _ rfl (by first | exact EvR.const _ | exact EvR.tmp rfl rfl) rfl X ?_; intro g w X2; (replace X := X2; clear X2))); (simp only [Act.put, List.setIfInBounds_toArray, List.set_cons_succ, List.set_cons_zero, List.drop_succ_cons, List.drop_zero, List.take_succ_cons, List.take_zero, Nat.reduceAdd]))
    | (go_at_call 30; go_loud ((with_reducible refine (hGd.out _ X.below).mono ?_); rintro e w1 ⟨rfl, hb1⟩; replace X := X.call hb1; clear hb1))
    | (go_at_call 31; go_loud ((with_reducible refine (hBk.out _).mono ?_); rintro e w1 ⟨rfl, rfl⟩)))
  first | exact m_ret2 rfl (.tmp rfl rfl) (.tmp rfl rfl) X (.head _) rfl rfl ⟨rfl, X.below⟩ | exact m_ret2 rfl (.tmp rfl rfl) (.tmp rfl rfl) X (.tail _ (.head _)) rfl rfl ⟨rfl, X.below⟩

theorem ref_Alter_form10 {q1 q2 q3 : Bool} (seq : Int) (mt dt : List Cpy) (rev : List Int) (o0 o1 o2 : Bool) (x0 x1 x2 : Int) (am ad ar : Option Addr) (cm cd cr : Nat) (b : Int) (s : ByteArray) (w0 : World) (hm : RL cpyC w0 (.slice am mt.length cm) mt) (hd : RL cpyC w0 (.slice ad dt.length cd) dt) (hr : RL intC w0 (.slice ar rev.length cr) rev) (n1 : mt.length ≤ 12) (n2 : dt.length ≤ 12) (n3 : rev.length ≤ 12) (hgt : goodT ⟨seq, mt, dt, rev, ⟨true, x0⟩, ⟨o1, x1⟩, ⟨o2, x2⟩⟩ = true) (hblk : isBlk b = true) (hs : ((s.size : Int) != 32) = true) (hqm : hasB mt b = q1) (hqd : hasB dt b = q2) (hqr : inI rev b = q3) :
    Calls Try.prog 8 #[.int .i64 1, .agg #[.int .i64 seq, .slice am mt.length cm, .slice ad dt.length cd, .slice ar rev.length cr, .bool true, .int .i64 x0, .bool o1, .int .i64 x1, .bool o2, .int .i64 x2], .int .i64 0, .int .i64 b, .string s] w0 fun e w' => e = .returned (.tuple #[.agg #[.int .i64 seq, .slice am mt.length cm, .slice ad dt.length cd, .slice ar rev.length cr, .bool true, .int .i64 x0, .bool o1, .int .i64 x1, .bool o2, .int .i64 x2], .int .i64 1]) ∧ Below w0.heap.size w0 w' := by
  have hT : RTxn w0 (txnV ⟨seq, mt, dt, rev, ⟨true, x0⟩, ⟨o1, x1⟩, ⟨o2, x2⟩⟩ (.slice am mt.length cm) (.slice ad dt.length cd) (.slice ar rev.length cr)) ⟨seq, mt, dt, rev, ⟨true, x0⟩, ⟨o1, x1⟩, ⟨o2, x2⟩⟩ := ⟨_, _, _, rfl, hm, hd, hr, by dsimp only; omega, by dsimp only; omega, by dsimp only; omega⟩
  have hCp := hid (fun w' (hb : Below w0.heap.size w0 w') => ref_CopyTxn _ _ w' (hT.below hb))
  have hGd := fun w' (hb : Below w0.heap.size w0 w') => ref_GoodTxn _ _ w' (hT.below hb)
  rw [hgt] at hGd
  replace hGd := hid hGd
  have hBk := hid (by simpa only [hblk] using (fun w' => ref_isBlock b w'))
  have hInM := hid (by simpa only [hqm] using (fun w' (hb : Below w0.heap.size w0 w') => ref_in mt b _ w' (hm.below hb) (by omega)))
  have hInD := hid (by simpa only [hqd] using (fun w' (hb : Below w0.heap.size w0 w') => ref_in dt b _ w' (hd.below hb) (by omega)))
  have hAm := hid (fun x w' (hb : Below w0.heap.size w0 w') => ref_among rev x _ w' (hr.below hb) (by omega))
  have hAb := hid (by simpa only [hqr] using (fun w' (hb : Below w0.heap.size w0 w') => ref_among rev b _ w' (hr.below hb) (by omega)))
  have hWm := hid (fun w' (hb : Below w0.heap.size w0 w') => ref_with mt b s _ w' (hm.below hb) (by omega))
  have hWd := hid (fun w' (hb : Below w0.heap.size w0 w') => ref_with dt b s _ w' (hd.below hb) (by omega))
  have hRm := hid (fun w' (hb : Below w0.heap.size w0 w') => ref_rest mt b _ w' (hm.below hb) (by omega))
  have hRd := hid (fun w' (hb : Below w0.heap.size w0 w') => ref_rest dt b _ w' (hd.below hb) (by omega))
  simp only [txnV] at hCp hGd
  replace hqm := hid hqm; replace hqd := hid hqd; replace hqr := hid hqr
  clear hT hm hd hr hgt
  have X := St.start [] w0
  go_enter Try.func8, Try.ntmps8
  go_wp2_with (first
    | (refine at_mem rfl ?_; (first | (refine at_load rfl ?_; (first | (refine c_load1 rfl _ _ rfl rfl X (by repeat (first | exact ReadA.here rfl | apply ReadA.there)) ?_) | (refine c_loadN rfl _ _ rfl rfl X (by repeat (first | exact ReadB.here (Nat.le_of_ble_eq_true rfl) | apply ReadB.there)) ?_))) | (refine at_store rfl ?_; (first | (refine c_store1 rfl _ _ _ rfl rfl (by first | exact EvR.const _ | exact EvR.tmp rfl rfl) X rfl rfl (by repeat (first | exact PutA.here (Nat.le_of_ble_eq_true rfl) | apply PutA.there)) ?_; intro w X2; (try simp only [upd] at X2); replace X := X2; clear X2) | (refine c_storeN rfl _ _ _ rfl rfl rfl X rfl rfl (by repeat (first | exact PutA.here (Nat.le_of_ble_eq_true rfl) | apply PutA.there)) ?_; intro w X2; (try simp only [upd] at X2); replace X := X2; clear X2))) | (refine m_alloc rfl _ rfl X ?_; intro g w X2; (replace X := X2; clear X2)) | (refine m_box rfl _ _ rfl (by first | exact EvR.const _ | exact EvR.tmp rfl rfl) rfl X ?_; intro g w X2; (replace X := X2; clear X2))); (simp only [Act.put, List.setIfInBounds_toArray, List.set_cons_succ, List.set_cons_zero, List.drop_succ_cons, List.drop_zero, List.take_succ_cons, List.take_zero, Nat.reduceAdd]))
    | (go_at_call 30; go_loud ((with_reducible refine (hGd.out _ X.below).mono ?_); rintro e w1 ⟨rfl, hb1⟩; replace X := X.call hb1; clear hb1))
    | (go_at_call 31; go_loud ((with_reducible refine (hBk.out _).mono ?_); rintro e w1 ⟨rfl, rfl⟩)))
  first | exact m_ret2 rfl (.tmp rfl rfl) (.tmp rfl rfl) X (.head _) rfl rfl ⟨rfl, X.below⟩ | exact m_ret2 rfl (.tmp rfl rfl) (.tmp rfl rfl) X (.tail _ (.head _)) rfl rfl ⟨rfl, X.below⟩

theorem ref_Alter_fil_role0 {q2 q3 : Bool} (seq : Int) (mt dt : List Cpy) (rev : List Int) (o0 o1 o2 : Bool) (x0 x1 x2 : Int) (am ad ar : Option Addr) (cm cd cr : Nat) (b : Int) (s : ByteArray) (w0 : World) (hm : RL cpyC w0 (.slice am mt.length cm) mt) (hd : RL cpyC w0 (.slice ad dt.length cd) dt) (hr : RL intC w0 (.slice ar rev.length cr) rev) (n1 : mt.length ≤ 12) (n2 : dt.length ≤ 12) (n3 : rev.length ≤ 12) (hgt : goodT ⟨seq, mt, dt, rev, ⟨true, x0⟩, ⟨o1, x1⟩, ⟨o2, x2⟩⟩ = true) (hblk : isBlk b = true) (hs : ((s.size : Int) != 32) = false) (hqm : hasB mt b = true) (hqd : hasB dt b = q2) (hqr : inI rev b = q3) :
    Calls Try.prog 8 #[.int .i64 1, .agg #[.int .i64 seq, .slice am mt.length cm, .slice ad dt.length cd, .slice ar rev.length cr, .bool true, .int .i64 x0, .bool o1, .int .i64 x1, .bool o2, .int .i64 x2], .int .i64 0, .int .i64 b, .string s] w0 fun e w' => e = .returned (.tuple #[.agg #[.int .i64 seq, .slice am mt.length cm, .slice ad dt.length cd, .slice ar rev.length cr, .bool true, .int .i64 x0, .bool o1, .int .i64 x1, .bool o2, .int .i64 x2], .int .i64 8]) ∧ Below w0.heap.size w0 w' := by
  have hT : RTxn w0 (txnV ⟨seq, mt, dt, rev, ⟨true, x0⟩, ⟨o1, x1⟩, ⟨o2, x2⟩⟩ (.slice am mt.length cm) (.slice ad dt.length cd) (.slice ar rev.length cr)) ⟨seq, mt, dt, rev, ⟨true, x0⟩, ⟨o1, x1⟩, ⟨o2, x2⟩⟩ := ⟨_, _, _, rfl, hm, hd, hr, by dsimp only; omega, by dsimp only; omega, by dsimp only; omega⟩
  have hCp := hid (fun w' (hb : Below w0.heap.size w0 w') => ref_CopyTxn _ _ w' (hT.below hb))
  have hGd := fun w' (hb : Below w0.heap.size w0 w') => ref_GoodTxn _ _ w' (hT.below hb)
  rw [hgt] at hGd
  replace hGd := hid hGd
  have hBk := hid (by simpa only [hblk] using (fun w' => ref_isBlock b w'))
  have hInM := hid (by simpa only [hqm] using (fun w' (hb : Below w0.heap.size w0 w') => ref_in mt b _ w' (hm.below hb) (by omega)))
  have hInD := hid (by simpa only [hqd] using (fun w' (hb : Below w0.heap.size w0 w') => ref_in dt b _ w' (hd.below hb) (by omega)))
  have hAm := hid (fun x w' (hb : Below w0.heap.size w0 w') => ref_among rev x _ w' (hr.below hb) (by omega))
  have hAb := hid (by simpa only [hqr] using (fun w' (hb : Below w0.heap.size w0 w') => ref_among rev b _ w' (hr.below hb) (by omega)))
  have hWm := hid (fun w' (hb : Below w0.heap.size w0 w') => ref_with mt b s _ w' (hm.below hb) (by omega))
  have hWd := hid (fun w' (hb : Below w0.heap.size w0 w') => ref_with dt b s _ w' (hd.below hb) (by omega))
  have hRm := hid (fun w' (hb : Below w0.heap.size w0 w') => ref_rest mt b _ w' (hm.below hb) (by omega))
  have hRd := hid (fun w' (hb : Below w0.heap.size w0 w') => ref_rest dt b _ w' (hd.below hb) (by omega))
  simp only [txnV] at hCp hGd
  replace hqm := hid hqm; replace hqd := hid hqd; replace hqr := hid hqr
  clear hT hm hd hr hgt
  have X := St.start [] w0
  go_enter Try.func8, Try.ntmps8
  go_wp2_with (first
    | (refine at_mem rfl ?_; (first | (refine at_load rfl ?_; (first | (refine c_load1 rfl _ _ rfl rfl X (by repeat (first | exact ReadA.here rfl | apply ReadA.there)) ?_) | (refine c_loadN rfl _ _ rfl rfl X (by repeat (first | exact ReadB.here (Nat.le_of_ble_eq_true rfl) | apply ReadB.there)) ?_))) | (refine at_store rfl ?_; (first | (refine c_store1 rfl _ _ _ rfl rfl (by first | exact EvR.const _ | exact EvR.tmp rfl rfl) X rfl rfl (by repeat (first | exact PutA.here (Nat.le_of_ble_eq_true rfl) | apply PutA.there)) ?_; intro w X2; (try simp only [upd] at X2); replace X := X2; clear X2) | (refine c_storeN rfl _ _ _ rfl rfl rfl X rfl rfl (by repeat (first | exact PutA.here (Nat.le_of_ble_eq_true rfl) | apply PutA.there)) ?_; intro w X2; (try simp only [upd] at X2); replace X := X2; clear X2))) | (refine m_alloc rfl _ rfl X ?_; intro g w X2; (replace X := X2; clear X2)) | (refine m_box rfl _ _ rfl (by first | exact EvR.const _ | exact EvR.tmp rfl rfl) rfl X ?_; intro g w X2; (replace X := X2; clear X2))); (simp only [Act.put, List.setIfInBounds_toArray, List.set_cons_succ, List.set_cons_zero, List.drop_succ_cons, List.drop_zero, List.take_succ_cons, List.take_zero, Nat.reduceAdd]))
    | (go_at_call 30; go_loud ((with_reducible refine (hGd.out _ X.below).mono ?_); rintro e w1 ⟨rfl, hb1⟩; replace X := X.call hb1; clear hb1))
    | (go_at_call 31; go_loud ((with_reducible refine (hBk.out _).mono ?_); rintro e w1 ⟨rfl, rfl⟩))
    | (go_at_call 32; go_loud ((with_reducible refine (hInM.out _ X.below).mono ?_); rintro e w1 ⟨rfl, hb1⟩; replace X := X.call hb1; clear hb1))
    | (go_at_call 32; go_loud ((with_reducible refine (hInD.out _ X.below).mono ?_); rintro e w1 ⟨rfl, hb1⟩; replace X := X.call hb1; clear hb1))
    | (go_at_call 33; go_loud ((with_reducible refine (hAb.out _ X.below).mono ?_); rintro e w1 ⟨rfl, rfl⟩))
    | (go_at_call 6; go_loud ((with_reducible refine (hCp.out _ X.below).mono ?_); rintro e w1 ⟨vc, rfl, ⟨vm', vd', vr', rfl, p1, p2, p3, _⟩, hb1⟩; obtain ⟨am', cm', rfl⟩ := p1.form; obtain ⟨ad', cd', rfl⟩ := p2.form; obtain ⟨ar', cr', rfl⟩ := p3.form; have f1 := hid (p1.fresh X.mv.size); have f2 := hid (p2.fresh X.mv.size); have f3 := hid (p3.fresh X.mv.size); simp only [txnV]; replace X := X.addOTxn hb1 p1 p2 p3; dsimp only at X; clear hb1 p1 p2 p3)))
  first | exact m_ret2 rfl (.tmp rfl rfl) (.tmp rfl rfl) X (.head _) rfl rfl ⟨rfl, X.below⟩ | exact m_ret2 rfl (.tmp rfl rfl) (.tmp rfl rfl) X (.tail _ (.head _)) rfl rfl ⟨rfl, X.below⟩

theorem ref_Alter_fil_gone0 {q2 : Bool} (seq : Int) (mt dt : List Cpy) (rev : List Int) (o0 o1 o2 : Bool) (x0 x1 x2 : Int) (am ad ar : Option Addr) (cm cd cr : Nat) (b : Int) (s : ByteArray) (w0 : World) (hm : RL cpyC w0 (.slice am mt.length cm) mt) (hd : RL cpyC w0 (.slice ad dt.length cd) dt) (hr : RL intC w0 (.slice ar rev.length cr) rev) (n1 : mt.length ≤ 12) (n2 : dt.length ≤ 12) (n3 : rev.length ≤ 12) (hgt : goodT ⟨seq, mt, dt, rev, ⟨true, x0⟩, ⟨o1, x1⟩, ⟨o2, x2⟩⟩ = true) (hblk : isBlk b = true) (hs : ((s.size : Int) != 32) = false) (hqm : hasB mt b = false) (hqd : hasB dt b = q2) (hqr : inI rev b = true) :
    Calls Try.prog 8 #[.int .i64 1, .agg #[.int .i64 seq, .slice am mt.length cm, .slice ad dt.length cd, .slice ar rev.length cr, .bool true, .int .i64 x0, .bool o1, .int .i64 x1, .bool o2, .int .i64 x2], .int .i64 0, .int .i64 b, .string s] w0 fun e w' => e = .returned (.tuple #[.agg #[.int .i64 seq, .slice am mt.length cm, .slice ad dt.length cd, .slice ar rev.length cr, .bool true, .int .i64 x0, .bool o1, .int .i64 x1, .bool o2, .int .i64 x2], .int .i64 8]) ∧ Below w0.heap.size w0 w' := by
  have hT : RTxn w0 (txnV ⟨seq, mt, dt, rev, ⟨true, x0⟩, ⟨o1, x1⟩, ⟨o2, x2⟩⟩ (.slice am mt.length cm) (.slice ad dt.length cd) (.slice ar rev.length cr)) ⟨seq, mt, dt, rev, ⟨true, x0⟩, ⟨o1, x1⟩, ⟨o2, x2⟩⟩ := ⟨_, _, _, rfl, hm, hd, hr, by dsimp only; omega, by dsimp only; omega, by dsimp only; omega⟩
  have hCp := hid (fun w' (hb : Below w0.heap.size w0 w') => ref_CopyTxn _ _ w' (hT.below hb))
  have hGd := fun w' (hb : Below w0.heap.size w0 w') => ref_GoodTxn _ _ w' (hT.below hb)
  rw [hgt] at hGd
  replace hGd := hid hGd
  have hBk := hid (by simpa only [hblk] using (fun w' => ref_isBlock b w'))
  have hInM := hid (by simpa only [hqm] using (fun w' (hb : Below w0.heap.size w0 w') => ref_in mt b _ w' (hm.below hb) (by omega)))
  have hInD := hid (by simpa only [hqd] using (fun w' (hb : Below w0.heap.size w0 w') => ref_in dt b _ w' (hd.below hb) (by omega)))
  have hAm := hid (fun x w' (hb : Below w0.heap.size w0 w') => ref_among rev x _ w' (hr.below hb) (by omega))
  have hAb := hid (by simpa only [hqr] using (fun w' (hb : Below w0.heap.size w0 w') => ref_among rev b _ w' (hr.below hb) (by omega)))
  have hWm := hid (fun w' (hb : Below w0.heap.size w0 w') => ref_with mt b s _ w' (hm.below hb) (by omega))
  have hWd := hid (fun w' (hb : Below w0.heap.size w0 w') => ref_with dt b s _ w' (hd.below hb) (by omega))
  have hRm := hid (fun w' (hb : Below w0.heap.size w0 w') => ref_rest mt b _ w' (hm.below hb) (by omega))
  have hRd := hid (fun w' (hb : Below w0.heap.size w0 w') => ref_rest dt b _ w' (hd.below hb) (by omega))
  simp only [txnV] at hCp hGd
  replace hqm := hid hqm; replace hqd := hid hqd; replace hqr := hid hqr
  clear hT hm hd hr hgt
  have X := St.start [] w0
  go_enter Try.func8, Try.ntmps8
  go_wp2_with (first
    | (refine at_mem rfl ?_; (first | (refine at_load rfl ?_; (first | (refine c_load1 rfl _ _ rfl rfl X (by repeat (first | exact ReadA.here rfl | apply ReadA.there)) ?_) | (refine c_loadN rfl _ _ rfl rfl X (by repeat (first | exact ReadB.here (Nat.le_of_ble_eq_true rfl) | apply ReadB.there)) ?_))) | (refine at_store rfl ?_; (first | (refine c_store1 rfl _ _ _ rfl rfl (by first | exact EvR.const _ | exact EvR.tmp rfl rfl) X rfl rfl (by repeat (first | exact PutA.here (Nat.le_of_ble_eq_true rfl) | apply PutA.there)) ?_; intro w X2; (try simp only [upd] at X2); replace X := X2; clear X2) | (refine c_storeN rfl _ _ _ rfl rfl rfl X rfl rfl (by repeat (first | exact PutA.here (Nat.le_of_ble_eq_true rfl) | apply PutA.there)) ?_; intro w X2; (try simp only [upd] at X2); replace X := X2; clear X2))) | (refine m_alloc rfl _ rfl X ?_; intro g w X2; (replace X := X2; clear X2)) | (refine m_box rfl _ _ rfl (by first | exact EvR.const _ | exact EvR.tmp rfl rfl) rfl X ?_; intro g w X2; (replace X := X2; clear X2))); (simp only [Act.put, List.setIfInBounds_toArray, List.set_cons_succ, List.set_cons_zero, List.drop_succ_cons, List.drop_zero, List.take_succ_cons, List.take_zero, Nat.reduceAdd]))
    | (go_at_call 30; go_loud ((with_reducible refine (hGd.out _ X.below).mono ?_); rintro e w1 ⟨rfl, hb1⟩; replace X := X.call hb1; clear hb1))
    | (go_at_call 31; go_loud ((with_reducible refine (hBk.out _).mono ?_); rintro e w1 ⟨rfl, rfl⟩))
    | (go_at_call 32; go_loud ((with_reducible refine (hInM.out _ X.below).mono ?_); rintro e w1 ⟨rfl, hb1⟩; replace X := X.call hb1; clear hb1))
    | (go_at_call 32; go_loud ((with_reducible refine (hInD.out _ X.below).mono ?_); rintro e w1 ⟨rfl, hb1⟩; replace X := X.call hb1; clear hb1))
    | (go_at_call 33; go_loud ((with_reducible refine (hAb.out _ X.below).mono ?_); rintro e w1 ⟨rfl, rfl⟩))
    | (go_at_call 6; go_loud ((with_reducible refine (hCp.out _ X.below).mono ?_); rintro e w1 ⟨vc, rfl, ⟨vm', vd', vr', rfl, p1, p2, p3, _⟩, hb1⟩; obtain ⟨am', cm', rfl⟩ := p1.form; obtain ⟨ad', cd', rfl⟩ := p2.form; obtain ⟨ar', cr', rfl⟩ := p3.form; have f1 := hid (p1.fresh X.mv.size); have f2 := hid (p2.fresh X.mv.size); have f3 := hid (p3.fresh X.mv.size); simp only [txnV]; replace X := X.addOTxn hb1 p1 p2 p3; dsimp only at X; clear hb1 p1 p2 p3)))
  first | exact m_ret2 rfl (.tmp rfl rfl) (.tmp rfl rfl) X (.head _) rfl rfl ⟨rfl, X.below⟩ | exact m_ret2 rfl (.tmp rfl rfl) (.tmp rfl rfl) X (.tail _ (.head _)) rfl rfl ⟨rfl, X.below⟩

theorem ref_Alter_chg_role0 {q1 q3 : Bool} (seq : Int) (mt dt : List Cpy) (rev : List Int) (o0 o1 o2 : Bool) (x0 x1 x2 : Int) (am ad ar : Option Addr) (cm cd cr : Nat) (b : Int) (s : ByteArray) (w0 : World) (hm : RL cpyC w0 (.slice am mt.length cm) mt) (hd : RL cpyC w0 (.slice ad dt.length cd) dt) (hr : RL intC w0 (.slice ar rev.length cr) rev) (n1 : mt.length ≤ 12) (n2 : dt.length ≤ 12) (n3 : rev.length ≤ 12) (hgt : goodT ⟨seq, mt, dt, rev, ⟨true, x0⟩, ⟨o1, x1⟩, ⟨o2, x2⟩⟩ = true) (hblk : isBlk b = true) (hs : ((s.size : Int) != 32) = false) (hqm : hasB mt b = q1) (hqd : hasB dt b = true) (hqr : inI rev b = q3) :
    Calls Try.prog 8 #[.int .i64 0, .agg #[.int .i64 seq, .slice am mt.length cm, .slice ad dt.length cd, .slice ar rev.length cr, .bool true, .int .i64 x0, .bool o1, .int .i64 x1, .bool o2, .int .i64 x2], .int .i64 0, .int .i64 b, .string s] w0 fun e w' => e = .returned (.tuple #[.agg #[.int .i64 seq, .slice am mt.length cm, .slice ad dt.length cd, .slice ar rev.length cr, .bool true, .int .i64 x0, .bool o1, .int .i64 x1, .bool o2, .int .i64 x2], .int .i64 8]) ∧ Below w0.heap.size w0 w' := by
  have hT : RTxn w0 (txnV ⟨seq, mt, dt, rev, ⟨true, x0⟩, ⟨o1, x1⟩, ⟨o2, x2⟩⟩ (.slice am mt.length cm) (.slice ad dt.length cd) (.slice ar rev.length cr)) ⟨seq, mt, dt, rev, ⟨true, x0⟩, ⟨o1, x1⟩, ⟨o2, x2⟩⟩ := ⟨_, _, _, rfl, hm, hd, hr, by dsimp only; omega, by dsimp only; omega, by dsimp only; omega⟩
  have hCp := hid (fun w' (hb : Below w0.heap.size w0 w') => ref_CopyTxn _ _ w' (hT.below hb))
  have hGd := fun w' (hb : Below w0.heap.size w0 w') => ref_GoodTxn _ _ w' (hT.below hb)
  rw [hgt] at hGd
  replace hGd := hid hGd
  have hBk := hid (by simpa only [hblk] using (fun w' => ref_isBlock b w'))
  have hInM := hid (by simpa only [hqm] using (fun w' (hb : Below w0.heap.size w0 w') => ref_in mt b _ w' (hm.below hb) (by omega)))
  have hInD := hid (by simpa only [hqd] using (fun w' (hb : Below w0.heap.size w0 w') => ref_in dt b _ w' (hd.below hb) (by omega)))
  have hAm := hid (fun x w' (hb : Below w0.heap.size w0 w') => ref_among rev x _ w' (hr.below hb) (by omega))
  have hAb := hid (by simpa only [hqr] using (fun w' (hb : Below w0.heap.size w0 w') => ref_among rev b _ w' (hr.below hb) (by omega)))
  have hWm := hid (fun w' (hb : Below w0.heap.size w0 w') => ref_with mt b s _ w' (hm.below hb) (by omega))
  have hWd := hid (fun w' (hb : Below w0.heap.size w0 w') => ref_with dt b s _ w' (hd.below hb) (by omega))
  have hRm := hid (fun w' (hb : Below w0.heap.size w0 w') => ref_rest mt b _ w' (hm.below hb) (by omega))
  have hRd := hid (fun w' (hb : Below w0.heap.size w0 w') => ref_rest dt b _ w' (hd.below hb) (by omega))
  simp only [txnV] at hCp hGd
  replace hqm := hid hqm; replace hqd := hid hqd; replace hqr := hid hqr
  clear hT hm hd hr hgt
  have X := St.start [] w0
  go_enter Try.func8, Try.ntmps8
  go_wp2_with (first
    | (refine at_mem rfl ?_; (first | (refine at_load rfl ?_; (first | (refine c_load1 rfl _ _ rfl rfl X (by repeat (first | exact ReadA.here rfl | apply ReadA.there)) ?_) | (refine c_loadN rfl _ _ rfl rfl X (by repeat (first | exact ReadB.here (Nat.le_of_ble_eq_true rfl) | apply ReadB.there)) ?_))) | (refine at_store rfl ?_; (first | (refine c_store1 rfl _ _ _ rfl rfl (by first | exact EvR.const _ | exact EvR.tmp rfl rfl) X rfl rfl (by repeat (first | exact PutA.here (Nat.le_of_ble_eq_true rfl) | apply PutA.there)) ?_; intro w X2; (try simp only [upd] at X2); replace X := X2; clear X2) | (refine c_storeN rfl _ _ _ rfl rfl rfl X rfl rfl (by repeat (first | exact PutA.here (Nat.le_of_ble_eq_true rfl) | apply PutA.there)) ?_; intro w X2; (try simp only [upd] at X2); replace X := X2; clear X2))) | (refine m_alloc rfl _ rfl X ?_; intro g w X2; (replace X := X2; clear X2)) | (refine m_box rfl _ _ rfl (by first | exact EvR.const _ | exact EvR.tmp rfl rfl) rfl X ?_; intro g w X2; (replace X := X2; clear X2))); (simp only [Act.put, List.setIfInBounds_toArray, List.set_cons_succ, List.set_cons_zero, List.drop_succ_cons, List.drop_zero, List.take_succ_cons, List.take_zero, Nat.reduceAdd]))
    | (go_at_call 30; go_loud ((with_reducible refine (hGd.out _ X.below).mono ?_); rintro e w1 ⟨rfl, hb1⟩; replace X := X.call hb1; clear hb1))
    | (go_at_call 31; go_loud ((with_reducible refine (hBk.out _).mono ?_); rintro e w1 ⟨rfl, rfl⟩))
    | (go_at_call 32; go_loud ((with_reducible refine (hInM.out _ X.below).mono ?_); rintro e w1 ⟨rfl, hb1⟩; replace X := X.call hb1; clear hb1))
    | (go_at_call 32; go_loud ((with_reducible refine (hInD.out _ X.below).mono ?_); rintro e w1 ⟨rfl, hb1⟩; replace X := X.call hb1; clear hb1))
    | (go_at_call 33; go_loud ((with_reducible refine (hAb.out _ X.below).mono ?_); rintro e w1 ⟨rfl, rfl⟩))
    | (go_at_call 6; go_loud ((with_reducible refine (hCp.out _ X.below).mono ?_); rintro e w1 ⟨vc, rfl, ⟨vm', vd', vr', rfl, p1, p2, p3, _⟩, hb1⟩; obtain ⟨am', cm', rfl⟩ := p1.form; obtain ⟨ad', cd', rfl⟩ := p2.form; obtain ⟨ar', cr', rfl⟩ := p3.form; have f1 := hid (p1.fresh X.mv.size); have f2 := hid (p2.fresh X.mv.size); have f3 := hid (p3.fresh X.mv.size); simp only [txnV]; replace X := X.addOTxn hb1 p1 p2 p3; dsimp only at X; clear hb1 p1 p2 p3)))
  first | exact m_ret2 rfl (.tmp rfl rfl) (.tmp rfl rfl) X (.head _) rfl rfl ⟨rfl, X.below⟩ | exact m_ret2 rfl (.tmp rfl rfl) (.tmp rfl rfl) X (.tail _ (.head _)) rfl rfl ⟨rfl, X.below⟩

theorem ref_Alter_chg_credit0 (seq : Int) (mt dt : List Cpy) (rev : List Int) (o0 o1 o2 : Bool) (x0 x1 x2 : Int) (am ad ar : Option Addr) (cm cd cr : Nat) (b : Int) (s : ByteArray) (w0 : World) (hm : RL cpyC w0 (.slice am mt.length cm) mt) (hd : RL cpyC w0 (.slice ad dt.length cd) dt) (hr : RL intC w0 (.slice ar rev.length cr) rev) (n1 : mt.length ≤ 12) (n2 : dt.length ≤ 12) (n3 : rev.length ≤ 12) (hgt : goodT ⟨seq, mt, dt, rev, ⟨true, x0⟩, ⟨o1, x1⟩, ⟨o2, x2⟩⟩ = true) (hblk : isBlk b = true) (hs : ((s.size : Int) != 32) = false) (hqm : hasB mt b = false) (hqd : hasB dt b = false) (hqr : inI rev b = false) (hx : x0 = 0) :
    Calls Try.prog 8 #[.int .i64 0, .agg #[.int .i64 seq, .slice am mt.length cm, .slice ad dt.length cd, .slice ar rev.length cr, .bool true, .int .i64 x0, .bool o1, .int .i64 x1, .bool o2, .int .i64 x2], .int .i64 0, .int .i64 b, .string s] w0 fun e w' => e = .returned (.tuple #[.agg #[.int .i64 seq, .slice am mt.length cm, .slice ad dt.length cd, .slice ar rev.length cr, .bool true, .int .i64 x0, .bool o1, .int .i64 x1, .bool o2, .int .i64 x2], .int .i64 7]) ∧ Below w0.heap.size w0 w' := by
  have hT : RTxn w0 (txnV ⟨seq, mt, dt, rev, ⟨true, x0⟩, ⟨o1, x1⟩, ⟨o2, x2⟩⟩ (.slice am mt.length cm) (.slice ad dt.length cd) (.slice ar rev.length cr)) ⟨seq, mt, dt, rev, ⟨true, x0⟩, ⟨o1, x1⟩, ⟨o2, x2⟩⟩ := ⟨_, _, _, rfl, hm, hd, hr, by dsimp only; omega, by dsimp only; omega, by dsimp only; omega⟩
  have hCp := hid (fun w' (hb : Below w0.heap.size w0 w') => ref_CopyTxn _ _ w' (hT.below hb))
  have hGd := fun w' (hb : Below w0.heap.size w0 w') => ref_GoodTxn _ _ w' (hT.below hb)
  rw [hgt] at hGd
  replace hGd := hid hGd
  have hBk := hid (by simpa only [hblk] using (fun w' => ref_isBlock b w'))
  have hInM := hid (by simpa only [hqm] using (fun w' (hb : Below w0.heap.size w0 w') => ref_in mt b _ w' (hm.below hb) (by omega)))
  have hInD := hid (by simpa only [hqd] using (fun w' (hb : Below w0.heap.size w0 w') => ref_in dt b _ w' (hd.below hb) (by omega)))
  have hAm := hid (fun x w' (hb : Below w0.heap.size w0 w') => ref_among rev x _ w' (hr.below hb) (by omega))
  have hAb := hid (by simpa only [hqr] using (fun w' (hb : Below w0.heap.size w0 w') => ref_among rev b _ w' (hr.below hb) (by omega)))
  have hWm := hid (fun w' (hb : Below w0.heap.size w0 w') => ref_with mt b s _ w' (hm.below hb) (by omega))
  have hWd := hid (fun w' (hb : Below w0.heap.size w0 w') => ref_with dt b s _ w' (hd.below hb) (by omega))
  have hRm := hid (fun w' (hb : Below w0.heap.size w0 w') => ref_rest mt b _ w' (hm.below hb) (by omega))
  have hRd := hid (fun w' (hb : Below w0.heap.size w0 w') => ref_rest dt b _ w' (hd.below hb) (by omega))
  simp only [txnV] at hCp hGd
  replace hqm := hid hqm; replace hqd := hid hqd; replace hqr := hid hqr
  clear hT hm hd hr hgt
  have X := St.start [] w0
  go_enter Try.func8, Try.ntmps8
  have e0 : (x0 == 0) = true := beq_iff_eq.2 hx
  clear hx
  go_wp2_with (first
    | (refine at_mem rfl ?_; (first | (refine at_load rfl ?_; (first | (refine c_load1 rfl _ _ rfl rfl X (by repeat (first | exact ReadA.here rfl | apply ReadA.there)) ?_) | (refine c_loadN rfl _ _ rfl rfl X (by repeat (first | exact ReadB.here (Nat.le_of_ble_eq_true rfl) | apply ReadB.there)) ?_))) | (refine at_store rfl ?_; (first | (refine c_store1 rfl _ _ _ rfl rfl (by first | exact EvR.const _ | exact EvR.tmp rfl rfl) X rfl rfl (by repeat (first | exact PutA.here (Nat.le_of_ble_eq_true rfl) | apply PutA.there)) ?_; intro w X2; (try simp only [upd] at X2); replace X := X2; clear X2) | (refine c_storeN rfl _ _ _ rfl rfl rfl X rfl rfl (by repeat (first | exact PutA.here (Nat.le_of_ble_eq_true rfl) | apply PutA.there)) ?_; intro w X2; (try simp only [upd] at X2); replace X := X2; clear X2))) | (refine m_alloc rfl _ rfl X ?_; intro g w X2; (replace X := X2; clear X2)) | (refine m_box rfl _ _ rfl (by first | exact EvR.const _ | exact EvR.tmp rfl rfl) rfl X ?_; intro g w X2; (replace X := X2; clear X2))); (simp only [Act.put, List.setIfInBounds_toArray, List.set_cons_succ, List.set_cons_zero, List.drop_succ_cons, List.drop_zero, List.take_succ_cons, List.take_zero, Nat.reduceAdd]))
    | (go_at_call 30; go_loud ((with_reducible refine (hGd.out _ X.below).mono ?_); rintro e w1 ⟨rfl, hb1⟩; replace X := X.call hb1; clear hb1))
    | (go_at_call 31; go_loud ((with_reducible refine (hBk.out _).mono ?_); rintro e w1 ⟨rfl, rfl⟩))
    | (go_at_call 32; go_loud ((with_reducible refine (hInM.out _ X.below).mono ?_); rintro e w1 ⟨rfl, hb1⟩; replace X := X.call hb1; clear hb1))
    | (go_at_call 32; go_loud ((with_reducible refine (hInD.out _ X.below).mono ?_); rintro e w1 ⟨rfl, hb1⟩; replace X := X.call hb1; clear hb1))
    | (go_at_call 33; go_loud ((with_reducible refine (hAb.out _ X.below).mono ?_); rintro e w1 ⟨rfl, rfl⟩))
    | (go_at_call 6; go_loud ((with_reducible refine (hCp.out _ X.below).mono ?_); rintro e w1 ⟨vc, rfl, ⟨vm', vd', vr', rfl, p1, p2, p3, _⟩, hb1⟩; obtain ⟨am', cm', rfl⟩ := p1.form; obtain ⟨ad', cd', rfl⟩ := p2.form; obtain ⟨ar', cr', rfl⟩ := p3.form; have f1 := hid (p1.fresh X.mv.size); have f2 := hid (p2.fresh X.mv.size); have f3 := hid (p3.fresh X.mv.size); simp only [txnV]; replace X := X.addOTxn hb1 p1 p2 p3; dsimp only at X; clear hb1 p1 p2 p3)))
  first | exact m_ret2 rfl (.tmp rfl rfl) (.tmp rfl rfl) X (.head _) rfl rfl ⟨rfl, X.below⟩ | exact m_ret2 rfl (.tmp rfl rfl) (.tmp rfl rfl) X (.tail _ (.head _)) rfl rfl ⟨rfl, X.below⟩

theorem ref_Alter_rvk_twice0 {q1 q2 : Bool} (seq : Int) (mt dt : List Cpy) (rev : List Int) (o0 o1 o2 : Bool) (x0 x1 x2 : Int) (am ad ar : Option Addr) (cm cd cr : Nat) (b : Int) (s : ByteArray) (w0 : World) (hm : RL cpyC w0 (.slice am mt.length cm) mt) (hd : RL cpyC w0 (.slice ad dt.length cd) dt) (hr : RL intC w0 (.slice ar rev.length cr) rev) (n1 : mt.length ≤ 12) (n2 : dt.length ≤ 12) (n3 : rev.length ≤ 12) (hgt : goodT ⟨seq, mt, dt, rev, ⟨true, x0⟩, ⟨o1, x1⟩, ⟨o2, x2⟩⟩ = true) (hblk : isBlk b = true) (hqm : hasB mt b = q1) (hqd : hasB dt b = q2) (hqr : inI rev b = true) :
    Calls Try.prog 8 #[.int .i64 2, .agg #[.int .i64 seq, .slice am mt.length cm, .slice ad dt.length cd, .slice ar rev.length cr, .bool true, .int .i64 x0, .bool o1, .int .i64 x1, .bool o2, .int .i64 x2], .int .i64 0, .int .i64 b, .string s] w0 fun e w' => e = .returned (.tuple #[.agg #[.int .i64 seq, .slice am mt.length cm, .slice ad dt.length cd, .slice ar rev.length cr, .bool true, .int .i64 x0, .bool o1, .int .i64 x1, .bool o2, .int .i64 x2], .int .i64 5]) ∧ Below w0.heap.size w0 w' := by
  have hT : RTxn w0 (txnV ⟨seq, mt, dt, rev, ⟨true, x0⟩, ⟨o1, x1⟩, ⟨o2, x2⟩⟩ (.slice am mt.length cm) (.slice ad dt.length cd) (.slice ar rev.length cr)) ⟨seq, mt, dt, rev, ⟨true, x0⟩, ⟨o1, x1⟩, ⟨o2, x2⟩⟩ := ⟨_, _, _, rfl, hm, hd, hr, by dsimp only; omega, by dsimp only; omega, by dsimp only; omega⟩
  have hCp := hid (fun w' (hb : Below w0.heap.size w0 w') => ref_CopyTxn _ _ w' (hT.below hb))
  have hGd := fun w' (hb : Below w0.heap.size w0 w') => ref_GoodTxn _ _ w' (hT.below hb)
  rw [hgt] at hGd
  replace hGd := hid hGd
  have hBk := hid (by simpa only [hblk] using (fun w' => ref_isBlock b w'))
  have hInM := hid (by simpa only [hqm] using (fun w' (hb : Below w0.heap.size w0 w') => ref_in mt b _ w' (hm.below hb) (by omega)))
  have hInD := hid (by simpa only [hqd] using (fun w' (hb : Below w0.heap.size w0 w') => ref_in dt b _ w' (hd.below hb) (by omega)))
  have hAm := hid (fun x w' (hb : Below w0.heap.size w0 w') => ref_among rev x _ w' (hr.below hb) (by omega))
  have hAb := hid (by simpa only [hqr] using (fun w' (hb : Below w0.heap.size w0 w') => ref_among rev b _ w' (hr.below hb) (by omega)))
  have hWm := hid (fun w' (hb : Below w0.heap.size w0 w') => ref_with mt b s _ w' (hm.below hb) (by omega))
  have hWd := hid (fun w' (hb : Below w0.heap.size w0 w') => ref_with dt b s _ w' (hd.below hb) (by omega))
  have hRm := hid (fun w' (hb : Below w0.heap.size w0 w') => ref_rest mt b _ w' (hm.below hb) (by omega))
  have hRd := hid (fun w' (hb : Below w0.heap.size w0 w') => ref_rest dt b _ w' (hd.below hb) (by omega))
  simp only [txnV] at hCp hGd
  replace hqm := hid hqm; replace hqd := hid hqd; replace hqr := hid hqr
  clear hT hm hd hr hgt
  have X := St.start [] w0
  go_enter Try.func8, Try.ntmps8
  go_wp2_with (first
    | (refine at_mem rfl ?_; (first | (refine at_load rfl ?_; (first | (refine c_load1 rfl _ _ rfl rfl X (by repeat (first | exact ReadA.here rfl | apply ReadA.there)) ?_) | (refine c_loadN rfl _ _ rfl rfl X (by repeat (first | exact ReadB.here (Nat.le_of_ble_eq_true rfl) | apply ReadB.there)) ?_))) | (refine at_store rfl ?_; (first | (refine c_store1 rfl _ _ _ rfl rfl (by first | exact EvR.const _ | exact EvR.tmp rfl rfl) X rfl rfl (by repeat (first | exact PutA.here (Nat.le_of_ble_eq_true rfl) | apply PutA.there)) ?_; intro w X2; (try simp only [upd] at X2); replace X := X2; clear X2) | (refine c_storeN rfl _ _ _ rfl rfl rfl X rfl rfl (by repeat (first | exact PutA.here (Nat.le_of_ble_eq_true rfl) | apply PutA.there)) ?_; intro w X2; (try simp only [upd] at X2); replace X := X2; clear X2))) | (refine m_alloc rfl _ rfl X ?_; intro g w X2; (replace X := X2; clear X2)) | (refine m_box rfl _ _ rfl (by first | exact EvR.const _ | exact EvR.tmp rfl rfl) rfl X ?_; intro g w X2; (replace X := X2; clear X2))); (simp only [Act.put, List.setIfInBounds_toArray, List.set_cons_succ, List.set_cons_zero, List.drop_succ_cons, List.drop_zero, List.take_succ_cons, List.take_zero, Nat.reduceAdd]))
    | (go_at_call 30; go_loud ((with_reducible refine (hGd.out _ X.below).mono ?_); rintro e w1 ⟨rfl, hb1⟩; replace X := X.call hb1; clear hb1))
    | (go_at_call 31; go_loud ((with_reducible refine (hBk.out _).mono ?_); rintro e w1 ⟨rfl, rfl⟩))
    | (go_at_call 32; go_loud ((with_reducible refine (hInM.out _ X.below).mono ?_); rintro e w1 ⟨rfl, hb1⟩; replace X := X.call hb1; clear hb1))
    | (go_at_call 32; go_loud ((with_reducible refine (hInD.out _ X.below).mono ?_); rintro e w1 ⟨rfl, hb1⟩; replace X := X.call hb1; clear hb1))
    | (go_at_call 33; go_loud ((with_reducible refine (hAb.out _ X.below).mono ?_); rintro e w1 ⟨rfl, rfl⟩))
    | (go_at_call 6; go_loud ((with_reducible refine (hCp.out _ X.below).mono ?_); rintro e w1 ⟨vc, rfl, ⟨vm', vd', vr', rfl, p1, p2, p3, _⟩, hb1⟩; obtain ⟨am', cm', rfl⟩ := p1.form; obtain ⟨ad', cd', rfl⟩ := p2.form; obtain ⟨ar', cr', rfl⟩ := p3.form; have f1 := hid (p1.fresh X.mv.size); have f2 := hid (p2.fresh X.mv.size); have f3 := hid (p3.fresh X.mv.size); simp only [txnV]; replace X := X.addOTxn hb1 p1 p2 p3; dsimp only at X; clear hb1 p1 p2 p3)))
  first | exact m_ret2 rfl (.tmp rfl rfl) (.tmp rfl rfl) X (.head _) rfl rfl ⟨rfl, X.below⟩ | exact m_ret2 rfl (.tmp rfl rfl) (.tmp rfl rfl) X (.tail _ (.head _)) rfl rfl ⟨rfl, X.below⟩

theorem ref_Alter_rvk_credit0 {q2 : Bool} (seq : Int) (mt dt : List Cpy) (rev : List Int) (o0 o1 o2 : Bool) (x0 x1 x2 : Int) (am ad ar : Option Addr) (cm cd cr : Nat) (b : Int) (s : ByteArray) (w0 : World) (hm : RL cpyC w0 (.slice am mt.length cm) mt) (hd : RL cpyC w0 (.slice ad dt.length cd) dt) (hr : RL intC w0 (.slice ar rev.length cr) rev) (n1 : mt.length ≤ 12) (n2 : dt.length ≤ 12) (n3 : rev.length ≤ 12) (hgt : goodT ⟨seq, mt, dt, rev, ⟨true, x0⟩, ⟨o1, x1⟩, ⟨o2, x2⟩⟩ = true) (hblk : isBlk b = true) (hqm : hasB mt b = false) (hqd : hasB dt b = q2) (hqr : inI rev b = false) (hx : x0 = 0) :
    Calls Try.prog 8 #[.int .i64 2, .agg #[.int .i64 seq, .slice am mt.length cm, .slice ad dt.length cd, .slice ar rev.length cr, .bool true, .int .i64 x0, .bool o1, .int .i64 x1, .bool o2, .int .i64 x2], .int .i64 0, .int .i64 b, .string s] w0 fun e w' => e = .returned (.tuple #[.agg #[.int .i64 seq, .slice am mt.length cm, .slice ad dt.length cd, .slice ar rev.length cr, .bool true, .int .i64 x0, .bool o1, .int .i64 x1, .bool o2, .int .i64 x2], .int .i64 7]) ∧ Below w0.heap.size w0 w' := by
  have hT : RTxn w0 (txnV ⟨seq, mt, dt, rev, ⟨true, x0⟩, ⟨o1, x1⟩, ⟨o2, x2⟩⟩ (.slice am mt.length cm) (.slice ad dt.length cd) (.slice ar rev.length cr)) ⟨seq, mt, dt, rev, ⟨true, x0⟩, ⟨o1, x1⟩, ⟨o2, x2⟩⟩ := ⟨_, _, _, rfl, hm, hd, hr, by dsimp only; omega, by dsimp only; omega, by dsimp only; omega⟩
  have hCp := hid (fun w' (hb : Below w0.heap.size w0 w') => ref_CopyTxn _ _ w' (hT.below hb))
  have hGd := fun w' (hb : Below w0.heap.size w0 w') => ref_GoodTxn _ _ w' (hT.below hb)
  rw [hgt] at hGd
  replace hGd := hid hGd
  have hBk := hid (by simpa only [hblk] using (fun w' => ref_isBlock b w'))
  have hInM := hid (by simpa only [hqm] using (fun w' (hb : Below w0.heap.size w0 w') => ref_in mt b _ w' (hm.below hb) (by omega)))
  have hInD := hid (by simpa only [hqd] using (fun w' (hb : Below w0.heap.size w0 w') => ref_in dt b _ w' (hd.below hb) (by omega)))
  have hAm := hid (fun x w' (hb : Below w0.heap.size w0 w') => ref_among rev x _ w' (hr.below hb) (by omega))
  have hAb := hid (by simpa only [hqr] using (fun w' (hb : Below w0.heap.size w0 w') => ref_among rev b _ w' (hr.below hb) (by omega)))
  have hWm := hid (fun w' (hb : Below w0.heap.size w0 w') => ref_with mt b s _ w' (hm.below hb) (by omega))
  have hWd := hid (fun w' (hb : Below w0.heap.size w0 w') => ref_with dt b s _ w' (hd.below hb) (by omega))
  have hRm := hid (fun w' (hb : Below w0.heap.size w0 w') => ref_rest mt b _ w' (hm.below hb) (by omega))
  have hRd := hid (fun w' (hb : Below w0.heap.size w0 w') => ref_rest dt b _ w' (hd.below hb) (by omega))
  simp only [txnV] at hCp hGd
  replace hqm := hid hqm; replace hqd := hid hqd; replace hqr := hid hqr
  clear hT hm hd hr hgt
  have X := St.start [] w0
  go_enter Try.func8, Try.ntmps8
  have e0 : (x0 == 0) = true := beq_iff_eq.2 hx
  clear hx
  go_wp2_with (first
    | (refine at_mem rfl ?_; (first | (refine at_load rfl ?_; (first | (refine c_load1 rfl _ _ rfl rfl X (by repeat (first | exact ReadA.here rfl | apply ReadA.there)) ?_) | (refine c_loadN rfl _ _ rfl rfl X (by repeat (first | exact ReadB.here (Nat.le_of_ble_eq_true rfl) | apply ReadB.there)) ?_))) | (refine at_store rfl ?_; (first | (refine c_store1 rfl _ _ _ rfl rfl (by first | exact EvR.const _ | exact EvR.tmp rfl rfl) X rfl rfl (by repeat (first | exact PutA.here (Nat.le_of_ble_eq_true rfl) | apply PutA.there)) ?_; intro w X2; (try simp only [upd] at X2); replace X := X2; clear X2) | (refine c_storeN rfl _ _ _ rfl rfl rfl X rfl rfl (by repeat (first | exact PutA.here (Nat.le_of_ble_eq_true rfl) | apply PutA.there)) ?_; intro w X2; (try simp only [upd] at X2); replace X := X2; clear X2))) | (refine m_alloc rfl _ rfl X ?_; intro g w X2; (replace X := X2; clear X2)) | (refine m_box rfl _ _ rfl (by first | exact EvR.const _ | exact EvR.tmp rfl rfl) rfl X ?_; intro g w X2; (replace X := X2; clear X2))); (simp only [Act.put, List.setIfInBounds_toArray, List.set_cons_succ, List.set_cons_zero, List.drop_succ_cons, List.drop_zero, List.take_succ_cons, List.take_zero, Nat.reduceAdd]))
    | (go_at_call 30; go_loud ((with_reducible refine (hGd.out _ X.below).mono ?_); rintro e w1 ⟨rfl, hb1⟩; replace X := X.call hb1; clear hb1))
    | (go_at_call 31; go_loud ((with_reducible refine (hBk.out _).mono ?_); rintro e w1 ⟨rfl, rfl⟩))
    | (go_at_call 32; go_loud ((with_reducible refine (hInM.out _ X.below).mono ?_); rintro e w1 ⟨rfl, hb1⟩; replace X := X.call hb1; clear hb1))
    | (go_at_call 32; go_loud ((with_reducible refine (hInD.out _ X.below).mono ?_); rintro e w1 ⟨rfl, hb1⟩; replace X := X.call hb1; clear hb1))
    | (go_at_call 33; go_loud ((with_reducible refine (hAb.out _ X.below).mono ?_); rintro e w1 ⟨rfl, rfl⟩))
    | (go_at_call 6; go_loud ((with_reducible refine (hCp.out _ X.below).mono ?_); rintro e w1 ⟨vc, rfl, ⟨vm', vd', vr', rfl, p1, p2, p3, _⟩, hb1⟩; obtain ⟨am', cm', rfl⟩ := p1.form; obtain ⟨ad', cd', rfl⟩ := p2.form; obtain ⟨ar', cr', rfl⟩ := p3.form; have f1 := hid (p1.fresh X.mv.size); have f2 := hid (p2.fresh X.mv.size); have f3 := hid (p3.fresh X.mv.size); simp only [txnV]; replace X := X.addOTxn hb1 p1 p2 p3; dsimp only at X; clear hb1 p1 p2 p3)))
  first | exact m_ret2 rfl (.tmp rfl rfl) (.tmp rfl rfl) X (.head _) rfl rfl ⟨rfl, X.below⟩ | exact m_ret2 rfl (.tmp rfl rfl) (.tmp rfl rfl) X (.tail _ (.head _)) rfl rfl ⟨rfl, X.below⟩

theorem ref_Alter_off1 (K : Int) {q0 : Bool} {q1 q2 q3 : Bool} (seq : Int) (mt dt : List Cpy) (rev : List Int) (o0 o1 o2 : Bool) (x0 x1 x2 : Int) (am ad ar : Option Addr) (cm cd cr : Nat) (b : Int) (s : ByteArray) (w0 : World) (hm : RL cpyC w0 (.slice am mt.length cm) mt) (hd : RL cpyC w0 (.slice ad dt.length cd) dt) (hr : RL intC w0 (.slice ar rev.length cr) rev) (n1 : mt.length ≤ 12) (n2 : dt.length ≤ 12) (n3 : rev.length ≤ 12) (hgt : goodT ⟨seq, mt, dt, rev, ⟨o0, x0⟩, ⟨false, x1⟩, ⟨o2, x2⟩⟩ = true) (hblk : isBlk b = q0) (hqm : hasB mt b = q1) (hqd : hasB dt b = q2) (hqr : inI rev b = q3) :
    Calls Try.prog 8 #[.int .i64 K, .agg #[.int .i64 seq, .slice am mt.length cm, .slice ad dt.length cd, .slice ar rev.length cr, .bool o0, .int .i64 x0, .bool false, .int .i64 x1, .bool o2, .int .i64 x2], .int .i64 1, .int .i64 b, .string s] w0 fun e w' => e = .returned (.tuple #[.agg #[.int .i64 seq, .slice am mt.length cm, .slice ad dt.length cd, .slice ar rev.length cr, .bool o0, .int .i64 x0, .bool false, .int .i64 x1, .bool o2, .int .i64 x2], .int .i64 4]) ∧ Below w0.heap.size w0 w' := by
  have hT : RTxn w0 (txnV ⟨seq, mt, dt, rev, ⟨o0, x0⟩, ⟨false, x1⟩, ⟨o2, x2⟩⟩ (.slice am mt.length cm) (.slice ad dt.length cd) (.slice ar rev.length cr)) ⟨seq, mt, dt, rev, ⟨o0, x0⟩, ⟨false, x1⟩, ⟨o2, x2⟩⟩ := ⟨_, _, _, rfl, hm, hd, hr, by dsimp only; omega, by dsimp only; omega, by dsimp only; omega⟩
  have hCp := hid (fun w' (hb : Below w0.heap.size w0 w') => ref_CopyTxn _ _ w' (hT.below hb))
  have hGd := fun w' (hb : Below w0.heap.size w0 w') => ref_GoodTxn _ _ w' (hT.below hb)
  rw [hgt] at hGd
  replace hGd := hid hGd
  have hBk := hid (by simpa only [hblk] using (fun w' => ref_isBlock b w'))
  have hInM := hid (by simpa only [hqm] using (fun w' (hb : Below w0.heap.size w0 w') => ref_in mt b _ w' (hm.below hb) (by omega)))
  have hInD := hid (by simpa only [hqd] using (fun w' (hb : Below w0.heap.size w0 w') => ref_in dt b _ w' (hd.below hb) (by omega)))
  have hAm := hid (fun x w' (hb : Below w0.heap.size w0 w') => ref_among rev x _ w' (hr.below hb) (by omega))
  have hAb := hid (by simpa only [hqr] using (fun w' (hb : Below w0.heap.size w0 w') => ref_among rev b _ w' (hr.below hb) (by omega)))
  have hWm := hid (fun w' (hb : Below w0.heap.size w0 w') => ref_with mt b s _ w' (hm.below hb) (by omega))
  have hWd := hid (fun w' (hb : Below w0.heap.size w0 w') => ref_with dt b s _ w' (hd.below hb) (by omega))
  have hRm := hid (fun w' (hb : Below w0.heap.size w0 w') => ref_rest mt b _ w' (hm.below hb) (by omega))
  have hRd := hid (fun w' (hb : Below w0.heap.size w0 w') => ref_rest dt b _ w' (hd.below hb) (by omega))
  simp only [txnV] at hCp hGd
  replace hqm := hid hqm; replace hqd := hid hqd; replace hqr := hid hqr
  clear hT hm hd hr hgt
  have X := St.start [] w0
  go_enter Try.func8, Try.ntmps8
  go_wp2_with (first
    | (refine at_mem rfl ?_; (first | (refine at_load rfl ?_; (first | (refine c_load1 rfl _ _ rfl rfl X (by repeat (first | exact ReadA.here rfl | apply ReadA.there)) ?_) | (refine c_loadN rfl _ _ rfl rfl X (by repeat (first | exact ReadB.here (Nat.le_of_ble_eq_true rfl) | apply ReadB.there)) ?_))) | (refine at_store rfl ?_; (first | (refine c_store1 rfl _ _ _ rfl rfl (by first | exact EvR.const _ | exact EvR.tmp rfl rfl) X rfl rfl (by repeat (first | exact PutA.here (Nat.le_of_ble_eq_true rfl) | apply PutA.there)) ?_; intro w X2; (try simp only [upd] at X2); replace X := X2; clear X2) | (refine c_storeN rfl _ _ _ rfl rfl rfl X rfl rfl (by repeat (first | exact PutA.here (Nat.le_of_ble_eq_true rfl) | apply PutA.there)) ?_; intro w X2; (try simp only [upd] at X2); replace X := X2; clear X2))) | (refine m_alloc rfl _ rfl X ?_; intro g w X2; (replace X := X2; clear X2)) | (refine m_box rfl _ _ rfl (by first | exact EvR.const _ | exact EvR.tmp rfl rfl) rfl X ?_; intro g w X2; (replace X := X2; clear X2))); (simp only [Act.put, List.setIfInBounds_toArray, List.set_cons_succ, List.set_cons_zero, List.drop_succ_cons, List.drop_zero, List.take_succ_cons, List.take_zero, Nat.reduceAdd]))
    | (go_at_call 30; go_loud ((with_reducible refine (hGd.out _ X.below).mono ?_); rintro e w1 ⟨rfl, hb1⟩; replace X := X.call hb1; clear hb1))
    | (go_at_call 31; go_loud ((with_reducible refine (hBk.out _).mono ?_); rintro e w1 ⟨rfl, rfl⟩)))
  first | exact m_ret2 rfl (.tmp rfl rfl) (.tmp rfl rfl) X (.head _) rfl rfl ⟨rfl, X.below⟩ | exact m_ret2 rfl (.tmp rfl rfl) (.tmp rfl rfl) X (.tail _ (.head _)) rfl rfl ⟨rfl, X.below⟩

theorem ref_Alter_blk1 (K : Int) {q1 q2 q3 : Bool} (seq : Int) (mt dt : List Cpy) (rev : List Int) (o0 o1 o2 : Bool) (x0 x1 x2 : Int) (am ad ar : Option Addr) (cm cd cr : Nat) (b : Int) (s : ByteArray) (w0 : World) (hm : RL cpyC w0 (.slice am mt.length cm) mt) (hd : RL cpyC w0 (.slice ad dt.length cd) dt) (hr : RL intC w0 (.slice ar rev.length cr) rev) (n1 : mt.length ≤ 12) (n2 : dt.length ≤ 12) (n3 : rev.length ≤ 12) (hgt : goodT ⟨seq, mt, dt, rev, ⟨o0, x0⟩, ⟨true, x1⟩, ⟨o2, x2⟩⟩ = true) (hblk : isBlk b = false) (hqm : hasB mt b = q1) (hqd : hasB dt b = q2) (hqr : inI rev b = q3) :
    Calls Try.prog 8 #[.int .i64 K, .agg #[.int .i64 seq, .slice am mt.length cm, .slice ad dt.length cd, .slice ar rev.length cr, .bool o0, .int .i64 x0, .bool true, .int .i64 x1, .bool o2, .int .i64 x2], .int .i64 1, .int .i64 b, .string s] w0 fun e w' => e = .returned (.tuple #[.agg #[.int .i64 seq, .slice am mt.length cm, .slice ad dt.length cd, .slice ar rev.length cr, .bool o0, .int .i64 x0, .bool true, .int .i64 x1, .bool o2, .int .i64 x2], .int .i64 4]) ∧ Below w0.heap.size w0 w' := by
  have hT : RTxn w0 (txnV ⟨seq, mt, dt, rev, ⟨o0, x0⟩, ⟨true, x1⟩, ⟨o2, x2⟩⟩ (.slice am mt.length cm) (.slice ad dt.length cd) (.slice ar rev.length cr)) ⟨seq, mt, dt, rev, ⟨o0, x0⟩, ⟨true, x1⟩, ⟨o2, x2⟩⟩ := ⟨_, _, _, rfl, hm, hd, hr, by dsimp only; omega, by dsimp only; omega, by dsimp only; omega⟩
  have hCp := hid (fun w' (hb : Below w0.heap.size w0 w') => ref_CopyTxn _ _ w' (hT.below hb))
  have hGd := fun w' (hb : Below w0.heap.size w0 w') => ref_GoodTxn _ _ w' (hT.below hb)
  rw [hgt] at hGd
  replace hGd := hid hGd
  have hBk := hid (by simpa only [hblk] using (fun w' => ref_isBlock b w'))
  have hInM := hid (by simpa only [hqm] using (fun w' (hb : Below w0.heap.size w0 w') => ref_in mt b _ w' (hm.below hb) (by omega)))
  have hInD := hid (by simpa only [hqd] using (fun w' (hb : Below w0.heap.size w0 w') => ref_in dt b _ w' (hd.below hb) (by omega)))
  have hAm := hid (fun x w' (hb : Below w0.heap.size w0 w') => ref_among rev x _ w' (hr.below hb) (by omega))
  have hAb := hid (by simpa only [hqr] using (fun w' (hb : Below w0.heap.size w0 w') => ref_among rev b _ w' (hr.below hb) (by omega)))
  have hWm := hid (fun w' (hb : Below w0.heap.size w0 w') => ref_with mt b s _ w' (hm.below hb) (by omega))
  have hWd := hid (fun w' (hb : Below w0.heap.size w0 w') => ref_with dt b s _ w' (hd.below hb) (by omega))
  have hRm := hid (fun w' (hb : Below w0.heap.size w0 w') => ref_rest mt b _ w' (hm.below hb) (by omega))
  have hRd := hid (fun w' (hb : Below w0.heap.size w0 w') => ref_rest dt b _ w' (hd.below hb) (by omega))
  simp only [txnV] at hCp hGd
  replace hqm := hid hqm; replace hqd := hid hqd; replace hqr := hid hqr
  clear hT hm hd hr hgt
  have X := St.start [] w0
  go_enter Try.func8, Try.ntmps8
  go_wp2_with (first
    | (refine at_mem rfl ?_; (first | (refine at_load rfl ?_; (first | (refine c_load1 rfl _ _ rfl rfl X (by repeat (first | exact ReadA.here rfl | apply ReadA.there)) ?_) | (refine c_loadN rfl _ _ rfl rfl X (by repeat (first | exact ReadB.here (Nat.le_of_ble_eq_true rfl) | apply ReadB.there)) ?_))) | (refine at_store rfl ?_; (first | (refine c_store1 rfl _ _ _ rfl rfl (by first | exact EvR.const _ | exact EvR.tmp rfl rfl) X rfl rfl (by repeat (first | exact PutA.here (Nat.le_of_ble_eq_true rfl) | apply PutA.there)) ?_; intro w X2; (try simp only [upd] at X2); replace X := X2; clear X2) | (refine c_storeN rfl _ _ _ rfl rfl rfl X rfl rfl (by repeat (first | exact PutA.here (Nat.le_of_ble_eq_true rfl) | apply PutA.there)) ?_; intro w X2; (try simp only [upd] at X2); replace X := X2; clear X2))) | (refine m_alloc rfl _ rfl X ?_; intro g w X2; (replace X := X2; clear X2)) | (refine m_box rfl _ _ rfl (by first | exact EvR.const _ | exact EvR.tmp rfl rfl) rfl X ?_; intro g w X2; (replace X := X2; clear X2))); (simp only [Act.put, List.setIfInBounds_toArray, List.set_cons_succ, List.set_cons_zero, List.drop_succ_cons, List.drop_zero, List.take_succ_cons, List.take_zero, Nat.reduceAdd]))
    | (go_at_call 30; go_loud ((with_reducible refine (hGd.out _ X.below).mono ?_); rintro e w1 ⟨rfl, hb1⟩; replace X := X.call hb1; clear hb1))
    | (go_at_call 31; go_loud ((with_reducible refine (hBk.out _).mono ?_); rintro e w1 ⟨rfl, rfl⟩)))
  first | exact m_ret2 rfl (.tmp rfl rfl) (.tmp rfl rfl) X (.head _) rfl rfl ⟨rfl, X.below⟩ | exact m_ret2 rfl (.tmp rfl rfl) (.tmp rfl rfl) X (.tail _ (.head _)) rfl rfl ⟨rfl, X.below⟩

theorem ref_Alter_form01 {q1 q2 q3 : Bool} (seq : Int) (mt dt : List Cpy) (rev : List Int) (o0 o1 o2 : Bool) (x0 x1 x2 : Int) (am ad ar : Option Addr) (cm cd cr : Nat) (b : Int) (s : ByteArray) (w0 : World) (hm : RL cpyC w0 (.slice am mt.length cm) mt) (hd : RL cpyC w0 (.slice ad dt.length cd) dt) (hr : RL intC w0 (.slice ar rev.length cr) rev) (n1 : mt.length ≤ 12) (n2 : dt.length ≤ 12) (n3 : rev.length ≤ 12) (hgt : goodT ⟨seq, mt, dt, rev, ⟨o0, x0⟩, ⟨true, x1⟩, ⟨o2, x2⟩⟩ = true) (hblk : isBlk b = true) (hs : ((s.size : Int) != 32) = true) (hqm : hasB mt b = q1) (hqd : hasB dt b = q2) (hqr : inI rev b = q3) :
    Calls Try.prog 8 #[.int .i64 0, .agg #[.int .i64 seq, .slice am mt.length cm, .slice ad dt.length cd, .slice ar rev.length cr, .bool o0, .int .i64 x0, .bool true, .int .i64 x1, .bool o2, .int .i64 x2], .int .i64 1, .int .i64 b, .string s] w0 fun e w' => e = .returned (.tuple #[.agg #[.int .i64 seq, .slice am mt.length cm, .slice ad dt.length cd, .slice ar rev.length cr, .bool o0, .int .i64 x0, .bool true, .int .i64 x1, .bool o2, .int .i64 x2], .int .i64 1]) ∧ Below w0.heap.size w0 w' := by
  have hT : RTxn w0 (txnV ⟨seq, mt, dt, rev, ⟨o0, x0⟩, ⟨true, x1⟩, ⟨o2, x2⟩⟩ (.slice am mt.length cm) (.slice ad dt.length cd) (.slice ar rev.length cr)) ⟨seq, mt, dt, rev, ⟨o0, x0⟩, ⟨true, x1⟩, ⟨o2, x2⟩⟩ := ⟨_, _, _, rfl, hm, hd, hr, by dsimp only; omega, by dsimp only; omega, by dsimp only; omega⟩
  have hCp := hid (fun w' (hb : Below w0.heap.size w0 w') => ref_CopyTxn _ _ w' (hT.below hb))
  have hGd := fun w' (hb : Below w0.heap.size w0 w') => ref_GoodTxn _ _ w' (hT.below hb)
  rw [hgt] at hGd
  replace hGd := hid hGd
  have hBk := hid (by simpa only [hblk] using (fun w' => ref_isBlock b w'))
  have hInM := hid (by simpa only [hqm] using (fun w' (hb : Below w0.heap.size w0 w') => ref_in mt b _ w' (hm.below hb) (by omega)))
  have hInD := hid (by simpa only [hqd] using (fun w' (hb : Below w0.heap.size w0 w') => ref_in dt b _ w' (hd.below hb) (by omega)))
  have hAm := hid (fun x w' (hb : Below w0.heap.size w0 w') => ref_among rev x _ w' (hr.below hb) (by omega))
  have hAb := hid (by simpa only [hqr] using (fun w' (hb : Below w0.heap.size w0 w') => ref_among rev b _ w' (hr.below hb) (by omega)))
  have hWm := hid (fun w' (hb : Below w0.heap.size w0 w') => ref_with mt b s _ w' (hm.below hb) (by omega))
  have hWd := hid (fun w' (hb : Below w0.heap.size w0 w') => ref_with dt b s _ w' (hd.below hb) (by omega))
  have hRm := hid (fun w' (hb : Below w0.heap.size w0 w') => ref_rest mt b _ w' (hm.below hb) (by omega))
  have hRd := hid (fun w' (hb : Below w0.heap.size w0 w') => ref_rest dt b _ w' (hd.below hb) (by omega))
  simp only [txnV] at hCp hGd
  replace hqm := hid hqm; replace hqd := hid hqd; replace hqr := hid hqr
  clear hT hm hd hr hgt
  have X := St.start [] w0
  go_enter Try.func8, Try.ntmps8
  go_wp2_with (first
    | (refine at_mem rfl ?_; (first | (refine at_load rfl ?_; (first | (refine c_load1 rfl _ _ rfl rfl X (by repeat (first | exact ReadA.here rfl | apply ReadA.there)) ?_) | (refine c_loadN rfl _ _ rfl rfl X (by repeat (first | exact ReadB.here (Nat.le_of_ble_eq_true rfl) | apply ReadB.there)) ?_))) | (refine at_store rfl ?_; (first | (refine c_store1 rfl _ _ _ rfl rfl (by first | exact EvR.const _ | exact EvR.tmp rfl rfl) X rfl rfl (by repeat (first | exact PutA.here (Nat.le_of_ble_eq_true rfl) | apply PutA.there)) ?_; intro w X2; (try simp only [upd] at X2); replace X := X2; clear X2) | (refine c_storeN rfl _ _ _ rfl rfl rfl X rfl rfl (by repeat (first | exact PutA.here (Nat.le_of_ble_eq_true rfl) | apply PutA.there)) ?_; intro w X2; (try simp only [upd] at X2); replace X := X2; clear X2))) | (refine m_alloc rfl _ rfl X ?_; intro g w X2; (replace X := X2; clear X2)) | (refine m_box rfl _ _ rfl (by first | exact EvR.const _ | exact EvR.tmp rfl rfl) rfl X ?_; intro g w X2; (replace X := X2; clear X2))); (simp only [Act.put, List.setIfInBounds_toArray, List.set_cons_succ, List.set_cons_zero, List.drop_succ_cons, List.drop_zero, List.take_succ_cons, List.take_zero, Nat.reduceAdd]))
    | (go_at_call 30; go_loud ((with_reducible refine (hGd.out _ X.below).mono ?_); rintro e w1 ⟨rfl, hb1⟩; replace X := X.call hb1; clear hb1))
    | (go_at_call 31; go_loud ((with_reducible refine (hBk.out _).mono ?_); rintro e w1 ⟨rfl, rfl⟩)))
  first | exact m_ret2 rfl (.tmp rfl rfl) (.tmp rfl rfl) X (.head _) rfl rfl ⟨rfl, X.below⟩ | exact m_ret2 rfl (.tmp rfl rfl) (.tmp rfl rfl) X (.tail _ (.head _)) rfl rfl ⟨rfl, X.below⟩

theorem ref_Alter_form11 {q1 q2 q3 : Bool} (seq : Int) (mt dt : List Cpy) (rev : List Int) (o0 o1 o2 : Bool) (x0 x1 x2 : Int) (am ad ar : Option Addr) (cm cd cr : Nat) (b : Int) (s : ByteArray) (w0 : World) (hm : RL cpyC w0 (.slice am mt.length cm) mt) (hd : RL cpyC w0 (.slice ad dt.length cd) dt) (hr : RL intC w0 (.slice ar rev.length cr) rev) (n1 : mt.length ≤ 12) (n2 : dt.length ≤ 12) (n3 : rev.length ≤ 12) (hgt : goodT ⟨seq, mt, dt, rev, ⟨o0, x0⟩, ⟨true, x1⟩, ⟨o2, x2⟩⟩ = true) (hblk : isBlk b = true) (hs : ((s.size : Int) != 32) = true) (hqm : hasB mt b = q1) (hqd : hasB dt b = q2) (hqr : inI rev b = q3) :
    Calls Try.prog 8 #[.int .i64 1, .agg #[.int .i64 seq, .slice am mt.length cm, .slice ad dt.length cd, .slice ar rev.length cr, .bool o0, .int .i64 x0, .bool true, .int .i64 x1, .bool o2, .int .i64 x2], .int .i64 1, .int .i64 b, .string s] w0 fun e w' => e = .returned (.tuple #[.agg #[.int .i64 seq, .slice am mt.length cm, .slice ad dt.length cd, .slice ar rev.length cr, .bool o0, .int .i64 x0, .bool true, .int .i64 x1, .bool o2, .int .i64 x2], .int .i64 1]) ∧ Below w0.heap.size w0 w' := by
  have hT : RTxn w0 (txnV ⟨seq, mt, dt, rev, ⟨o0, x0⟩, ⟨true, x1⟩, ⟨o2, x2⟩⟩ (.slice am mt.length cm) (.slice ad dt.length cd) (.slice ar rev.length cr)) ⟨seq, mt, dt, rev, ⟨o0, x0⟩, ⟨true, x1⟩, ⟨o2, x2⟩⟩ := ⟨_, _, _, rfl, hm, hd, hr, by dsimp only; omega, by dsimp only; omega, by dsimp only; omega⟩
  have hCp := hid (fun w' (hb : Below w0.heap.size w0 w') => ref_CopyTxn _ _ w' (hT.below hb))
  have hGd := fun w' (hb : Below w0.heap.size w0 w') => ref_GoodTxn _ _ w' (hT.below hb)
  rw [hgt] at hGd
  replace hGd := hid hGd
  have hBk := hid (by simpa only [hblk] using (fun w' => ref_isBlock b w'))
  have hInM := hid (by simpa only [hqm] using (fun w' (hb : Below w0.heap.size w0 w') => ref_in mt b _ w' (hm.below hb) (by omega)))
  have hInD := hid (by simpa only [hqd] using (fun w' (hb : Below w0.heap.size w0 w') => ref_in dt b _ w' (hd.below hb) (by omega)))
  have hAm := hid (fun x w' (hb : Below w0.heap.size w0 w') => ref_among rev x _ w' (hr.below hb) (by omega))
  have hAb := hid (by simpa only [hqr] using (fun w' (hb : Below w0.heap.size w0 w') => ref_among rev b _ w' (hr.below hb) (by omega)))
  have hWm := hid (fun w' (hb : Below w0.heap.size w0 w') => ref_with mt b s _ w' (hm.below hb) (by omega))
  have hWd := hid (fun w' (hb : Below w0.heap.size w0 w') => ref_with dt b s _ w' (hd.below hb) (by omega))
  have hRm := hid (fun w' (hb : Below w0.heap.size w0 w') => ref_rest mt b _ w' (hm.below hb) (by omega))
  have hRd := hid (fun w' (hb : Below w0.heap.size w0 w') => ref_rest dt b _ w' (hd.below hb) (by omega))
  simp only [txnV] at hCp hGd
  replace hqm := hid hqm; replace hqd := hid hqd; replace hqr := hid hqr
  clear hT hm hd hr hgt
  have X := St.start [] w0
  go_enter Try.func8, Try.ntmps8
  go_wp2_with (first
    | (refine at_mem rfl ?_; (first | (refine at_load rfl ?_; (first | (refine c_load1 rfl _ _ rfl rfl X (by repeat (first | exact ReadA.here rfl | apply ReadA.there)) ?_) | (refine c_loadN rfl _ _ rfl rfl X (by repeat (first | exact ReadB.here (Nat.le_of_ble_eq_true rfl) | apply ReadB.there)) ?_))) | (refine at_store rfl ?_; (first | (refine c_store1 rfl _ _ _ rfl rfl (by first | exact EvR.const _ | exact EvR.tmp rfl rfl) X rfl rfl (by repeat (first | exact PutA.here (Nat.le_of_ble_eq_true rfl) | apply PutA.there)) ?_; intro w X2; (try simp only [upd] at X2); replace X := X2; clear X2) | (refine c_storeN rfl _ _ _ rfl rfl rfl X rfl rfl (by repeat (first | exact PutA.here (Nat.le_of_ble_eq_true rfl) | apply PutA.there)) ?_; intro w X2; (try simp only [upd] at X2); replace X := X2; clear X2))) | (refine m_alloc rfl _ rfl X ?_; intro g w X2; (replace X := X2; clear X2)) | (refine m_box rfl _ _ rfl (by first | exact EvR.const _ | exact EvR.tmp rfl rfl) rfl X ?_; intro g w X2; (replace X := X2; clear X2))); (simp only [Act.put, List.setIfInBounds_toArray, List.set_cons_succ, List.set_cons_zero, List.drop_succ_cons, List.drop_zero, List.take_succ_cons, List.take_zero, Nat.reduceAdd]))
    | (go_at_call 30; go_loud ((with_reducible refine (hGd.out _ X.below).mono ?_); rintro e w1 ⟨rfl, hb1⟩; replace X := X.call hb1; clear hb1))
    | (go_at_call 31; go_loud ((with_reducible refine (hBk.out _).mono ?_); rintro e w1 ⟨rfl, rfl⟩)))
  first | exact m_ret2 rfl (.tmp rfl rfl) (.tmp rfl rfl) X (.head _) rfl rfl ⟨rfl, X.below⟩ | exact m_ret2 rfl (.tmp rfl rfl) (.tmp rfl rfl) X (.tail _ (.head _)) rfl rfl ⟨rfl, X.below⟩

theorem ref_Alter_fil_role1 {q2 q3 : Bool} (seq : Int) (mt dt : List Cpy) (rev : List Int) (o0 o1 o2 : Bool) (x0 x1 x2 : Int) (am ad ar : Option Addr) (cm cd cr : Nat) (b : Int) (s : ByteArray) (w0 : World) (hm : RL cpyC w0 (.slice am mt.length cm) mt) (hd : RL cpyC w0 (.slice ad dt.length cd) dt) (hr : RL intC w0 (.slice ar rev.length cr) rev) (n1 : mt.length ≤ 12) (n2 : dt.length ≤ 12) (n3 : rev.length ≤ 12) (hgt : goodT ⟨seq, mt, dt, rev, ⟨o0, x0⟩, ⟨true, x1⟩, ⟨o2, x2⟩⟩ = true) (hblk : isBlk b = true) (hs : ((s.size : Int) != 32) = false) (hqm : hasB mt b = true) (hqd : hasB dt b = q2) (hqr : inI rev b = q3) :
    Calls Try.prog 8 #[.int .i64 1, .agg #[.int .i64 seq, .slice am mt.length cm, .slice ad dt.length cd, .slice ar rev.length cr, .bool o0, .int .i64 x0, .bool true, .int .i64 x1, .bool o2, .int .i64 x2], .int .i64 1, .int .i64 b, .string s] w0 fun e w' => e = .returned (.tuple #[.agg #[.int .i64 seq, .slice am mt.length cm, .slice ad dt.length cd, .slice ar rev.length cr, .bool o0, .int .i64 x0, .bool true, .int .i64 x1, .bool o2, .int .i64 x2], .int .i64 8]) ∧ Below w0.heap.size w0 w' := by
  have hT : RTxn w0 (txnV ⟨seq, mt, dt, rev, ⟨o0, x0⟩, ⟨true, x1⟩, ⟨o2, x2⟩⟩ (.slice am mt.length cm) (.slice ad dt.length cd) (.slice ar rev.length cr)) ⟨seq, mt, dt, rev, ⟨o0, x0⟩, ⟨true, x1⟩, ⟨o2, x2⟩⟩ := ⟨_, _, _, rfl, hm, hd, hr, by dsimp only; omega, by dsimp only; omega, by dsimp only; omega⟩
  have hCp := hid (fun w' (hb : Below w0.heap.size w0 w') => ref_CopyTxn _ _ w' (hT.below hb))
  have hGd := fun w' (hb : Below w0.heap.size w0 w') => ref_GoodTxn _ _ w' (hT.below hb)
  rw [hgt] at hGd
  replace hGd := hid hGd
  have hBk := hid (by simpa only [hblk] using (fun w' => ref_isBlock b w'))
  have hInM := hid (by simpa only [hqm] using (fun w' (hb : Below w0.heap.size w0 w') => ref_in mt b _ w' (hm.below hb) (by omega)))
  have hInD := hid (by simpa only [hqd] using (fun w' (hb : Below w0.heap.size w0 w') => ref_in dt b _ w' (hd.below hb) (by omega)))
  have hAm := hid (fun x w' (hb : Below w0.heap.size w0 w') => ref_among rev x _ w' (hr.below hb) (by omega))
  have hAb := hid (by simpa only [hqr] using (fun w' (hb : Below w0.heap.size w0 w') => ref_among rev b _ w' (hr.below hb) (by omega)))
  have hWm := hid (fun w' (hb : Below w0.heap.size w0 w') => ref_with mt b s _ w' (hm.below hb) (by omega))
  have hWd := hid (fun w' (hb : Below w0.heap.size w0 w') => ref_with dt b s _ w' (hd.below hb) (by omega))
  have hRm := hid (fun w' (hb : Below w0.heap.size w0 w') => ref_rest mt b _ w' (hm.below hb) (by omega))
  have hRd := hid (fun w' (hb : Below w0.heap.size w0 w') => ref_rest dt b _ w' (hd.below hb) (by omega))
  simp only [txnV] at hCp hGd
  replace hqm := hid hqm; replace hqd := hid hqd; replace hqr := hid hqr
  clear hT hm hd hr hgt
  have X := St.start [] w0
  go_enter Try.func8, Try.ntmps8
  go_wp2_with (first
    | (refine at_mem rfl ?_; (first | (refine at_load rfl ?_; (first | (refine c_load1 rfl _ _ rfl rfl X (by repeat (first | exact ReadA.here rfl | apply ReadA.there)) ?_) | (refine c_loadN rfl _ _ rfl rfl X (by repeat (first | exact ReadB.here (Nat.le_of_ble_eq_true rfl) | apply ReadB.there)) ?_))) | (refine at_store rfl ?_; (first | (refine c_store1 rfl _ _ _ rfl rfl (by first | exact EvR.const _ | exact EvR.tmp rfl rfl) X rfl rfl (by repeat (first | exact PutA.here (Nat.le_of_ble_eq_true rfl) | apply PutA.there)) ?_; intro w X2; (try simp only [upd] at X2); replace X := X2; clear X2) | (refine c_storeN rfl _ _ _ rfl rfl rfl X rfl rfl (by repeat (first | exact PutA.here (Nat.le_of_ble_eq_true rfl) | apply PutA.there)) ?_; intro w X2; (try simp only [upd] at X2); replace X := X2; clear X2))) | (refine m_alloc rfl _ rfl X ?_; intro g w X2; (replace X := X2; clear X2)) | (refine m_box rfl _ _ rfl (by first | exact EvR.const _ | exact EvR.tmp rfl rfl) rfl X ?_; intro g w X2; (replace X := X2; clear X2))); (simp only [Act.put, List.setIfInBounds_toArray, List.set_cons_succ, List.set_cons_zero, List.drop_succ_cons, List.drop_zero, List.take_succ_cons, List.take_zero, Nat.reduceAdd]))
    | (go_at_call 30; go_loud ((with_reducible refine (hGd.out _ X.below).mono ?_); rintro e w1 ⟨rfl, hb1⟩; replace X := X.call hb1; clear hb1))
    | (go_at_call 31; go_loud ((with_reducible refine (hBk.out _).mono ?_); rintro e w1 ⟨rfl, rfl⟩))
    | (go_at_call 32; go_loud ((with_reducible refine (hInM.out _ X.below).mono ?_); rintro e w1 ⟨rfl, hb1⟩; replace X := X.call hb1; clear hb1))
    | (go_at_call 32; go_loud ((with_reducible refine (hInD.out _ X.below).mono ?_); rintro e w1 ⟨rfl, hb1⟩; replace X := X.call hb1; clear hb1))
    | (go_at_call 33; go_loud ((with_reducible refine (hAb.out _ X.below).mono ?_); rintro e w1 ⟨rfl, rfl⟩))
    | (go_at_call 6; go_loud ((with_reducible refine (hCp.out _ X.below).mono ?_); rintro e w1 ⟨vc, rfl, ⟨vm', vd', vr', rfl, p1, p2, p3, _⟩, hb1⟩; obtain ⟨am', cm', rfl⟩ := p1.form; obtain ⟨ad', cd', rfl⟩ := p2.form; obtain ⟨ar', cr', rfl⟩ := p3.form; have f1 := hid (p1.fresh X.mv.size); have f2 := hid (p2.fresh X.mv.size); have f3 := hid (p3.fresh X.mv.size); simp only [txnV]; replace X := X.addOTxn hb1 p1 p2 p3; dsimp only at X; clear hb1 p1 p2 p3)))
  first | exact m_ret2 rfl (.tmp rfl rfl) (.tmp rfl rfl) X (.head _) rfl rfl ⟨rfl, X.below⟩ | exact m_ret2 rfl (.tmp rfl rfl) (.tmp rfl rfl) X (.tail _ (.head _)) rfl rfl ⟨rfl, X.below⟩

theorem ref_Alter_fil_gone1 {q2 : Bool} (seq : Int) (mt dt : List Cpy) (rev : List Int) (o0 o1 o2 : Bool) (x0 x1 x2 : Int) (am ad ar : Option Addr) (cm cd cr : Nat) (b : Int) (s : ByteArray) (w0 : World) (hm : RL cpyC w0 (.slice am mt.length cm) mt) (hd : RL cpyC w0 (.slice ad dt.length cd) dt) (hr : RL intC w0 (.slice ar rev.length cr) rev) (n1 : mt.length ≤ 12) (n2 : dt.length ≤ 12) (n3 : rev.length ≤ 12) (hgt : goodT ⟨seq, mt, dt, rev, ⟨o0, x0⟩, ⟨true, x1⟩, ⟨o2, x2⟩⟩ = true) (hblk : isBlk b = true) (hs : ((s.size : Int) != 32) = false) (hqm : hasB mt b = false) (hqd : hasB dt b = q2) (hqr : inI rev b = true) :
    Calls Try.prog 8 #[.int .i64 1, .agg #[.int .i64 seq, .slice am mt.length cm, .slice ad dt.length cd, .slice ar rev.length cr, .bool o0, .int .i64 x0, .bool true, .int .i64 x1, .bool o2, .int .i64 x2], .int .i64 1, .int .i64 b, .string s] w0 fun e w' => e = .returned (.tuple #[.agg #[.int .i64 seq, .slice am mt.length cm, .slice ad dt.length cd, .slice ar rev.length cr, .bool o0, .int .i64 x0, .bool true, .int .i64 x1, .bool o2, .int .i64 x2], .int .i64 8]) ∧ Below w0.heap.size w0 w' := by
  have hT : RTxn w0 (txnV ⟨seq, mt, dt, rev, ⟨o0, x0⟩, ⟨true, x1⟩, ⟨o2, x2⟩⟩ (.slice am mt.length cm) (.slice ad dt.length cd) (.slice ar rev.length cr)) ⟨seq, mt, dt, rev, ⟨o0, x0⟩, ⟨true, x1⟩, ⟨o2, x2⟩⟩ := ⟨_, _, _, rfl, hm, hd, hr, by dsimp only; omega, by dsimp only; omega, by dsimp only; omega⟩
  have hCp := hid (fun w' (hb : Below w0.heap.size w0 w') => ref_CopyTxn _ _ w' (hT.below hb))
  have hGd := fun w' (hb : Below w0.heap.size w0 w') => ref_GoodTxn _ _ w' (hT.below hb)
  rw [hgt] at hGd
  replace hGd := hid hGd
  have hBk := hid (by simpa only [hblk] using (fun w' => ref_isBlock b w'))
  have hInM := hid (by simpa only [hqm] using (fun w' (hb : Below w0.heap.size w0 w') => ref_in mt b _ w' (hm.below hb) (by omega)))
  have hInD := hid (by simpa only [hqd] using (fun w' (hb : Below w0.heap.size w0 w') => ref_in dt b _ w' (hd.below hb) (by omega)))
  have hAm := hid (fun x w' (hb : Below w0.heap.size w0 w') => ref_among rev x _ w' (hr.below hb) (by omega))
  have hAb := hid (by simpa only [hqr] using (fun w' (hb : Below w0.heap.size w0 w') => ref_among rev b _ w' (hr.below hb) (by omega)))
  have hWm := hid (fun w' (hb : Below w0.heap.size w0 w') => ref_with mt b s _ w' (hm.below hb) (by omega))
  have hWd := hid (fun w' (hb : Below w0.heap.size w0 w') => ref_with dt b s _ w' (hd.below hb) (by omega))
  have hRm := hid (fun w' (hb : Below w0.heap.size w0 w') => ref_rest mt b _ w' (hm.below hb) (by omega))
  have hRd := hid (fun w' (hb : Below w0.heap.size w0 w') => ref_rest dt b _ w' (hd.below hb) (by omega))
  simp only [txnV] at hCp hGd
  replace hqm := hid hqm; replace hqd := hid hqd; replace hqr := hid hqr
  clear hT hm hd hr hgt
  have X := St.start [] w0
  go_enter Try.func8, Try.ntmps8
  go_wp2_with (first
    | (refine at_mem rfl ?_; (first | (refine at_load rfl ?_; (first | (refine c_load1 rfl _ _ rfl rfl X (by repeat (first | exact ReadA.here rfl | apply ReadA.there)) ?_) | (refine c_loadN rfl _ _ rfl rfl X (by repeat (first | exact ReadB.here (Nat.le_of_ble_eq_true rfl) | apply ReadB.there)) ?_))) | (refine at_store rfl ?_; (first | (refine c_store1 rfl _ _ _ rfl rfl (by first | exact EvR.const _ | exact EvR.tmp rfl rfl) X rfl rfl (by repeat (first | exact PutA.here (Nat.le_of_ble_eq_true rfl) | apply PutA.there)) ?_; intro w X2; (try simp only [upd] at X2); replace X := X2; clear X2) | (refine c_storeN rfl _ _ _ rfl rfl rfl X rfl rfl (by repeat (first | exact PutA.here (Nat.le_of_ble_eq_true rfl) | apply PutA.there)) ?_; intro w X2; (try simp only [upd] at X2); replace X := X2; clear X2))) | (refine m_alloc rfl _ rfl X ?_; intro g w X2; (replace X := X2; clear X2)) | (refine m_box rfl _ _ rfl (by first | exact EvR.const _ | exact EvR.tmp rfl rfl) rfl X ?_; intro g w X2; (replace X := X2; clear X2))); (simp only [Act.put, List.setIfInBounds_toArray, List.set_cons_succ, List.set_cons_zero, List.drop_succ_cons, List.drop_zero, List.take_succ_cons, List.take_zero, Nat.reduceAdd]))
    | (go_at_call 30; go_loud ((with_reducible refine (hGd.out _ X.below).mono ?_); rintro e w1 ⟨rfl, hb1⟩; replace X := X.call hb1; clear hb1))
    | (go_at_call 31; go_loud ((with_reducible refine (hBk.out _).mono ?_); rintro e w1 ⟨rfl, rfl⟩))
    | (go_at_call 32; go_loud ((with_reducible refine (hInM.out _ X.below).mono ?_); rintro e w1 ⟨rfl, hb1⟩; replace X := X.call hb1; clear hb1))
    | (go_at_call 32; go_loud ((with_reducible refine (hInD.out _ X.below).mono ?_); rintro e w1 ⟨rfl, hb1⟩; replace X := X.call hb1; clear hb1))
    | (go_at_call 33; go_loud ((with_reducible refine (hAb.out _ X.below).mono ?_); rintro e w1 ⟨rfl, rfl⟩))
    | (go_at_call 6; go_loud ((with_reducible refine (hCp.out _ X.below).mono ?_); rintro e w1 ⟨vc, rfl, ⟨vm', vd', vr', rfl, p1, p2, p3, _⟩, hb1⟩; obtain ⟨am', cm', rfl⟩ := p1.form; obtain ⟨ad', cd', rfl⟩ := p2.form; obtain ⟨ar', cr', rfl⟩ := p3.form; have f1 := hid (p1.fresh X.mv.size); have f2 := hid (p2.fresh X.mv.size); have f3 := hid (p3.fresh X.mv.size); simp only [txnV]; replace X := X.addOTxn hb1 p1 p2 p3; dsimp only at X; clear hb1 p1 p2 p3)))
  first | exact m_ret2 rfl (.tmp rfl rfl) (.tmp rfl rfl) X (.head _) rfl rfl ⟨rfl, X.below⟩ | exact m_ret2 rfl (.tmp rfl rfl) (.tmp rfl rfl) X (.tail _ (.head _)) rfl rfl ⟨rfl, X.below⟩

theorem ref_Alter_chg_role1 {q1 q3 : Bool} (seq : Int) (mt dt : List Cpy) (rev : List Int) (o0 o1 o2 : Bool) (x0 x1 x2 : Int) (am ad ar : Option Addr) (cm cd cr : Nat) (b : Int) (s : ByteArray) (w0 : World) (hm : RL cpyC w0 (.slice am mt.length cm) mt) (hd : RL cpyC w0 (.slice ad dt.length cd) dt) (hr : RL intC w0 (.slice ar rev.length cr) rev) (n1 : mt.length ≤ 12) (n2 : dt.length ≤ 12) (n3 : rev.length ≤ 12) (hgt : goodT ⟨seq, mt, dt, rev, ⟨o0, x0⟩, ⟨true, x1⟩, ⟨o2, x2⟩⟩ = true) (hblk : isBlk b = true) (hs : ((s.size : Int) != 32) = false) (hqm : hasB mt b = q1) (hqd : hasB dt b = true) (hqr : inI rev b = q3) :
    Calls Try.prog 8 #[.int .i64 0, .agg #[.int .i64 seq, .slice am mt.length cm, .slice ad dt.length cd, .slice ar rev.length cr, .bool o0, .int .i64 x0, .bool true, .int .i64 x1, .bool o2, .int .i64 x2], .int .i64 1, .int .i64 b, .string s] w0 fun e w' => e = .returned (.tuple #[.agg #[.int .i64 seq, .slice am mt.length cm, .slice ad dt.length cd, .slice ar rev.length cr, .bool o0, .int .i64 x0, .bool true, .int .i64 x1, .bool o2, .int .i64 x2], .int .i64 8]) ∧ Below w0.heap.size w0 w' := by
  have hT : RTxn w0 (txnV ⟨seq, mt, dt, rev, ⟨o0, x0⟩, ⟨true, x1⟩, ⟨o2, x2⟩⟩ (.slice am mt.length cm) (.slice ad dt.length cd) (.slice ar rev.length cr)) ⟨seq, mt, dt, rev, ⟨o0, x0⟩, ⟨true, x1⟩, ⟨o2, x2⟩⟩ := ⟨_, _, _, rfl, hm, hd, hr, by dsimp only; omega, by dsimp only; omega, by dsimp only; omega⟩
  have hCp := hid (fun w' (hb : Below w0.heap.size w0 w') => ref_CopyTxn _ _ w' (hT.below hb))
  have hGd := fun w' (hb : Below w0.heap.size w0 w') => ref_GoodTxn _ _ w' (hT.below hb)
  rw [hgt] at hGd
  replace hGd := hid hGd
  have hBk := hid (by simpa only [hblk] using (fun w' => ref_isBlock b w'))
  have hInM := hid (by simpa only [hqm] using (fun w' (hb : Below w0.heap.size w0 w') => ref_in mt b _ w' (hm.below hb) (by omega)))
  have hInD := hid (by simpa only [hqd] using (fun w' (hb : Below w0.heap.size w0 w') => ref_in dt b _ w' (hd.below hb) (by omega)))
  have hAm := hid (fun x w' (hb : Below w0.heap.size w0 w') => ref_among rev x _ w' (hr.below hb) (by omega))
  have hAb := hid (by simpa only [hqr] using (fun w' (hb : Below w0.heap.size w0 w') => ref_among rev b _ w' (hr.below hb) (by omega)))
  have hWm := hid (fun w' (hb : Below w0.heap.size w0 w') => ref_with mt b s _ w' (hm.below hb) (by omega))
  have hWd := hid (fun w' (hb : Below w0.heap.size w0 w') => ref_with dt b s _ w' (hd.below hb) (by omega))
  have hRm := hid (fun w' (hb : Below w0.heap.size w0 w') => ref_rest mt b _ w' (hm.below hb) (by omega))
  have hRd := hid (fun w' (hb : Below w0.heap.size w0 w') => ref_rest dt b _ w' (hd.below hb) (by omega))
  simp only [txnV] at hCp hGd
  replace hqm := hid hqm; replace hqd := hid hqd; replace hqr := hid hqr
  clear hT hm hd hr hgt
  have X := St.start [] w0
  go_enter Try.func8, Try.ntmps8
  go_wp2_with (first
    | (refine at_mem rfl ?_; (first | (refine at_load rfl ?_; (first | (refine c_load1 rfl _ _ rfl rfl X (by repeat (first | exact ReadA.here rfl | apply ReadA.there)) ?_) | (refine c_loadN rfl _ _ rfl rfl X (by repeat (first | exact ReadB.here (Nat.le_of_ble_eq_true rfl) | apply ReadB.there)) ?_))) | (refine at_store rfl ?_; (first | (refine c_store1 rfl _ _ _ rfl rfl (by first | exact EvR.const _ | exact EvR.tmp rfl rfl) X rfl rfl (by repeat (first | exact PutA.here (Nat.le_of_ble_eq_true rfl) | apply PutA.there)) ?_; intro w X2; (try simp only [upd] at X2); replace X := X2; clear X2) | (refine c_storeN rfl _ _ _ rfl rfl rfl X rfl rfl (by repeat (first | exact PutA.here (Nat.le_of_ble_eq_true rfl) | apply PutA.there)) ?_; intro w X2; (try simp only [upd] at X2); replace X := X2; clear X2))) | (refine m_alloc rfl _ rfl X ?_; intro g w X2; (replace X := X2; clear X2)) | (refine m_box rfl _ _ rfl (by first | exact EvR.const _ | exact EvR.tmp rfl rfl) rfl X ?_; intro g w X2; (replace X := X2; clear X2))); (simp only [Act.put, List.setIfInBounds_toArray, List.set_cons_succ, List.set_cons_zero, List.drop_succ_cons, List.drop_zero, List.take_succ_cons, List.take_zero, Nat.reduceAdd]))
    | (go_at_call 30; go_loud ((with_reducible refine (hGd.out _ X.below).mono ?_); rintro e w1 ⟨rfl, hb1⟩; replace X := X.call hb1; clear hb1))
    | (go_at_call 31; go_loud ((with_reducible refine (hBk.out _).mono ?_); rintro e w1 ⟨rfl, rfl⟩))
    | (go_at_call 32; go_loud ((with_reducible refine (hInM.out _ X.below).mono ?_); rintro e w1 ⟨rfl, hb1⟩; replace X := X.call hb1; clear hb1))
    | (go_at_call 32; go_loud ((with_reducible refine (hInD.out _ X.below).mono ?_); rintro e w1 ⟨rfl, hb1⟩; replace X := X.call hb1; clear hb1))
    | (go_at_call 33; go_loud ((with_reducible refine (hAb.out _ X.below).mono ?_); rintro e w1 ⟨rfl, rfl⟩))
    | (go_at_call 6; go_loud ((with_reducible refine (hCp.out _ X.below).mono ?_); rintro e w1 ⟨vc, rfl, ⟨vm', vd', vr', rfl, p1, p2, p3, _⟩, hb1⟩; obtain ⟨am', cm', rfl⟩ := p1.form; obtain ⟨ad', cd', rfl⟩ := p2.form; obtain ⟨ar', cr', rfl⟩ := p3.form; have f1 := hid (p1.fresh X.mv.size); have f2 := hid (p2.fresh X.mv.size); have f3 := hid (p3.fresh X.mv.size); simp only [txnV]; replace X := X.addOTxn hb1 p1 p2 p3; dsimp only at X; clear hb1 p1 p2 p3)))
  first | exact m_ret2 rfl (.tmp rfl rfl) (.tmp rfl rfl) X (.head _) rfl rfl ⟨rfl, X.below⟩ | exact m_ret2 rfl (.tmp rfl rfl) (.tmp rfl rfl) X (.tail _ (.head _)) rfl rfl ⟨rfl, X.below⟩

theorem ref_Alter_chg_credit1 (seq : Int) (mt dt : List Cpy) (rev : List Int) (o0 o1 o2 : Bool) (x0 x1 x2 : Int) (am ad ar : Option Addr) (cm cd cr : Nat) (b : Int) (s : ByteArray) (w0 : World) (hm : RL cpyC w0 (.slice am mt.length cm) mt) (hd : RL cpyC w0 (.slice ad dt.length cd) dt) (hr : RL intC w0 (.slice ar rev.length cr) rev) (n1 : mt.length ≤ 12) (n2 : dt.length ≤ 12) (n3 : rev.length ≤ 12) (hgt : goodT ⟨seq, mt, dt, rev, ⟨o0, x0⟩, ⟨true, x1⟩, ⟨o2, x2⟩⟩ = true) (hblk : isBlk b = true) (hs : ((s.size : Int) != 32) = false) (hqm : hasB mt b = false) (hqd : hasB dt b = false) (hqr : inI rev b = false) (hx : x1 = 0) :
    Calls Try.prog 8 #[.int .i64 0, .agg #[.int .i64 seq, .slice am mt.length cm, .slice ad dt.length cd, .slice ar rev.length cr, .bool o0, .int .i64 x0, .bool true, .int .i64 x1, .bool o2, .int .i64 x2], .int .i64 1, .int .i64 b, .string s] w0 fun e w' => e = .returned (.tuple #[.agg #[.int .i64 seq, .slice am mt.length cm, .slice ad dt.length cd, .slice ar rev.length cr, .bool o0, .int .i64 x0, .bool true, .int .i64 x1, .bool o2, .int .i64 x2], .int .i64 7]) ∧ Below w0.heap.size w0 w' := by
  have hT : RTxn w0 (txnV ⟨seq, mt, dt, rev, ⟨o0, x0⟩, ⟨true, x1⟩, ⟨o2, x2⟩⟩ (.slice am mt.length cm) (.slice ad dt.length cd) (.slice ar rev.length cr)) ⟨seq, mt, dt, rev, ⟨o0, x0⟩, ⟨true, x1⟩, ⟨o2, x2⟩⟩ := ⟨_, _, _, rfl, hm, hd, hr, by dsimp only; omega, by dsimp only; omega, by dsimp only; omega⟩
  have hCp := hid (fun w' (hb : Below w0.heap.size w0 w') => ref_CopyTxn _ _ w' (hT.below hb))
  have hGd := fun w' (hb : Below w0.heap.size w0 w') => ref_GoodTxn _ _ w' (hT.below hb)
  rw [hgt] at hGd
  replace hGd := hid hGd
  have hBk := hid (by simpa only [hblk] using (fun w' => ref_isBlock b w'))
  have hInM := hid (by simpa only [hqm] using (fun w' (hb : Below w0.heap.size w0 w') => ref_in mt b _ w' (hm.below hb) (by omega)))
  have hInD := hid (by simpa only [hqd] using (fun w' (hb : Below w0.heap.size w0 w') => ref_in dt b _ w' (hd.below hb) (by omega)))
  have hAm := hid (fun x w' (hb : Below w0.heap.size w0 w') => ref_among rev x _ w' (hr.below hb) (by omega))
  have hAb := hid (by simpa only [hqr] using (fun w' (hb : Below w0.heap.size w0 w') => ref_among rev b _ w' (hr.below hb) (by omega)))
  have hWm := hid (fun w' (hb : Below w0.heap.size w0 w') => ref_with mt b s _ w' (hm.below hb) (by omega))
  have hWd := hid (fun w' (hb : Below w0.heap.size w0 w') => ref_with dt b s _ w' (hd.below hb) (by omega))
  have hRm := hid (fun w' (hb : Below w0.heap.size w0 w') => ref_rest mt b _ w' (hm.below hb) (by omega))
  have hRd := hid (fun w' (hb : Below w0.heap.size w0 w') => ref_rest dt b _ w' (hd.below hb) (by omega))
  simp only [txnV] at hCp hGd
  replace hqm := hid hqm; replace hqd := hid hqd; replace hqr := hid hqr
  clear hT hm hd hr hgt
  have X := St.start [] w0
  go_enter Try.func8, Try.ntmps8
  have e0 : (x1 == 0) = true := beq_iff_eq.2 hx
  clear hx
  go_wp2_with (first
    | (refine at_mem rfl ?_; (first | (refine at_load rfl ?_; (first | (refine c_load1 rfl _ _ rfl rfl X (by repeat (first | exact ReadA.here rfl | apply ReadA.there)) ?_) | (refine c_loadN rfl _ _ rfl rfl X (by repeat (first | exact ReadB.here (Nat.le_of_ble_eq_true rfl) | apply ReadB.there)) ?_))) | (refine at_store rfl ?_; (first | (refine c_store1 rfl _ _ _ rfl rfl (by first | exact EvR.const _ | exact EvR.tmp rfl rfl) X rfl rfl (by repeat (first | exact PutA.here (Nat.le_of_ble_eq_true rfl) | apply PutA.there)) ?_; intro w X2; (try simp only [upd] at X2); replace X := X2; clear X2) | (refine c_storeN rfl _ _ _ rfl rfl rfl X rfl rfl (by repeat (first | exact PutA.here (Nat.le_of_ble_eq_true rfl) | apply PutA.there)) ?_; intro w X2; (try simp only [upd] at X2); replace X := X2; clear X2))) | (refine m_alloc rfl _ rfl X ?_; intro g w X2; (replace X := X2; clear X2)) | (refine m_box rfl _ _ rfl (by first | exact EvR.const _ | exact EvR.tmp rfl rfl) rfl X ?_; intro g w X2; (replace X := X2; clear X2))); (simp only [Act.put, List.setIfInBounds_toArray, List.set_cons_succ, List.set_cons_zero, List.drop_succ_cons, List.drop_zero, List.take_succ_cons, List.take_zero, Nat.reduceAdd]))
    | (go_at_call 30; go_loud ((with_reducible refine (hGd.out _ X.below).mono ?_); rintro e w1 ⟨rfl, hb1⟩; replace X := X.call hb1; clear hb1))
    | (go_at_call 31; go_loud ((with_reducible refine (hBk.out _).mono ?_); rintro e w1 ⟨rfl, rfl⟩))
    | (go_at_call 32; go_loud ((with_reducible refine (hInM.out _ X.below).mono ?_); rintro e w1 ⟨rfl, hb1⟩; replace X := X.call hb1; clear hb1))
    | (go_at_call 32; go_loud ((with_reducible refine (hInD.out _ X.below).mono ?_); rintro e w1 ⟨rfl, hb1⟩; replace X := X.call hb1; clear hb1))
    | (go_at_call 33; go_loud ((with_reducible refine (hAb.out _ X.below).mono ?_); rintro e w1 ⟨rfl, rfl⟩))
    | (go_at_call 6; go_loud ((with_reducible refine (hCp.out _ X.below).mono ?_); rintro e w1 ⟨vc, rfl, ⟨vm', vd', vr', rfl, p1, p2, p3, _⟩, hb1⟩; obtain ⟨am', cm', rfl⟩ := p1.form; obtain ⟨ad', cd', rfl⟩ := p2.form; obtain ⟨ar', cr', rfl⟩ := p3.form; have f1 := hid (p1.fresh X.mv.size); have f2 := hid (p2.fresh X.mv.size); have f3 := hid (p3.fresh X.mv.size); simp only [txnV]; replace X := X.addOTxn hb1 p1 p2 p3; dsimp only at X; clear hb1 p1 p2 p3)))
  first | exact m_ret2 rfl (.tmp rfl rfl) (.tmp rfl rfl) X (.head _) rfl rfl ⟨rfl, X.below⟩ | exact m_ret2 rfl (.tmp rfl rfl) (.tmp rfl rfl) X (.tail _ (.head _)) rfl rfl ⟨rfl, X.below⟩

theorem ref_Alter_rvk_twice1 {q1 q2 : Bool} (seq : Int) (mt dt : List Cpy) (rev : List Int) (o0 o1 o2 : Bool) (x0 x1 x2 : Int) (am ad ar : Option Addr) (cm cd cr : Nat) (b : Int) (s : ByteArray) (w0 : World) (hm : RL cpyC w0 (.slice am mt.length cm) mt) (hd : RL cpyC w0 (.slice ad dt.length cd) dt) (hr : RL intC w0 (.slice ar rev.length cr) rev) (n1 : mt.length ≤ 12) (n2 : dt.length ≤ 12) (n3 : rev.length ≤ 12) (hgt : goodT ⟨seq, mt, dt, rev, ⟨o0, x0⟩, ⟨true, x1⟩, ⟨o2, x2⟩⟩ = true) (hblk : isBlk b = true) (hqm : hasB mt b = q1) (hqd : hasB dt b = q2) (hqr : inI rev b = true) :
    Calls Try.prog 8 #[.int .i64 2, .agg #[.int .i64 seq, .slice am mt.length cm, .slice ad dt.length cd, .slice ar rev.length cr, .bool o0, .int .i64 x0, .bool true, .int .i64 x1, .bool o2, .int .i64 x2], .int .i64 1, .int .i64 b, .string s] w0 fun e w' => e = .returned (.tuple #[.agg #[.int .i64 seq, .slice am mt.length cm, .slice ad dt.length cd, .slice ar rev.length cr, .bool o0, .int .i64 x0, .bool true, .int .i64 x1, .bool o2, .int .i64 x2], .int .i64 5]) ∧ Below w0.heap.size w0 w' := by
  have hT : RTxn w0 (txnV ⟨seq, mt, dt, rev, ⟨o0, x0⟩, ⟨true, x1⟩, ⟨o2, x2⟩⟩ (.slice am mt.length cm) (.slice ad dt.length cd) (.slice ar rev.length cr)) ⟨seq, mt, dt, rev, ⟨o0, x0⟩, ⟨true, x1⟩, ⟨o2, x2⟩⟩ := ⟨_, _, _, rfl, hm, hd, hr, by dsimp only; omega, by dsimp only; omega, by dsimp only; omega⟩
  have hCp := hid (fun w' (hb : Below w0.heap.size w0 w') => ref_CopyTxn _ _ w' (hT.below hb))
  have hGd := fun w' (hb : Below w0.heap.size w0 w') => ref_GoodTxn _ _ w' (hT.below hb)
  rw [hgt] at hGd
  replace hGd := hid hGd
  have hBk := hid (by simpa only [hblk] using (fun w' => ref_isBlock b w'))
  have hInM := hid (by simpa only [hqm] using (fun w' (hb : Below w0.heap.size w0 w') => ref_in mt b _ w' (hm.below hb) (by omega)))
  have hInD := hid (by simpa only [hqd] using (fun w' (hb : Below w0.heap.size w0 w') => ref_in dt b _ w' (hd.below hb) (by omega)))
  have hAm := hid (fun x w' (hb : Below w0.heap.size w0 w') => ref_among rev x _ w' (hr.below hb) (by omega))
  have hAb := hid (by simpa only [hqr] using (fun w' (hb : Below w0.heap.size w0 w') => ref_among rev b _ w' (hr.below hb) (by omega)))
  have hWm := hid (fun w' (hb : Below w0.heap.size w0 w') => ref_with mt b s _ w' (hm.below hb) (by omega))
  have hWd := hid (fun w' (hb : Below w0.heap.size w0 w') => ref_with dt b s _ w' (hd.below hb) (by omega))
  have hRm := hid (fun w' (hb : Below w0.heap.size w0 w') => ref_rest mt b _ w' (hm.below hb) (by omega))
  have hRd := hid (fun w' (hb : Below w0.heap.size w0 w') => ref_rest dt b _ w' (hd.below hb) (by omega))
  simp only [txnV] at hCp hGd
  replace hqm := hid hqm; replace hqd := hid hqd; replace hqr := hid hqr
  clear hT hm hd hr hgt
  have X := St.start [] w0
  go_enter Try.func8, Try.ntmps8
  go_wp2_with (first
    | (refine at_mem rfl ?_; (first | (refine at_load rfl ?_; (first | (refine c_load1 rfl _ _ rfl rfl X (by repeat (first | exact ReadA.here rfl | apply ReadA.there)) ?_) | (refine c_loadN rfl _ _ rfl rfl X (by repeat (first | exact ReadB.here (Nat.le_of_ble_eq_true rfl) | apply ReadB.there)) ?_))) | (refine at_store rfl ?_; (first | (refine c_store1 rfl _ _ _ rfl rfl (by first | exact EvR.const _ | exact EvR.tmp rfl rfl) X rfl rfl (by repeat (first | exact PutA.here (Nat.le_of_ble_eq_true rfl) | apply PutA.there)) ?_; intro w X2; (try simp only [upd] at X2); replace X := X2; clear X2) | (refine c_storeN rfl _ _ _ rfl rfl rfl X rfl rfl (by repeat (first | exact PutA.here (Nat.le_of_ble_eq_true rfl) | apply PutA.there)) ?_; intro w X2; (try simp only [upd] at X2); replace X := X2; clear X2))) | (refine m_alloc rfl _ rfl X ?_; intro g w X2; (replace X := X2; clear X2)) | (refine m_box rfl _ _ rfl (by first | exact EvR.const _ | exact EvR.tmp rfl rfl) rfl X ?_; intro g w X2; (replace X := X2; clear X2))); (simp only [Act.put, List.setIfInBounds_toArray, List.set_cons_succ, List.set_cons_zero, List.drop_succ_cons, List.drop_zero, List.take_succ_cons, List.take_zero, Nat.reduceAdd]))
    | (go_at_call 30; go_loud ((with_reducible refine (hGd.out _ X.below).mono ?_); rintro e w1 ⟨rfl, hb1⟩; replace X := X.call hb1; clear hb1))
    | (go_at_call 31; go_loud ((with_reducible refine (hBk.out _).mono ?_); rintro e w1 ⟨rfl, rfl⟩))
    | (go_at_call 32; go_loud ((with_reducible refine (hInM.out _ X.below).mono ?_); rintro e w1 ⟨rfl, hb1⟩; replace X := X.call hb1; clear hb1))
    | (go_at_call 32; go_loud ((with_reducible refine (hInD.out _ X.below).mono ?_); rintro e w1 ⟨rfl, hb1⟩; replace X := X.call hb1; clear hb1))
    | (go_at_call 33; go_loud ((with_reducible refine (hAb.out _ X.below).mono ?_); rintro e w1 ⟨rfl, rfl⟩))
    | (go_at_call 6; go_loud ((with_reducible refine (hCp.out _ X.below).mono ?_); rintro e w1 ⟨vc, rfl, ⟨vm', vd', vr', rfl, p1, p2, p3, _⟩, hb1⟩; obtain ⟨am', cm', rfl⟩ := p1.form; obtain ⟨ad', cd', rfl⟩ := p2.form; obtain ⟨ar', cr', rfl⟩ := p3.form; have f1 := hid (p1.fresh X.mv.size); have f2 := hid (p2.fresh X.mv.size); have f3 := hid (p3.fresh X.mv.size); simp only [txnV]; replace X := X.addOTxn hb1 p1 p2 p3; dsimp only at X; clear hb1 p1 p2 p3)))
  first | exact m_ret2 rfl (.tmp rfl rfl) (.tmp rfl rfl) X (.head _) rfl rfl ⟨rfl, X.below⟩ | exact m_ret2 rfl (.tmp rfl rfl) (.tmp rfl rfl) X (.tail _ (.head _)) rfl rfl ⟨rfl, X.below⟩

theorem ref_Alter_rvk_credit1 {q2 : Bool} (seq : Int) (mt dt : List Cpy) (rev : List Int) (o0 o1 o2 : Bool) (x0 x1 x2 : Int) (am ad ar : Option Addr) (cm cd cr : Nat) (b : Int) (s : ByteArray) (w0 : World) (hm : RL cpyC w0 (.slice am mt.length cm) mt) (hd : RL cpyC w0 (.slice ad dt.length cd) dt) (hr : RL intC w0 (.slice ar rev.length cr) rev) (n1 : mt.length ≤ 12) (n2 : dt.length ≤ 12) (n3 : rev.length ≤ 12) (hgt : goodT ⟨seq, mt, dt, rev, ⟨o0, x0⟩, ⟨true, x1⟩, ⟨o2, x2⟩⟩ = true) (hblk : isBlk b = true) (hqm : hasB mt b = false) (hqd : hasB dt b = q2) (hqr : inI rev b = false) (hx : x1 = 0) :
    Calls Try.prog 8 #[.int .i64 2, .agg #[.int .i64 seq, .slice am mt.length cm, .slice ad dt.length cd, .slice ar rev.length cr, .bool o0, .int .i64 x0, .bool true, .int .i64 x1, .bool o2, .int .i64 x2], .int .i64 1, .int .i64 b, .string s] w0 fun e w' => e = .returned (.tuple #[.agg #[.int .i64 seq, .slice am mt.length cm, .slice ad dt.length cd, .slice ar rev.length cr, .bool o0, .int .i64 x0, .bool true, .int .i64 x1, .bool o2, .int .i64 x2], .int .i64 7]) ∧ Below w0.heap.size w0 w' := by
  have hT : RTxn w0 (txnV ⟨seq, mt, dt, rev, ⟨o0, x0⟩, ⟨true, x1⟩, ⟨o2, x2⟩⟩ (.slice am mt.length cm) (.slice ad dt.length cd) (.slice ar rev.length cr)) ⟨seq, mt, dt, rev, ⟨o0, x0⟩, ⟨true, x1⟩, ⟨o2, x2⟩⟩ := ⟨_, _, _, rfl, hm, hd, hr, by dsimp only; omega, by dsimp only; omega, by dsimp only; omega⟩
  have hCp := hid (fun w' (hb : Below w0.heap.size w0 w') => ref_CopyTxn _ _ w' (hT.below hb))
  have hGd := fun w' (hb : Below w0.heap.size w0 w') => ref_GoodTxn _ _ w' (hT.below hb)
  rw [hgt] at hGd
  replace hGd := hid hGd
  have hBk := hid (by simpa only [hblk] using (fun w' => ref_isBlock b w'))
  have hInM := hid (by simpa only [hqm] using (fun w' (hb : Below w0.heap.size w0 w') => ref_in mt b _ w' (hm.below hb) (by omega)))
  have hInD := hid (by simpa only [hqd] using (fun w' (hb : Below w0.heap.size w0 w') => ref_in dt b _ w' (hd.below hb) (by omega)))
  have hAm := hid (fun x w' (hb : Below w0.heap.size w0 w') => ref_among rev x _ w' (hr.below hb) (by omega))
  have hAb := hid (by simpa only [hqr] using (fun w' (hb : Below w0.heap.size w0 w') => ref_among rev b _ w' (hr.below hb) (by omega)))
  have hWm := hid (fun w' (hb : Below w0.heap.size w0 w') => ref_with mt b s _ w' (hm.below hb) (by omega))
  have hWd := hid (fun w' (hb : Below w0.heap.size w0 w') => ref_with dt b s _ w' (hd.below hb) (by omega))
  have hRm := hid (fun w' (hb : Below w0.heap.size w0 w') => ref_rest mt b _ w' (hm.below hb) (by omega))
  have hRd := hid (fun w' (hb : Below w0.heap.size w0 w') => ref_rest dt b _ w' (hd.below hb) (by omega))
  simp only [txnV] at hCp hGd
  replace hqm := hid hqm; replace hqd := hid hqd; replace hqr := hid hqr
  clear hT hm hd hr hgt
  have X := St.start [] w0
  go_enter Try.func8, Try.ntmps8
  have e0 : (x1 == 0) = true := beq_iff_eq.2 hx
  clear hx
  go_wp2_with (first
    | (refine at_mem rfl ?_; (first | (refine at_load rfl ?_; (first | (refine c_load1 rfl _ _ rfl rfl X (by repeat (first | exact ReadA.here rfl | apply ReadA.there)) ?_) | (refine c_loadN rfl _ _ rfl rfl X (by repeat (first | exact ReadB.here (Nat.le_of_ble_eq_true rfl) | apply ReadB.there)) ?_))) | (refine at_store rfl ?_; (first | (refine c_store1 rfl _ _ _ rfl rfl (by first | exact EvR.const _ | exact EvR.tmp rfl rfl) X rfl rfl (by repeat (first | exact PutA.here (Nat.le_of_ble_eq_true rfl) | apply PutA.there)) ?_; intro w X2; (try simp only [upd] at X2); replace X := X2; clear X2) | (refine c_storeN rfl _ _ _ rfl rfl rfl X rfl rfl (by repeat (first | exact PutA.here (Nat.le_of_ble_eq_true rfl) | apply PutA.there)) ?_; intro w X2; (try simp only [upd] at X2); replace X := X2; clear X2))) | (refine m_alloc rfl _ rfl X ?_; intro g w X2; (replace X := X2; clear X2)) | (refine m_box rfl _ _ rfl (by first | exact EvR.const _ | exact EvR.tmp rfl rfl) rfl X ?_; intro g w X2; (replace X := X2; clear X2))); (simp only [Act.put, List.setIfInBounds_toArray, List.set_cons_succ, List.set_cons_zero, List.drop_succ_cons, List.drop_zero, List.take_succ_cons, List.take_zero, Nat.reduceAdd]))
    | (go_at_call 30; go_loud ((with_reducible refine (hGd.out _ X.below).mono ?_); rintro e w1 ⟨rfl, hb1⟩; replace X := X.call hb1; clear hb1))
    | (go_at_call 31; go_loud ((with_reducible refine (hBk.out _).mono ?_); rintro e w1 ⟨rfl, rfl⟩))
    | (go_at_call 32; go_loud ((with_reducible refine (hInM.out _ X.below).mono ?_); rintro e w1 ⟨rfl, hb1⟩; replace X := X.call hb1; clear hb1))
    | (go_at_call 32; go_loud ((with_reducible refine (hInD.out _ X.below).mono ?_); rintro e w1 ⟨rfl, hb1⟩; replace X := X.call hb1; clear hb1))
    | (go_at_call 33; go_loud ((with_reducible refine (hAb.out _ X.below).mono ?_); rintro e w1 ⟨rfl, rfl⟩))
    | (go_at_call 6; go_loud ((with_reducible refine (hCp.out _ X.below).mono ?_); rintro e w1 ⟨vc, rfl, ⟨vm', vd', vr', rfl, p1, p2, p3, _⟩, hb1⟩; obtain ⟨am', cm', rfl⟩ := p1.form; obtain ⟨ad', cd', rfl⟩ := p2.form; obtain ⟨ar', cr', rfl⟩ := p3.form; have f1 := hid (p1.fresh X.mv.size); have f2 := hid (p2.fresh X.mv.size); have f3 := hid (p3.fresh X.mv.size); simp only [txnV]; replace X := X.addOTxn hb1 p1 p2 p3; dsimp only at X; clear hb1 p1 p2 p3)))
  first | exact m_ret2 rfl (.tmp rfl rfl) (.tmp rfl rfl) X (.head _) rfl rfl ⟨rfl, X.below⟩ | exact m_ret2 rfl (.tmp rfl rfl) (.tmp rfl rfl) X (.tail _ (.head _)) rfl rfl ⟨rfl, X.below⟩

theorem ref_Alter_off2 (K : Int) {q0 : Bool} {q1 q2 q3 : Bool} (seq : Int) (mt dt : List Cpy) (rev : List Int) (o0 o1 o2 : Bool) (x0 x1 x2 : Int) (am ad ar : Option Addr) (cm cd cr : Nat) (b : Int) (s : ByteArray) (w0 : World) (hm : RL cpyC w0 (.slice am mt.length cm) mt) (hd : RL cpyC w0 (.slice ad dt.length cd) dt) (hr : RL intC w0 (.slice ar rev.length cr) rev) (n1 : mt.length ≤ 12) (n2 : dt.length ≤ 12) (n3 : rev.length ≤ 12) (hgt : goodT ⟨seq, mt, dt, rev, ⟨o0, x0⟩, ⟨o1, x1⟩, ⟨false, x2⟩⟩ = true) (hblk : isBlk b = q0) (hqm : hasB mt b = q1) (hqd : hasB dt b = q2) (hqr : inI rev b = q3) :
    Calls Try.prog 8 #[.int .i64 K, .agg #[.int .i64 seq, .slice am mt.length cm, .slice ad dt.length cd, .slice ar rev.length cr, .bool o0, .int .i64 x0, .bool o1, .int .i64 x1, .bool false, .int .i64 x2], .int .i64 2, .int .i64 b, .string s] w0 fun e w' => e = .returned (.tuple #[.agg #[.int .i64 seq, .slice am mt.length cm, .slice ad dt.length cd, .slice ar rev.length cr, .bool o0, .int .i64 x0, .bool o1, .int .i64 x1, .bool false, .int .i64 x2], .int .i64 4]) ∧ Below w0.heap.size w0 w' := by
  have hT : RTxn w0 (txnV ⟨seq, mt, dt, rev, ⟨o0, x0⟩, ⟨o1, x1⟩, ⟨false, x2⟩⟩ (.slice am mt.length cm) (.slice ad dt.length cd) (.slice ar rev.length cr)) ⟨seq, mt, dt, rev, ⟨o0, x0⟩, ⟨o1, x1⟩, ⟨false, x2⟩⟩ := ⟨_, _, _, rfl, hm, hd, hr, by dsimp only; omega, by dsimp only; omega, by dsimp only; omega⟩
  have hCp := hid (fun w' (hb : Below w0.heap.size w0 w') => ref_CopyTxn _ _ w' (hT.below hb))
  have hGd := fun w' (hb : Below w0.heap.size w0 w') => ref_GoodTxn _ _ w' (hT.below hb)
  rw [hgt] at hGd
  replace hGd := hid hGd
  have hBk := hid (by simpa only [hblk] using (fun w' => ref_isBlock b w'))
  have hInM := hid (by simpa only [hqm] using (fun w' (hb : Below w0.heap.size w0 w') => ref_in mt b _ w' (hm.below hb) (by omega)))
  have hInD := hid (by simpa only [hqd] using (fun w' (hb : Below w0.heap.size w0 w') => ref_in dt b _ w' (hd.below hb) (by omega)))
  have hAm := hid (fun x w' (hb : Below w0.heap.size w0 w') => ref_among rev x _ w' (hr.below hb) (by omega))
  have hAb := hid (by simpa only [hqr] using (fun w' (hb : Below w0.heap.size w0 w') => ref_among rev b _ w' (hr.below hb) (by omega)))
  have hWm := hid (fun w' (hb : Below w0.heap.size w0 w') => ref_with mt b s _ w' (hm.below hb) (by omega))
  have hWd := hid (fun w' (hb : Below w0.heap.size w0 w') => ref_with dt b s _ w' (hd.below hb) (by omega))
  have hRm := hid (fun w' (hb : Below w0.heap.size w0 w') => ref_rest mt b _ w' (hm.below hb) (by omega))
  have hRd := hid (fun w' (hb : Below w0.heap.size w0 w') => ref_rest dt b _ w' (hd.below hb) (by omega))
  simp only [txnV] at hCp hGd
  replace hqm := hid hqm; replace hqd := hid hqd; replace hqr := hid hqr
  clear hT hm hd hr hgt
  have X := St.start [] w0
  go_enter Try.func8, Try.ntmps8
  go_wp2_with (first
    | (refine at_mem rfl ?_; (first | (refine at_load rfl ?_; (first | (refine c_load1 rfl _ _ rfl rfl X (by repeat (first | exact ReadA.here rfl | apply ReadA.there)) ?_) | (refine c_loadN rfl _ _ rfl rfl X (by repeat (first | exact ReadB.here (Nat.le_of_ble_eq_true rfl) | apply ReadB.there)) ?_))) | (refine at_store rfl ?_; (first | (refine c_store1 rfl _ _ _ rfl rfl (by first | exact EvR.const _ | exact EvR.tmp rfl rfl) X rfl rfl (by repeat (first | exact PutA.here (Nat.le_of_ble_eq_true rfl) | apply PutA.there)) ?_; intro w X2; (try simp only [upd] at X2); replace X := X2; clear X2) | (refine c_storeN rfl _ _ _ rfl rfl rfl X rfl rfl (by repeat (first | exact PutA.here (Nat.le_of_ble_eq_true rfl) | apply PutA.there)) ?_; intro w X2; (try simp only [upd] at X2); replace X := X2; clear X2))) | (refine m_alloc rfl _ rfl X ?_; intro g w X2; (replace X := X2; clear X2)) | (refine m_box rfl _ _ rfl (by first | exact EvR.const _ | exact EvR.tmp rfl rfl) rfl X ?_; intro g w X2; (replace X := X2; clear X2))); (simp only [Act.put, List.setIfInBounds_toArray, List.set_cons_succ, List.set_cons_zero, List.drop_succ_cons, List.drop_zero, List.take_succ_cons, List.take_zero, Nat.reduceAdd]))
    | (go_at_call 30; go_loud ((with_reducible refine (hGd.out _ X.below).mono ?_); rintro e w1 ⟨rfl, hb1⟩; replace X := X.call hb1; clear hb1))
    | (go_at_call 31; go_loud ((with_reducible refine (hBk.out _).mono ?_); rintro e w1 ⟨rfl, rfl⟩)))
  first | exact m_ret2 rfl (.tmp rfl rfl) (.tmp rfl rfl) X (.head _) rfl rfl ⟨rfl, X.below⟩ | exact m_ret2 rfl (.tmp rfl rfl) (.tmp rfl rfl) X (.tail _ (.head _)) rfl rfl ⟨rfl, X.below⟩

theorem ref_Alter_blk2 (K : Int) {q1 q2 q3 : Bool} (seq : Int) (mt dt : List Cpy) (rev : List Int) (o0 o1 o2 : Bool) (x0 x1 x2 : Int) (am ad ar : Option Addr) (cm cd cr : Nat) (b : Int) (s : ByteArray) (w0 : World) (hm : RL cpyC w0 (.slice am mt.length cm) mt) (hd : RL cpyC w0 (.slice ad dt.length cd) dt) (hr : RL intC w0 (.slice ar rev.length cr) rev) (n1 : mt.length ≤ 12) (n2 : dt.length ≤ 12) (n3 : rev.length ≤ 12) (hgt : goodT ⟨seq, mt, dt, rev, ⟨o0, x0⟩, ⟨o1, x1⟩, ⟨true, x2⟩⟩ = true) (hblk : isBlk b = false) (hqm : hasB mt b = q1) (hqd : hasB dt b = q2) (hqr : inI rev b = q3) :
    Calls Try.prog 8 #[.int .i64 K, .agg #[.int .i64 seq, .slice am mt.length cm, .slice ad dt.length cd, .slice ar rev.length cr, .bool o0, .int .i64 x0, .bool o1, .int .i64 x1, .bool true, .int .i64 x2], .int .i64 2, .int .i64 b, .string s] w0 fun e w' => e = .returned (.tuple #[.agg #[.int .i64 seq, .slice am mt.length cm, .slice ad dt.length cd, .slice ar rev.length cr, .bool o0, .int .i64 x0, .bool o1, .int .i64 x1, .bool true, .int .i64 x2], .int .i64 4]) ∧ Below w0.heap.size w0 w' := by
  have hT : RTxn w0 (txnV ⟨seq, mt, dt, rev, ⟨o0, x0⟩, ⟨o1, x1⟩, ⟨true, x2⟩⟩ (.slice am mt.length cm) (.slice ad dt.length cd) (.slice ar rev.length cr)) ⟨seq, mt, dt, rev, ⟨o0, x0⟩, ⟨o1, x1⟩, ⟨true, x2⟩⟩ := ⟨_, _, _, rfl, hm, hd, hr, by dsimp only; omega, by dsimp only; omega, by dsimp only; omega⟩
  have hCp := hid (fun w' (hb : Below w0.heap.size w0 w') => ref_CopyTxn _ _ w' (hT.below hb))
  have hGd := fun w' (hb : Below w0.heap.size w0 w') => ref_GoodTxn _ _ w' (hT.below hb)
  rw [hgt] at hGd
  replace hGd := hid hGd
  have hBk := hid (by simpa only [hblk] using (fun w' => ref_isBlock b w'))
  have hInM := hid (by simpa only [hqm] using (fun w' (hb : Below w0.heap.size w0 w') => ref_in mt b _ w' (hm.below hb) (by omega)))
  have hInD := hid (by simpa only [hqd] using (fun w' (hb : Below w0.heap.size w0 w') => ref_in dt b _ w' (hd.below hb) (by omega)))
  have hAm := hid (fun x w' (hb : Below w0.heap.size w0 w') => ref_among rev x _ w' (hr.below hb) (by omega))
  have hAb := hid (by simpa only [hqr] using (fun w' (hb : Below w0.heap.size w0 w') => ref_among rev b _ w' (hr.below hb) (by omega)))
  have hWm := hid (fun w' (hb : Below w0.heap.size w0 w') => ref_with mt b s _ w' (hm.below hb) (by omega))
  have hWd := hid (fun w' (hb : Below w0.heap.size w0 w') => ref_with dt b s _ w' (hd.below hb) (by omega))
  have hRm := hid (fun w' (hb : Below w0.heap.size w0 w') => ref_rest mt b _ w' (hm.below hb) (by omega))
  have hRd := hid (fun w' (hb : Below w0.heap.size w0 w') => ref_rest dt b _ w' (hd.below hb) (by omega))
  simp only [txnV] at hCp hGd
  replace hqm := hid hqm; replace hqd := hid hqd; replace hqr := hid hqr
  clear hT hm hd hr hgt
  have X := St.start [] w0
  go_enter Try.func8, Try.ntmps8
  go_wp2_with (first
    | (refine at_mem rfl ?_; (first | (refine at_load rfl ?_; (first | (refine c_load1 rfl _ _ rfl rfl X (by repeat (first | exact ReadA.here rfl | apply ReadA.there)) ?_) | (refine c_loadN rfl _ _ rfl rfl X (by repeat (first | exact ReadB.here (Nat.le_of_ble_eq_true rfl) | apply ReadB.there)) ?_))) | (refine at_store rfl ?_; (first | (refine c_store1 rfl _ _ _ rfl rfl (by first | exact EvR.const _ | exact EvR.tmp rfl rfl) X rfl rfl (by repeat (first | exact PutA.here (Nat.le_of_ble_eq_true rfl) | apply PutA.there)) ?_; intro w X2; (try simp only [upd] at X2); replace X := X2; clear X2) | (refine c_storeN rfl _ _ _ rfl rfl rfl X rfl rfl (by repeat (first | exact PutA.here (Nat.le_of_ble_eq_true rfl) | apply PutA.there)) ?_; intro w X2; (try simp only [upd] at X2); replace X := X2; clear X2))) | (refine m_alloc rfl _ rfl X ?_; intro g w X2; (replace X := X2; clear X2)) | (refine m_box rfl _ _ rfl (by first | exact EvR.const _ | exact EvR.tmp rfl rfl) rfl X ?_; intro g w X2; (replace X := X2; clear X2))); (simp only [Act.put, List.setIfInBounds_toArray, List.set_cons_succ, List.set_cons_zero, List.drop_succ_cons, List.drop_zero, List.take_succ_cons, List.take_zero, Nat.reduceAdd]))
    | (go_at_call 30; go_loud ((with_reducible refine (hGd.out _ X.below).mono ?_); rintro e w1 ⟨rfl, hb1⟩; replace X := X.call hb1; clear hb1))
    | (go_at_call 31; go_loud ((with_reducible refine (hBk.out _).mono ?_); rintro e w1 ⟨rfl, rfl⟩)))
  first | exact m_ret2 rfl (.tmp rfl rfl) (.tmp rfl rfl) X (.head _) rfl rfl ⟨rfl, X.below⟩ | exact m_ret2 rfl (.tmp rfl rfl) (.tmp rfl rfl) X (.tail _ (.head _)) rfl rfl ⟨rfl, X.below⟩

theorem ref_Alter_form02 {q1 q2 q3 : Bool} (seq : Int) (mt dt : List Cpy) (rev : List Int) (o0 o1 o2 : Bool) (x0 x1 x2 : Int) (am ad ar : Option Addr) (cm cd cr : Nat) (b : Int) (s : ByteArray) (w0 : World) (hm : RL cpyC w0 (.slice am mt.length cm) mt) (hd : RL cpyC w0 (.slice ad dt.length cd) dt) (hr : RL intC w0 (.slice ar rev.length cr) rev) (n1 : mt.length ≤ 12) (n2 : dt.length ≤ 12) (n3 : rev.length ≤ 12) (hgt : goodT ⟨seq, mt, dt, rev, ⟨o0, x0⟩, ⟨o1, x1⟩, ⟨true, x2⟩⟩ = true) (hblk : isBlk b = true) (hs : ((s.size : Int) != 32) = true) (hqm : hasB mt b = q1) (hqd : hasB dt b = q2) (hqr : inI rev b = q3) :
    Calls Try.prog 8 #[.int .i64 0, .agg #[.int .i64 seq, .slice am mt.length cm, .slice ad dt.length cd, .slice ar rev.length cr, .bool o0, .int .i64 x0, .bool o1, .int .i64 x1, .bool true, .int .i64 x2], .int .i64 2, .int .i64 b, .string s] w0 fun e w' => e = .returned (.tuple #[.agg #[.int .i64 seq, .slice am mt.length cm, .slice ad dt.length cd, .slice ar rev.length cr, .bool o0, .int .i64 x0, .bool o1, .int .i64 x1, .bool true, .int .i64 x2], .int .i64 1]) ∧ Below w0.heap.size w0 w' := by
  have hT : RTxn w0 (txnV ⟨seq, mt, dt, rev, ⟨o0, x0⟩, ⟨o1, x1⟩, ⟨true, x2⟩⟩ (.slice am mt.length cm) (.slice ad dt.length cd) (.slice ar rev.length cr)) ⟨seq, mt, dt, rev, ⟨o0, x0⟩, ⟨o1, x1⟩, ⟨true, x2⟩⟩ := ⟨_, _, _, rfl, hm, hd, hr, by dsimp only; omega, by dsimp only; omega, by dsimp only; omega⟩
  have hCp := hid (fun w' (hb : Below w0.heap.size w0 w') => ref_CopyTxn _ _ w' (hT.below hb))
  have hGd := fun w' (hb : Below w0.heap.size w0 w') => ref_GoodTxn _ _ w' (hT.below hb)
  rw [hgt] at hGd
  replace hGd := hid hGd
  have hBk := hid (by simpa only [hblk] using (fun w' => ref_isBlock b w'))
  have hInM := hid (by simpa only [hqm] using (fun w' (hb : Below w0.heap.size w0 w') => ref_in mt b _ w' (hm.below hb) (by omega)))
  have hInD := hid (by simpa only [hqd] using (fun w' (hb : Below w0.heap.size w0 w') => ref_in dt b _ w' (hd.below hb) (by omega)))
  have hAm := hid (fun x w' (hb : Below w0.heap.size w0 w') => ref_among rev x _ w' (hr.below hb) (by omega))
  have hAb := hid (by simpa only [hqr] using (fun w' (hb : Below w0.heap.size w0 w') => ref_among rev b _ w' (hr.below hb) (by omega)))
  have hWm := hid (fun w' (hb : Below w0.heap.size w0 w') => ref_with mt b s _ w' (hm.below hb) (by omega))
  have hWd := hid (fun w' (hb : Below w0.heap.size w0 w') => ref_with dt b s _ w' (hd.below hb) (by omega))
  have hRm := hid (fun w' (hb : Below w0.heap.size w0 w') => ref_rest mt b _ w' (hm.below hb) (by omega))
  have hRd := hid (fun w' (hb : Below w0.heap.size w0 w') => ref_rest dt b _ w' (hd.below hb) (by omega))
  simp only [txnV] at hCp hGd
  replace hqm := hid hqm; replace hqd := hid hqd; replace hqr := hid hqr
  clear hT hm hd hr hgt
  have X := St.start [] w0
  go_enter Try.func8, Try.ntmps8
  go_wp2_with (first
    | (refine at_mem rfl ?_; (first | (refine at_load rfl ?_; (first | (refine c_load1 rfl _ _ rfl rfl X (by repeat (first | exact ReadA.here rfl | apply ReadA.there)) ?_) | (refine c_loadN rfl _ _ rfl rfl X (by repeat (first | exact ReadB.here (Nat.le_of_ble_eq_true rfl) | apply ReadB.there)) ?_))) | (refine at_store rfl ?_; (first | (refine c_store1 rfl _ _ _ rfl rfl (by first | exact EvR.const _ | exact EvR.tmp rfl rfl) X rfl rfl (by repeat (first | exact PutA.here (Nat.le_of_ble_eq_true rfl) | apply PutA.there)) ?_; intro w X2; (try simp only [upd] at X2); replace X := X2; clear X2) | (refine c_storeN rfl _ _ _ rfl rfl rfl X rfl rfl (by repeat (first | exact PutA.here (Nat.le_of_ble_eq_true rfl) | apply PutA.there)) ?_; intro w X2; (try simp only [upd] at X2); replace X := X2; clear X2))) | (refine m_alloc rfl _ rfl X ?_; intro g w X2; (replace X := X2; clear X2)) | (refine m_box rfl _ _ rfl (by first | exact EvR.const _ | exact EvR.tmp rfl rfl) rfl X ?_; intro g w X2; (replace X := X2; clear X2))); (simp only [Act.put, List.setIfInBounds_toArray, List.set_cons_succ, List.set_cons_zero, List.drop_succ_cons, List.drop_zero, List.take_succ_cons, List.take_zero, Nat.reduceAdd]))
    | (go_at_call 30; go_loud ((with_reducible refine (hGd.out _ X.below).mono ?_); rintro e w1 ⟨rfl, hb1⟩; replace X := X.call hb1; clear hb1))
    | (go_at_call 31; go_loud ((with_reducible refine (hBk.out _).mono ?_); rintro e w1 ⟨rfl, rfl⟩)))
  first | exact m_ret2 rfl (.tmp rfl rfl) (.tmp rfl rfl) X (.head _) rfl rfl ⟨rfl, X.below⟩ | exact m_ret2 rfl (.tmp rfl rfl) (.tmp rfl rfl) X (.tail _ (.head _)) rfl rfl ⟨rfl, X.below⟩

theorem ref_Alter_form12 {q1 q2 q3 : Bool} (seq : Int) (mt dt : List Cpy) (rev : List Int) (o0 o1 o2 : Bool) (x0 x1 x2 : Int) (am ad ar : Option Addr) (cm cd cr : Nat) (b : Int) (s : ByteArray) (w0 : World) (hm : RL cpyC w0 (.slice am mt.length cm) mt) (hd : RL cpyC w0 (.slice ad dt.length cd) dt) (hr : RL intC w0 (.slice ar rev.length cr) rev) (n1 : mt.length ≤ 12) (n2 : dt.length ≤ 12) (n3 : rev.length ≤ 12) (hgt : goodT ⟨seq, mt, dt, rev, ⟨o0, x0⟩, ⟨o1, x1⟩, ⟨true, x2⟩⟩ = true) (hblk : isBlk b = true) (hs : ((s.size : Int) != 32) = true) (hqm : hasB mt b = q1) (hqd : hasB dt b = q2) (hqr : inI rev b = q3) :
    Calls Try.prog 8 #[.int .i64 1, .agg #[.int .i64 seq, .slice am mt.length cm, .slice ad dt.length cd, .slice ar rev.length cr, .bool o0, .int .i64 x0, .bool o1, .int .i64 x1, .bool true, .int .i64 x2], .int .i64 2, .int .i64 b, .string s] w0 fun e w' => e = .returned (.tuple #[.agg #[.int .i64 seq, .slice am mt.length cm, .slice ad dt.length cd, .slice ar rev.length cr, .bool o0, .int .i64 x0, .bool o1, .int .i64 x1, .bool true, .int .i64 x2], .int .i64 1]) ∧ Below w0.heap.size w0 w' := by
  have hT : RTxn w0 (txnV ⟨seq, mt, dt, rev, ⟨o0, x0⟩, ⟨o1, x1⟩, ⟨true, x2⟩⟩ (.slice am mt.length cm) (.slice ad dt.length cd) (.slice ar rev.length cr)) ⟨seq, mt, dt, rev, ⟨o0, x0⟩, ⟨o1, x1⟩, ⟨true, x2⟩⟩ := ⟨_, _, _, rfl, hm, hd, hr, by dsimp only; omega, by dsimp only; omega, by dsimp only; omega⟩
  have hCp := hid (fun w' (hb : Below w0.heap.size w0 w') => ref_CopyTxn _ _ w' (hT.below hb))
  have hGd := fun w' (hb : Below w0.heap.size w0 w') => ref_GoodTxn _ _ w' (hT.below hb)
  rw [hgt] at hGd
  replace hGd := hid hGd
  have hBk := hid (by simpa only [hblk] using (fun w' => ref_isBlock b w'))
  have hInM := hid (by simpa only [hqm] using (fun w' (hb : Below w0.heap.size w0 w') => ref_in mt b _ w' (hm.below hb) (by omega)))
  have hInD := hid (by simpa only [hqd] using (fun w' (hb : Below w0.heap.size w0 w') => ref_in dt b _ w' (hd.below hb) (by omega)))
  have hAm := hid (fun x w' (hb : Below w0.heap.size w0 w') => ref_among rev x _ w' (hr.below hb) (by omega))
  have hAb := hid (by simpa only [hqr] using (fun w' (hb : Below w0.heap.size w0 w') => ref_among rev b _ w' (hr.below hb) (by omega)))
  have hWm := hid (fun w' (hb : Below w0.heap.size w0 w') => ref_with mt b s _ w' (hm.below hb) (by omega))
  have hWd := hid (fun w' (hb : Below w0.heap.size w0 w') => ref_with dt b s _ w' (hd.below hb) (by omega))
  have hRm := hid (fun w' (hb : Below w0.heap.size w0 w') => ref_rest mt b _ w' (hm.below hb) (by omega))
  have hRd := hid (fun w' (hb : Below w0.heap.size w0 w') => ref_rest dt b _ w' (hd.below hb) (by omega))
  simp only [txnV] at hCp hGd
  replace hqm := hid hqm; replace hqd := hid hqd; replace hqr := hid hqr
  clear hT hm hd hr hgt
  have X := St.start [] w0
  go_enter Try.func8, Try.ntmps8
  go_wp2_with (first
    | (refine at_mem rfl ?_; (first | (refine at_load rfl ?_; (first | (refine c_load1 rfl _ _ rfl rfl X (by repeat (first | exact ReadA.here rfl | apply ReadA.there)) ?_) | (refine c_loadN rfl _ _ rfl rfl X (by repeat (first | exact ReadB.here (Nat.le_of_ble_eq_true rfl) | apply ReadB.there)) ?_))) | (refine at_store rfl ?_; (first | (refine c_store1 rfl _ _ _ rfl rfl (by first | exact EvR.const _ | exact EvR.tmp rfl rfl) X rfl rfl (by repeat (first | exact PutA.here (Nat.le_of_ble_eq_true rfl) | apply PutA.there)) ?_; intro w X2; (try simp only [upd] at X2); replace X := X2; clear X2) | (refine c_storeN rfl _ _ _ rfl rfl rfl X rfl rfl (by repeat (first | exact PutA.here (Nat.le_of_ble_eq_true rfl) | apply PutA.there)) ?_; intro w X2; (try simp only [upd] at X2); replace X := X2; clear X2))) | (refine m_alloc rfl _ rfl X ?_; intro g w X2; (replace X := X2; clear X2)) | (refine m_box rfl _ _ rfl (by first | exact EvR.const _ | exact EvR.tmp rfl rfl) rfl X ?_; intro g w X2; (replace X := X2; clear X2))); (simp only [Act.put, List.setIfInBounds_toArray, List.set_cons_succ, List.set_cons_zero, List.drop_succ_cons, List.drop_zero, List.take_succ_cons, List.take_zero, Nat.reduceAdd]))
    | (go_at_call 30; go_loud ((with_reducible refine (hGd.out _ X.below).mono ?_); rintro e w1 ⟨rfl, hb1⟩; replace X := X.call hb1; clear hb1))
    | (go_at_call 31; go_loud ((with_reducible refine (hBk.out _).mono ?_); rintro e w1 ⟨rfl, rfl⟩)))
  first | exact m_ret2 rfl (.tmp rfl rfl) (.tmp rfl rfl) X (.head _) rfl rfl ⟨rfl, X.below⟩ | exact m_ret2 rfl (.tmp rfl rfl) (.tmp rfl rfl) X (.tail _ (.head _)) rfl rfl ⟨rfl, X.below⟩

theorem ref_Alter_fil_role2 {q2 q3 : Bool} (seq : Int) (mt dt : List Cpy) (rev : List Int) (o0 o1 o2 : Bool) (x0 x1 x2 : Int) (am ad ar : Option Addr) (cm cd cr : Nat) (b : Int) (s : ByteArray) (w0 : World) (hm : RL cpyC w0 (.slice am mt.length cm) mt) (hd : RL cpyC w0 (.slice ad dt.length cd) dt) (hr : RL intC w0 (.slice ar rev.length cr) rev) (n1 : mt.length ≤ 12) (n2 : dt.length ≤ 12) (n3 : rev.length ≤ 12) (hgt : goodT ⟨seq, mt, dt, rev, ⟨o0, x0⟩, ⟨o1, x1⟩, ⟨true, x2⟩⟩ = true) (hblk : isBlk b = true) (hs : ((s.size : Int) != 32) = false) (hqm : hasB mt b = true) (hqd : hasB dt b = q2) (hqr : inI rev b = q3) :
    Calls Try.prog 8 #[.int .i64 1, .agg #[.int .i64 seq, .slice am mt.length cm, .slice ad dt.length cd, .slice ar rev.length cr, .bool o0, .int .i64 x0, .bool o1, .int .i64 x1, .bool true, .int .i64 x2], .int .i64 2, .int .i64 b, .string s] w0 fun e w' => e = .returned (.tuple #[.agg #[.int .i64 seq, .slice am mt.length cm, .slice ad dt.length cd, .slice ar rev.length cr, .bool o0, .int .i64 x0, .bool o1, .int .i64 x1, .bool true, .int .i64 x2], .int .i64 8]) ∧ Below w0.heap.size w0 w' := by
  have hT : RTxn w0 (txnV ⟨seq, mt, dt, rev, ⟨o0, x0⟩, ⟨o1, x1⟩, ⟨true, x2⟩⟩ (.slice am mt.length cm) (.slice ad dt.length cd) (.slice ar rev.length cr)) ⟨seq, mt, dt, rev, ⟨o0, x0⟩, ⟨o1, x1⟩, ⟨true, x2⟩⟩ := ⟨_, _, _, rfl, hm, hd, hr, by dsimp only; omega, by dsimp only; omega, by dsimp only; omega⟩
  have hCp := hid (fun w' (hb : Below w0.heap.size w0 w') => ref_CopyTxn _ _ w' (hT.below hb))
  have hGd := fun w' (hb : Below w0.heap.size w0 w') => ref_GoodTxn _ _ w' (hT.below hb)
  rw [hgt] at hGd
  replace hGd := hid hGd
  have hBk := hid (by simpa only [hblk] using (fun w' => ref_isBlock b w'))
  have hInM := hid (by simpa only [hqm] using (fun w' (hb : Below w0.heap.size w0 w') => ref_in mt b _ w' (hm.below hb) (by omega)))
  have hInD := hid (by simpa only [hqd] using (fun w' (hb : Below w0.heap.size w0 w') => ref_in dt b _ w' (hd.below hb) (by omega)))
  have hAm := hid (fun x w' (hb : Below w0.heap.size w0 w') => ref_among rev x _ w' (hr.below hb) (by omega))
  have hAb := hid (by simpa only [hqr] using (fun w' (hb : Below w0.heap.size w0 w') => ref_among rev b _ w' (hr.below hb) (by omega)))
  have hWm := hid (fun w' (hb : Below w0.heap.size w0 w') => ref_with mt b s _ w' (hm.below hb) (by omega))
  have hWd := hid (fun w' (hb : Below w0.heap.size w0 w') => ref_with dt b s _ w' (hd.below hb) (by omega))
  have hRm := hid (fun w' (hb : Below w0.heap.size w0 w') => ref_rest mt b _ w' (hm.below hb) (by omega))
  have hRd := hid (fun w' (hb : Below w0.heap.size w0 w') => ref_rest dt b _ w' (hd.below hb) (by omega))
  simp only [txnV] at hCp hGd
  replace hqm := hid hqm; replace hqd := hid hqd; replace hqr := hid hqr
  clear hT hm hd hr hgt
  have X := St.start [] w0
  go_enter Try.func8, Try.ntmps8
  go_wp2_with (first
    | (refine at_mem rfl ?_; (first | (refine at_load rfl ?_; (first | (refine c_load1 rfl _ _ rfl rfl X (by repeat (first | exact ReadA.here rfl | apply ReadA.there)) ?_) | (refine c_loadN rfl _ _ rfl rfl X (by repeat (first | exact ReadB.here (Nat.le_of_ble_eq_true rfl) | apply ReadB.there)) ?_))) | (refine at_store rfl ?_; (first | (refine c_store1 rfl _ _ _ rfl rfl (by first | exact EvR.const _ | exact EvR.tmp rfl rfl) X rfl rfl (by repeat (first | exact PutA.here (Nat.le_of_ble_eq_true rfl) | apply PutA.there)) ?_; intro w X2; (try simp only [upd] at X2); replace X := X2; clear X2) | (refine c_storeN rfl _ _ _ rfl rfl rfl X rfl rfl (by repeat (first | exact PutA.here (Nat.le_of_ble_eq_true rfl) | apply PutA.there)) ?_; intro w X2; (try simp only [upd] at X2); replace X := X2; clear X2))) | (refine m_alloc rfl _ rfl X ?_; intro g w X2; (replace X := X2; clear X2)) | (refine m_box rfl _ _ rfl (by first | exact EvR.const _ | exact EvR.tmp rfl rfl) rfl X ?_; intro g w X2; (replace X := X2; clear X2))); (simp only [Act.put, List.setIfInBounds_toArray, List.set_cons_succ, List.set_cons_zero, List.drop_succ_cons, List.drop_zero, List.take_succ_cons, List.take_zero, Nat.reduceAdd]))
    | (go_at_call 30; go_loud ((with_reducible refine (hGd.out _ X.below).mono ?_); rintro e w1 ⟨rfl, hb1⟩; replace X := X.call hb1; clear hb1))
    | (go_at_call 31; go_loud ((with_reducible refine (hBk.out _).mono ?_); rintro e w1 ⟨rfl, rfl⟩))
    | (go_at_call 32; go_loud ((with_reducible refine (hInM.out _ X.below).mono ?_); rintro e w1 ⟨rfl, hb1⟩; replace X := X.call hb1; clear hb1))
    | (go_at_call 32; go_loud ((with_reducible refine (hInD.out _ X.below).mono ?_); rintro e w1 ⟨rfl, hb1⟩; replace X := X.call hb1; clear hb1))
    | (go_at_call 33; go_loud ((with_reducible refine (hAb.out _ X.below).mono ?_); rintro e w1 ⟨rfl, rfl⟩))
    | (go_at_call 6; go_loud ((with_reducible refine (hCp.out _ X.below).mono ?_); rintro e w1 ⟨vc, rfl, ⟨vm', vd', vr', rfl, p1, p2, p3, _⟩, hb1⟩; obtain ⟨am', cm', rfl⟩ := p1.form; obtain ⟨ad', cd', rfl⟩ := p2.form; obtain ⟨ar', cr', rfl⟩ := p3.form; have f1 := hid (p1.fresh X.mv.size); have f2 := hid (p2.fresh X.mv.size); have f3 := hid (p3.fresh X.mv.size); simp only [txnV]; replace X := X.addOTxn hb1 p1 p2 p3; dsimp only at X; clear hb1 p1 p2 p3)))
  first | exact m_ret2 rfl (.tmp rfl rfl) (.tmp rfl rfl) X (.head _) rfl rfl ⟨rfl, X.below⟩ | exact m_ret2 rfl (.tmp rfl rfl) (.tmp rfl rfl) X (.tail _ (.head _)) rfl rfl ⟨rfl, X.below⟩

theorem ref_Alter_fil_gone2 {q2 : Bool} (seq : Int) (mt dt : List Cpy) (rev : List Int) (o0 o1 o2 : Bool) (x0 x1 x2 : Int) (am ad ar : Option Addr) (cm cd cr : Nat) (b : Int) (s : ByteArray) (w0 : World) (hm : RL cpyC w0 (.slice am mt.length cm) mt) (hd : RL cpyC w0 (.slice ad dt.length cd) dt) (hr : RL intC w0 (.slice ar rev.length cr) rev) (n1 : mt.length ≤ 12) (n2 : dt.length ≤ 12) (n3 : rev.length ≤ 12) (hgt : goodT ⟨seq, mt, dt, rev, ⟨o0, x0⟩, ⟨o1, x1⟩, ⟨true, x2⟩⟩ = true) (hblk : isBlk b = true) (hs : ((s.size : Int) != 32) = false) (hqm : hasB mt b = false) (hqd : hasB dt b = q2) (hqr : inI rev b = true) :
    Calls Try.prog 8 #[.int .i64 1, .agg #[.int .i64 seq, .slice am mt.length cm, .slice ad dt.length cd, .slice ar rev.length cr, .bool o0, .int .i64 x0, .bool o1, .int .i64 x1, .bool true, .int .i64 x2], .int .i64 2, .int .i64 b, .string s] w0 fun e w' => e = .returned (.tuple #[.agg #[.int .i64 seq, .slice am mt.length cm, .slice ad dt.length cd, .slice ar rev.length cr, .bool o0, .int .i64 x0, .bool o1, .int .i64 x1, .bool true, .int .i64 x2], .int .i64 8]) ∧ Below w0.heap.size w0 w' := by
  have hT : RTxn w0 (txnV ⟨seq, mt, dt, rev, ⟨o0, x0⟩, ⟨o1, x1⟩, ⟨true, x2⟩⟩ (.slice am mt.length cm) (.slice ad dt.length cd) (.slice ar rev.length cr)) ⟨seq, mt, dt, rev, ⟨o0, x0⟩, ⟨o1, x1⟩, ⟨true, x2⟩⟩ := ⟨_, _, _, rfl, hm, hd, hr, by dsimp only; omega, by dsimp only; omega, by dsimp only; omega⟩
  have hCp := hid (fun w' (hb : Below w0.heap.size w0 w') => ref_CopyTxn _ _ w' (hT.below hb))
  have hGd := fun w' (hb : Below w0.heap.size w0 w') => ref_GoodTxn _ _ w' (hT.below hb)
  rw [hgt] at hGd
  replace hGd := hid hGd
  have hBk := hid (by simpa only [hblk] using (fun w' => ref_isBlock b w'))
  have hInM := hid (by simpa only [hqm] using (fun w' (hb : Below w0.heap.size w0 w') => ref_in mt b _ w' (hm.below hb) (by omega)))
  have hInD := hid (by simpa only [hqd] using (fun w' (hb : Below w0.heap.size w0 w') => ref_in dt b _ w' (hd.below hb) (by omega)))
  have hAm := hid (fun x w' (hb : Below w0.heap.size w0 w') => ref_among rev x _ w' (hr.below hb) (by omega))
  have hAb := hid (by simpa only [hqr] using (fun w' (hb : Below w0.heap.size w0 w') => ref_among rev b _ w' (hr.below hb) (by omega)))
  have hWm := hid (fun w' (hb : Below w0.heap.size w0 w') => ref_with mt b s _ w' (hm.below hb) (by omega))
  have hWd := hid (fun w' (hb : Below w0.heap.size w0 w') => ref_with dt b s _ w' (hd.below hb) (by omega))
  have hRm := hid (fun w' (hb : Below w0.heap.size w0 w') => ref_rest mt b _ w' (hm.below hb) (by omega))
  have hRd := hid (fun w' (hb : Below w0.heap.size w0 w') => ref_rest dt b _ w' (hd.below hb) (by omega))
  simp only [txnV] at hCp hGd
  replace hqm := hid hqm; replace hqd := hid hqd; replace hqr := hid hqr
  clear hT hm hd hr hgt
  have X := St.start [] w0
  go_enter Try.func8, Try.ntmps8
  go_wp2_with (first
    | (refine at_mem rfl ?_; (first | (refine at_load rfl ?_; (first | (refine c_load1 rfl _ _ rfl rfl X (by repeat (first | exact ReadA.here rfl | apply ReadA.there)) ?_) | (refine c_loadN rfl _ _ rfl rfl X (by repeat (first | exact ReadB.here (Nat.le_of_ble_eq_true rfl) | apply ReadB.there)) ?_))) | (refine at_store rfl ?_; (first | (refine c_store1 rfl _ _ _ rfl rfl (by first | exact EvR.const _ | exact EvR.tmp rfl rfl) X rfl rfl (by repeat (first | exact PutA.here (Nat.le_of_ble_eq_true rfl) | apply PutA.there)) ?_; intro w X2; (try simp only [upd] at X2); replace X := X2; clear X2) | (refine c_storeN rfl _ _ _ rfl rfl rfl X rfl rfl (by repeat (first | exact PutA.here (Nat.le_of_ble_eq_true rfl) | apply PutA.there)) ?_; intro w X2; (try simp only [upd] at X2); replace X := X2; clear X2))) | (refine m_alloc rfl _ rfl X ?_; intro g w X2; (replace X := X2; clear X2)) | (refine m_box rfl _ _ rfl (by first | exact EvR.const _ | exact EvR.tmp rfl rfl) rfl X ?_; intro g w X2; (replace X := X2; clear X2))); (simp only [Act.put, List.setIfInBounds_toArray, List.set_cons_succ, List.set_cons_zero, List.drop_succ_cons, List.drop_zero, List.take_succ_cons, List.take_zero, Nat.reduceAdd]))
    | (go_at_call 30; go_loud ((with_reducible refine (hGd.out _ X.below).mono ?_); rintro e w1 ⟨rfl, hb1⟩; replace X := X.call hb1; clear hb1))
    | (go_at_call 31; go_loud ((with_reducible refine (hBk.out _).mono ?_); rintro e w1 ⟨rfl, rfl⟩))
    | (go_at_call 32; go_loud ((with_reducible refine (hInM.out _ X.below).mono ?_); rintro e w1 ⟨rfl, hb1⟩; replace X := X.call hb1; clear hb1))
    | (go_at_call 32; go_loud ((with_reducible refine (hInD.out _ X.below).mono ?_); rintro e w1 ⟨rfl, hb1⟩; replace X := X.call hb1; clear hb1))
    | (go_at_call 33; go_loud ((with_reducible refine (hAb.out _ X.below).mono ?_); rintro e w1 ⟨rfl, rfl⟩))
    | (go_at_call 6; go_loud ((with_reducible refine (hCp.out _ X.below).mono ?_); rintro e w1 ⟨vc, rfl, ⟨vm', vd', vr', rfl, p1, p2, p3, _⟩, hb1⟩; obtain ⟨am', cm', rfl⟩ := p1.form; obtain ⟨ad', cd', rfl⟩ := p2.form; obtain ⟨ar', cr', rfl⟩ := p3.form; have f1 := hid (p1.fresh X.mv.size); have f2 := hid (p2.fresh X.mv.size); have f3 := hid (p3.fresh X.mv.size); simp only [txnV]; replace X := X.addOTxn hb1 p1 p2 p3; dsimp only at X; clear hb1 p1 p2 p3)))
  first | exact m_ret2 rfl (.tmp rfl rfl) (.tmp rfl rfl) X (.head _) rfl rfl ⟨rfl, X.below⟩ | exact m_ret2 rfl (.tmp rfl rfl) (.tmp rfl rfl) X (.tail _ (.head _)) rfl rfl ⟨rfl, X.below⟩

theorem ref_Alter_chg_role2 {q1 q3 : Bool} (seq : Int) (mt dt : List Cpy) (rev : List Int) (o0 o1 o2 : Bool) (x0 x1 x2 : Int) (am ad ar : Option Addr) (cm cd cr : Nat) (b : Int) (s : ByteArray) (w0 : World) (hm : RL cpyC w0 (.slice am mt.length cm) mt) (hd : RL cpyC w0 (.slice ad dt.length cd) dt) (hr : RL intC w0 (.slice ar rev.length cr) rev) (n1 : mt.length ≤ 12) (n2 : dt.length ≤ 12) (n3 : rev.length ≤ 12) (hgt : goodT ⟨seq, mt, dt, rev, ⟨o0, x0⟩, ⟨o1, x1⟩, ⟨true, x2⟩⟩ = true) (hblk : isBlk b = true) (hs : ((s.size : Int) != 32) = false) (hqm : hasB mt b = q1) (hqd : hasB dt b = true) (hqr : inI rev b = q3) :
    Calls Try.prog 8 #[.int .i64 0, .agg #[.int .i64 seq, .slice am mt.length cm, .slice ad dt.length cd, .slice ar rev.length cr, .bool o0, .int .i64 x0, .bool o1, .int .i64 x1, .bool true, .int .i64 x2], .int .i64 2, .int .i64 b, .string s] w0 fun e w' => e = .returned (.tuple #[.agg #[.int .i64 seq, .slice am mt.length cm, .slice ad dt.length cd, .slice ar rev.length cr, .bool o0, .int .i64 x0, .bool o1, .int .i64 x1, .bool true, .int .i64 x2], .int .i64 8]) ∧ Below w0.heap.size w0 w' := by
  have hT : RTxn w0 (txnV ⟨seq, mt, dt, rev, ⟨o0, x0⟩, ⟨o1, x1⟩, ⟨true, x2⟩⟩ (.slice am mt.length cm) (.slice ad dt.length cd) (.slice ar rev.length cr)) ⟨seq, mt, dt, rev, ⟨o0, x0⟩, ⟨o1, x1⟩, ⟨true, x2⟩⟩ := ⟨_, _, _, rfl, hm, hd, hr, by dsimp only; omega, by dsimp only; omega, by dsimp only; omega⟩
  have hCp := hid (fun w' (hb : Below w0.heap.size w0 w') => ref_CopyTxn _ _ w' (hT.below hb))
  have hGd := fun w' (hb : Below w0.heap.size w0 w') => ref_GoodTxn _ _ w' (hT.below hb)
  rw [hgt] at hGd
  replace hGd := hid hGd
  have hBk := hid (by simpa only [hblk] using (fun w' => ref_isBlock b w'))
  have hInM := hid (by simpa only [hqm] using (fun w' (hb : Below w0.heap.size w0 w') => ref_in mt b _ w' (hm.below hb) (by omega)))
  have hInD := hid (by simpa only [hqd] using (fun w' (hb : Below w0.heap.size w0 w') => ref_in dt b _ w' (hd.below hb) (by omega)))
  have hAm := hid (fun x w' (hb : Below w0.heap.size w0 w') => ref_among rev x _ w' (hr.below hb) (by omega))
  have hAb := hid (by simpa only [hqr] using (fun w' (hb : Below w0.heap.size w0 w') => ref_among rev b _ w' (hr.below hb) (by omega)))
  have hWm := hid (fun w' (hb : Below w0.heap.size w0 w') => ref_with mt b s _ w' (hm.below hb) (by omega))
  have hWd := hid (fun w' (hb : Below w0.heap.size w0 w') => ref_with dt b s _ w' (hd.below hb) (by omega))
  have hRm := hid (fun w' (hb : Below w0.heap.size w0 w') => ref_rest mt b _ w' (hm.below hb) (by omega))
  have hRd := hid (fun w' (hb : Below w0.heap.size w0 w') => ref_rest dt b _ w' (hd.below hb) (by omega))
  simp only [txnV] at hCp hGd
  replace hqm := hid hqm; replace hqd := hid hqd; replace hqr := hid hqr
  clear hT hm hd hr hgt
  have X := St.start [] w0
  go_enter Try.func8, Try.ntmps8
  go_wp2_with (first
    | (refine at_mem rfl ?_; (first | (refine at_load rfl ?_; (first | (refine c_load1 rfl _ _ rfl rfl X (by repeat (first | exact ReadA.here rfl | apply ReadA.there)) ?_) | (refine c_loadN rfl _ _ rfl rfl X (by repeat (first | exact ReadB.here (Nat.le_of_ble_eq_true rfl) | apply ReadB.there)) ?_))) | (refine at_store rfl ?_; (first | (refine c_store1 rfl _ _ _ rfl rfl (by first | exact EvR.const _ | exact EvR.tmp rfl rfl) X rfl rfl (by repeat (first | exact PutA.here (Nat.le_of_ble_eq_true rfl) | apply PutA.there)) ?_; intro w X2; (try simp only [upd] at X2); replace X := X2; clear X2) | (refine c_storeN rfl _ _ _ rfl rfl rfl X rfl rfl (by repeat (first | exact PutA.here (Nat.le_of_ble_eq_true rfl) | apply PutA.there)) ?_; intro w X2; (try simp only [upd] at X2); replace X := X2; clear X2))) | (refine m_alloc rfl _ rfl X ?_; intro g w X2; (replace X := X2; clear X2)) | (refine m_box rfl _ _ rfl (by first | exact EvR.const _ | exact EvR.tmp rfl rfl) rfl X ?_; intro g w X2; (replace X := X2; clear X2))); (simp only [Act.put, List.setIfInBounds_toArray, List.set_cons_succ, List.set_cons_zero, List.drop_succ_cons, List.drop_zero, List.take_succ_cons, List.take_zero, Nat.reduceAdd]))
    | (go_at_call 30; go_loud ((with_reducible refine (hGd.out _ X.below).mono ?_); rintro e w1 ⟨rfl, hb1⟩; replace X := X.call hb1; clear hb1))
    | (go_at_call 31; go_loud ((with_reducible refine (hBk.out _).mono ?_); rintro e w1 ⟨rfl, rfl⟩))
    | (go_at_call 32; go_loud ((with_reducible refine (hInM.out _ X.below).mono ?_); rintro e w1 ⟨rfl, hb1⟩; replace X := X.call hb1; clear hb1))
    | (go_at_call 32; go_loud ((with_reducible refine (hInD.out _ X.below).mono ?_); rintro e w1 ⟨rfl, hb1⟩; replace X := X.call hb1; clear hb1))
    | (go_at_call 33; go_loud ((with_reducible refine (hAb.out _ X.below).mono ?_); rintro e w1 ⟨rfl, rfl⟩))
    | (go_at_call 6; go_loud ((with_reducible refine (hCp.out _ X.below).mono ?_); rintro e w1 ⟨vc, rfl, ⟨vm', vd', vr', rfl, p1, p2, p3, _⟩, hb1⟩; obtain ⟨am', cm', rfl⟩ := p1.form; obtain ⟨ad', cd', rfl⟩ := p2.form; obtain ⟨ar', cr', rfl⟩ := p3.form; have f1 := hid (p1.fresh X.mv.size); have f2 := hid (p2.fresh X.mv.size); have f3 := hid (p3.fresh X.mv.size); simp only [txnV]; replace X := X.addOTxn hb1 p1 p2 p3; dsimp only at X; clear hb1 p1 p2 p3)))
  first | exact m_ret2 rfl (.tmp rfl rfl) (.tmp rfl rfl) X (.head _) rfl rfl ⟨rfl, X.below⟩ | exact m_ret2 rfl (.tmp rfl rfl) (.tmp rfl rfl) X (.tail _ (.head _)) rfl rfl ⟨rfl, X.below⟩

theorem ref_Alter_chg_credit2 (seq : Int) (mt dt : List Cpy) (rev : List Int) (o0 o1 o2 : Bool) (x0 x1 x2 : Int) (am ad ar : Option Addr) (cm cd cr : Nat) (b : Int) (s : ByteArray) (w0 : World) (hm : RL cpyC w0 (.slice am mt.length cm) mt) (hd : RL cpyC w0 (.slice ad dt.length cd) dt) (hr : RL intC w0 (.slice ar rev.length cr) rev) (n1 : mt.length ≤ 12) (n2 : dt.length ≤ 12) (n3 : rev.length ≤ 12) (hgt : goodT ⟨seq, mt, dt, rev, ⟨o0, x0⟩, ⟨o1, x1⟩, ⟨true, x2⟩⟩ = true) (hblk : isBlk b = true) (hs : ((s.size : Int) != 32) = false) (hqm : hasB mt b = false) (hqd : hasB dt b = false) (hqr : inI rev b = false) (hx : x2 = 0) :
    Calls Try.prog 8 #[.int .i64 0, .agg #[.int .i64 seq, .slice am mt.length cm, .slice ad dt.length cd, .slice ar rev.length cr, .bool o0, .int .i64 x0, .bool o1, .int .i64 x1, .bool true, .int .i64 x2], .int .i64 2, .int .i64 b, .string s] w0 fun e w' => e = .returned (.tuple #[.agg #[.int .i64 seq, .slice am mt.length cm, .slice ad dt.length cd, .slice ar rev.length cr, .bool o0, .int .i64 x0, .bool o1, .int .i64 x1, .bool true, .int .i64 x2], .int .i64 7]) ∧ Below w0.heap.size w0 w' := by
  have hT : RTxn w0 (txnV ⟨seq, mt, dt, rev, ⟨o0, x0⟩, ⟨o1, x1⟩, ⟨true, x2⟩⟩ (.slice am mt.length cm) (.slice ad dt.length cd) (.slice ar rev.length cr)) ⟨seq, mt, dt, rev, ⟨o0, x0⟩, ⟨o1, x1⟩, ⟨true, x2⟩⟩ := ⟨_, _, _, rfl, hm, hd, hr, by dsimp only; omega, by dsimp only; omega, by dsimp only; omega⟩
  have hCp := hid (fun w' (hb : Below w0.heap.size w0 w') => ref_CopyTxn _ _ w' (hT.below hb))
  have hGd := fun w' (hb : Below w0.heap.size w0 w') => ref_GoodTxn _ _ w' (hT.below hb)
  rw [hgt] at hGd
  replace hGd := hid hGd
  have hBk := hid (by simpa only [hblk] using (fun w' => ref_isBlock b w'))
  have hInM := hid (by simpa only [hqm] using (fun w' (hb : Below w0.heap.size w0 w') => ref_in mt b _ w' (hm.below hb) (by omega)))
  have hInD := hid (by simpa only [hqd] using (fun w' (hb : Below w0.heap.size w0 w') => ref_in dt b _ w' (hd.below hb) (by omega)))
  have hAm := hid (fun x w' (hb : Below w0.heap.size w0 w') => ref_among rev x _ w' (hr.below hb) (by omega))
  have hAb := hid (by simpa only [hqr] using (fun w' (hb : Below w0.heap.size w0 w') => ref_among rev b _ w' (hr.below hb) (by omega)))
  have hWm := hid (fun w' (hb : Below w0.heap.size w0 w') => ref_with mt b s _ w' (hm.below hb) (by omega))
  have hWd := hid (fun w' (hb : Below w0.heap.size w0 w') => ref_with dt b s _ w' (hd.below hb) (by omega))
  have hRm := hid (fun w' (hb : Below w0.heap.size w0 w') => ref_rest mt b _ w' (hm.below hb) (by omega))
  have hRd := hid (fun w' (hb : Below w0.heap.size w0 w') => ref_rest dt b _ w' (hd.below hb) (by omega))
  simp only [txnV] at hCp hGd
  replace hqm := hid hqm; replace hqd := hid hqd; replace hqr := hid hqr
  clear hT hm hd hr hgt
  have X := St.start [] w0
  go_enter Try.func8, Try.ntmps8
  have e0 : (x2 == 0) = true := beq_iff_eq.2 hx
  clear hx
  go_wp2_with (first
    | (refine at_mem rfl ?_; (first | (refine at_load rfl ?_; (first | (refine c_load1 rfl _ _ rfl rfl X (by repeat (first | exact ReadA.here rfl | apply ReadA.there)) ?_) | (refine c_loadN rfl _ _ rfl rfl X (by repeat (first | exact ReadB.here (Nat.le_of_ble_eq_true rfl) | apply ReadB.there)) ?_))) | (refine at_store rfl ?_; (first | (refine c_store1 rfl _ _ _ rfl rfl (by first | exact EvR.const _ | exact EvR.tmp rfl rfl) X rfl rfl (by repeat (first | exact PutA.here (Nat.le_of_ble_eq_true rfl) | apply PutA.there)) ?_; intro w X2; (try simp only [upd] at X2); replace X := X2; clear X2) | (refine c_storeN rfl _ _ _ rfl rfl rfl X rfl rfl (by repeat (first | exact PutA.here (Nat.le_of_ble_eq_true rfl) | apply PutA.there)) ?_; intro w X2; (try simp only [upd] at X2); replace X := X2; clear X2))) | (refine m_alloc rfl _ rfl X ?_; intro g w X2; (replace X := X2; clear X2)) | (refine m_box rfl _ _ rfl (by first | exact EvR.const _ | exact EvR.tmp rfl rfl) rfl X ?_; intro g w X2; (replace X := X2; clear X2))); (simp only [Act.put, List.setIfInBounds_toArray, List.set_cons_succ, List.set_cons_zero, List.drop_succ_cons, List.drop_zero, List.take_succ_cons, List.take_zero, Nat.reduceAdd]))
    | (go_at_call 30; go_loud ((with_reducible refine (hGd.out _ X.below).mono ?_); rintro e w1 ⟨rfl, hb1⟩; replace X := X.call hb1; clear hb1))
    | (go_at_call 31; go_loud ((with_reducible refine (hBk.out _).mono ?_); rintro e w1 ⟨rfl, rfl⟩))
    | (go_at_call 32; go_loud ((with_reducible refine (hInM.out _ X.below).mono ?_); rintro e w1 ⟨rfl, hb1⟩; replace X := X.call hb1; clear hb1))
    | (go_at_call 32; go_loud ((with_reducible refine (hInD.out _ X.below).mono ?_); rintro e w1 ⟨rfl, hb1⟩; replace X := X.call hb1; clear hb1))
    | (go_at_call 33; go_loud ((with_reducible refine (hAb.out _ X.below).mono ?_); rintro e w1 ⟨rfl, rfl⟩))
    | (go_at_call 6; go_loud ((with_reducible refine (hCp.out _ X.below).mono ?_); rintro e w1 ⟨vc, rfl, ⟨vm', vd', vr', rfl, p1, p2, p3, _⟩, hb1⟩; obtain ⟨am', cm', rfl⟩ := p1.form; obtain ⟨ad', cd', rfl⟩ := p2.form; obtain ⟨ar', cr', rfl⟩ := p3.form; have f1 := hid (p1.fresh X.mv.size); have f2 := hid (p2.fresh X.mv.size); have f3 := hid (p3.fresh X.mv.size); simp only [txnV]; replace X := X.addOTxn hb1 p1 p2 p3; dsimp only at X; clear hb1 p1 p2 p3)))
  first | exact m_ret2 rfl (.tmp rfl rfl) (.tmp rfl rfl) X (.head _) rfl rfl ⟨rfl, X.below⟩ | exact m_ret2 rfl (.tmp rfl rfl) (.tmp rfl rfl) X (.tail _ (.head _)) rfl rfl ⟨rfl, X.below⟩

theorem ref_Alter_rvk_twice2 {q1 q2 : Bool} (seq : Int) (mt dt : List Cpy) (rev : List Int) (o0 o1 o2 : Bool) (x0 x1 x2 : Int) (am ad ar : Option Addr) (cm cd cr : Nat) (b : Int) (s : ByteArray) (w0 : World) (hm : RL cpyC w0 (.slice am mt.length cm) mt) (hd : RL cpyC w0 (.slice ad dt.length cd) dt) (hr : RL intC w0 (.slice ar rev.length cr) rev) (n1 : mt.length ≤ 12) (n2 : dt.length ≤ 12) (n3 : rev.length ≤ 12) (hgt : goodT ⟨seq, mt, dt, rev, ⟨o0, x0⟩, ⟨o1, x1⟩, ⟨true, x2⟩⟩ = true) (hblk : isBlk b = true) (hqm : hasB mt b = q1) (hqd : hasB dt b = q2) (hqr : inI rev b = true) :
    Calls Try.prog 8 #[.int .i64 2, .agg #[.int .i64 seq, .slice am mt.length cm, .slice ad dt.length cd, .slice ar rev.length cr, .bool o0, .int .i64 x0, .bool o1, .int .i64 x1, .bool true, .int .i64 x2], .int .i64 2, .int .i64 b, .string s] w0 fun e w' => e = .returned (.tuple #[.agg #[.int .i64 seq, .slice am mt.length cm, .slice ad dt.length cd, .slice ar rev.length cr, .bool o0, .int .i64 x0, .bool o1, .int .i64 x1, .bool true, .int .i64 x2], .int .i64 5]) ∧ Below w0.heap.size w0 w' := by
  have hT : RTxn w0 (txnV ⟨seq, mt, dt, rev, ⟨o0, x0⟩, ⟨o1, x1⟩, ⟨true, x2⟩⟩ (.slice am mt.length cm) (.slice ad dt.length cd) (.slice ar rev.length cr)) ⟨seq, mt, dt, rev, ⟨o0, x0⟩, ⟨o1, x1⟩, ⟨true, x2⟩⟩ := ⟨_, _, _, rfl, hm, hd, hr, by dsimp only; omega, by dsimp only; omega, by dsimp only; omega⟩
  have hCp := hid (fun w' (hb : Below w0.heap.size w0 w') => ref_CopyTxn _ _ w' (hT.below hb))
  have hGd := fun w' (hb : Below w0.heap.size w0 w') => ref_GoodTxn _ _ w' (hT.below hb)
  rw [hgt] at hGd
  replace hGd := hid hGd
  have hBk := hid (by simpa only [hblk] using (fun w' => ref_isBlock b w'))
  have hInM := hid (by simpa only [hqm] using (fun w' (hb : Below w0.heap.size w0 w') => ref_in mt b _ w' (hm.below hb) (by omega)))
  have hInD := hid (by simpa only [hqd] using (fun w' (hb : Below w0.heap.size w0 w') => ref_in dt b _ w' (hd.below hb) (by omega)))
  have hAm := hid (fun x w' (hb : Below w0.heap.size w0 w') => ref_among rev x _ w' (hr.below hb) (by omega))
  have hAb := hid (by simpa only [hqr] using (fun w' (hb : Below w0.heap.size w0 w') => ref_among rev b _ w' (hr.below hb) (by omega)))
  have hWm := hid (fun w' (hb : Below w0.heap.size w0 w') => ref_with mt b s _ w' (hm.below hb) (by omega))
  have hWd := hid (fun w' (hb : Below w0.heap.size w0 w') => ref_with dt b s _ w' (hd.below hb) (by omega))
  have hRm := hid (fun w' (hb : Below w0.heap.size w0 w') => ref_rest mt b _ w' (hm.below hb) (by omega))
  have hRd := hid (fun w' (hb : Below w0.heap.size w0 w') => ref_rest dt b _ w' (hd.below hb) (by omega))
  simp only [txnV] at hCp hGd
  replace hqm := hid hqm; replace hqd := hid hqd; replace hqr := hid hqr
  clear hT hm hd hr hgt
  have X := St.start [] w0
  go_enter Try.func8, Try.ntmps8
  go_wp2_with (first
    | (refine at_mem rfl ?_; (first | (refine at_load rfl ?_; (first | (refine c_load1 rfl _ _ rfl rfl X (by repeat (first | exact ReadA.here rfl | apply ReadA.there)) ?_) | (refine c_loadN rfl _ _ rfl rfl X (by repeat (first | exact ReadB.here (Nat.le_of_ble_eq_true rfl) | apply ReadB.there)) ?_))) | (refine at_store rfl ?_; (first | (refine c_store1 rfl _ _ _ rfl rfl (by first | exact EvR.const _ | exact EvR.tmp rfl rfl) X rfl rfl (by repeat (first | exact PutA.here (Nat.le_of_ble_eq_true rfl) | apply PutA.there)) ?_; intro w X2; (try simp only [upd] at X2); replace X := X2; clear X2) | (refine c_storeN rfl _ _ _ rfl rfl rfl X rfl rfl (by repeat (first | exact PutA.here (Nat.le_of_ble_eq_true rfl) | apply PutA.there)) ?_; intro w X2; (try simp only [upd] at X2); replace X := X2; clear X2))) | (refine m_alloc rfl _ rfl X ?_; intro g w X2; (replace X := X2; clear X2)) | (refine m_box rfl _ _ rfl (by first | exact EvR.const _ | exact EvR.tmp rfl rfl) rfl X ?_; intro g w X2; (replace X := X2; clear X2))); (simp only [Act.put, List.setIfInBounds_toArray, List.set_cons_succ, List.set_cons_zero, List.drop_succ_cons, List.drop_zero, List.take_succ_cons, List.take_zero, Nat.reduceAdd]))
    | (go_at_call 30; go_loud ((with_reducible refine (hGd.out _ X.below).mono ?_); rintro e w1 ⟨rfl, hb1⟩; replace X := X.call hb1; clear hb1))
    | (go_at_call 31; go_loud ((with_reducible refine (hBk.out _).mono ?_); rintro e w1 ⟨rfl, rfl⟩))
    | (go_at_call 32; go_loud ((with_reducible refine (hInM.out _ X.below).mono ?_); rintro e w1 ⟨rfl, hb1⟩; replace X := X.call hb1; clear hb1))
    | (go_at_call 32; go_loud ((with_reducible refine (hInD.out _ X.below).mono ?_); rintro e w1 ⟨rfl, hb1⟩; replace X := X.call hb1; clear hb1))
    | (go_at_call 33; go_loud ((with_reducible refine (hAb.out _ X.below).mono ?_); rintro e w1 ⟨rfl, rfl⟩))
    | (go_at_call 6; go_loud ((with_reducible refine (hCp.out _ X.below).mono ?_); rintro e w1 ⟨vc, rfl, ⟨vm', vd', vr', rfl, p1, p2, p3, _⟩, hb1⟩; obtain ⟨am', cm', rfl⟩ := p1.form; obtain ⟨ad', cd', rfl⟩ := p2.form; obtain ⟨ar', cr', rfl⟩ := p3.form; have f1 := hid (p1.fresh X.mv.size); have f2 := hid (p2.fresh X.mv.size); have f3 := hid (p3.fresh X.mv.size); simp only [txnV]; replace X := X.addOTxn hb1 p1 p2 p3; dsimp only at X; clear hb1 p1 p2 p3)))
  first | exact m_ret2 rfl (.tmp rfl rfl) (.tmp rfl rfl) X (.head _) rfl rfl ⟨rfl, X.below⟩ | exact m_ret2 rfl (.tmp rfl rfl) (.tmp rfl rfl) X (.tail _ (.head _)) rfl rfl ⟨rfl, X.below⟩

theorem ref_Alter_rvk_credit2 {q2 : Bool} (seq : Int) (mt dt : List Cpy) (rev : List Int) (o0 o1 o2 : Bool) (x0 x1 x2 : Int) (am ad ar : Option Addr) (cm cd cr : Nat) (b : Int) (s : ByteArray) (w0 : World) (hm : RL cpyC w0 (.slice am mt.length cm) mt) (hd : RL cpyC w0 (.slice ad dt.length cd) dt) (hr : RL intC w0 (.slice ar rev.length cr) rev) (n1 : mt.length ≤ 12) (n2 : dt.length ≤ 12) (n3 : rev.length ≤ 12) (hgt : goodT ⟨seq, mt, dt, rev, ⟨o0, x0⟩, ⟨o1, x1⟩, ⟨true, x2⟩⟩ = true) (hblk : isBlk b = true) (hqm : hasB mt b = false) (hqd : hasB dt b = q2) (hqr : inI rev b = false) (hx : x2 = 0) :
    Calls Try.prog 8 #[.int .i64 2, .agg #[.int .i64 seq, .slice am mt.length cm, .slice ad dt.length cd, .slice ar rev.length cr, .bool o0, .int .i64 x0, .bool o1, .int .i64 x1, .bool true, .int .i64 x2], .int .i64 2, .int .i64 b, .string s] w0 fun e w' => e = .returned (.tuple #[.agg #[.int .i64 seq, .slice am mt.length cm, .slice ad dt.length cd, .slice ar rev.length cr, .bool o0, .int .i64 x0, .bool o1, .int .i64 x1, .bool true, .int .i64 x2], .int .i64 7]) ∧ Below w0.heap.size w0 w' := by
  have hT : RTxn w0 (txnV ⟨seq, mt, dt, rev, ⟨o0, x0⟩, ⟨o1, x1⟩, ⟨true, x2⟩⟩ (.slice am mt.length cm) (.slice ad dt.length cd) (.slice ar rev.length cr)) ⟨seq, mt, dt, rev, ⟨o0, x0⟩, ⟨o1, x1⟩, ⟨true, x2⟩⟩ := ⟨_, _, _, rfl, hm, hd, hr, by dsimp only; omega, by dsimp only; omega, by dsimp only; omega⟩
  have hCp := hid (fun w' (hb : Below w0.heap.size w0 w') => ref_CopyTxn _ _ w' (hT.below hb))
  have hGd := fun w' (hb : Below w0.heap.size w0 w') => ref_GoodTxn _ _ w' (hT.below hb)
  rw [hgt] at hGd
  replace hGd := hid hGd
  have hBk := hid (by simpa only [hblk] using (fun w' => ref_isBlock b w'))
  have hInM := hid (by simpa only [hqm] using (fun w' (hb : Below w0.heap.size w0 w') => ref_in mt b _ w' (hm.below hb) (by omega)))
  have hInD := hid (by simpa only [hqd] using (fun w' (hb : Below w0.heap.size w0 w') => ref_in dt b _ w' (hd.below hb) (by omega)))
  have hAm := hid (fun x w' (hb : Below w0.heap.size w0 w') => ref_among rev x _ w' (hr.below hb) (by omega))
  have hAb := hid (by simpa only [hqr] using (fun w' (hb : Below w0.heap.size w0 w') => ref_among rev b _ w' (hr.below hb) (by omega)))
  have hWm := hid (fun w' (hb : Below w0.heap.size w0 w') => ref_with mt b s _ w' (hm.below hb) (by omega))
  have hWd := hid (fun w' (hb : Below w0.heap.size w0 w') => ref_with dt b s _ w' (hd.below hb) (by omega))
  have hRm := hid (fun w' (hb : Below w0.heap.size w0 w') => ref_rest mt b _ w' (hm.below hb) (by omega))
  have hRd := hid (fun w' (hb : Below w0.heap.size w0 w') => ref_rest dt b _ w' (hd.below hb) (by omega))
  simp only [txnV] at hCp hGd
  replace hqm := hid hqm; replace hqd := hid hqd; replace hqr := hid hqr
  clear hT hm hd hr hgt
  have X := St.start [] w0
  go_enter Try.func8, Try.ntmps8
  have e0 : (x2 == 0) = true := beq_iff_eq.2 hx
  clear hx
  go_wp2_with (first
    | (refine at_mem rfl ?_; (first | (refine at_load rfl ?_; (first | (refine c_load1 rfl _ _ rfl rfl X (by repeat (first | exact ReadA.here rfl | apply ReadA.there)) ?_) | (refine c_loadN rfl _ _ rfl rfl X (by repeat (first | exact ReadB.here (Nat.le_of_ble_eq_true rfl) | apply ReadB.there)) ?_))) | (refine at_store rfl ?_; (first | (refine c_store1 rfl _ _ _ rfl rfl (by first | exact EvR.const _ | exact EvR.tmp rfl rfl) X rfl rfl (by repeat (first | exact PutA.here (Nat.le_of_ble_eq_true rfl) | apply PutA.there)) ?_; intro w X2; (try simp only [upd] at X2); replace X := X2; clear X2) | (refine c_storeN rfl _ _ _ rfl rfl rfl X rfl rfl (by repeat (first | exact PutA.here (Nat.le_of_ble_eq_true rfl) | apply PutA.there)) ?_; intro w X2; (try simp only [upd] at X2); replace X := X2; clear X2))) | (refine m_alloc rfl _ rfl X ?_; intro g w X2; (replace X := X2; clear X2)) | (refine m_box rfl _ _ rfl (by first | exact EvR.const _ | exact EvR.tmp rfl rfl) rfl X ?_; intro g w X2; (replace X := X2; clear X2))); (simp only [Act.put, List.setIfInBounds_toArray, List.set_cons_succ, List.set_cons_zero, List.drop_succ_cons, List.drop_zero, List.take_succ_cons, List.take_zero, Nat.reduceAdd]))
    | (go_at_call 30; go_loud ((with_reducible refine (hGd.out _ X.below).mono ?_); rintro e w1 ⟨rfl, hb1⟩; replace X := X.call hb1; clear hb1))
    | (go_at_call 31; go_loud ((with_reducible refine (hBk.out _).mono ?_); rintro e w1 ⟨rfl, rfl⟩))
    | (go_at_call 32; go_loud ((with_reducible refine (hInM.out _ X.below).mono ?_); rintro e w1 ⟨rfl, hb1⟩; replace X := X.call hb1; clear hb1))
    | (go_at_call 32; go_loud ((with_reducible refine (hInD.out _ X.below).mono ?_); rintro e w1 ⟨rfl, hb1⟩; replace X := X.call hb1; clear hb1))
    | (go_at_call 33; go_loud ((with_reducible refine (hAb.out _ X.below).mono ?_); rintro e w1 ⟨rfl, rfl⟩))
    | (go_at_call 6; go_loud ((with_reducible refine (hCp.out _ X.below).mono ?_); rintro e w1 ⟨vc, rfl, ⟨vm', vd', vr', rfl, p1, p2, p3, _⟩, hb1⟩; obtain ⟨am', cm', rfl⟩ := p1.form; obtain ⟨ad', cd', rfl⟩ := p2.form; obtain ⟨ar', cr', rfl⟩ := p3.form; have f1 := hid (p1.fresh X.mv.size); have f2 := hid (p2.fresh X.mv.size); have f3 := hid (p3.fresh X.mv.size); simp only [txnV]; replace X := X.addOTxn hb1 p1 p2 p3; dsimp only at X; clear hb1 p1 p2 p3)))
  first | exact m_ret2 rfl (.tmp rfl rfl) (.tmp rfl rfl) X (.head _) rfl rfl ⟨rfl, X.below⟩ | exact m_ret2 rfl (.tmp rfl rfl) (.tmp rfl rfl) X (.tail _ (.head _)) rfl rfl ⟨rfl, X.below⟩
end Go.Proofs.Ytjhmfljlclajnac
