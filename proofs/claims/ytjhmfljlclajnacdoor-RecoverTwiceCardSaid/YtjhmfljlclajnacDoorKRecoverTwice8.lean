/- More on what a log tells. No program in sight. The walk of the law RecoverTwice. The world of the witness, where the program's own step 'flush' stands as its text lays it. What the listed variable holds: the step 'flush'. The walks of Escape and Unescape. The walk of stamp.Decode at whatever is no block of a mark. What Decode answers, its lists its own. What a new disk with a super block tells. No program in sight. The walk of the reference's FlushDisk. The walks of New, NewDisk. -/
import Derived.Test.YtjhmfljlclajnacDoorKRecoverTwice3
import Derived.Test.YtjhmfljlclajnacDoorKRecoverTwice5
import Derived.Test.YtjhmfljlclajnacDoorKRecoverTwice4
import Derived.Test.YtjhmfljlclajnacDoorKRecoverTwice6
import Derived.Test.YtjhmfljlclajnacDoorKRecoverTwice7
import Derived.Test.YtjhmfljlclajnacDoorKRecoverTwice0
import Derived.Test.YtjhmfljlclajnacDoorCards
import Derived.Test.YtjhmfljlclajnacDoorTie
import Derived.Test.YtjhmfljlclajnacDoorKRecoverTwice1
import Derived.Lib.LaidTab
import Derived.Test.YtjhmfljlclajnacDoorKRecoverTwice2
import Derived.Test.YtjhmfljlclajnacDoorShelf
import Derived.Test.YtjhmfljlclajnacDoorFit2
import Derived.Test.YtjhmfljlclajnacDoorPure2
import Derived.Test.YtjhmfljlclajnacDoorEncR
import Derived.Test.YtjhmfljlclajnacDoorMarks
import Derived.Test.YtjhmfljlclajnacDoorDecP2
import Derived.Test.YtjhmfljlclajnacDoorDecA
import Derived.Test.YtjhmfljlclajnacDoorRegCall
import Derived.Test.YtjhmfljlclajnacDoorDec2
set_option linter.unusedVariables false
set_option linter.unusedSimpArgs false
namespace Wb
open Go Go.RowKit
/-- What is found, owned. -/
def OFnd (base : Nat) (tt tc ti : TypeId) (w : World) (v : Value) (F : Fnd) : Prop := ∃ vt, v = .agg #[vt, .int .i64 F.next, .int .i64 F.at_] ∧ OTxns base tt tc ti w vt F.txns
theorem OTxn.grownBlk {base : Nat} {tc ti : TypeId} {w w' : World} {v : Value} {t : Txn} (h : OTxn base tc ti w v t) {b : Nat} {cs : Array Value} {e : TypeId} (hb : Blk w b cs e) (hc : tc ≠ e) (hi : ti ≠ e) (hg : w.grownBy w' (some b)) : OTxn base tc ti w' v t := by
  obtain ⟨vm, vd, vr, hv, h1, h2', h3, h4⟩ := h
  exact ⟨vm, vd, vr, hv, h1.grownBlk hb hc hg, h2'.grownBlk hb hc hg, h3.grownBlk hb hi hg, h4⟩
theorem OTxn.setCell {base : Nat} {tc ti : TypeId} {w : World} {v : Value} {t : Txn} (h : OTxn base tc ti w v t) {p : Addr} (hp : p.block < base) (u : Value) : OTxn base tc ti (w.setCell p u) v t := by
  obtain ⟨vm, vd, vr, hv, h1, h2', h3, h4⟩ := h
  exact ⟨vm, vd, vr, hv, h1.setCell hp u, h2'.setCell hp u, h3.setCell hp u, h4⟩
theorem OTxns.grownBlk {base : Nat} {tt tc ti : TypeId} {w w' : World} {v : Value} {l : List Txn} (h : OTxns base tt tc ti w v l) {b : Nat} {cs : Array Value} {e : TypeId} (hb : Blk w b cs e) (ht : tt ≠ e) (hc : tc ≠ e) (hi : ti ≠ e) (hg : w.grownBy w' (some b)) : OTxns base tt tc ti w' v l := by
  obtain ⟨xs, h1, h2, h3⟩ := h
  exact ⟨xs, h1.grownBlk hb ht hg, h2, fun x hx => (h3 x hx).grownBlk hb hc hi hg⟩
theorem OTxns.setCell {base : Nat} {tt tc ti : TypeId} {w : World} {v : Value} {l : List Txn} (h : OTxns base tt tc ti w v l) {p : Addr} (hp : p.block < base) (u : Value) : OTxns base tt tc ti (w.setCell p u) v l := by
  obtain ⟨xs, h1, h2, h3⟩ := h
  exact ⟨xs, h1.setCell hp u, h2, fun x hx => (h3 x hx).setCell hp u⟩
end Wb

namespace Go.Proofs.YtjhmfljlclajnacDoor
open Go.RowKit Wb
set_option linter.unusedVariables false
set_option linter.unusedSimpArgs false
set_option maxRecDepth 100000
set_option maxHeartbeats 16000000
theorem mem2 {α : Type} {a b r : α} {R : List α} (h : r ∈ [a, b]) : r ∈ a :: b :: R := by
  rcases List.mem_cons.1 h with rfl | h
  · exact .head _
  · rcases List.mem_singleton.1 h with rfl; exact .tail _ (.head _)
theorem _root_.Wb.St.gs5 {S : List Nat} {w0 w : World} {a b c d e : Nat} {ca cb cc cd ce : List Value} {ta tb tc td te : TypeId} {L : List Ent} {R : List Rd} (_ : St S w0 w (⟨a, ca, ta⟩ :: ⟨b, cb, tb⟩ :: ⟨c, cc, tc⟩ :: ⟨d, cd, td⟩ :: ⟨e, ce, te⟩ :: L) R) : ∃ x1 x2 x3 x4 x5, x1 = a ∧ x2 = b ∧ x3 = c ∧ x4 = d ∧ x5 = e := ⟨_, _, _, _, _, rfl, rfl, rfl, rfl, rfl⟩
theorem law_RecoverTwice (hDec : ∀ (s : ByteArray) (w : World), s.size ≤ 9223372036854775807 → Calls Tryd.prog 22 #[.string s] w fun e w' => ∃ v, e = .returned (.tuple #[v, .int .i64 (decE s)]) ∧ OMark w.heap.size w' v (decM s) ∧ Below w.heap.size w w')
    (hSc : ∀ (d : Dsk) (v : Value) (w : World), RDisk w v d → Calls Tryd.prog 6 #[v] w fun e w' => ∃ v', e = .returned (.tuple #[v', .int .i64 (scanE d)]) ∧ OFnd w.heap.size 55 46 3 w' v' (scanF d) ∧ Below w.heap.size w w')
    (hTe : ∀ w, Calls Tryd.prog 7 #[] w fun e w' => e = .returned (.bool true) ∧ Below w.heap.size w w')
    (d : Dsk) (steps draw : Int) (v : Value) (w0 : World) (hd : RDisk w0 v d) (hF : Sl w0 (flR 0).v 1 (flR 0).cs) :
    Calls Tryd.prog 3 #[v, .int .i64 steps, .int .i64 draw] w0 fun e w' => e = .returned (.bool true) ∧ Below w0.heap.size w0 w' := by
  have hFl := fun v w (h : RDisk w v d) => disk_Flush d v w h
  obtain ⟨as_, cs, aw, cw, rfl, h1, h2, n1, n2⟩ := hd.form
  have X : St [] w0 w0 [] (dskR as_ cs aw cw d) := ((St.start [] w0).addR0 h2).addR0 h1
  clear h1 h2
  have hcl := fun h => (scan_clean (d := d) h).2
  generalize flushE d = fe at *
  generalize flushD d = D at *
  have hS := fun v w (h : RDisk w v D) => hSc D v w h
  have hL := fun v w (h : RDisk w v D) => keep_later hDec D (scanF D).next v w h
  have hG := fun v w (h : RFnd w v (scanF D)) => keep_goods (scanF D) v w h
  have hfl := scanF_len2 D
  have hrf : ∀ vt w, RTxns w vt (scanF D).txns → RFnd w (.agg #[vt, .int .i64 (scanF D).next, .int .i64 (scanF D).at_]) (scanF D) := fun vt w h => ⟨vt, rfl, h⟩
  by_cases he : scanE D = 0
  · rw [he] at hS
    cases hgd : (scanF D).txns.all goodT with
    | false =>
      clear hcl he
      rw [hgd] at hG
      clear hgd
      generalize laterB D (scanF D).next = lB at *
      generalize scanF D = F at *
      obtain ⟨fl, fn, fa⟩ := F
      dsimp only at *
      replace hFl := hid hFl; replace hS := hid hS; replace hL := hid hL; replace hG := hid hG; replace hTe := hid hTe; replace hrf := hid hrf
      go_enter Tryd.func3, Tryd.ntmps3
      go_wp2_with (first
        | (refine at_mem rfl ?_; refine at_want2 (by kernel_rfl) ?_; (first | (refine at_load rfl ?_; (first | (refine c_load1 rfl _ _ rfl rfl X (by repeat (first | exact ReadA.here rfl | apply ReadA.there)) ?_) | (refine c_loadN rfl _ _ rfl rfl X (by repeat (first | exact ReadB.here (Nat.le_of_ble_eq_true rfl) | apply ReadB.there)) ?_))) | (refine at_store rfl ?_; (first | (refine c_store1 rfl _ _ _ rfl rfl (by first | exact EvR.const _ | exact EvR.tmp rfl rfl) X rfl rfl (by repeat (first | exact PutA.here (Nat.le_of_ble_eq_true rfl) | apply PutA.there)) ?_; intro w X2; (try simp only [upd] at X2); replace X := X2; clear X2) | (refine c_storeN rfl _ _ _ rfl rfl rfl X rfl rfl (by repeat (first | exact PutA.here (Nat.le_of_ble_eq_true rfl) | apply PutA.there)) ?_; intro w X2; (try simp only [upd] at X2); replace X := X2; clear X2))) | (refine m_alloc rfl _ rfl X ?_; intro g w X2; (replace X := X2; clear X2)) | (refine m_box rfl _ _ rfl (by first | exact EvR.const _ | exact EvR.tmp rfl rfl) rfl X ?_; intro g w X2; (replace X := X2; clear X2))); (simp only [Act.put, List.setIfInBounds_toArray, List.set_cons_succ, List.set_cons_zero, List.drop_succ_cons, List.drop_zero, List.take_succ_cons, List.take_zero, Nat.reduceAdd]))
        | (go_at_call 7; go_loud ((with_reducible refine (hTe.out _).mono ?_); rintro e w1 ⟨rfl, hb1⟩; replace X := X.call hb1; clear hb1))
        | (go_at_call 8; go_loud ((with_reducible refine (hG.out _ _ (hrf.out _ _ (by have hq := X.txns hxf (by have := congrArg List.length hxs; simp at this; omega) (fun r hr => List.mem_append_left _ hr); rw [hxs] at hq; exact hq))).mono ?_); rintro e w1 ⟨rfl, hb1⟩; replace X := X.call hb1; clear hb1))
        | (go_at_call 5; go_loud ((with_reducible refine (hFl.out _ _ (X.dsk n1 n2)).mono ?_); rintro e w1 ⟨v1, rfl, hr1, hb1⟩; obtain ⟨as2, cs2, aw2, cw2, rfl, f1, f2, m1, m2⟩ := hr1.form; replace X := (X.call hb1).addDsk f1 f2 (by simp [noSl]); clear hb1 hr1 f1 f2))
        | (go_at_call 6; go_loud ((with_reducible refine (hS.out _ _ (X.dsk m1 m2)).mono ?_); rintro e w2 ⟨v2, rfl, ⟨vt, rfl, of1⟩, hb2⟩; obtain ⟨at1, ct1, rfl⟩ := of1.form; obtain ⟨xs, hxs, hxf, X2⟩ := X.addOTxns hb2 of1; replace X := X2; clear hb2 of1 X2)))
      go_ret
      exact ⟨rfl, X.below⟩
    | true =>
      rw [hgd] at hG
      cases hlt : laterB D (scanF D).next with
      | true =>
        clear hcl he
        rw [hlt] at hL
        clear hlt hgd
        generalize scanF D = F at *
        obtain ⟨fl, fn, fa⟩ := F
        dsimp only at *
        replace hFl := hid hFl; replace hS := hid hS; replace hL := hid hL; replace hG := hid hG; replace hTe := hid hTe; replace hrf := hid hrf
        go_enter Tryd.func3, Tryd.ntmps3
        go_wp2_with (first
          | (refine at_mem rfl ?_; refine at_want2 (by kernel_rfl) ?_; (first | (refine at_load rfl ?_; (first | (refine c_load1 rfl _ _ rfl rfl X (by repeat (first | exact ReadA.here rfl | apply ReadA.there)) ?_) | (refine c_loadN rfl _ _ rfl rfl X (by repeat (first | exact ReadB.here (Nat.le_of_ble_eq_true rfl) | apply ReadB.there)) ?_))) | (refine at_store rfl ?_; (first | (refine c_store1 rfl _ _ _ rfl rfl (by first | exact EvR.const _ | exact EvR.tmp rfl rfl) X rfl rfl (by repeat (first | exact PutA.here (Nat.le_of_ble_eq_true rfl) | apply PutA.there)) ?_; intro w X2; (try simp only [upd] at X2); replace X := X2; clear X2) | (refine c_storeN rfl _ _ _ rfl rfl rfl X rfl rfl (by repeat (first | exact PutA.here (Nat.le_of_ble_eq_true rfl) | apply PutA.there)) ?_; intro w X2; (try simp only [upd] at X2); replace X := X2; clear X2))) | (refine m_alloc rfl _ rfl X ?_; intro g w X2; (replace X := X2; clear X2)) | (refine m_box rfl _ _ rfl (by first | exact EvR.const _ | exact EvR.tmp rfl rfl) rfl X ?_; intro g w X2; (replace X := X2; clear X2))); (simp only [Act.put, List.setIfInBounds_toArray, List.set_cons_succ, List.set_cons_zero, List.drop_succ_cons, List.drop_zero, List.take_succ_cons, List.take_zero, Nat.reduceAdd]))
          | (go_at_call 7; go_loud ((with_reducible refine (hTe.out _).mono ?_); rintro e w1 ⟨rfl, hb1⟩; replace X := X.call hb1; clear hb1))
          | (go_at_call 9; go_loud ((with_reducible refine (hL.out _ _ (X.dskM m1 m2 (fun r hr => List.mem_append_right _ (mem2 hr)))).mono ?_); rintro e w1 ⟨rfl, hb1⟩; replace X := X.call hb1; clear hb1))
          | (go_at_call 8; go_loud ((with_reducible refine (hG.out _ _ (hrf.out _ _ (by have hq := X.txns hxf (by have := congrArg List.length hxs; simp at this; omega) (fun r hr => List.mem_append_left _ hr); rw [hxs] at hq; exact hq))).mono ?_); rintro e w1 ⟨rfl, hb1⟩; replace X := X.call hb1; clear hb1))
          | (go_at_call 5; go_loud ((with_reducible refine (hFl.out _ _ (X.dsk n1 n2)).mono ?_); rintro e w1 ⟨v1, rfl, hr1, hb1⟩; obtain ⟨as2, cs2, aw2, cw2, rfl, f1, f2, m1, m2⟩ := hr1.form; replace X := (X.call hb1).addDsk f1 f2 (by simp [noSl]); clear hb1 hr1 f1 f2))
          | (go_at_call 6; go_loud ((with_reducible refine (hS.out _ _ (X.dsk m1 m2)).mono ?_); rintro e w2 ⟨v2, rfl, ⟨vt, rfl, of1⟩, hb2⟩; obtain ⟨at1, ct1, rfl⟩ := of1.form; obtain ⟨xs, hxs, hxf, X2⟩ := X.addOTxns hb2 of1; replace X := X2; clear hb2 of1 X2)))
        go_ret
        exact ⟨rfl, X.below⟩
      | false =>
        rw [hlt] at hL
        have hgs : ∀ t ∈ (scanF D).txns, goodT t = true := List.all_eq_true.1 hgd
        obtain ⟨hgD, hwD⟩ := hcl he
        clear hcl
        have hg := newestL_copies hgs
        obtain ⟨hba, hbq⟩ := scan_bounds he
        have hE := (check_zero hg hba hbq).1
        have hckl := (chk_ok hg hba hbq).2
        have hRp := fun v w (h : RTxns w v (scanF D).txns) => scan_Replay (scanF D).txns hgs v w h
        have hCk := fun v w' (hb : Below w0.heap.size w0 w') (h : RL cpyC w' v (newestL (scanF D).txns)) => seal_Check (newestL (scanF D).txns) (scanF D).at_ (scanF D).next v w' h (by have := copies_len hg; omega) (hF.below hb)
        rw [hE] at hCk
        obtain ⟨x, hx, hx0⟩ : ∃ x : Nat, draw % 1099511627776 = x ∧ x < 1099511627776 := ⟨(draw % 1099511627776).toNat, by omega, by omega⟩
        obtain ⟨k, hk, hk0⟩ : ∃ k : Nat, steps % (((checkL (newestL (scanF D).txns) (scanF D).at_ (scanF D).next).length : Int) + 1) = k ∧ k ≤ (checkL (newestL (scanF D).txns) (scanF D).at_ (scanF D).next).length := by
          have h1 := Int.emod_nonneg steps (show ((checkL (newestL (scanF D).txns) (scanF D).at_ (scanF D).next).length : Int) + 1 ≠ 0 by omega)
          have h2 := Int.emod_lt_of_pos steps (show (0 : Int) < ((checkL (newestL (scanF D).txns) (scanF D).at_ (scanF D).next).length : Int) + 1 by omega)
          exact ⟨(steps % (((checkL (newestL (scanF D).txns) (scanF D).at_ (scanF D).next).length : Int) + 1)).toNat, by omega, by omega⟩
        have hP1 := fun w => keep_pick steps (((checkL (newestL (scanF D).txns) (scanF D).at_ (scanF D).next).length : Int) + 1) w (by omega) (by omega)
        have hP2 := fun w => keep_pick draw 1099511627776 w (by decide) (by decide)
        rw [hk] at hP1
        rw [hx] at hP2
        have hTw := twice_pure (k := k) (x := (x : Int)) he hgD hwD hgs hlt hk0 (by omega)
        have hT0 := hTw.crash
        have hT1 := hTw.scan
        have hGn := hTw.next
        have hGa := hTw.at_
        have hgood := hTw.good
        have hT2 := hTw.check
        have hdone := hTw.done
        have hhome := hTw.home
        have hz0 := hTw.scan2
        have hz1 := hTw.txns2
        have hz2 := hTw.next2
        have hz3 := hTw.at2
        clear hTw
        have hwk : IntKind.i64.wrap (((checkL (newestL (scanF D).txns) (scanF D).at_ (scanF D).next).length : Int) + 1) = ((checkL (newestL (scanF D).txns) (scanF D).at_ (scanF D).next).length : Int) + 1 := IntWalk.i64_in _ (by omega)
        clear hx hk hE hba hbq hgs hgD hwD hlt hgd he
        generalize checkL (newestL (scanF D).txns) (scanF D).at_ (scanF D).next = ST at *
        have hcb := fun c (hc : c ∈ newestL (scanF D).txns) => (cpy_ok hg hc).1
        have hnll := copies_len hg
        generalize newestL (scanF D).txns = NL at *
        have hRu := fun v vl w (h : RDisk w v D) (h2 : RL stpC w vl (ST.take k)) => keep_run D (ST.take k) v vl w h h2 (by rw [List.length_take]; omega)
        generalize runD D (ST.take k) = DT at *
        have hCr := fun v w (h : RDisk w v DT) => disk_Crash DT (x : Int) v w h (by omega)
        rw [hT0] at hCr
        generalize crashD DT (x : Int) = XX at *
        have hS2 := fun v w (h : RDisk w v XX) => hSc XX v w h
        rw [hT1] at hS2
        have hRp2 := fun v w (h : RTxns w v (scanF XX).txns) => scan_Replay (scanF XX).txns hgood v w h
        have hg2 := newestL_copies hgood
        have hCk2 := fun v w' (hb : Below w0.heap.size w0 w') (h : RL cpyC w' v (newestL (scanF XX).txns)) => seal_Check (newestL (scanF XX).txns) (scanF XX).at_ (scanF XX).next v w' h (by have := copies_len hg2; omega) (hF.below hb)
        rw [hT2] at hCk2
        obtain ⟨hba2, hbq2⟩ := scan_bounds hT1
        have hck2 := (chk_ok hg2 hba2 hbq2).2
        have hgl := scanF_len2 XX
        clear hg hg2 hba2 hbq2 hT0 hT1 hT2
        generalize checkL (newestL (scanF XX).txns) (scanF XX).at_ (scanF XX).next = S2 at *
        generalize newestL (scanF XX).txns = NG at *
        have hRu2 := fun v vl w (h : RDisk w v XX) (h2 : RL stpC w vl S2) => keep_run XX S2 v vl w h h2 (by omega)
        generalize runD XX S2 = Y at *
        have hS3 := fun v w (h : RDisk w v Y) => hSc Y v w h
        rw [hz0] at hS3
        have hRd := fun (b : Int) v w (h : RDisk w v Y) => disk_Read Y b v w h
        generalize scanF Y = Z at *
        generalize scanF XX = G at *
        generalize scanF D = F at *
        obtain ⟨fl, fn, fa⟩ := F
        obtain ⟨gl, gn, ga⟩ := G
        obtain ⟨zl, zn, za⟩ := Z
        dsimp only at *
        subst hGn hGa hz1 hz2 hz3
        replace hFl := hid hFl; replace hS := hid hS; replace hL := hid hL; replace hG := hid hG; replace hTe := hid hTe; replace hrf := hid hrf; replace hRp := hid hRp; replace hCk := hid hCk; replace hP1 := hid hP1; replace hP2 := hid hP2; replace hRu := hid hRu; replace hCr := hid hCr; replace hS2 := hid hS2; replace hRp2 := hid hRp2; replace hCk2 := hid hCk2; replace hRu2 := hid hRu2; replace hS3 := hid hS3; replace hRd := hid hRd; replace hhome := hid hhome; replace hdone := hid hdone; replace hcb := hid hcb
        go_enter Tryd.func3, Tryd.ntmps3
        go_wp2_with (first
          | (refine at_mem rfl ?_; refine at_want2 (by kernel_rfl) ?_; (first | (refine at_load rfl ?_; (first | (refine c_load1 rfl _ _ rfl rfl X (by repeat (first | exact ReadA.here rfl | apply ReadA.there)) ?_) | (refine c_loadN rfl _ _ rfl rfl X (by repeat (first | exact ReadB.here (Nat.le_of_ble_eq_true rfl) | apply ReadB.there)) ?_))) | (refine at_store rfl ?_; (first | (refine c_store1 rfl _ _ _ rfl rfl (by first | exact EvR.const _ | exact EvR.tmp rfl rfl) X rfl rfl (by repeat (first | exact PutA.here (Nat.le_of_ble_eq_true rfl) | apply PutA.there)) ?_; intro w X2; (try simp only [upd] at X2); replace X := X2; clear X2) | (refine c_storeN rfl _ _ _ rfl rfl rfl X rfl rfl (by repeat (first | exact PutA.here (Nat.le_of_ble_eq_true rfl) | apply PutA.there)) ?_; intro w X2; (try simp only [upd] at X2); replace X := X2; clear X2))) | (refine m_alloc rfl _ rfl X ?_; intro g w X2; (replace X := X2; clear X2)) | (refine m_box rfl _ _ rfl (by first | exact EvR.const _ | exact EvR.tmp rfl rfl) rfl X ?_; intro g w X2; (replace X := X2; clear X2))); (simp only [Act.put, List.setIfInBounds_toArray, List.set_cons_succ, List.set_cons_zero, List.drop_succ_cons, List.drop_zero, List.take_succ_cons, List.take_zero, Nat.reduceAdd]))
          | (go_at_call 7; go_loud ((with_reducible refine (hTe.out _).mono ?_); rintro e w1 ⟨rfl, hb1⟩; replace X := X.call hb1; clear hb1))
          | (go_at_call 9; go_loud ((with_reducible refine (hL.out _ _ (X.dskM m1 m2 (fun r hr => List.mem_append_right _ (mem2 hr)))).mono ?_); rintro e w1 ⟨rfl, hb1⟩; replace X := X.call hb1; clear hb1))
          | (go_at_call 8; go_loud ((with_reducible refine (hG.out _ _ (hrf.out _ _ (by have hq := X.txns hxf (by have := congrArg List.length hxs; simp at this; omega) (fun r hr => List.mem_append_left _ hr); rw [hxs] at hq; exact hq))).mono ?_); rintro e w1 ⟨rfl, hb1⟩; replace X := X.call hb1; clear hb1))
          | (go_at_call 5; go_loud ((with_reducible refine (hFl.out _ _ (X.dsk n1 n2)).mono ?_); rintro e w1 ⟨v1, rfl, hr1, hb1⟩; obtain ⟨as2, cs2, aw2, cw2, rfl, f1, f2, m1, m2⟩ := hr1.form; replace X := (X.call hb1).addDsk f1 f2 (by simp [noSl]); clear hb1 hr1 f1 f2))
          | (go_at_call 6; go_loud ((with_reducible refine (hS.out _ _ (X.dsk m1 m2)).mono ?_); rintro e w2 ⟨v2, rfl, ⟨vt, rfl, of1⟩, hb2⟩; obtain ⟨at1, ct1, rfl⟩ := of1.form; obtain ⟨xs, hxs, hxf, X2⟩ := X.addOTxns hb2 of1; replace X := X2; clear hb2 of1 X2))
          | (go_at_call 12; go_loud ((with_reducible refine (hP1.out _).mono ?_); rintro e w1 ⟨rfl, rfl⟩))
          | (go_at_call 10; go_loud ((with_reducible refine (hRp.out _ _ (by have hq := X.txns hxf (by have := congrArg List.length hxs; simp at this; omega) (fun r hr => List.mem_append_left _ hr); rw [hxs] at hq; exact hq)).mono ?_); rintro e w1 ⟨v1, rfl, ho1, hb1⟩; obtain ⟨a1, c1, rfl⟩ := ho1.form; replace X := X.addOwn hb1 ho1; clear hb1 ho1))
          | (go_at_call 11; go_loud ((with_reducible refine (hCk.out _ _ X.below X.r0).mono ?_); rintro e w1 ⟨v3, rfl, ho1, hb1⟩; obtain ⟨a3, c3, rfl⟩ := ho1.form; replace X := X.addOwn hb1 ho1; clear hb1 ho1)))
        obtain ⟨g7, g3, rfl, rfl⟩ := X.gs2
        have hxl : xs.length ≤ 1099511627744 := by have := congrArg List.length hxs; simp at this; omega
        obtain ⟨RR, hRR⟩ : ∃ RR, (Rd.of stpC (.slice a3 ST.length c3) ST :: Rd.of cpyC (.slice a1 NL.length c1) NL :: (txR (.slice at1 fl.length ct1) xs ++ (Rd.of strC (.slice as2 D.safe.length cs2) D.safe :: Rd.of wrC (.slice aw2 D.writes.length cw2) D.writes :: dskR as_ cs aw cw d))) = RR := ⟨_, rfl⟩
        have mST : Rd.of stpC (.slice a3 ST.length c3) ST ∈ RR := by rw [← hRR]; exact .head _
        have mNL : Rd.of cpyC (.slice a1 NL.length c1) NL ∈ RR := by rw [← hRR]; exact .tail _ (.head _)
        have mDk : ∀ r ∈ dskR as2 cs2 aw2 cw2 D, r ∈ RR := fun r hr => by rw [← hRR]; exact .tail _ (.tail _ (List.mem_append_right _ (mem2 hr)))
        rw [hRR] at X
        clear hRR
        have hc3 : ST.length ≤ c3 := by obtain ⟨_, _, h1, h2, _⟩ := (X.rd _ mST).1; simp only [Rd.of, Value.slice.injEq] at h1 h2; omega
        have hkc : (k : Int) ≤ (c3 : Int) := by omega
        clear hFl hS hL hG hTe hrf hRp hCk hP1
        go_cut [8, 12] (fun s8 s12 wx => ∃ (g12 : Nat) (as4 aw4 : Option Addr) (cs4 cw4 : Nat), s8 = .int .i64 0 ∧ s12 = .pointer (some ⟨g12, 0, none⟩) ∧ XX.safe.length ≤ 8796093022208 ∧ XX.writes.length ≤ 5864062014805 ∧ St [] w0 wx [⟨g12, [.slice as4 XX.safe.length cs4, .slice aw4 XX.writes.length cw4], 25⟩, ⟨g7, [.slice at1 fl.length ct1, .int .i64 zn, .int .i64 za], 31⟩] (dskR as4 cs4 aw4 cw4 XX ++ RR))
        case first =>
          (refine q_tree 2 [] [4, 6, 7, 11, 12] [0] (.fork [0, 1, 2, 3, 5] (.fork [4] (.fork [6] (.fin [7, 8, 9, 10, 11, 12, 13]) (.fin [11, 7, 8, 9, 10, 12, 13])) (.fin [11, 6, 7, 8, 9, 10, 12, 13])) (.fin [11, 4, 6, 7, 8, 9, 10, 12, 13])) X (by kernel_rfl) (by kernel_rfl) (fun _ _ _ _ _ h => h) ?_; intro hQ X2 hL; replace X := X2; clear X2; simp only [List.take_succ_cons, List.take_zero] at hL; simp only [List.take_succ_cons, List.take_zero])
          have hQo := hQ
          refine t_fork (fun hQ => ?_) hQo
          ((first | (refine d_load1 rfl rfl (by first | exact EvR.const _ | exact EvR.tmp rfl rfl) (by repeat (first | exact ReadA.here rfl | apply ReadA.there)) rfl rfl X hL hQ ?_) | (refine d_loadN rfl rfl (by first | exact EvR.const _ | exact EvR.tmp rfl rfl) (by repeat (first | exact ReadB.here (Nat.le_of_ble_eq_true rfl) | apply ReadB.there)) rfl rfl X hL hQ ?_)); (simp only [Act.put, List.setIfInBounds_toArray, List.set_cons_succ, List.set_cons_zero, List.drop_succ_cons, List.drop_zero, List.take_succ_cons, List.take_zero, Nat.reduceAdd]))
          (refine q_move rfl rfl (by first | exact EvR.const _ | exact EvR.tmp rfl rfl) rfl rfl hQ ?_; (simp only [Act.put, List.setIfInBounds_toArray, List.set_cons_succ, List.set_cons_zero, List.drop_succ_cons, List.drop_zero, List.take_succ_cons, List.take_zero, Nat.reduceAdd]))
          (refine q_move rfl rfl (by first | exact EvR.const _ | exact EvR.tmp rfl rfl) rfl rfl hQ ?_; (simp only [Act.put, List.setIfInBounds_toArray, List.set_cons_succ, List.set_cons_zero, List.drop_succ_cons, List.drop_zero, List.take_succ_cons, List.take_zero, Nat.reduceAdd]))
          (apply q_pure rfl rfl rfl hQ; (case hv => (intro w'; (try go_simp); (try exact rfl))); (simp only [Act.put, List.setIfInBounds_toArray, List.set_cons_succ, List.set_cons_zero, List.drop_succ_cons, List.drop_zero, List.take_succ_cons, List.take_zero, Nat.reduceAdd]))
          (refine q_move rfl rfl (by first | exact EvR.const _ | exact EvR.tmp rfl rfl) rfl rfl hQ ?_; (simp only [Act.put, List.setIfInBounds_toArray, List.set_cons_succ, List.set_cons_zero, List.drop_succ_cons, List.drop_zero, List.take_succ_cons, List.take_zero, Nat.reduceAdd]))
          refine t_two ?_ ?_
          · have hQ := hQo
            refine t_fork (fun hQ => ?_) hQo
            (refine q_call 14 _ _ rfl rfl _ rfl ⟨_, _, Tryd.func14, by kernel_rfl, rfl⟩ rfl rfl (hRu.out _ _ _ (X.dskM m1 m2 mDk) (RL.take (X.rd _ mST).1 hk0)) ?_; rintro e w1 ⟨v9, rfl, hr1, hb1⟩; obtain ⟨as5, cs5, aw5, cw5, rfl, f1, f2, q1, q2⟩ := hr1.form; replace X := (X.call hb1).addDskS f1 f2 (by simp [noStr]); clear hb1 hr1 f1 f2; (have hL2 := X.und (by first | exact hL | exact hL.up | exact hL.up3 | exact hL.up.up); replace hL := hL2; clear hL2); refine ⟨_, rfl, fun _ _ => X.keeps hL, ?_⟩; (simp only [Act.put, List.setIfInBounds_toArray, List.set_cons_succ, List.set_cons_zero, List.drop_succ_cons, List.drop_zero, List.take_succ_cons, List.take_zero, Nat.reduceAdd]))
            refine t_two ?_ ?_
            · have hQ := hQo
              refine t_fork (fun hQ => ?_) hQo
              (refine q_call 12 _ _ rfl rfl _ rfl ⟨_, _, Tryd.func12, by kernel_rfl, rfl⟩ rfl rfl (hP2.out _) ?_; rintro e w1 ⟨rfl, rfl⟩; (have hL2 := X.und (by first | exact hL | exact hL.up | exact hL.up3 | exact hL.up.up); replace hL := hL2; clear hL2); refine ⟨_, rfl, fun _ _ => X.keeps hL, ?_⟩; (simp only [Act.put, List.setIfInBounds_toArray, List.set_cons_succ, List.set_cons_zero, List.drop_succ_cons, List.drop_zero, List.take_succ_cons, List.take_zero, Nat.reduceAdd]))
              refine t_two ?_ ?_
              · have hQ := hQo
                refine t_fin ?_
                (refine q_call 13 _ _ rfl rfl _ rfl ⟨_, _, Tryd.func13, by kernel_rfl, rfl⟩ rfl rfl (hCr.out _ _ (X.dsk q1 q2)) ?_; rintro e w1 ⟨v8, rfl, hr1, hb1⟩; obtain ⟨as4, cs4, aw4, cw4, rfl, f1, f2, m3, m4⟩ := hr1.form; replace X := (X.call hb1).addDskS f1 f2 (by simp [noStr]); clear hb1 hr1 f1 f2; (have hL2 := X.und (by first | exact hL | exact hL.up | exact hL.up3 | exact hL.up.up); replace hL := hL2; clear hL2); refine ⟨_, rfl, fun _ _ => X.keeps hL, ?_⟩; (simp only [Act.put, List.setIfInBounds_toArray, List.set_cons_succ, List.set_cons_zero, List.drop_succ_cons, List.drop_zero, List.take_succ_cons, List.take_zero, Nat.reduceAdd]))
                (refine q_move rfl rfl (by first | exact EvR.const _ | exact EvR.tmp rfl rfl) rfl rfl hQ ?_; (simp only [Act.put, List.setIfInBounds_toArray, List.set_cons_succ, List.set_cons_zero, List.drop_succ_cons, List.drop_zero, List.take_succ_cons, List.take_zero, Nat.reduceAdd]))
                (refine q_extract rfl rfl (by first | exact EvR.const _ | exact EvR.tmp rfl rfl) rfl rfl rfl hQ ?_; (simp only [Act.put, List.setIfInBounds_toArray, List.set_cons_succ, List.set_cons_zero, List.drop_succ_cons, List.drop_zero, List.take_succ_cons, List.take_zero, Nat.reduceAdd]))
                (refine q_extract rfl rfl (by first | exact EvR.const _ | exact EvR.tmp rfl rfl) rfl rfl rfl hQ ?_; (simp only [Act.put, List.setIfInBounds_toArray, List.set_cons_succ, List.set_cons_zero, List.drop_succ_cons, List.drop_zero, List.take_succ_cons, List.take_zero, Nat.reduceAdd]))
                (refine q_alloc rfl rfl X hL rfl rfl ?_; intro g w X2 hL2; replace X := X2; replace hL := hL2; clear X2 hL2; (simp only [Act.put, List.setIfInBounds_toArray, List.set_cons_succ, List.set_cons_zero, List.drop_succ_cons, List.drop_zero, List.take_succ_cons, List.take_zero, Nat.reduceAdd]))
                ((first | (refine d_put1 rfl rfl (by first | exact EvR.const _ | exact EvR.tmp rfl rfl) (by first | exact EvR.const _ | exact EvR.tmp rfl rfl) X rfl rfl rfl rfl hL (by repeat (first | exact PutA.here (Nat.le_of_ble_eq_true rfl) | apply PutA.there)) (by repeat (first | exact List.Sublist.slnil | exact List.nil_sublist _ | refine List.Sublist.cons_cons _ ?_ | refine List.Sublist.cons _ ?_)) ?_) | (refine d_putN rfl rfl (by first | exact EvR.const _ | exact EvR.tmp rfl rfl) rfl X rfl rfl rfl rfl hL (by repeat (first | exact PutA.here (Nat.le_of_ble_eq_true rfl) | apply PutA.there)) (by repeat (first | exact List.Sublist.slnil | exact List.nil_sublist _ | refine List.Sublist.cons_cons _ ?_ | refine List.Sublist.cons _ ?_)) ?_)); intro w X2 hL2; (try simp only [upd] at X2); (try simp only [upd] at hL2); replace X := X2; clear X2; replace hL := hL2; clear hL2; (simp only [Act.put, List.setIfInBounds_toArray, List.set_cons_succ, List.set_cons_zero, List.drop_succ_cons, List.drop_zero, List.take_succ_cons, List.take_zero, Nat.reduceAdd]))
                (refine q_assign rfl rfl (by first | exact EvR.const _ | exact EvR.tmp rfl rfl) rfl rfl hQ ?_; (simp only [Act.put, List.setIfInBounds_toArray, List.set_cons_succ, List.set_cons_zero, List.drop_succ_cons, List.drop_zero, List.take_succ_cons, List.take_zero, Nat.reduceAdd]))
                refine q_nil ?_
                go_wp2
                go_meet
                exact ⟨_, _, _, _, _, rfl, rfl, m3, m4, X.less (List.Sublist.cons_cons _ (List.Sublist.cons_cons _ (List.nil_sublist _))) (fun r hr => (List.mem_append.1 hr).elim (fun h => mem2 h) (fun h => .tail _ (.tail _ (.tail _ (.tail _ h)))))⟩
              · have hQ := hQo
                refine t_fin ?_
                (refine q_alloc rfl rfl X hL rfl rfl ?_; intro g w X2 hL2; replace X := X2; replace hL := hL2; clear X2 hL2; (simp only [Act.put, List.setIfInBounds_toArray, List.set_cons_succ, List.set_cons_zero, List.drop_succ_cons, List.drop_zero, List.take_succ_cons, List.take_zero, Nat.reduceAdd]))
                (refine q_call 13 _ _ rfl rfl _ rfl ⟨_, _, Tryd.func13, by kernel_rfl, rfl⟩ rfl rfl (hCr.out _ _ (X.dsk q1 q2)) ?_; rintro e w1 ⟨v8, rfl, hr1, hb1⟩; obtain ⟨as4, cs4, aw4, cw4, rfl, f1, f2, m3, m4⟩ := hr1.form; replace X := (X.call hb1).addDskS f1 f2 (by simp [noStr]); clear hb1 hr1 f1 f2; (have hL2 := X.und (by first | exact hL | exact hL.up | exact hL.up3 | exact hL.up.up); replace hL := hL2; clear hL2); refine ⟨_, rfl, fun _ _ => X.keeps hL, ?_⟩; (simp only [Act.put, List.setIfInBounds_toArray, List.set_cons_succ, List.set_cons_zero, List.drop_succ_cons, List.drop_zero, List.take_succ_cons, List.take_zero, Nat.reduceAdd]))
                (refine q_move rfl rfl (by first | exact EvR.const _ | exact EvR.tmp rfl rfl) rfl rfl hQ ?_; (simp only [Act.put, List.setIfInBounds_toArray, List.set_cons_succ, List.set_cons_zero, List.drop_succ_cons, List.drop_zero, List.take_succ_cons, List.take_zero, Nat.reduceAdd]))
                (refine q_extract rfl rfl (by first | exact EvR.const _ | exact EvR.tmp rfl rfl) rfl rfl rfl hQ ?_; (simp only [Act.put, List.setIfInBounds_toArray, List.set_cons_succ, List.set_cons_zero, List.drop_succ_cons, List.drop_zero, List.take_succ_cons, List.take_zero, Nat.reduceAdd]))
                (refine q_extract rfl rfl (by first | exact EvR.const _ | exact EvR.tmp rfl rfl) rfl rfl rfl hQ ?_; (simp only [Act.put, List.setIfInBounds_toArray, List.set_cons_succ, List.set_cons_zero, List.drop_succ_cons, List.drop_zero, List.take_succ_cons, List.take_zero, Nat.reduceAdd]))
                ((first | (refine d_put1 rfl rfl (by first | exact EvR.const _ | exact EvR.tmp rfl rfl) (by first | exact EvR.const _ | exact EvR.tmp rfl rfl) X rfl rfl rfl rfl hL (by repeat (first | exact PutA.here (Nat.le_of_ble_eq_true rfl) | apply PutA.there)) (by repeat (first | exact List.Sublist.slnil | exact List.nil_sublist _ | refine List.Sublist.cons_cons _ ?_ | refine List.Sublist.cons _ ?_)) ?_) | (refine d_putN rfl rfl (by first | exact EvR.const _ | exact EvR.tmp rfl rfl) rfl X rfl rfl rfl rfl hL (by repeat (first | exact PutA.here (Nat.le_of_ble_eq_true rfl) | apply PutA.there)) (by repeat (first | exact List.Sublist.slnil | exact List.nil_sublist _ | refine List.Sublist.cons_cons _ ?_ | refine List.Sublist.cons _ ?_)) ?_)); intro w X2 hL2; (try simp only [upd] at X2); (try simp only [upd] at hL2); replace X := X2; clear X2; replace hL := hL2; clear hL2; (simp only [Act.put, List.setIfInBounds_toArray, List.set_cons_succ, List.set_cons_zero, List.drop_succ_cons, List.drop_zero, List.take_succ_cons, List.take_zero, Nat.reduceAdd]))
                (refine q_assign rfl rfl (by first | exact EvR.const _ | exact EvR.tmp rfl rfl) rfl rfl hQ ?_; (simp only [Act.put, List.setIfInBounds_toArray, List.set_cons_succ, List.set_cons_zero, List.drop_succ_cons, List.drop_zero, List.take_succ_cons, List.take_zero, Nat.reduceAdd]))
                refine q_nil ?_
                go_wp2
                go_meet
                exact ⟨_, _, _, _, _, rfl, rfl, m3, m4, X.less (List.Sublist.cons_cons _ (List.Sublist.cons_cons _ (List.nil_sublist _))) (fun r hr => (List.mem_append.1 hr).elim (fun h => mem2 h) (fun h => .tail _ (.tail _ (.tail _ (.tail _ h)))))⟩
            · have hQ := hQo
              refine t_fin ?_
              (refine q_alloc rfl rfl X hL rfl rfl ?_; intro g w X2 hL2; replace X := X2; replace hL := hL2; clear X2 hL2; (simp only [Act.put, List.setIfInBounds_toArray, List.set_cons_succ, List.set_cons_zero, List.drop_succ_cons, List.drop_zero, List.take_succ_cons, List.take_zero, Nat.reduceAdd]))
              (refine q_call 12 _ _ rfl rfl _ rfl ⟨_, _, Tryd.func12, by kernel_rfl, rfl⟩ rfl rfl (hP2.out _) ?_; rintro e w1 ⟨rfl, rfl⟩; (have hL2 := X.und (by first | exact hL | exact hL.up | exact hL.up3 | exact hL.up.up); replace hL := hL2; clear hL2); refine ⟨_, rfl, fun _ _ => X.keeps hL, ?_⟩; (simp only [Act.put, List.setIfInBounds_toArray, List.set_cons_succ, List.set_cons_zero, List.drop_succ_cons, List.drop_zero, List.take_succ_cons, List.take_zero, Nat.reduceAdd]))
              (refine q_call 13 _ _ rfl rfl _ rfl ⟨_, _, Tryd.func13, by kernel_rfl, rfl⟩ rfl rfl (hCr.out _ _ (X.dsk q1 q2)) ?_; rintro e w1 ⟨v8, rfl, hr1, hb1⟩; obtain ⟨as4, cs4, aw4, cw4, rfl, f1, f2, m3, m4⟩ := hr1.form; replace X := (X.call hb1).addDskS f1 f2 (by simp [noStr]); clear hb1 hr1 f1 f2; (have hL2 := X.und (by first | exact hL | exact hL.up | exact hL.up3 | exact hL.up.up); replace hL := hL2; clear hL2); refine ⟨_, rfl, fun _ _ => X.keeps hL, ?_⟩; (simp only [Act.put, List.setIfInBounds_toArray, List.set_cons_succ, List.set_cons_zero, List.drop_succ_cons, List.drop_zero, List.take_succ_cons, List.take_zero, Nat.reduceAdd]))
              (refine q_move rfl rfl (by first | exact EvR.const _ | exact EvR.tmp rfl rfl) rfl rfl hQ ?_; (simp only [Act.put, List.setIfInBounds_toArray, List.set_cons_succ, List.set_cons_zero, List.drop_succ_cons, List.drop_zero, List.take_succ_cons, List.take_zero, Nat.reduceAdd]))
              (refine q_extract rfl rfl (by first | exact EvR.const _ | exact EvR.tmp rfl rfl) rfl rfl rfl hQ ?_; (simp only [Act.put, List.setIfInBounds_toArray, List.set_cons_succ, List.set_cons_zero, List.drop_succ_cons, List.drop_zero, List.take_succ_cons, List.take_zero, Nat.reduceAdd]))
              (refine q_extract rfl rfl (by first | exact EvR.const _ | exact EvR.tmp rfl rfl) rfl rfl rfl hQ ?_; (simp only [Act.put, List.setIfInBounds_toArray, List.set_cons_succ, List.set_cons_zero, List.drop_succ_cons, List.drop_zero, List.take_succ_cons, List.take_zero, Nat.reduceAdd]))
              ((first | (refine d_put1 rfl rfl (by first | exact EvR.const _ | exact EvR.tmp rfl rfl) (by first | exact EvR.const _ | exact EvR.tmp rfl rfl) X rfl rfl rfl rfl hL (by repeat (first | exact PutA.here (Nat.le_of_ble_eq_true rfl) | apply PutA.there)) (by repeat (first | exact List.Sublist.slnil | exact List.nil_sublist _ | refine List.Sublist.cons_cons _ ?_ | refine List.Sublist.cons _ ?_)) ?_) | (refine d_putN rfl rfl (by first | exact EvR.const _ | exact EvR.tmp rfl rfl) rfl X rfl rfl rfl rfl hL (by repeat (first | exact PutA.here (Nat.le_of_ble_eq_true rfl) | apply PutA.there)) (by repeat (first | exact List.Sublist.slnil | exact List.nil_sublist _ | refine List.Sublist.cons_cons _ ?_ | refine List.Sublist.cons _ ?_)) ?_)); intro w X2 hL2; (try simp only [upd] at X2); (try simp only [upd] at hL2); replace X := X2; clear X2; replace hL := hL2; clear hL2; (simp only [Act.put, List.setIfInBounds_toArray, List.set_cons_succ, List.set_cons_zero, List.drop_succ_cons, List.drop_zero, List.take_succ_cons, List.take_zero, Nat.reduceAdd]))
              (refine q_assign rfl rfl (by first | exact EvR.const _ | exact EvR.tmp rfl rfl) rfl rfl hQ ?_; (simp only [Act.put, List.setIfInBounds_toArray, List.set_cons_succ, List.set_cons_zero, List.drop_succ_cons, List.drop_zero, List.take_succ_cons, List.take_zero, Nat.reduceAdd]))
              refine q_nil ?_
              go_wp2
              go_meet
              exact ⟨_, _, _, _, _, rfl, rfl, m3, m4, X.less (List.Sublist.cons_cons _ (List.Sublist.cons_cons _ (List.nil_sublist _))) (fun r hr => (List.mem_append.1 hr).elim (fun h => mem2 h) (fun h => .tail _ (.tail _ (.tail _ (.tail _ h)))))⟩
          · have hQ := hQo
            refine t_fin ?_
            (refine q_alloc rfl rfl X hL rfl rfl ?_; intro g w X2 hL2; replace X := X2; replace hL := hL2; clear X2 hL2; (simp only [Act.put, List.setIfInBounds_toArray, List.set_cons_succ, List.set_cons_zero, List.drop_succ_cons, List.drop_zero, List.take_succ_cons, List.take_zero, Nat.reduceAdd]))
            (refine q_call 14 _ _ rfl rfl _ rfl ⟨_, _, Tryd.func14, by kernel_rfl, rfl⟩ rfl rfl (hRu.out _ _ _ (X.dskM m1 m2 mDk) (RL.take (X.rd _ mST).1 hk0)) ?_; rintro e w1 ⟨v9, rfl, hr1, hb1⟩; obtain ⟨as5, cs5, aw5, cw5, rfl, f1, f2, q1, q2⟩ := hr1.form; replace X := (X.call hb1).addDskS f1 f2 (by simp [noStr]); clear hb1 hr1 f1 f2; (have hL2 := X.und (by first | exact hL | exact hL.up | exact hL.up3 | exact hL.up.up); replace hL := hL2; clear hL2); refine ⟨_, rfl, fun _ _ => X.keeps hL, ?_⟩; (simp only [Act.put, List.setIfInBounds_toArray, List.set_cons_succ, List.set_cons_zero, List.drop_succ_cons, List.drop_zero, List.take_succ_cons, List.take_zero, Nat.reduceAdd]))
            (refine q_call 12 _ _ rfl rfl _ rfl ⟨_, _, Tryd.func12, by kernel_rfl, rfl⟩ rfl rfl (hP2.out _) ?_; rintro e w1 ⟨rfl, rfl⟩; (have hL2 := X.und (by first | exact hL | exact hL.up | exact hL.up3 | exact hL.up.up); replace hL := hL2; clear hL2); refine ⟨_, rfl, fun _ _ => X.keeps hL, ?_⟩; (simp only [Act.put, List.setIfInBounds_toArray, List.set_cons_succ, List.set_cons_zero, List.drop_succ_cons, List.drop_zero, List.take_succ_cons, List.take_zero, Nat.reduceAdd]))
            (refine q_call 13 _ _ rfl rfl _ rfl ⟨_, _, Tryd.func13, by kernel_rfl, rfl⟩ rfl rfl (hCr.out _ _ (X.dsk q1 q2)) ?_; rintro e w1 ⟨v8, rfl, hr1, hb1⟩; obtain ⟨as4, cs4, aw4, cw4, rfl, f1, f2, m3, m4⟩ := hr1.form; replace X := (X.call hb1).addDskS f1 f2 (by simp [noStr]); clear hb1 hr1 f1 f2; (have hL2 := X.und (by first | exact hL | exact hL.up | exact hL.up3 | exact hL.up.up); replace hL := hL2; clear hL2); refine ⟨_, rfl, fun _ _ => X.keeps hL, ?_⟩; (simp only [Act.put, List.setIfInBounds_toArray, List.set_cons_succ, List.set_cons_zero, List.drop_succ_cons, List.drop_zero, List.take_succ_cons, List.take_zero, Nat.reduceAdd]))
            (refine q_move rfl rfl (by first | exact EvR.const _ | exact EvR.tmp rfl rfl) rfl rfl hQ ?_; (simp only [Act.put, List.setIfInBounds_toArray, List.set_cons_succ, List.set_cons_zero, List.drop_succ_cons, List.drop_zero, List.take_succ_cons, List.take_zero, Nat.reduceAdd]))
            (refine q_extract rfl rfl (by first | exact EvR.const _ | exact EvR.tmp rfl rfl) rfl rfl rfl hQ ?_; (simp only [Act.put, List.setIfInBounds_toArray, List.set_cons_succ, List.set_cons_zero, List.drop_succ_cons, List.drop_zero, List.take_succ_cons, List.take_zero, Nat.reduceAdd]))
            (refine q_extract rfl rfl (by first | exact EvR.const _ | exact EvR.tmp rfl rfl) rfl rfl rfl hQ ?_; (simp only [Act.put, List.setIfInBounds_toArray, List.set_cons_succ, List.set_cons_zero, List.drop_succ_cons, List.drop_zero, List.take_succ_cons, List.take_zero, Nat.reduceAdd]))
            ((first | (refine d_put1 rfl rfl (by first | exact EvR.const _ | exact EvR.tmp rfl rfl) (by first | exact EvR.const _ | exact EvR.tmp rfl rfl) X rfl rfl rfl rfl hL (by repeat (first | exact PutA.here (Nat.le_of_ble_eq_true rfl) | apply PutA.there)) (by repeat (first | exact List.Sublist.slnil | exact List.nil_sublist _ | refine List.Sublist.cons_cons _ ?_ | refine List.Sublist.cons _ ?_)) ?_) | (refine d_putN rfl rfl (by first | exact EvR.const _ | exact EvR.tmp rfl rfl) rfl X rfl rfl rfl rfl hL (by repeat (first | exact PutA.here (Nat.le_of_ble_eq_true rfl) | apply PutA.there)) (by repeat (first | exact List.Sublist.slnil | exact List.nil_sublist _ | refine List.Sublist.cons_cons _ ?_ | refine List.Sublist.cons _ ?_)) ?_)); intro w X2 hL2; (try simp only [upd] at X2); (try simp only [upd] at hL2); replace X := X2; clear X2; replace hL := hL2; clear hL2; (simp only [Act.put, List.setIfInBounds_toArray, List.set_cons_succ, List.set_cons_zero, List.drop_succ_cons, List.drop_zero, List.take_succ_cons, List.take_zero, Nat.reduceAdd]))
            (refine q_assign rfl rfl (by first | exact EvR.const _ | exact EvR.tmp rfl rfl) rfl rfl hQ ?_; (simp only [Act.put, List.setIfInBounds_toArray, List.set_cons_succ, List.set_cons_zero, List.drop_succ_cons, List.drop_zero, List.take_succ_cons, List.take_zero, Nat.reduceAdd]))
            refine q_nil ?_
            go_wp2
            go_meet
            exact ⟨_, _, _, _, _, rfl, rfl, m3, m4, X.less (List.Sublist.cons_cons _ (List.Sublist.cons_cons _ (List.nil_sublist _))) (fun r hr => (List.mem_append.1 hr).elim (fun h => mem2 h) (fun h => .tail _ (.tail _ (.tail _ (.tail _ h)))))⟩
        clear X
        obtain ⟨g12, as4, aw4, cs4, cw4, rfl, rfl, m3, m4, X⟩ := hcut
        clear hRu hCr hP2
        go_upto_region 14 with (first
          | (refine at_mem rfl ?_; refine at_want2 (by kernel_rfl) ?_; (first | (refine at_load rfl ?_; (first | (refine c_load1 rfl _ _ rfl rfl X (by repeat (first | exact ReadA.here rfl | apply ReadA.there)) ?_) | (refine c_loadN rfl _ _ rfl rfl X (by repeat (first | exact ReadB.here (Nat.le_of_ble_eq_true rfl) | apply ReadB.there)) ?_))) | (refine at_store rfl ?_; (first | (refine c_store1 rfl _ _ _ rfl rfl (by first | exact EvR.const _ | exact EvR.tmp rfl rfl) X rfl rfl (by repeat (first | exact PutA.here (Nat.le_of_ble_eq_true rfl) | apply PutA.there)) ?_; intro w X2; (try simp only [upd] at X2); replace X := X2; clear X2) | (refine c_storeN rfl _ _ _ rfl rfl rfl X rfl rfl (by repeat (first | exact PutA.here (Nat.le_of_ble_eq_true rfl) | apply PutA.there)) ?_; intro w X2; (try simp only [upd] at X2); replace X := X2; clear X2))) | (refine m_alloc rfl _ rfl X ?_; intro g w X2; (replace X := X2; clear X2)) | (refine m_box rfl _ _ rfl (by first | exact EvR.const _ | exact EvR.tmp rfl rfl) rfl X ?_; intro g w X2; (replace X := X2; clear X2))); (simp only [Act.put, List.setIfInBounds_toArray, List.set_cons_succ, List.set_cons_zero, List.drop_succ_cons, List.drop_zero, List.take_succ_cons, List.take_zero, Nat.reduceAdd]))
          | (go_at_call 6; go_loud ((with_reducible refine (hS2.out _ _ (X.dskM m3 m4 (fun r hr => List.mem_append_left _ hr))).mono ?_); rintro e w2 ⟨v2, rfl, ⟨vt, rfl, of1⟩, hb2⟩; obtain ⟨at2, ct2, rfl⟩ := of1.form; obtain ⟨ys, hys, hyf, X2⟩ := X.addOTxns hb2 of1; replace X := X2; clear hb2 of1 X2)))
        have hyl : ys.length ≤ 1099511627744 := by have := congrArg List.length hys; simp at this; omega
        (refine q_start 1 [] [2, 7] [1, 4, 6] [0, 1, 3, 4, 5, 6, 2, 7, 8, 9, 10, 11, 12] X (by kernel_rfl) (by kernel_rfl) (fun _ _ _ _ _ h => h) ?_; intro hQ X2 hL; replace X := X2; clear X2; simp only [List.take_succ_cons, List.take_zero] at hL; simp only [List.take_succ_cons, List.take_zero])
        (refine q_field rfl rfl (by first | exact EvR.const _ | exact EvR.tmp rfl rfl) rfl rfl hQ ?_; (simp only [Act.put, List.setIfInBounds_toArray, List.set_cons_succ, List.set_cons_zero, List.drop_succ_cons, List.drop_zero, List.take_succ_cons, List.take_zero, Nat.reduceAdd]))
        ((first | (refine d_load1 rfl rfl (by first | exact EvR.const _ | exact EvR.tmp rfl rfl) (by repeat (first | exact ReadA.here rfl | apply ReadA.there)) rfl rfl X hL hQ ?_) | (refine d_loadN rfl rfl (by first | exact EvR.const _ | exact EvR.tmp rfl rfl) (by repeat (first | exact ReadB.here (Nat.le_of_ble_eq_true rfl) | apply ReadB.there)) rfl rfl X hL hQ ?_)); (simp only [Act.put, List.setIfInBounds_toArray, List.set_cons_succ, List.set_cons_zero, List.drop_succ_cons, List.drop_zero, List.take_succ_cons, List.take_zero, Nat.reduceAdd]))
        (refine q_field rfl rfl (by first | exact EvR.const _ | exact EvR.tmp rfl rfl) rfl rfl hQ ?_; (simp only [Act.put, List.setIfInBounds_toArray, List.set_cons_succ, List.set_cons_zero, List.drop_succ_cons, List.drop_zero, List.take_succ_cons, List.take_zero, Nat.reduceAdd]))
        ((first | (refine d_load1 rfl rfl (by first | exact EvR.const _ | exact EvR.tmp rfl rfl) (by repeat (first | exact ReadA.here rfl | apply ReadA.there)) rfl rfl X hL hQ ?_) | (refine d_loadN rfl rfl (by first | exact EvR.const _ | exact EvR.tmp rfl rfl) (by repeat (first | exact ReadB.here (Nat.le_of_ble_eq_true rfl) | apply ReadB.there)) rfl rfl X hL hQ ?_)); (simp only [Act.put, List.setIfInBounds_toArray, List.set_cons_succ, List.set_cons_zero, List.drop_succ_cons, List.drop_zero, List.take_succ_cons, List.take_zero, Nat.reduceAdd]))
        (refine q_field rfl rfl (by first | exact EvR.const _ | exact EvR.tmp rfl rfl) rfl rfl hQ ?_; (simp only [Act.put, List.setIfInBounds_toArray, List.set_cons_succ, List.set_cons_zero, List.drop_succ_cons, List.drop_zero, List.take_succ_cons, List.take_zero, Nat.reduceAdd]))
        ((first | (refine d_load1 rfl rfl (by first | exact EvR.const _ | exact EvR.tmp rfl rfl) (by repeat (first | exact ReadA.here rfl | apply ReadA.there)) rfl rfl X hL hQ ?_) | (refine d_loadN rfl rfl (by first | exact EvR.const _ | exact EvR.tmp rfl rfl) (by repeat (first | exact ReadB.here (Nat.le_of_ble_eq_true rfl) | apply ReadB.there)) rfl rfl X hL hQ ?_)); (simp only [Act.put, List.setIfInBounds_toArray, List.set_cons_succ, List.set_cons_zero, List.drop_succ_cons, List.drop_zero, List.take_succ_cons, List.take_zero, Nat.reduceAdd]))
        (refine q_call 10 _ _ rfl rfl _ rfl ⟨_, _, Tryd.func10, by kernel_rfl, rfl⟩ rfl rfl (hRp2.out _ _ (by have hq := X.txns hyf hyl (fun r hr => List.mem_append_left _ hr); rw [hys] at hq; exact hq)) ?_; rintro e w1 ⟨v1, rfl, ho1, hb1⟩; obtain ⟨a5, c5, rfl⟩ := ho1.form; replace X := X.addOwn hb1 ho1; clear hb1 ho1; (have hL2 := X.und (by first | exact hL | exact hL.up | exact hL.up3 | exact hL.up.up); replace hL := hL2; clear hL2); refine ⟨_, rfl, fun _ _ => X.keeps hL, ?_⟩; (simp only [Act.put, List.setIfInBounds_toArray, List.set_cons_succ, List.set_cons_zero, List.drop_succ_cons, List.drop_zero, List.take_succ_cons, List.take_zero, Nat.reduceAdd]))
        (refine q_call 11 _ _ rfl rfl _ rfl ⟨_, _, Tryd.func11, by kernel_rfl, rfl⟩ rfl rfl (hCk2.out _ _ X.below X.r0) ?_; rintro e w1 ⟨v3, rfl, ho1, hb1⟩; obtain ⟨a6, c6, rfl⟩ := ho1.form; replace X := X.addOwn hb1 ho1; clear hb1 ho1; (have hL2 := X.und (by first | exact hL | exact hL.up | exact hL.up3 | exact hL.up.up); replace hL := hL2; clear hL2); refine ⟨_, rfl, fun _ _ => X.keeps hL, ?_⟩; (simp only [Act.put, List.setIfInBounds_toArray, List.set_cons_succ, List.set_cons_zero, List.drop_succ_cons, List.drop_zero, List.take_succ_cons, List.take_zero, Nat.reduceAdd]))
        (refine q_move rfl rfl (by first | exact EvR.const _ | exact EvR.tmp rfl rfl) rfl rfl hQ ?_; (simp only [Act.put, List.setIfInBounds_toArray, List.set_cons_succ, List.set_cons_zero, List.drop_succ_cons, List.drop_zero, List.take_succ_cons, List.take_zero, Nat.reduceAdd]))
        (refine q_extract rfl rfl (by first | exact EvR.const _ | exact EvR.tmp rfl rfl) rfl rfl rfl hQ ?_; (simp only [Act.put, List.setIfInBounds_toArray, List.set_cons_succ, List.set_cons_zero, List.drop_succ_cons, List.drop_zero, List.take_succ_cons, List.take_zero, Nat.reduceAdd]))
        (refine q_extract rfl rfl (by first | exact EvR.const _ | exact EvR.tmp rfl rfl) rfl rfl rfl hQ ?_; (simp only [Act.put, List.setIfInBounds_toArray, List.set_cons_succ, List.set_cons_zero, List.drop_succ_cons, List.drop_zero, List.take_succ_cons, List.take_zero, Nat.reduceAdd]))
        (refine q_assign rfl rfl (by first | exact EvR.const _ | exact EvR.tmp rfl rfl) rfl rfl hQ ?_; (simp only [Act.put, List.setIfInBounds_toArray, List.set_cons_succ, List.set_cons_zero, List.drop_succ_cons, List.drop_zero, List.take_succ_cons, List.take_zero, Nat.reduceAdd]))
        (refine q_assign rfl rfl (by first | exact EvR.const _ | exact EvR.tmp rfl rfl) rfl rfl hQ ?_; (simp only [Act.put, List.setIfInBounds_toArray, List.set_cons_succ, List.set_cons_zero, List.drop_succ_cons, List.drop_zero, List.take_succ_cons, List.take_zero, Nat.reduceAdd]))
        refine q_nil ?_
        go_wp2_with (first
          | (refine at_mem rfl ?_; refine at_want2 (by kernel_rfl) ?_; (first | (refine at_load rfl ?_; (first | (refine c_load1 rfl _ _ rfl rfl X (by repeat (first | exact ReadA.here rfl | apply ReadA.there)) ?_) | (refine c_loadN rfl _ _ rfl rfl X (by repeat (first | exact ReadB.here (Nat.le_of_ble_eq_true rfl) | apply ReadB.there)) ?_))) | (refine at_store rfl ?_; (first | (refine c_store1 rfl _ _ _ rfl rfl (by first | exact EvR.const _ | exact EvR.tmp rfl rfl) X rfl rfl (by repeat (first | exact PutA.here (Nat.le_of_ble_eq_true rfl) | apply PutA.there)) ?_; intro w X2; (try simp only [upd] at X2); replace X := X2; clear X2) | (refine c_storeN rfl _ _ _ rfl rfl rfl X rfl rfl (by repeat (first | exact PutA.here (Nat.le_of_ble_eq_true rfl) | apply PutA.there)) ?_; intro w X2; (try simp only [upd] at X2); replace X := X2; clear X2))) | (refine m_alloc rfl _ rfl X ?_; intro g w X2; (replace X := X2; clear X2)) | (refine m_box rfl _ _ rfl (by first | exact EvR.const _ | exact EvR.tmp rfl rfl) rfl X ?_; intro g w X2; (replace X := X2; clear X2))); (simp only [Act.put, List.setIfInBounds_toArray, List.set_cons_succ, List.set_cons_zero, List.drop_succ_cons, List.drop_zero, List.take_succ_cons, List.take_zero, Nat.reduceAdd]))
          | (go_at_call 14; go_loud ((with_reducible refine (hRu2.out _ _ _ (X.dskM m3 m4 (fun r hr => List.Mem.tail _ (List.Mem.tail _ (List.mem_append_right _ (List.mem_append_left _ hr))))) X.r0).mono ?_); rintro e w1 ⟨v9, rfl, hr1, hb1⟩; obtain ⟨as6, cs6, aw6, cw6, rfl, f1, f2, m5, m6⟩ := hr1.form; replace X := (X.call hb1).addDskS f1 f2 (by simp [noStr]); clear hb1 hr1 f1 f2))
          | (go_at_call 6; go_loud ((with_reducible refine (hS3.out _ _ (X.dsk m5 m6)).mono ?_); rintro e w2 ⟨v2, rfl, ⟨vt, rfl, of1⟩, hb2⟩; obtain ⟨at3, ct3, rfl⟩ := of1.form; replace X := X.call hb2; clear hb2 of1)))
        obtain ⟨g18, g17, g13, g12', g7', rfl, rfl, rfl, rfl, rfl⟩ := X.gs5
        have X2 := X.less (L2 := _ :: _ :: _ :: [_]) (List.Sublist.cons_cons _ (List.Sublist.cons_cons _ (List.Sublist.cons_cons _ (List.Sublist.cons _ (List.Sublist.cons_cons _ (List.nil_sublist _)))))) (R2 := dskR as6 cs6 aw6 cw6 Y ++ [Rd.of cpyC (.slice a1 NL.length c1) NL]) (fun r hr => (List.mem_append.1 hr).elim (fun h => mem2 h) (fun h => by rw [List.mem_singleton.1 h]; exact .tail _ (.tail _ (.tail _ (.tail _ (List.mem_append_right _ (List.mem_append_right _ mNL)))))))
        clear X
        have X := X2
        clear X2 hS2 hRp2 hCk2 hRu2 hS3 mST mDk hyf hys
        go_loopw [130] (fun i wr => ∃ n : Nat, n ≤ NL.length ∧ i = .int .i64 n ∧ St [] w0 wr [⟨g18, [.slice at3 0 ct3, .int .i64 zn, .int .i64 za], 31⟩, ⟨g17, [.slice as6 Y.safe.length cs6, .slice aw6 Y.writes.length cw6], 25⟩, ⟨g13, [.slice at2 gl.length ct2, .int .i64 zn, .int .i64 za], 31⟩, ⟨g7', [.slice at1 fl.length ct1, .int .i64 zn, .int .i64 za], 31⟩] (dskR as6 cs6 aw6 cw6 Y ++ [Rd.of cpyC (.slice a1 NL.length c1) NL])) (fun i _ => NL.length - (intOf i).toNat)
        case atStart => exact ⟨0, Nat.zero_le _, rfl, X⟩
        case round =>
          clear X
          obtain ⟨n, hn, rfl, X⟩ := hrel
          by_cases hlt : n < NL.length
          · obtain ⟨b4, off4, hb4, d0, d1⟩ := RL.at2 (fun x : Cpy => .int .i64 x.block) (fun x => .string x.text) (fun _ => rfl) (X.read (List.mem_append_right _ (.head _))) hlt
            cases hb4
            have hm2 : NL[n] ∈ NL := List.getElem_mem hlt
            have hh := hhome.out _ hm2
            have hb := hcb.out _ hm2
            clear hm2
            obtain ⟨⟨bk, tx⟩, hx⟩ : ∃ x, NL[n] = x := ⟨_, rfl⟩
            rw [hx] at d0 d1 hh hb
            clear hx
            dsimp only at d0 d1 hh hb
            have hRd2 := fun v w h => hRd.out (25 + bk) v w h
            rw [hh] at hRd2
            replace hRd2 := hid hRd2
            clear hh
            have hwb : IntKind.i64.wrap (25 + bk) = 25 + bk := IntWalk.i64_in _ (by omega)
            generalize readE Y (25 + bk) = eb at *
            go_wp2_with (first
              | (refine at_mem rfl ?_; refine at_want2 (by kernel_rfl) ?_; (first | (refine at_load rfl ?_; (first | (refine c_load1 rfl _ _ rfl rfl X (by first | exact ReadA.here rfl | exact ReadA.there (ReadA.here rfl) | exact ReadA.there (ReadA.there (ReadA.here rfl)) | exact ReadA.there (ReadA.there (ReadA.there (ReadA.here rfl))) | exact ReadA.there (ReadA.there (ReadA.there (ReadA.there (ReadA.here rfl)))) | exact ReadA.there (ReadA.there (ReadA.there (ReadA.there (ReadA.there (ReadA.here rfl)))))) ?_) | (refine c_loadN rfl _ _ rfl rfl X (by first | exact ReadB.here (Nat.le_of_ble_eq_true rfl) | exact ReadB.there (ReadB.here (Nat.le_of_ble_eq_true rfl)) | exact ReadB.there (ReadB.there (ReadB.here (Nat.le_of_ble_eq_true rfl))) | exact ReadB.there (ReadB.there (ReadB.there (ReadB.here (Nat.le_of_ble_eq_true rfl)))) | exact ReadB.there (ReadB.there (ReadB.there (ReadB.there (ReadB.here (Nat.le_of_ble_eq_true rfl))))) | exact ReadB.there (ReadB.there (ReadB.there (ReadB.there (ReadB.there (ReadB.here (Nat.le_of_ble_eq_true rfl))))))) ?_))) | (refine at_store rfl ?_; (first | (refine c_store1 rfl _ _ _ rfl rfl (by first | exact EvR.const _ | exact EvR.tmp rfl rfl) X rfl rfl (by first | exact PutA.here (Nat.le_of_ble_eq_true rfl) | exact PutA.there (PutA.here (Nat.le_of_ble_eq_true rfl)) | exact PutA.there (PutA.there (PutA.here (Nat.le_of_ble_eq_true rfl))) | exact PutA.there (PutA.there (PutA.there (PutA.here (Nat.le_of_ble_eq_true rfl)))) | exact PutA.there (PutA.there (PutA.there (PutA.there (PutA.here (Nat.le_of_ble_eq_true rfl))))) | exact PutA.there (PutA.there (PutA.there (PutA.there (PutA.there (PutA.here (Nat.le_of_ble_eq_true rfl))))))) ?_; intro w X2; (try simp only [upd] at X2); replace X := X2; clear X2) | (refine c_storeN rfl _ _ _ rfl rfl rfl X rfl rfl (by first | exact PutA.here (Nat.le_of_ble_eq_true rfl) | exact PutA.there (PutA.here (Nat.le_of_ble_eq_true rfl)) | exact PutA.there (PutA.there (PutA.here (Nat.le_of_ble_eq_true rfl))) | exact PutA.there (PutA.there (PutA.there (PutA.here (Nat.le_of_ble_eq_true rfl)))) | exact PutA.there (PutA.there (PutA.there (PutA.there (PutA.here (Nat.le_of_ble_eq_true rfl))))) | exact PutA.there (PutA.there (PutA.there (PutA.there (PutA.there (PutA.here (Nat.le_of_ble_eq_true rfl))))))) ?_; intro w X2; (try simp only [upd] at X2); replace X := X2; clear X2))) | (refine m_alloc rfl _ rfl X ?_; intro g w X2; (replace X := X2; clear X2))); (simp only [Act.put, List.setIfInBounds_toArray, List.set_cons_succ, List.set_cons_zero, List.drop_succ_cons, List.drop_zero, List.take_succ_cons, List.take_zero, Nat.reduceAdd]))
              | (go_at_call 15; go_loud ((with_reducible refine (hRd2.out _ _ (X.dskM m5 m6 (fun r hr => List.mem_append_left _ hr))).mono ?_); rintro e w1 ⟨rfl, hb1⟩; replace X := X.call hb1; clear hb1)))
            go_roundw
            case rel => exact ⟨n + 1, by omega, by go_num, X.sub (List.sublist_cons_self _ _)⟩
            case measure => simp [intOf]; omega
          · clear hhome hcb hRd
            by_cases hkl : k < ST.length
            · clear hdone
              go_wp2_with (first
                | (refine at_mem rfl ?_; refine at_want2 (by kernel_rfl) ?_; (first | (refine at_load rfl ?_; (first | (refine c_load1 rfl _ _ rfl rfl X (by first | exact ReadA.here rfl | exact ReadA.there (ReadA.here rfl) | exact ReadA.there (ReadA.there (ReadA.here rfl)) | exact ReadA.there (ReadA.there (ReadA.there (ReadA.here rfl))) | exact ReadA.there (ReadA.there (ReadA.there (ReadA.there (ReadA.here rfl)))) | exact ReadA.there (ReadA.there (ReadA.there (ReadA.there (ReadA.there (ReadA.here rfl)))))) ?_) | (refine c_loadN rfl _ _ rfl rfl X (by first | exact ReadB.here (Nat.le_of_ble_eq_true rfl) | exact ReadB.there (ReadB.here (Nat.le_of_ble_eq_true rfl)) | exact ReadB.there (ReadB.there (ReadB.here (Nat.le_of_ble_eq_true rfl))) | exact ReadB.there (ReadB.there (ReadB.there (ReadB.here (Nat.le_of_ble_eq_true rfl)))) | exact ReadB.there (ReadB.there (ReadB.there (ReadB.there (ReadB.here (Nat.le_of_ble_eq_true rfl))))) | exact ReadB.there (ReadB.there (ReadB.there (ReadB.there (ReadB.there (ReadB.here (Nat.le_of_ble_eq_true rfl))))))) ?_))) | (refine at_store rfl ?_; (first | (refine c_store1 rfl _ _ _ rfl rfl (by first | exact EvR.const _ | exact EvR.tmp rfl rfl) X rfl rfl (by first | exact PutA.here (Nat.le_of_ble_eq_true rfl) | exact PutA.there (PutA.here (Nat.le_of_ble_eq_true rfl)) | exact PutA.there (PutA.there (PutA.here (Nat.le_of_ble_eq_true rfl))) | exact PutA.there (PutA.there (PutA.there (PutA.here (Nat.le_of_ble_eq_true rfl)))) | exact PutA.there (PutA.there (PutA.there (PutA.there (PutA.here (Nat.le_of_ble_eq_true rfl))))) | exact PutA.there (PutA.there (PutA.there (PutA.there (PutA.there (PutA.here (Nat.le_of_ble_eq_true rfl))))))) ?_; intro w X2; (try simp only [upd] at X2); replace X := X2; clear X2) | (refine c_storeN rfl _ _ _ rfl rfl rfl X rfl rfl (by first | exact PutA.here (Nat.le_of_ble_eq_true rfl) | exact PutA.there (PutA.here (Nat.le_of_ble_eq_true rfl)) | exact PutA.there (PutA.there (PutA.here (Nat.le_of_ble_eq_true rfl))) | exact PutA.there (PutA.there (PutA.there (PutA.here (Nat.le_of_ble_eq_true rfl)))) | exact PutA.there (PutA.there (PutA.there (PutA.there (PutA.here (Nat.le_of_ble_eq_true rfl))))) | exact PutA.there (PutA.there (PutA.there (PutA.there (PutA.there (PutA.here (Nat.le_of_ble_eq_true rfl))))))) ?_; intro w X2; (try simp only [upd] at X2); replace X := X2; clear X2))) | (refine m_alloc rfl _ rfl X ?_; intro g w X2; (replace X := X2; clear X2))); (simp only [Act.put, List.setIfInBounds_toArray, List.set_cons_succ, List.set_cons_zero, List.drop_succ_cons, List.drop_zero, List.take_succ_cons, List.take_zero, Nat.reduceAdd])))
              go_ret
              exact ⟨rfl, X.below⟩
            · have hg0 := hdone.out (by omega)
              subst hg0
              have hkl2 : ¬ ((k : Int) < (ST.length : Int)) := by omega
              go_wp2_with (first
                | (refine at_mem rfl ?_; refine at_want2 (by kernel_rfl) ?_; (first | (refine at_load rfl ?_; (first | (refine c_load1 rfl _ _ rfl rfl X (by first | exact ReadA.here rfl | exact ReadA.there (ReadA.here rfl) | exact ReadA.there (ReadA.there (ReadA.here rfl)) | exact ReadA.there (ReadA.there (ReadA.there (ReadA.here rfl))) | exact ReadA.there (ReadA.there (ReadA.there (ReadA.there (ReadA.here rfl)))) | exact ReadA.there (ReadA.there (ReadA.there (ReadA.there (ReadA.there (ReadA.here rfl)))))) ?_) | (refine c_loadN rfl _ _ rfl rfl X (by first | exact ReadB.here (Nat.le_of_ble_eq_true rfl) | exact ReadB.there (ReadB.here (Nat.le_of_ble_eq_true rfl)) | exact ReadB.there (ReadB.there (ReadB.here (Nat.le_of_ble_eq_true rfl))) | exact ReadB.there (ReadB.there (ReadB.there (ReadB.here (Nat.le_of_ble_eq_true rfl)))) | exact ReadB.there (ReadB.there (ReadB.there (ReadB.there (ReadB.here (Nat.le_of_ble_eq_true rfl))))) | exact ReadB.there (ReadB.there (ReadB.there (ReadB.there (ReadB.there (ReadB.here (Nat.le_of_ble_eq_true rfl))))))) ?_))) | (refine at_store rfl ?_; (first | (refine c_store1 rfl _ _ _ rfl rfl (by first | exact EvR.const _ | exact EvR.tmp rfl rfl) X rfl rfl (by first | exact PutA.here (Nat.le_of_ble_eq_true rfl) | exact PutA.there (PutA.here (Nat.le_of_ble_eq_true rfl)) | exact PutA.there (PutA.there (PutA.here (Nat.le_of_ble_eq_true rfl))) | exact PutA.there (PutA.there (PutA.there (PutA.here (Nat.le_of_ble_eq_true rfl)))) | exact PutA.there (PutA.there (PutA.there (PutA.there (PutA.here (Nat.le_of_ble_eq_true rfl))))) | exact PutA.there (PutA.there (PutA.there (PutA.there (PutA.there (PutA.here (Nat.le_of_ble_eq_true rfl))))))) ?_; intro w X2; (try simp only [upd] at X2); replace X := X2; clear X2) | (refine c_storeN rfl _ _ _ rfl rfl rfl X rfl rfl (by first | exact PutA.here (Nat.le_of_ble_eq_true rfl) | exact PutA.there (PutA.here (Nat.le_of_ble_eq_true rfl)) | exact PutA.there (PutA.there (PutA.here (Nat.le_of_ble_eq_true rfl))) | exact PutA.there (PutA.there (PutA.there (PutA.here (Nat.le_of_ble_eq_true rfl)))) | exact PutA.there (PutA.there (PutA.there (PutA.there (PutA.here (Nat.le_of_ble_eq_true rfl))))) | exact PutA.there (PutA.there (PutA.there (PutA.there (PutA.there (PutA.here (Nat.le_of_ble_eq_true rfl))))))) ?_; intro w X2; (try simp only [upd] at X2); replace X := X2; clear X2))) | (refine m_alloc rfl _ rfl X ?_; intro g w X2; (replace X := X2; clear X2))); (simp only [Act.put, List.setIfInBounds_toArray, List.set_cons_succ, List.set_cons_zero, List.drop_succ_cons, List.drop_zero, List.take_succ_cons, List.take_zero, Nat.reduceAdd])))
              go_ret
              exact ⟨rfl, X.below⟩
  · have he2 : (scanE D != 0) = true := by simpa using he
    clear he hcl
    generalize scanE D = sE at *
    generalize laterB D (scanF D).next = lB at *
    generalize (scanF D).txns.all goodT = gB at *
    generalize scanF D = F at *
    obtain ⟨fl, fn, fa⟩ := F
    dsimp only at *
    replace hFl := hid hFl; replace hS := hid hS; replace hL := hid hL; replace hG := hid hG; replace hTe := hid hTe; replace hrf := hid hrf
    go_enter Tryd.func3, Tryd.ntmps3
    go_wp2_with (first
      | (refine at_mem rfl ?_; refine at_want2 (by kernel_rfl) ?_; (first | (refine at_load rfl ?_; (first | (refine c_load1 rfl _ _ rfl rfl X (by repeat (first | exact ReadA.here rfl | apply ReadA.there)) ?_) | (refine c_loadN rfl _ _ rfl rfl X (by repeat (first | exact ReadB.here (Nat.le_of_ble_eq_true rfl) | apply ReadB.there)) ?_))) | (refine at_store rfl ?_; (first | (refine c_store1 rfl _ _ _ rfl rfl (by first | exact EvR.const _ | exact EvR.tmp rfl rfl) X rfl rfl (by repeat (first | exact PutA.here (Nat.le_of_ble_eq_true rfl) | apply PutA.there)) ?_; intro w X2; (try simp only [upd] at X2); replace X := X2; clear X2) | (refine c_storeN rfl _ _ _ rfl rfl rfl X rfl rfl (by repeat (first | exact PutA.here (Nat.le_of_ble_eq_true rfl) | apply PutA.there)) ?_; intro w X2; (try simp only [upd] at X2); replace X := X2; clear X2))) | (refine m_alloc rfl _ rfl X ?_; intro g w X2; (replace X := X2; clear X2)) | (refine m_box rfl _ _ rfl (by first | exact EvR.const _ | exact EvR.tmp rfl rfl) rfl X ?_; intro g w X2; (replace X := X2; clear X2))); (simp only [Act.put, List.setIfInBounds_toArray, List.set_cons_succ, List.set_cons_zero, List.drop_succ_cons, List.drop_zero, List.take_succ_cons, List.take_zero, Nat.reduceAdd]))
      | (go_at_call 7; go_loud ((with_reducible refine (hTe.out _).mono ?_); rintro e w1 ⟨rfl, hb1⟩; replace X := X.call hb1; clear hb1))
      | (go_at_call 5; go_loud ((with_reducible refine (hFl.out _ _ (X.dsk n1 n2)).mono ?_); rintro e w1 ⟨v1, rfl, hr1, hb1⟩; obtain ⟨as2, cs2, aw2, cw2, rfl, f1, f2, m1, m2⟩ := hr1.form; replace X := (X.call hb1).addDsk f1 f2 (by simp [noSl]); clear hb1 hr1 f1 f2))
      | (go_at_call 6; go_loud ((with_reducible refine (hS.out _ _ (X.dsk m1 m2)).mono ?_); rintro e w2 ⟨v2, rfl, ⟨vt, rfl, of1⟩, hb2⟩; obtain ⟨at1, ct1, rfl⟩ := of1.form; replace X := X.call hb2; clear hb2 of1)))
    go_ret
    exact ⟨rfl, X.below⟩
end Go.Proofs.YtjhmfljlclajnacDoor

namespace Go.Proofs.YtjhmfljlclajnacDoor
open Go.ChangeShapes Go.WideShapes Go.ChangeAt Go.RowKit Wb
noncomputable def laidWorld (os : Os) : World :=
  { World.holding Tryd.prog os ⟨#[], #[], []⟩ with heap := (World.holding Tryd.prog os ⟨#[], #[], []⟩).heap.modify 0 fun
      | .cells _ t frozen => .cells #[.int .i64 2, .int .i64 0, .string ⟨#[]⟩] t frozen
      | o => o }
end Go.Proofs.YtjhmfljlclajnacDoor

namespace Go.Proofs.YtjhmfljlclajnacDoor
open Go.ChangeShapes Go.WideShapes Go.ChangeAt Go.RowKit Wb
set_option maxRecDepth 100000
theorem flush_laid {W : World} (hL : laidMetH Tryd.prog [("wastebook/seal.flush", .agg [.lit (.int .i64 2), .lit (.int .i64 0), .lit (.string [])])] W) :
    Sl W (flR 0).v 1 (flR 0).cs := by
  have h : laidMet Tryd.prog [("wastebook/seal.flush", .agg [.lit (.int .i64 2), .lit (.int .i64 0), .lit (.string [])])] W := hL
  obtain ⟨ps, ⟨g', t', cs, fuel, p, q, hg', ht', hvar, hd, _, _⟩, _⟩ := h
  have hg : Tryd.prog.globalNamed "wastebook/seal.flush" = some 0 := by kernel_rfl
  have hty : (Tryd.prog.globals[0]?).map (·.type) = some 84 := by kernel_rfl
  obtain rfl := Option.some.inj (hg.symm.trans hg')
  obtain rfl := Option.some.inj (hty.symm.trans ht')
  have hcs : cs.toList = [.int .i64 2, .int .i64 0, .string ⟨#[]⟩] := by
    obtain ⟨xs, m, _, hx, hl, hln, hg⟩ := DataW.trod_struct Tryd.underlying84 hd
    have hl3 : cs.toList.length = 3 := hl.trans (by kernel_rfl)
    generalize cs.toList = ls at *
    match ls, hl3, xs, hln with
    | [u0, u1, u2], _, [y0, y1, y2], _ =>
      have h0 : DataW.trod (fun _ => ()) Tryd.prog W 0 (fun _ => true) false m 3 [u0] = some y0 := hg 0 _ rfl
      have h1 : DataW.trod (fun _ => ()) Tryd.prog W 0 (fun _ => true) false m 3 [u1] = some y1 := hg 1 _ rfl
      have h2 : DataW.trod (fun _ => ()) Tryd.prog W 0 (fun _ => true) false m 9 [u2] = some y2 := hg 2 _ rfl
      obtain ⟨a0, e0, rfl, _⟩ := DataW.trod_int Tryd.underlying3 h0
      obtain ⟨a1, e1, rfl, _⟩ := DataW.trod_int Tryd.underlying3 h1
      obtain ⟨a2, e2, rfl, _⟩ := DataW.trod_string Tryd.underlying9 h2
      simp at e0 e1 e2 hx
      subst e0 e1 e2
      obtain ⟨⟨rfl, rfl, h3⟩, _⟩ := hx
      have : a2 = ⟨#[]⟩ := by
        obtain ⟨⟨l⟩⟩ := a2
        simp at h3
        subst h3
        rfl
      rw [this]
  refine ⟨some ⟨0, 0, none⟩, 1, rfl, Nat.le_refl _, by decide, .inr ⟨0, 0, rfl, fun j u hj => ?_⟩⟩
  have := World.var?_cell hg hvar j
  rw [Nat.zero_add, this]
  have e : cs[j]? = cs.toList[j]? := by simp
  rw [e, hcs]
  exact hj
end Go.Proofs.YtjhmfljlclajnacDoor

namespace Go.Proofs.YtjhmfljlclajnacDoor
open Go.RowKit Wb
set_option linter.unusedVariables false
set_option linter.unusedSimpArgs false
set_option maxRecDepth 100000
set_option maxHeartbeats 4000000

theorem pre_isEsc (s : ByteArray) : Lib.hasPrefix s.data.toList [87, 66, 75, 49] = isEsc s := by
  rw [← Lib.hasPrefix_of_take, Bool.eq_iff_iff, Bool.and_eq_true, decide_eq_true_iff, beq_iff_eq]
  constructor
  · intro hh
    exact decide_eq_true hh.2
  · intro hh
    exact ⟨by rw [ba_len]; exact isEsc_len hh, of_decide_eq_true hh⟩
theorem take_isEsc (s : ByteArray) : ((s.extract 0 4).toList == [87, 66, 75, 49]) = isEsc s := by
  rw [Lib.toList_data, Lib.extract_data, List.drop_zero]
  unfold isEsc
  rw [Bool.eq_iff_iff, decide_eq_true_iff, beq_iff_eq]
  rfl
theorem drop_str (p : List UInt8) (s : ByteArray) (h : 4 ≤ s.size) : str p ++ s.extract 4 s.size = str (p ++ s.data.toList.drop 4) := by
  apply ba_ext
  rw [ByteArray.data_append, Array.toList_append, Lib.extract_data, List.take_of_length_le (by rw [List.length_drop, ba_len]; omega)]
  simp [str]

theorem stamp_Escape (s : ByteArray) (w : World) (hs : s.size ≤ 9223372036854775807) :
    Calls Tryd.prog 38 #[.string s] w fun e w' => e = .returned (.tuple #[.string (escS s), .bool (isEsc s)]) ∧ Below w.heap.size w w' := by
  have hP := fun w => Tryd.strings_HasPrefix s ⟨#[87, 66, 75, 49]⟩ w
  have hb := pre_isEsc s
  dsimp only at hP
  rw [hb] at hP
  clear hb
  cases hc : isEsc s
  · rw [hc] at hP
    have hv : escS s = s := by unfold escS; rw [hc]; rfl
    rw [hv]
    replace hP := hid hP
    go_enter Tryd.func38, Tryd.ntmps38
    go_wp2_with (go_at_call 56; refine (hP.out _).mono ?_; rintro e w1 ⟨rfl, rfl⟩)
    go_ret2
    exact ⟨rfl, by repeat (first | exact Below.refl _ _ | with_reducible assumption | (refine allocB ?_ (by first | omega | (simp; done) | (simp; omega)) _) | (refine Below.setCell ?_ (by first | omega | (simp; done) | (simp; omega)) _) | refine Below.drew ?_ | (refine Below.trans ?_ (Below.mono (by with_reducible assumption) (by first | omega | (simp; done) | (simp; omega)))))⟩
  · rw [hc] at hP
    have h4 := isEsc_len hc
    have hv : (⟨#[0, 0, 0, 0]⟩ : ByteArray) ++ s.extract 4 s.size = escS s := by unfold escS; rw [hc]; exact drop_str [0, 0, 0, 0] s h4
    have hx : (s.extract 4 s.size).size = s.size - 4 := by simp
    replace hP := hid hP
    go_enter Tryd.func38, Tryd.ntmps38
    go_wp2_with (go_at_call 56; refine (hP.out _).mono ?_; rintro e w1 ⟨rfl, rfl⟩)
    go_ret2
    exact ⟨rfl, by repeat (first | exact Below.refl _ _ | with_reducible assumption | (refine allocB ?_ (by first | omega | (simp; done) | (simp; omega)) _) | (refine Below.setCell ?_ (by first | omega | (simp; done) | (simp; omega)) _) | refine Below.drew ?_ | (refine Below.trans ?_ (Below.mono (by with_reducible assumption) (by first | omega | (simp; done) | (simp; omega)))))⟩

theorem stamp_Unescape (s : ByteArray) (e : Bool) (w : World) (hs : s.size ≤ 9223372036854775807) :
    Calls Tryd.prog 43 #[.string s, .bool e] w fun r w' => r = .returned (.string (unescS s e)) ∧ Below w.heap.size w w' := by
  by_cases h4 : 4 ≤ s.size
  · have hx : (s.extract 4 s.size).size = s.size - 4 := by simp
    have hv1 : (⟨#[87, 66, 75, 49]⟩ : ByteArray) ++ s.extract 4 s.size = unescS s true := by unfold unescS; rw [if_pos ⟨rfl, h4⟩]; exact drop_str magic s h4
    have hv0 : unescS s false = s := by unfold unescS; simp
    cases e
    · rw [hv0]
      clear hv1
      go_enter Tryd.func43, Tryd.ntmps43
      go_wp2
      go_ret
      exact ⟨rfl, by repeat (first | exact Below.refl _ _ | with_reducible assumption | (refine allocB ?_ (by first | omega | (simp; done) | (simp; omega)) _) | (refine Below.setCell ?_ (by first | omega | (simp; done) | (simp; omega)) _) | refine Below.drew ?_ | (refine Below.trans ?_ (Below.mono (by with_reducible assumption) (by first | omega | (simp; done) | (simp; omega)))))⟩
    · go_enter Tryd.func43, Tryd.ntmps43
      go_wp2
      go_ret
      exact ⟨rfl, by repeat (first | exact Below.refl _ _ | with_reducible assumption | (refine allocB ?_ (by first | omega | (simp; done) | (simp; omega)) _) | (refine Below.setCell ?_ (by first | omega | (simp; done) | (simp; omega)) _) | refine Below.drew ?_ | (refine Below.trans ?_ (Below.mono (by with_reducible assumption) (by first | omega | (simp; done) | (simp; omega)))))⟩
  · have hv : unescS s e = s := by unfold unescS; rw [if_neg (fun hh => h4 hh.2)]
    rw [hv]
    cases e
    all_goals
      go_enter Tryd.func43, Tryd.ntmps43
      go_wp2
      go_ret
      exact ⟨rfl, by repeat (first | exact Below.refl _ _ | with_reducible assumption | (refine allocB ?_ (by first | omega | (simp; done) | (simp; omega)) _) | (refine Below.setCell ?_ (by first | omega | (simp; done) | (simp; omega)) _) | refine Below.drew ?_ | (refine Below.trans ?_ (Below.mono (by with_reducible assumption) (by first | omega | (simp; done) | (simp; omega)))))⟩

end Go.Proofs.YtjhmfljlclajnacDoor

namespace Go.Proofs.YtjhmfljlclajnacDoor
open Go.RowKit Wb
set_option linter.unusedVariables false
set_option linter.unusedSimpArgs false
set_option maxRecDepth 100000
set_option maxHeartbeats 1000000
theorem zero_reads (w : World) : RMark w (.agg #[.int .i64 0, .int .i64 0, .int .i64 0, .slice none 0 0, .slice none 0 0]) zeroM := ⟨_, _, rfl, RL.nil _ _, RL.nil _ _, Nat.zero_le _, Nat.zero_le _⟩

theorem stamp_Decode_no (s : ByteArray) (w : World) (hs : ¬ okS s) (hz : s.size ≤ 9223372036854775807) :
    Calls Tryd.prog 22 #[.string s] w fun e w' => ∃ v, e = .returned (.tuple #[v, .int .i64 (decE s)]) ∧ OMark w.heap.size w' v (decM s) ∧ Below w.heap.size w w' := by
  have hd : ¬ decOk s := fun h => hs h.1
  obtain ⟨dM, dE⟩ := dec_no hd
  rw [dM, dE]
  have hP := hid (fun w' => OMark.plain w.heap.size w' 0 0 0)
  by_cases h1 : s.size = 32
  · have e1 : ((s.size : Int) != 32) = false := by rw [h1]; rfl
    have h2 : isEsc s = false := decide_eq_false fun hh => hs ⟨h1, hh⟩
    have e2 := take_isEsc s
    rw [h2] at e2
    have h4 : 4 ≤ s.size := by omega
    clear hs hd dM dE h2 h1
    go_enter Tryd.func22, Tryd.ntmps22
    go_wp2
    refine bodyPost_ret (v := .tuple #[.agg #[.int .i64 0, .int .i64 0, .int .i64 0, .slice none 0 0, .slice none 0 0], .int .i64 1]) (by simp [results, Tryd.results22, go_sem]) rfl ⟨_, rfl, hP.out _, ?_⟩
    exact bal (b0 w) _
  · have e1 : ((s.size : Int) != 32) = true := bne_iff_ne.2 (by omega)
    clear hs hd dM dE h1
    go_enter Tryd.func22, Tryd.ntmps22
    go_wp2
    refine bodyPost_ret (v := .tuple #[.agg #[.int .i64 0, .int .i64 0, .int .i64 0, .slice none 0 0, .slice none 0 0], .int .i64 1]) (by simp [results, Tryd.results22, go_sem]) rfl ⟨_, rfl, hP.out _, ?_⟩
    exact bal (b0 w) _
end Go.Proofs.YtjhmfljlclajnacDoor

namespace Go.Proofs.YtjhmfljlclajnacDoor
open Go.RowKit Wb
theorem stamp_DecodeO (s : ByteArray) (w : World) (hz : s.size ≤ 9223372036854775807) :
    Calls Tryd.prog 22 #[.string s] w fun e w' => ∃ v, e = .returned (.tuple #[v, .int .i64 (decE s)]) ∧ OMark w.heap.size w' v (decM s) ∧ Below w.heap.size w w' := by
  by_cases h : okS s
  · exact stamp_Decode_ok s w h
  · exact stamp_Decode_no s w h hz
end Go.Proofs.YtjhmfljlclajnacDoor

namespace Wb
open Go Go.RowKit
def tellM : Mrk := ⟨1, 7, 2, [], []⟩
def tellD : Dsk := ⟨(List.replicate 37 (fit ⟨#[]⟩)).set 0 (markS tellM), []⟩
theorem tellM_ok : markE tellM = 0 := by decide
theorem markS_size {m : Mrk} (h : markE m = 0) : (markS m).size = 32 := by
  unfold markS
  rw [if_pos h]
  exact (raw_enc h).1.1
theorem zero_no : decE (fit ⟨#[]⟩) = 1 := by
  refine (dec_no fun h => ?_).2
  have := h.1.2
  revert this
  decide
theorem tellD_good : goodD tellD = true := by
  refine (goodD_iff _).2 ⟨by simp [tellD], by simp [tellD], ?_, by simp [tellD]⟩
  rw [List.all_eq_true]
  intro x hx
  unfold tellD at hx
  rcases List.mem_or_eq_of_mem_set hx with hx | rfl
  · rw [List.eq_of_mem_replicate hx]
    exact decide_eq_true (fit_size _)
  · exact decide_eq_true (markS_size tellM_ok)
theorem tell_0 : readD tellD 0 = markS tellM := by
  unfold readD
  rw [if_pos ⟨tellD_good, by decide⟩]
  rfl
theorem tell_e : readE tellD 0 = 0 := by
  unfold readE
  rw [if_pos ⟨tellD_good, by decide⟩]
theorem tell_log (k : Nat) (hk : k < 24) : readD tellD (1 + (k : Int)) = fit ⟨#[]⟩ := by
  unfold readD
  rw [if_pos ⟨tellD_good, decide_eq_true (by omega)⟩]
  show lastT _ _ [] = _
  rw [lastT_nil]
  unfold safeAt tellD
  have e : (1 + (k : Int)).toNat = k + 1 := by omega
  rw [e, List.getD_eq_getElem?_getD, List.getElem?_set_ne (by omega), List.getElem?_replicate, if_pos (by omega)]
  rfl
theorem tell_logL : ∃ r, logL tellD 2 = fit ⟨#[]⟩ :: r := by
  refine ⟨(logL tellD 2).tail, ?_⟩
  have h : (logL tellD 2).head? = some (fit ⟨#[]⟩) := by
    have e : (logL tellD 2).head? = some (readD tellD (1 + (2 + ((0 : Nat) : Int)) % 24)) := rfl
    rw [e]
    exact congrArg some (tell_log 2 (by decide))
  cases hl : logL tellD 2 with
  | nil => rw [hl] at h; cases h
  | cons s r =>
    rw [hl] at h
    simp only [List.head?_cons, Option.some.injEq] at h
    rw [h]; rfl
theorem tell_dec : decE (markS tellM) = 0 ∧ decM (markS tellM) = tellM := by
  have := dec_enc tellM_ok
  unfold markS
  rw [if_pos tellM_ok]
  exact ⟨this.2.2, this.2.1⟩
theorem tell_E : scanE tellD = 0 := by
  unfold scanE
  rw [if_pos tell_e, tell_0, if_pos ⟨tell_dec.1, by rw [tell_dec.2]; rfl⟩]
theorem tell_F : scanF tellD = ⟨[], 7, 2⟩ := by
  unfold scanF
  rw [if_pos tell_E, tell_0, tell_dec.2]
  have hg : scanGo 25 (logL tellD tellM.at_) tellM.seq = ([], 7, logL tellD 2) := by
    have hl : 25 = (logL tellD 2).length + 1 := by rw [logL_len]
    show scanGo 25 (logL tellD 2) 7 = _
    rw [hl]
    refine scanGo_stop ?_
    obtain ⟨r, hr⟩ := tell_logL
    rw [hr]
    exact parse_bad (fun h => by rw [zero_no] at h; exact absurd h.1 (by decide))
  rw [hg]
  show (⟨[], 7, (2 + (24 - ((logL tellD 2).length : Int))) % 24⟩ : Fnd) = _
  rw [logL_len]
  rfl
end Wb

namespace Go.Proofs.YtjhmfljlclajnacDoor
open Go.RowKit Wb
set_option linter.unusedVariables false
set_option linter.unusedSimpArgs false
set_option maxRecDepth 100000
set_option maxHeartbeats 1000000

theorem after_end (s : ByteArray) (n : Int) (ws : List Wr) : ∃ q, (afterL s n ws).length = q + 1 ∧ (afterL s n ws)[q]? = some (lastT s n ws) := by
  have h := after_last s n ws
  rw [List.getLast?_eq_getElem?] at h
  have hl := (List.getElem?_eq_some_iff.1 h).1
  exact ⟨(afterL s n ws).length - 1, by omega, h⟩

end Go.Proofs.YtjhmfljlclajnacDoor

namespace Go.Proofs.YtjhmfljlclajnacDoor
open Go.RowKit Wb
set_option linter.unusedVariables false
set_option linter.unusedSimpArgs false
set_option maxRecDepth 100000
set_option maxHeartbeats 1000000

theorem disk_New (w : World) :
    Calls Tryd.prog 25 #[] w fun e w' => ∃ vs, e = .returned (.agg #[vs, .slice none 0 0]) ∧ Wb.Own strC (w.heap.size + 2) 9 1 w' vs (List.replicate 37 (fit ⟨#[]⟩)) ∧ Below w.heap.size w w' := by
  have hFit := fun w => disk_Fit ⟨#[]⟩ w (by decide)
  have hrep := fun k => (List.replicate_succ' (n := k) (a := fit ⟨#[]⟩))
  generalize fit ⟨#[]⟩ = z at *
  replace hFit := hid hFit
  replace hrep := hid hrep
  go_enter Tryd.func25, Tryd.ntmps25
  go_wp2
  go_loopw [2] (fun i wr => ∃ k : Nat, k ≤ 37 ∧ i = .int .i64 k ∧ ∃ vo, Wb.Own strC (w.heap.size + 2) 9 1 wr vo (List.replicate k z) ∧ Blk wr w.heap.size #[.slice none 0 0, .slice none 0 0] 25 ∧ Blk wr (w.heap.size + 1) #[vo, .slice none 0 0] 25 ∧ Below w.heap.size w wr) (fun i _ => 37 - (intOf i).toNat)
  case atStart => exact ⟨0, by decide, rfl, _, Own.nil _ _ _ _ _, (Blk.new w _ _).alloc _, Blk.newAt (by simp), by repeat (first | exact Below.refl _ _ | with_reducible assumption | (refine allocB ?_ (by first | omega | (simp; done) | (simp; omega)) _) | (refine Below.setCell ?_ (by first | omega | (simp; done) | (simp; omega)) _) | refine Below.drew ?_ | (refine Below.trans ?_ (Below.mono (by with_reducible assumption) (by first | omega | (simp; done) | (simp; omega)))))⟩
  case round =>
    obtain ⟨k, hk, rfl, vo, hown, k0, k1, hnx⟩ := hrel
    obtain ⟨ao, capo, rfl⟩ := hown.form
    have lt0 := k0.lt
    have lt1 := k1.lt
    have c0 := k0.cell 0
    have c1 := k0.cell 1
    have c2 := k1.cell 0
    have c3 := k1.cell 1
    simp only [List.getElem?_toArray, List.getElem?_cons_zero, List.getElem?_cons_succ] at c0 c1 c2 c3
    have hkl : (List.replicate k z).length = k := List.length_replicate
    rw [hkl] at hown k1 c2
    clear hkl
    by_cases hlt : k < 37
    · have hr := hid (hrep.out k)
      have hlen : (List.replicate k z).length = k := List.length_replicate
      generalize List.replicate k z = Mk at *
      go_wp2
      go_region_law (first
        | (refine step_call 45 _ _ (by rfl) (by rfl) #[.string ⟨#[]⟩] (by rfl) ⟨_, _, Tryd.func45, by kernel_rfl, rfl⟩ (hFit.out _) ?_; rintro e w3 ⟨rfl, hb3⟩; refine ⟨_, rfl, ?_⟩; have k0' := k0.drew.step hb3; have k1' := k1.drew.step hb3; have c2' := k1'.cell 0; simp only [List.getElem?_toArray, List.getElem?_cons_zero, List.getElem?_cons_succ] at c2'; have hown3 := hown.drew.below hb3; have hnx3 := hnx.drew.trans (hb3.mono (by simp; omega)); have lt1' := k1'.lt)
        | go_loud (refine step_push (by rfl) _ _ 22 (by rfl) (w.heap.size + 2) _ 1 16 strC_flat elemStr (hown3.alloc _) (by rfl) z w3.heap.size (Blk.newAt (w := w3) rfl) (by rfl) (by rfl) k hlen (by omega) (by omega) (by (try simp); omega) ?_; intro a4 cap4 w4 hown4 hb4 _; have k4 := (k1'.alloc _).below hb4 (by omega); have f5 := k4.cell 0; simp only [List.getElem?_toArray, List.getElem?_cons_zero, List.getElem?_cons_succ] at f5; have f6 := k4.free 0))
      all_goals
        go_wp2
        go_roundw
        case rel => exact ⟨k + 1, by omega, by go_num, _, by rw [hr.out]; exact hown4.setCell (p := ⟨w.heap.size + 1, 0, none⟩) (by simp) _, ((k0'.alloc _).below hb4 (by omega)).set_other _ _ (by simp), k4.set 0 _, ((allocB hnx3 (by omega) _).trans (hb4.mono (by omega))).setCell (by simp) _⟩
        case measure => simp [intOf]; omega
    · obtain rfl : k = 37 := by omega
      have f1 := k0.free 0
      have f2 := k0.free 1
      go_wp2
      have hF : Below w.heap.size w ((wr.setCell ⟨w.heap.size, 0, none⟩ (.slice ao 37 capo)).setCell ⟨w.heap.size, 1, none⟩ (.slice none 0 0)) := (hnx.setCell (by simp) _).setCell (by simp) _
      have ho := (hown.setCell (p := ⟨w.heap.size, 0, none⟩) (by simp) (.slice ao 37 capo)).setCell (p := ⟨w.heap.size, 1, none⟩) (by simp) (.slice none 0 0)
      exact bodyPost_ret (v := .agg #[.slice ao 37 capo, .slice none 0 0]) (by simp [results, Tryd.results25, go_sem, c0, c1]) rfl ⟨_, rfl, ho, hF⟩

def fillL (z : ByteArray) (k : Nat) : List ByteArray := List.replicate k z ++ List.replicate (37 - k) ⟨#[]⟩
theorem fillL_set (z : ByteArray) {k : Nat} (hk : k < 37) : (fillL z k).set k z = fillL z (k + 1) := by
  unfold fillL
  rw [List.set_append_right _ _ (by simp), List.length_replicate, Nat.sub_self, show 37 - k = (37 - (k + 1)) + 1 by omega, List.replicate_succ, List.set_cons_zero, List.replicate_succ', List.append_assoc]
  rfl
theorem fillL_len (z : ByteArray) {k : Nat} (hk : k ≤ 37) : (fillL z k).length = 37 := by simp [fillL]; omega

end Go.Proofs.YtjhmfljlclajnacDoor
