/- The walks of run and goods. The reference's small walks on copies. The walks of txn: find, has, copies. The walks of txn: copies, Asked, Open, handle. The walks of txn: Good. Owned transactions, and lists of them. No program in sight. The walk of CopyTxn. Counting blocks. No program in sight. An element of an array value. No program in sight. The walk of GoodTxn. The walk of NewestOf. The walks of the law's lists of transactions: txns, good. -/
import Derived.Test.YtjhmfljlclajnacDoorKRecoverTwice1
import Derived.Test.YtjhmfljlclajnacDoorKRecoverTwice3
import Derived.Test.YtjhmfljlclajnacDoorKRecoverTwice2
import Derived.Test.YtjhmfljlclajnacDoorRegCall
import Derived.Test.YtjhmfljlclajnacDoorBytes
import Derived.Test.YtjhmfljlclajnacDoorChecked
import Derived.Deep.QuietTactic
import Derived.BigQuiet
import Derived.Deep.LoopGhost
import Derived.Test.YtjhmfljlclajnacDoorRegApp
import Derived.Test.YtjhmfljlclajnacDoorBase
import Derived.Test.YtjhmfljlclajnacDoorStampR
import Derived.Laws.Rows
set_option linter.unusedVariables false
set_option linter.unusedSimpArgs false
namespace Go.Proofs.YtjhmfljlclajnacDoor
open Go.RowKit Wb
set_option linter.unusedVariables false
set_option linter.unusedSimpArgs false
set_option maxRecDepth 100000
set_option maxHeartbeats 8000000
theorem _root_.Wb.St.two {S : List Nat} {w0 w : World} {L : List Ent} {a b : Rd} {R : List Rd} (X : St S w0 w L (a :: b :: R)) : St S w0 w L [a, b] := X.less (List.Sublist.refl _) fun r hr => by
  rcases List.mem_cons.1 hr with rfl | hr
  · exact .head _
  · rcases List.mem_singleton.1 hr with rfl; exact .tail _ (.head _)
theorem keep_run (d : Dsk) (l : List Stp) (v vl : Value) (w0 : World) (hd : RDisk w0 v d) (hl : RL stpC w0 vl l) (hll : l.length ≤ 5864062014805) :
    Calls Tryd.prog 14 #[v, vl] w0 fun e w' => ∃ v', e = .returned v' ∧ RDisk w' v' (runD d l) ∧ Below w0.heap.size w0 w' := by
  obtain ⟨a, cap, rfl, _⟩ := hl.form
  have hFl := fun d v w (h : RDisk w v d) => disk_Flush d v w h
  have hPu := fun d n t v w (h : RDisk w v d) => disk_Put d n t v w h
  have hr0 : runD d (l.take 0) = d := rfl
  have hrf : runD d (l.take l.length) = runD d l := by rw [List.take_length]
  have hrs : ∀ k (hk : k < l.length), runD d (l.take (k + 1)) = stepD (runD d (l.take k)) l[k] := fun k hk => by
    rw [List.take_succ_eq_append_getElem hk, runD_append]; rfl
  obtain ⟨as_, cs, aw, cw, rfl, h1, h2, n1, n2⟩ := hd.form
  have X : St [] w0 w0 [] (dskR as_ cs aw cw d) := ((St.start [] w0).addR0 h2).addR0 h1
  clear h1 h2 hd
  replace hl := hid hl; replace hFl := hid hFl; replace hPu := hid hPu; replace hrs := hid hrs; replace hr0 := hid hr0; replace hrf := hid hrf
  go_enter Tryd.func14, Tryd.ntmps14
  go_wp2_with (first
    | (refine at_mem rfl ?_; (first | (refine at_load rfl ?_; (first | (refine c_load1 rfl _ _ rfl rfl X (by repeat (first | exact ReadA.here rfl | apply ReadA.there)) ?_) | (refine c_loadN rfl _ _ rfl rfl X (by repeat (first | exact ReadB.here (Nat.le_of_ble_eq_true rfl) | apply ReadB.there)) ?_))) | (refine at_store rfl ?_; (first | (refine c_store1 rfl _ _ _ rfl rfl (by first | exact EvR.const _ | exact EvR.tmp rfl rfl) X rfl rfl (by repeat (first | exact PutA.here (Nat.le_of_ble_eq_true rfl) | apply PutA.there)) ?_; intro w X2; (try simp only [upd] at X2); replace X := X2; clear X2) | (refine c_storeN rfl _ _ _ rfl rfl rfl X rfl rfl (by repeat (first | exact PutA.here (Nat.le_of_ble_eq_true rfl) | apply PutA.there)) ?_; intro w X2; (try simp only [upd] at X2); replace X := X2; clear X2))) | (refine m_alloc rfl _ rfl X ?_; intro g w X2; (replace X := X2; clear X2)) | (refine m_box rfl _ _ rfl (by first | exact EvR.const _ | exact EvR.tmp rfl rfl) rfl X ?_; intro g w X2; (replace X := X2; clear X2))); (simp only [Act.put, List.setIfInBounds_toArray, List.set_cons_succ, List.set_cons_zero, List.drop_succ_cons, List.drop_zero, List.take_succ_cons, List.take_zero, Nat.reduceAdd])))
  obtain ⟨g4, g2, rfl, rfl⟩ := X.gs2
  go_loopw [9] (fun i wr => ∃ (k : Nat) (as_ aw : Option Addr) (cs cw : Nat) (D : Dsk), k ≤ l.length ∧ i = .int .i64 k ∧ Hid (D = runD d (l.take k)) ∧ D.safe.length ≤ 8796093022208 ∧ D.writes.length ≤ 5864062014805 ∧ St [] w0 wr [⟨g4, [.slice none 0 0, .slice none 0 0], 25⟩, ⟨g2, [.slice as_ D.safe.length cs, .slice aw D.writes.length cw], 25⟩] (dskR as_ cs aw cw D)) (fun i _ => l.length - (intOf i).toNat)
  case atStart => exact ⟨0, _, _, _, _, d, Nat.zero_le _, rfl, hid hr0.out.symm, n1, n2, X⟩
  case round =>
    clear X n1 n2
    obtain ⟨k, as_, aw, cs, cw, D, hk, rfl, hD, n1, n2, X⟩ := hrel
    by_cases hlt : k < l.length
    · obtain ⟨bz, oz, hbz, c0, c1, c2⟩ := RL.at3 (fun x : Stp => .int .i64 x.kind) (fun x => .int .i64 x.at_) (fun x => .string x.text) (fun _ => rfl) (hl.out.below X.below) hlt
      cases hbz
      have hst := hrs.out k hlt
      rw [← hD.out] at hst
      generalize l[k] = s at *
      obtain ⟨sk, sa, stt⟩ := s
      (try dsimp only at c0 c1 c2)
      have hF2 := fun v w (h : RDisk w v D) => hFl.out D v w h
      have hP2 := fun v w (h : RDisk w v D) => hPu.out D sa stt v w h
      unfold stepD at hst
      (try dsimp only at hst)
      by_cases hk2 : sk = 2
      · subst hk2
        rw [if_pos rfl] at hst
        rw [← hst] at hF2
        replace hF2 := hid hF2; replace hst := hid hst
        generalize hD2 : runD d (l.take (k + 1)) = D2 at *
        replace hD2 := hid hD2
        generalize flushE D = fe at *
        go_upto_region 4 with (first
          | (refine at_mem rfl ?_; (first | (refine at_load rfl ?_; (first | (refine c_load1 rfl _ _ rfl rfl X (by first | exact ReadA.here rfl | exact ReadA.there (ReadA.here rfl)) ?_) | (refine c_loadN rfl _ _ rfl rfl X (by first | exact ReadB.here (Nat.le_of_ble_eq_true rfl) | exact ReadB.there (ReadB.here (Nat.le_of_ble_eq_true rfl))) ?_))) | (refine at_store rfl ?_; (first | (refine c_store1 rfl _ _ _ rfl rfl (by first | exact EvR.const _ | exact EvR.tmp rfl rfl) X rfl rfl (by first | exact PutA.here (Nat.le_of_ble_eq_true rfl) | exact PutA.there (PutA.here (Nat.le_of_ble_eq_true rfl))) ?_; intro w X2; (try simp only [upd] at X2); replace X := X2; clear X2) | (refine c_storeN rfl _ _ _ rfl rfl rfl X rfl rfl (by first | exact PutA.here (Nat.le_of_ble_eq_true rfl) | exact PutA.there (PutA.here (Nat.le_of_ble_eq_true rfl))) ?_; intro w X2; (try simp only [upd] at X2); replace X := X2; clear X2))) | (refine m_alloc rfl _ rfl X ?_; intro g w X2; (replace X := X2; clear X2))); (simp only [Act.put, List.setIfInBounds_toArray, List.set_cons_succ, List.set_cons_zero, List.drop_succ_cons, List.drop_zero, List.take_succ_cons, List.take_zero, Nat.reduceAdd])))
        go_wp2_with (first
          | (refine at_mem rfl ?_; (first | (refine at_load rfl ?_; (first | (refine c_load1 rfl _ _ rfl rfl X (by repeat (first | exact ReadA.here rfl | apply ReadA.there)) ?_) | (refine c_loadN rfl _ _ rfl rfl X (by repeat (first | exact ReadB.here (Nat.le_of_ble_eq_true rfl) | apply ReadB.there)) ?_))) | (refine at_store rfl ?_; (first | (refine c_store1 rfl _ _ _ rfl rfl (by first | exact EvR.const _ | exact EvR.tmp rfl rfl) X rfl rfl (by repeat (first | exact PutA.here (Nat.le_of_ble_eq_true rfl) | apply PutA.there)) ?_; intro w X2; (try simp only [upd] at X2); replace X := X2; clear X2) | (refine c_storeN rfl _ _ _ rfl rfl rfl X rfl rfl (by repeat (first | exact PutA.here (Nat.le_of_ble_eq_true rfl) | apply PutA.there)) ?_; intro w X2; (try simp only [upd] at X2); replace X := X2; clear X2))) | (refine m_alloc rfl _ rfl X ?_; intro g w X2; (replace X := X2; clear X2)) | (refine m_box rfl _ _ rfl (by first | exact EvR.const _ | exact EvR.tmp rfl rfl) rfl X ?_; intro g w X2; (replace X := X2; clear X2))); (simp only [Act.put, List.setIfInBounds_toArray, List.set_cons_succ, List.set_cons_zero, List.drop_succ_cons, List.drop_zero, List.take_succ_cons, List.take_zero, Nat.reduceAdd]))
          | (go_at_call 5; go_loud ((with_reducible refine (hF2.out _ _ (X.dsk n1 n2)).mono ?_); rintro e w1 ⟨v1, rfl, hr1, hb1⟩; obtain ⟨as2, cs2, aw2, cw2, rfl, f1, f2, m1, m2⟩ := hr1.form; replace X := ((X.call hb1).tail.addDsk f1 f2 (by simp [noSl])); clear hb1 hr1 f1 f2)))
        go_roundw
        case rel => (first | exact ⟨k + 1, as2, aw2, cs2, cw2, D2, by omega, by go_num, hid hD2.out.symm, m1, m2, X.two⟩ | ((repeat apply Exists.intro); exact ⟨⟨k + 1, as2, aw2, cs2, cw2, D2, by omega, by go_num, hid hD2.out.symm, m1, m2, X.two⟩, rfl⟩))
        case measure => simp [intOf]; omega
      · rw [if_neg hk2] at hst
        rw [← hst] at hP2
        replace hP2 := hid hP2; replace hst := hid hst
        generalize hD2 : runD d (l.take (k + 1)) = D2 at *
        replace hD2 := hid hD2
        generalize putE D sa stt = fe at *
        have he2 : (sk == 2) = false := beq_eq_false_iff_ne.2 hk2
        go_upto_region 4 with (first
          | (refine at_mem rfl ?_; (first | (refine at_load rfl ?_; (first | (refine c_load1 rfl _ _ rfl rfl X (by first | exact ReadA.here rfl | exact ReadA.there (ReadA.here rfl)) ?_) | (refine c_loadN rfl _ _ rfl rfl X (by first | exact ReadB.here (Nat.le_of_ble_eq_true rfl) | exact ReadB.there (ReadB.here (Nat.le_of_ble_eq_true rfl))) ?_))) | (refine at_store rfl ?_; (first | (refine c_store1 rfl _ _ _ rfl rfl (by first | exact EvR.const _ | exact EvR.tmp rfl rfl) X rfl rfl (by first | exact PutA.here (Nat.le_of_ble_eq_true rfl) | exact PutA.there (PutA.here (Nat.le_of_ble_eq_true rfl))) ?_; intro w X2; (try simp only [upd] at X2); replace X := X2; clear X2) | (refine c_storeN rfl _ _ _ rfl rfl rfl X rfl rfl (by first | exact PutA.here (Nat.le_of_ble_eq_true rfl) | exact PutA.there (PutA.here (Nat.le_of_ble_eq_true rfl))) ?_; intro w X2; (try simp only [upd] at X2); replace X := X2; clear X2))) | (refine m_alloc rfl _ rfl X ?_; intro g w X2; (replace X := X2; clear X2))); (simp only [Act.put, List.setIfInBounds_toArray, List.set_cons_succ, List.set_cons_zero, List.drop_succ_cons, List.drop_zero, List.take_succ_cons, List.take_zero, Nat.reduceAdd])))
        go_wp2_with (first
          | (refine at_mem rfl ?_; (first | (refine at_load rfl ?_; (first | (refine c_load1 rfl _ _ rfl rfl X (by repeat (first | exact ReadA.here rfl | apply ReadA.there)) ?_) | (refine c_loadN rfl _ _ rfl rfl X (by repeat (first | exact ReadB.here (Nat.le_of_ble_eq_true rfl) | apply ReadB.there)) ?_))) | (refine at_store rfl ?_; (first | (refine c_store1 rfl _ _ _ rfl rfl (by first | exact EvR.const _ | exact EvR.tmp rfl rfl) X rfl rfl (by repeat (first | exact PutA.here (Nat.le_of_ble_eq_true rfl) | apply PutA.there)) ?_; intro w X2; (try simp only [upd] at X2); replace X := X2; clear X2) | (refine c_storeN rfl _ _ _ rfl rfl rfl X rfl rfl (by repeat (first | exact PutA.here (Nat.le_of_ble_eq_true rfl) | apply PutA.there)) ?_; intro w X2; (try simp only [upd] at X2); replace X := X2; clear X2))) | (refine m_alloc rfl _ rfl X ?_; intro g w X2; (replace X := X2; clear X2)) | (refine m_box rfl _ _ rfl (by first | exact EvR.const _ | exact EvR.tmp rfl rfl) rfl X ?_; intro g w X2; (replace X := X2; clear X2))); (simp only [Act.put, List.setIfInBounds_toArray, List.set_cons_succ, List.set_cons_zero, List.drop_succ_cons, List.drop_zero, List.take_succ_cons, List.take_zero, Nat.reduceAdd]))
          | (go_at_call 28; go_loud ((with_reducible refine (hP2.out _ _ (X.dsk n1 n2)).mono ?_); rintro e w1 ⟨v1, rfl, hr1, hb1⟩; obtain ⟨as2, cs2, aw2, cw2, rfl, f1, f2, m1, m2⟩ := hr1.form; replace X := ((X.call hb1).tail.addDsk f1 f2 (by simp [noSl])); clear hb1 hr1 f1 f2)))
        go_roundw
        case rel => (first | exact ⟨k + 1, as2, aw2, cs2, cw2, D2, by omega, by go_num, hid hD2.out.symm, m1, m2, X.two⟩ | ((repeat apply Exists.intro); exact ⟨⟨k + 1, as2, aw2, cs2, cw2, D2, by omega, by go_num, hid hD2.out.symm, m1, m2, X.two⟩, rfl⟩))
        case measure => simp [intOf]; omega
    · obtain rfl : k = l.length := by omega
      have hD3 : D = runD d l := hD.out.trans hrf.out
      subst hD3
      clear hD hrf hrs hr0
      go_wp2_with (first
        | (refine at_mem rfl ?_; (first | (refine at_load rfl ?_; (first | (refine c_load1 rfl _ _ rfl rfl X (by first | exact ReadA.here rfl | exact ReadA.there (ReadA.here rfl)) ?_) | (refine c_loadN rfl _ _ rfl rfl X (by first | exact ReadB.here (Nat.le_of_ble_eq_true rfl) | exact ReadB.there (ReadB.here (Nat.le_of_ble_eq_true rfl))) ?_))) | (refine at_store rfl ?_; (first | (refine c_store1 rfl _ _ _ rfl rfl (by first | exact EvR.const _ | exact EvR.tmp rfl rfl) X rfl rfl (by first | exact PutA.here (Nat.le_of_ble_eq_true rfl) | exact PutA.there (PutA.here (Nat.le_of_ble_eq_true rfl))) ?_; intro w X2; (try simp only [upd] at X2); replace X := X2; clear X2) | (refine c_storeN rfl _ _ _ rfl rfl rfl X rfl rfl (by first | exact PutA.here (Nat.le_of_ble_eq_true rfl) | exact PutA.there (PutA.here (Nat.le_of_ble_eq_true rfl))) ?_; intro w X2; (try simp only [upd] at X2); replace X := X2; clear X2))) | (refine m_alloc rfl _ rfl X ?_; intro g w X2; (replace X := X2; clear X2))); (simp only [Act.put, List.setIfInBounds_toArray, List.set_cons_succ, List.set_cons_zero, List.drop_succ_cons, List.drop_zero, List.take_succ_cons, List.take_zero, Nat.reduceAdd])))
      exact m_ret1 rfl (.tmp rfl rfl) X (.head _) rfl rfl ⟨_, rfl, X.dsk n1 n2, X.below⟩
end Go.Proofs.YtjhmfljlclajnacDoor

namespace Go.Proofs.YtjhmfljlclajnacDoor
open Go.RowKit Wb
set_option linter.unusedVariables false
set_option linter.unusedSimpArgs false
set_option maxRecDepth 100000
set_option maxHeartbeats 2000000
theorem elemCpy : Elem Tryd.prog 37 46 2 24 := Elem.mk' (z := .agg #[.int .i64 0, .string ⟨#[]⟩]) Tryd.underlying37 (by kernel_rfl) rfl

end Go.Proofs.YtjhmfljlclajnacDoor

namespace Go.Proofs.YtjhmfljlclajnacDoor
open Go.RowKit Wb
set_option linter.unusedVariables false
set_option linter.unusedSimpArgs false
set_option maxRecDepth 100000
set_option maxHeartbeats 4000000
theorem txn_block (b : Int) (w : World) : Calls Tryd.prog 47 #[.int .i64 b] w fun e w' => e = .returned (.bool (isBlk b)) ∧ w = w' := by
  by_cases h0 : 0 ≤ b
  · by_cases h1 : b < 12
    · have hv : isBlk b = true := decide_eq_true ⟨h0, h1⟩
      rw [hv]
      go_enter Tryd.func47, Tryd.ntmps47
      go_wp2
      go_ret
      exact ⟨rfl, rfl⟩
    · have hv : isBlk b = false := decide_eq_false fun hh => h1 hh.2
      rw [hv]
      go_enter Tryd.func47, Tryd.ntmps47
      go_wp2
      go_ret
      exact ⟨rfl, rfl⟩
  · have hv : isBlk b = false := decide_eq_false fun hh => h0 hh.1
    rw [hv]
    go_enter Tryd.func47, Tryd.ntmps47
    go_wp2
    go_ret
    exact ⟨rfl, rfl⟩
theorem txn_find1 (c : Cpy) (b : Int) (w : World) : Calls Tryd.prog 69 #[.agg #[.int .i64 c.block, .string c.text], .int .i64 b] w fun e w' => e = .returned (.int .i64 (cmpI c.block b)) ∧ Below w.heap.size w w' := by
  obtain ⟨x, s⟩ := c
  have k0 := Blk.new w #[.int .i64 x, .string s] 46
  have c0 := k0.cell 0; have c1 := k0.cell 1
  simp only [List.getElem?_toArray, List.getElem?_cons_zero, List.getElem?_cons_succ] at c0 c1
  dsimp only
  by_cases h1 : x < b
  · rw [cmpI_lt h1]
    go_enter Tryd.func69, Tryd.ntmps69
    go_wp2
    go_ret
    exact ⟨rfl, bal (b0 w) _⟩
  · by_cases h2 : b < x
    · rw [cmpI_gt h2]
      go_enter Tryd.func69, Tryd.ntmps69
      go_wp2
      go_ret
      exact ⟨rfl, bal (b0 w) _⟩
    · have h3 : x = b := by omega
      rw [cmpI_eq h3]
      subst h3
      go_enter Tryd.func69, Tryd.ntmps69
      go_wp2
      go_ret
      exact ⟨rfl, bal (b0 w) _⟩

theorem slices_BinarySearchC (l : List Cpy) (b : Int) (v : Value) (w : World) (hs : rise (blks l) = true) (h : RL cpyC w v l) (hl : l.length ≤ 5864062014805) :
    Calls Tryd.prog 68 #[v, .int .i64 b, .func (.func 69) #[] #[]] w fun e w' => e = .returned (.tuple #[.int .i64 (posB l b : Nat), .bool (hasB l b)]) ∧ Below w.heap.size w w' := by
  obtain ⟨a, cap, rfl, _⟩ := h.form
  have hr := hid (rises hs)
  have hpo := hid (fun i h0 h1 h2 => pos_of (l := l) (b := b) (i := i) h0 h1 h2)
  have hha := hid (fun i h1 h2 => has_of (l := l) (b := b) (i := i) hr.out h1 h2)
  generalize posB l b = p at *
  generalize hasB l b = hb at *
  have hC := fun c w => txn_find1 c b w
  replace h := hid h; replace hC := hid hC
  clear hs
  go_enter Tryd.func68, Tryd.ntmps68
  go_wp2
  go_loopg [9, 10] l.length (fun kx s9 s10 wr => ∃ lo hi : Nat, s9 = .int .i64 lo ∧ s10 = .int .i64 hi ∧ lo ≤ hi ∧ hi ≤ l.length ∧ hi - lo ≤ kx ∧ Below w.heap.size w wr ∧ Hid (∀ k (hk : k < l.length), k < lo → l[k].block < b) ∧ Hid (∀ k (hk : k < l.length), hi ≤ k → b ≤ l[k].block))
  case atStart => exact ⟨0, l.length, rfl, rfl, Nat.zero_le _, Nat.le_refl _, by omega, b0 w, hid (fun k _ hk => absurd hk (Nat.not_lt_zero k)), hid (fun k hk h2 => by omega)⟩
  case round =>
    obtain ⟨lo, hi, rfl, rfl, hlh, hin, hg, nx, i1, i2⟩ := hrel
    by_cases hlt : lo < hi
    · have hm : (lo + hi) / 2 < l.length := by omega
      obtain ⟨b1, o1, rfl, c0, c1⟩ := RL.at2 (fun x => .int .i64 x.block) (fun x => .string x.text) (fun _ => rfl) (h.out.below nx) hm
      have j1 := hid (fun (hh : l[(lo + hi) / 2].block < b) => (show ∀ k (hk : k < l.length), k < (lo + hi) / 2 + 1 → l[k].block < b from fun k hk hk2 => by
        by_cases e : k = (lo + hi) / 2
        · subst e; exact hh
        · have := hr.out _ hm k (by omega); omega))
      have j2 := hid (fun (hh : b ≤ l[(lo + hi) / 2].block) => (show ∀ k (hk : k < l.length), (lo + hi) / 2 ≤ k → b ≤ l[k].block from fun k hk hk2 => by
        by_cases e : k = (lo + hi) / 2
        · subst e; exact hh
        · have := hr.out k hk _ (show (lo + hi) / 2 < k by omega); omega))
      generalize l[(lo + hi) / 2] = x at *
      have hCx := hC.out x
      by_cases hx : x.block < b
      · rw [cmpI_lt hx] at hCx
        replace j1 := hid (j1.out hx)
        replace hCx := hid hCx
        clear j2
        go_wp2_with (go_at_call 69; go_loud ((with_reducible refine (hCx.out _).mono ?_); rintro e w1 ⟨rfl, hb1⟩))
        go_roundg (hi - ((lo + hi) / 2 + 1))
        case measure => omega
        case rel => exact ⟨(lo + hi) / 2 + 1, hi, by rw [show ((lo : Int) + (hi : Int)) / 2 + 1 = (((lo + hi) / 2 + 1 : Nat) : Int) by omega], rfl, by omega, hin, Nat.le_refl _, bgo nx hb1, j1, i2⟩
      · have hnn : ¬ cmpI x.block b < 0 := by
          by_cases h2 : b < x.block
          · rw [cmpI_gt h2]; decide
          · rw [cmpI_eq (by omega)]; decide
        generalize cmpI x.block b = cv at *
        replace j2 := hid (j2.out (by omega))
        replace hCx := hid hCx
        clear j1 hx
        go_wp2_with (go_at_call 69; go_loud ((with_reducible refine (hCx.out _).mono ?_); rintro e w1 ⟨rfl, hb1⟩))
        go_roundg ((lo + hi) / 2 - lo)
        case measure => omega
        case rel => exact ⟨lo, (lo + hi) / 2, rfl, by rw [show ((lo : Int) + (hi : Int)) / 2 = (((lo + hi) / 2 : Nat) : Int) by omega], by omega, by omega, Nat.le_refl _, bgo nx hb1, i1, j2⟩
    · obtain rfl : hi = lo := by omega
      have hp := hid (hpo.out hi hin i1.out i2.out)
      have hh := hid (hha.out hi i1.out i2.out)
      by_cases hn : hi < l.length
      · obtain ⟨b1, o1, rfl, c0, c1⟩ := RL.at2 (fun x => .int .i64 x.block) (fun x => .string x.text) (fun _ => rfl) (h.out.below nx) hn
        have hge := i2.out hi hn (Nat.le_refl _)
        have hh2 : hb = true ↔ l[hi].block = b := ⟨fun h => (hh.out.1 h).2, fun h => hh.out.2 ⟨hn, h⟩⟩
        clear i1 i2 hh
        generalize l[hi] = x at *
        have hCx := hC.out x
        by_cases hx : x.block = b
        · have hv := hid (hh2.2 hx)
          rw [cmpI_eq hx] at hCx
          replace hCx := hid hCx
          clear hx hge hh2
          go_wp2_with (go_at_call 69; go_loud ((with_reducible refine (hCx.out _).mono ?_); rintro e w1 ⟨rfl, hb1⟩))
          go_ret2
          exact ⟨by rw [hp.out, hv.out]; rfl, bgo nx hb1⟩
        · have hv := hid (show hb = false by
            cases hbv : hb with
            | false => rfl
            | true => exact absurd (hh2.1 hbv) hx)
          rw [cmpI_gt (by omega)] at hCx
          replace hCx := hid hCx
          clear hx hge hh2
          go_wp2_with (go_at_call 69; go_loud ((with_reducible refine (hCx.out _).mono ?_); rintro e w1 ⟨rfl, hb1⟩))
          go_ret2
          exact ⟨by rw [hp.out, hv.out]; rfl, bgo nx hb1⟩
      · have hv := hid (show hb = false by
          cases hbv : hb with
          | false => rfl
          | true => obtain ⟨h1, _⟩ := hh.out.1 hbv; omega)
        clear hh i1 i2
        go_wp2
        go_ret2
        exact ⟨by rw [hp.out, hv.out]; rfl, nx⟩

theorem txn_find (l : List Cpy) (b : Int) (v : Value) (w : World) (hs : rise (blks l) = true) (h : RL cpyC w v l) (hl : l.length ≤ 5864062014805) :
    Calls Tryd.prog 60 #[v, .int .i64 b] w fun e w' => e = .returned (.tuple #[.int .i64 (posB l b : Nat), .bool (hasB l b)]) ∧ Below w.heap.size w w' := by
  have hB := hid (slices_BinarySearchC l b v w hs h hl)
  obtain ⟨a, cap, rfl, _⟩ := h.form
  generalize posB l b = p at *
  clear h hs
  go_enter Tryd.func60, Tryd.ntmps60
  go_wp2_with (go_at_call 68; go_loud ((with_reducible refine hB.out.mono ?_); rintro e w1 ⟨rfl, hb1⟩))
  go_ret2
  exact ⟨rfl, hb1⟩
theorem txn_has (l : List Cpy) (b : Int) (v : Value) (w : World) (hs : rise (blks l) = true) (h : RL cpyC w v l) (hl : l.length ≤ 5864062014805) :
    Calls Tryd.prog 48 #[v, .int .i64 b] w fun e w' => e = .returned (.bool (hasB l b)) ∧ Below w.heap.size w w' := by
  have hB := hid (txn_find l b v w hs h hl)
  obtain ⟨a, cap, rfl, _⟩ := h.form
  clear h hs
  go_enter Tryd.func48, Tryd.ntmps48
  go_wp2_with (go_at_call 60; go_loud ((with_reducible refine hB.out.mono ?_); rintro e w1 ⟨rfl, hb1⟩))
  go_ret
  exact ⟨rfl, hb1⟩
end Go.Proofs.YtjhmfljlclajnacDoor

namespace Wb
open Go Go.RowKit
def stepC (l : List Cpy) (k : Nat) : Prop := ∀ (hk : k < l.length), isBlk l[k].block = true ∧ l[k].text.size = 32 ∧ (∀ (h : 0 < k), l[k - 1].block < l[k].block)
theorem copies_iff (l : List Cpy) : copiesB l = true ↔ ∀ k, k < l.length → stepC l k := by
  unfold copiesB
  rw [Bool.and_eq_true, rise_iff, List.all_eq_true]
  have hg : ∀ j (hj : j < l.length), (blks l).getD j 0 = l[j].block := fun j hj => by simp [blks, hj]
  have hlen : (blks l).length = l.length := by simp [blks]
  constructor
  · rintro ⟨h1, h2⟩ k hk hk2
    have := h1 k (by omega)
    unfold riseAt at this
    rw [hg k hk] at this
    refine ⟨decide_eq_true ⟨this.1, this.2.1⟩, of_decide_eq_true (h2 _ (List.getElem_mem hk)), fun h => ?_⟩
    have h3 := this.2.2 h
    rw [hg (k - 1) (by omega)] at h3
    exact h3
  · intro h
    refine ⟨fun k hk => ?_, fun x hx => ?_⟩
    · have hk2 : k < l.length := by omega
      obtain ⟨g1, g2, g3⟩ := h k hk2 hk2
      have g1 := of_decide_eq_true g1
      unfold riseAt
      rw [hg k hk2]
      refine ⟨g1.1, g1.2, fun h0 => ?_⟩
      rw [hg (k - 1) (by omega)]
      exact g3 h0
    · obtain ⟨k, hk, rfl⟩ := List.mem_iff_getElem.1 hx
      exact decide_eq_true (h k hk hk).2.1
theorem copies_bad {l : List Cpy} {k : Nat} (hk : k < l.length) (h : ¬ stepC l k) : copiesB l = false := by
  rw [← Bool.not_eq_true, copies_iff]
  exact fun hh => h (hh k hk)
def hndC (h : Hnd) : List Value := [.bool h.on, .int .i64 h.left]
end Wb
namespace Go.Proofs.YtjhmfljlclajnacDoor
open Go.RowKit Wb
set_option linter.unusedVariables false
set_option linter.unusedSimpArgs false
set_option maxRecDepth 100000
set_option maxHeartbeats 4000000
theorem txn_copies (l : List Cpy) (v : Value) (w : World) (h : RL cpyC w v l) (hl : l.length ≤ 5864062014805) :
    Calls Tryd.prog 46 #[v] w fun e w' => e = .returned (.bool (copiesB l)) ∧ Below w.heap.size w w' := by
  obtain ⟨a, cap, rfl, _⟩ := h.form
  have hci := copies_iff l
  have hno := fun k hk hh => copies_bad (l := l) (k := k) hk hh
  have hB := fun b w => txn_block b w
  generalize copiesB l = cb at *
  replace h := hid h; replace hci := hid hci; replace hno := hid hno; replace hB := hid hB
  go_enter Tryd.func46, Tryd.ntmps46
  go_wp2
  go_loopw [3, 4, 7] (fun _ _ i wr => ∃ k : Nat, k ≤ l.length ∧ i = .int .i64 k ∧ Hid (∀ j, j < k → stepC l j) ∧ Below w.heap.size w wr) (fun _ _ i _ => l.length - (intOf i).toNat)
  case atStart => exact ⟨0, Nat.zero_le _, rfl, hid (fun j hj => absurd hj (Nat.not_lt_zero j)), b0 w⟩
  case round =>
    obtain ⟨k, hk, rfl, hall, nx⟩ := hrel
    by_cases hlt : k < l.length
    · obtain ⟨b1, o1, rfl, d0, d1⟩ := RL.at2 (fun x => .int .i64 x.block) (fun x => .string x.text) (fun _ => rfl) (h.out.below nx) hlt
      have hsk := hid (show isBlk l[k].block = true → l[k].text.size = 32 → (∀ (h : 0 < k), l[k - 1].block < l[k].block) → ∀ j, j < k + 1 → stepC l j from fun h1 h2 h3 j hj => by
        by_cases e : j = k
        · subst e; exact fun _ => ⟨h1, h2, h3⟩
        · exact hall.out j (by omega))
      have hnk := hid (show ¬ (isBlk l[k].block = true ∧ l[k].text.size = 32 ∧ (∀ (h : 0 < k), l[k - 1].block < l[k].block)) → cb = false from fun h => hno.out k hlt (fun hh => h (hh hlt)))
      have hBk := hB.out l[k].block
      by_cases hb : isBlk l[k].block = true
      · rw [hb] at hBk
        by_cases hs : l[k].text.size = 32
        · have hs2 : ((l[k].text.size : Int) != 32) = false := by rw [hs]; rfl
          rcases Nat.eq_zero_or_pos k with hk0 | hk0
          · subst hk0
            have hs3 := hid (hsk.out hb hs (fun h => absurd h (Nat.lt_irrefl 0)))
            simp only [Nat.zero_mul, Nat.add_zero] at d0 d1
            clear hsk hnk hs hb hall
            replace hBk := hid hBk
            generalize l[0] = x at *
            obtain ⟨xb, xt⟩ := x
            dsimp only at *
            have kx := Blk.new wr #[.int .i64 xb, .string xt] 46
            have x0 := kx.cell 0; have x1 := kx.cell 1
            simp only [List.getElem?_toArray, List.getElem?_cons_zero, List.getElem?_cons_succ] at x0 x1
            go_wp2
            refine wp_region_below (by kernel_rfl) (by kernel_rfl) ?_
            repeat (go_big_quiet_step ((go_at_call 47; exact BW.call_same (hBk.out _))))
            refine wpQuiet_nil ?_
            intro _ hw'
            obtain ⟨⟨wq, hq⟩, rfl⟩ := hw'
            go_wp2
            go_roundw
            case rel => exact ⟨1, by omega, by go_num, hs3, (bal nx _).trans (hq.mono (by have := nx.size; simp; omega))⟩
            case measure => simp [intOf]; omega
          · obtain ⟨j, rfl⟩ : ∃ j, k = j + 1 := ⟨k - 1, by omega⟩
            have hlj : j < l.length := by omega
            obtain ⟨b2, off2, hbb, d2, d3⟩ := RL.at2 (fun x => .int .i64 x.block) (fun x => .string x.text) (fun _ => rfl) (h.out.below nx) hlj
            simp only [Option.some.injEq, Addr.mk.injEq] at hbb
            obtain ⟨rfl, rfl, _⟩ := hbb
            have e1 : j + 1 - 1 = j := by omega
            by_cases hlt2 : l[j].block < l[j + 1].block
            · have hs3 := hid (hsk.out hb hs (fun h => hlt2))
              clear hsk hnk hs hb hall
              replace hBk := hid hBk
              generalize l[j + 1] = x at *
              generalize l[j] = y at *
              obtain ⟨xb, xt⟩ := x
              obtain ⟨yb, yt⟩ := y
              dsimp only at *
              have kx := Blk.new wr #[.int .i64 xb, .string xt] 46
              have x0 := kx.cell 0; have x1 := kx.cell 1
              simp only [List.getElem?_toArray, List.getElem?_cons_zero, List.getElem?_cons_succ] at x0 x1
              have lt1 := World.block_lt_of_cell? _ _ d2
              dsimp only at lt1
              go_wp2
              refine wp_region_below (by kernel_rfl) (by kernel_rfl) ?_
              repeat (go_big_quiet_step ((go_at_call 47; exact BW.call_same (hBk.out _))))
              refine wpQuiet_nil ?_
              intro _ hw'
              obtain ⟨⟨wq, hq⟩, rfl⟩ := hw'
              go_wp2
              go_roundw
              case rel => exact ⟨j + 1 + 1, by omega, by go_num, hs3, (bal nx _).trans (hq.mono (by have := nx.size; simp; omega))⟩
              case measure => simp [intOf]; omega
            · have hv := hnk.out (fun hh => hlt2 (hh.2.2 (by omega)))
              subst hv
              clear hsk hnk hs hb hall
              replace hBk := hid hBk
              generalize l[j + 1] = x at *
              generalize l[j] = y at *
              obtain ⟨xb, xt⟩ := x
              obtain ⟨yb, yt⟩ := y
              dsimp only at *
              have kx := Blk.new wr #[.int .i64 xb, .string xt] 46
              have x0 := kx.cell 0; have x1 := kx.cell 1
              simp only [List.getElem?_toArray, List.getElem?_cons_zero, List.getElem?_cons_succ] at x0 x1
              have lt1 := World.block_lt_of_cell? _ _ d2
              dsimp only at lt1
              go_wp2
              refine wp_region_below (by kernel_rfl) (by kernel_rfl) ?_
              repeat (go_big_quiet_step ((go_at_call 47; exact BW.call_same (hBk.out _))))
              refine wpQuiet_nil ?_
              intro _ hw'
              obtain ⟨⟨wq, hq⟩, rfl⟩ := hw'
              go_wp2
              go_ret
              exact ⟨rfl, (bal nx _).trans (hq.mono (by have := nx.size; simp; omega))⟩
        · have hv := hnk.out (fun hh => hs hh.2.1)
          subst hv
          have hs2 : ((l[k].text.size : Int) != 32) = true := bne_iff_ne.2 (by omega)
          clear hsk hnk hs hb hall
          replace hBk := hid hBk
          generalize l[k] = x at *
          obtain ⟨xb, xt⟩ := x
          dsimp only at *
          have kx := Blk.new wr #[.int .i64 xb, .string xt] 46
          have x0 := kx.cell 0; have x1 := kx.cell 1
          simp only [List.getElem?_toArray, List.getElem?_cons_zero, List.getElem?_cons_succ] at x0 x1
          go_wp2
          refine wp_region_below (by kernel_rfl) (by kernel_rfl) ?_
          repeat (go_big_quiet_step ((go_at_call 47; exact BW.call_same (hBk.out _))))
          refine wpQuiet_nil ?_
          intro _ hw'
          obtain ⟨⟨wq, hq⟩, rfl⟩ := hw'
          go_wp2
          go_ret
          exact ⟨rfl, (bal nx _).trans (hq.mono (by have := nx.size; simp; omega))⟩
      · have hv := hnk.out (fun hh => hb hh.1)
        subst hv
        rw [Bool.not_eq_true] at hb
        rw [hb] at hBk
        clear hsk hnk hb hall
        replace hBk := hid hBk
        generalize l[k] = x at *
        obtain ⟨xb, xt⟩ := x
        dsimp only at *
        have kx := Blk.new wr #[.int .i64 xb, .string xt] 46
        have x0 := kx.cell 0; have x1 := kx.cell 1
        simp only [List.getElem?_toArray, List.getElem?_cons_zero, List.getElem?_cons_succ] at x0 x1
        go_wp2
        refine wp_region_below (by kernel_rfl) (by kernel_rfl) ?_
        repeat (go_big_quiet_step ((go_at_call 47; exact BW.call_same (hBk.out _))))
        refine wpQuiet_nil ?_
        intro _ hw'
        obtain ⟨⟨wq, hq⟩, rfl⟩ := hw'
        go_wp2
        go_ret
        exact ⟨rfl, (bal nx _).trans (hq.mono (by have := nx.size; simp; omega))⟩
    · have hv := hci.out.2 (fun j hj => hall.out j (by omega))
      subst hv
      clear hall
      go_wp2
      go_ret
      exact ⟨rfl, nx⟩
end Go.Proofs.YtjhmfljlclajnacDoor

namespace Wb
open Go Go.RowKit
theorem apart_rev {t : Txn} {k : Nat} (hk : k < t.rev.length) (h : (!hasB t.mt t.rev[k] && !hasB t.dt t.rev[k]) = false) : apart t = false := by
  unfold apart
  rw [all_no (p := fun b => !hasB t.mt b && !hasB t.dt b) hk h]
  rfl
theorem apart_mt {t : Txn} {k : Nat} (hk : k < t.mt.length) (h : (!hasB t.dt t.mt[k].block) = false) : apart t = false := by
  unfold apart
  rw [all_no (p := fun c : Cpy => !hasB t.dt c.block) hk h, Bool.and_false]
theorem apart_yes {t : Txn} (h1 : ∀ k (hk : k < t.rev.length), (!hasB t.mt t.rev[k] && !hasB t.dt t.rev[k]) = true) (h2 : ∀ k (hk : k < t.mt.length), (!hasB t.dt t.mt[k].block) = true) : apart t = true := by
  unfold apart
  rw [Bool.and_eq_true, List.all_eq_true, List.all_eq_true]
  refine ⟨fun x hx => ?_, fun x hx => ?_⟩
  · obtain ⟨k, hk, rfl⟩ := List.mem_iff_getElem.1 hx
    exact h1 k hk
  · obtain ⟨k, hk, rfl⟩ := List.mem_iff_getElem.1 hx
    exact h2 k hk
end Wb
namespace Go.Proofs.YtjhmfljlclajnacDoor
open Go.RowKit Wb
set_option linter.unusedVariables false
set_option linter.unusedSimpArgs false
set_option maxRecDepth 100000
set_option maxHeartbeats 16000000
theorem idx3 (w : World) (o0 o1 o2 : Bool) (l0 l1 l2 : Int) :
    (Instr.index 53 (.agg #[.bool o0, .int .i64 l0, .bool o1, .int .i64 l1, .bool o2, .int .i64 l2]) (.int .i64 0)).run Tryd.prog w = .ok (.agg #[.bool o0, .int .i64 l0]) w ∧
    (Instr.index 53 (.agg #[.bool o0, .int .i64 l0, .bool o1, .int .i64 l1, .bool o2, .int .i64 l2]) (.int .i64 1)).run Tryd.prog w = .ok (.agg #[.bool o1, .int .i64 l1]) w ∧
    (Instr.index 53 (.agg #[.bool o0, .int .i64 l0, .bool o1, .int .i64 l1, .bool o2, .int .i64 l2]) (.int .i64 2)).run Tryd.prog w = .ok (.agg #[.bool o2, .int .i64 l2]) w :=
  ⟨by kernel_rfl, by kernel_rfl, by kernel_rfl⟩

theorem txn_Good (t : Txn) (v : Value) (w : World) (h : RTxn w v t) :
    Calls Tryd.prog 26 #[v] w fun e w' => e = .returned (.bool (goodT t)) ∧ Below w.heap.size w w' := by
  obtain ⟨vm, vd, vr, rfl, hm, hd, hr, n1, n2, n3⟩ := h
  obtain ⟨am, cm, rfl, _⟩ := hm.form
  obtain ⟨ad, cd, rfl, _⟩ := hd.form
  obtain ⟨ar, cr, rfl, _⟩ := hr.form
  have hng := fun hh => notGood' (t := t) hh
  have hyes := fun h1 h2 h3 h4 h5 h6 h7 h8 => (goodT_iff t).2 ⟨h1, h2, h3, h4, h5, h6, h7, h8⟩
  have hi3 := fun w => idx3 w t.h0.on t.h1.on t.h2.on t.h0.left t.h1.left t.h2.left
  have hCm := fun w' (nx : Below w.heap.size w w') => txn_copies t.mt _ w' (hm.below nx) n1
  have hCd := fun w' (nx : Below w.heap.size w w') => txn_copies t.dt _ w' (hd.below nx) n2
  have har := fun k hk hh => apart_rev (t := t) (k := k) hk hh
  have ham := fun k hk hh => apart_mt (t := t) (k := k) hk hh
  have hay := fun h1 h2 => apart_yes (t := t) h1 h2
  unfold txnV
  generalize goodT t = gT at *
  have k0 := Blk.new w #[.int .i64 t.seq, .slice am t.mt.length cm, .slice ad t.dt.length cd, .slice ar t.rev.length cr, .bool t.h0.on, .int .i64 t.h0.left, .bool t.h1.on, .int .i64 t.h1.left, .bool t.h2.on, .int .i64 t.h2.left] 55
  have nx := bal (b0 w) (.cells #[.int .i64 t.seq, .slice am t.mt.length cm, .slice ad t.dt.length cd, .slice ar t.rev.length cr, .bool t.h0.on, .int .i64 t.h0.left, .bool t.h1.on, .int .i64 t.h1.left, .bool t.h2.on, .int .i64 t.h2.left] 55)
  have e0 := k0.cell 0; have e1 := k0.cell 1; have e2 := k0.cell 2; have e3 := k0.cell 3; have e4 := k0.cell 4; have e5 := k0.cell 5; have e6 := k0.cell 6; have e7 := k0.cell 7; have e8 := k0.cell 8; have e9 := k0.cell 9; simp only [List.getElem?_toArray, List.getElem?_cons_zero, List.getElem?_cons_succ] at e0 e1 e2 e3 e4 e5 e6 e7 e8 e9; have l0 := k0.lt
  replace hm := hid hm; replace hd := hid hd; replace hr := hid hr; replace hng := hid hng; replace hyes := hid hyes; replace hi3 := hid hi3; replace har := hid har; replace ham := hid ham; replace hay := hid hay
  have COPM := hid hCm; have COPD := hid hCd
  clear hCm hCd
  by_cases hs1 : t.seq < 1
  · have hv := hid (hng.out (.inl (decide_eq_false (by omega))))
    go_enter Tryd.func26, Tryd.ntmps26
    go_wp2
    go_ret
    exact ⟨ret_b hv.out.symm, nx⟩
  by_cases hs2 : 2147483647 < t.seq
  · have hv := hid (hng.out (.inl (decide_eq_false (by omega))))
    go_enter Tryd.func26, Tryd.ntmps26
    go_wp2
    go_ret
    exact ⟨ret_b hv.out.symm, nx⟩
  have hsq : seqOk t.seq = true := decide_eq_true (by omega)
  cases hcm : copiesB t.mt with
  | false =>
    have hv := hid (hng.out (.inr (.inl hcm)))
    have C1 := COPM.out _ nx
    rw [hcm] at C1
    replace C1 := hid C1
    clear hcm
    go_enter Tryd.func26, Tryd.ntmps26
    go_wp2_with (go_at_call_of 46 (Value.slice am t.mt.length cm); go_loud ((with_reducible refine C1.out.mono ?_); rintro e w1 ⟨rfl, hb1⟩; replace nx := bgo nx hb1))
    go_ret
    exact ⟨ret_b hv.out.symm, nx⟩
  | true =>
  have C1 := COPM.out _ nx
  rw [hcm] at C1
  cases hcd : copiesB t.dt with
  | false =>
    have hv := hid (hng.out (.inr (.inr (.inl hcd))))
    have C2 := fun w' nx => COPD.out w' nx
    rw [hcd] at C2
    replace C1 := hid C1; replace C2 := hid C2
    clear hcm hcd
    go_enter Tryd.func26, Tryd.ntmps26
    go_wp2_with (go_at_call_of 46 (Value.slice am t.mt.length cm); go_loud ((with_reducible refine C1.out.mono ?_); rintro e w1 ⟨rfl, hb1⟩; replace k0 := k0.step hb1; replace nx := bgo nx hb1; clear e0 e1 e2 e3 e4 e5 e6 e7 e8 e9 l0; have e0 := k0.cell 0; have e1 := k0.cell 1; have e2 := k0.cell 2; have e3 := k0.cell 3; have e4 := k0.cell 4; have e5 := k0.cell 5; have e6 := k0.cell 6; have e7 := k0.cell 7; have e8 := k0.cell 8; have e9 := k0.cell 9; simp only [List.getElem?_toArray, List.getElem?_cons_zero, List.getElem?_cons_succ] at e0 e1 e2 e3 e4 e5 e6 e7 e8 e9; have l0 := k0.lt))
    go_wp2_with (go_at_call_of 46 (Value.slice ad t.dt.length cd); go_loud ((with_reducible refine (C2.out _ nx).mono ?_); rintro e w1 ⟨rfl, hb1⟩; replace nx := bgo nx hb1))
    go_ret
    exact ⟨ret_b hv.out.symm, nx⟩
  | true =>
  have C2 := fun w' nx => COPD.out w' nx
  rw [hcd] at C2
  replace C1 := hid C1; replace C2 := hid C2
  have hcm' := hid hcm; have hcd' := hid hcd
  have hcm : rise (blks t.mt) = true := by unfold copiesB at hcm; rw [Bool.and_eq_true] at hcm; exact hcm.1
  have hcd : rise (blks t.dt) = true := by unfold copiesB at hcd; rw [Bool.and_eq_true] at hcd; exact hcd.1
  replace hcm := hid hcm; replace hcd := hid hcd; replace hsq := hid hsq
  clear COPM COPD
  go_enter Tryd.func26, Tryd.ntmps26
  go_wp2_with (go_at_call_of 46 (Value.slice am t.mt.length cm); go_loud ((with_reducible refine C1.out.mono ?_); rintro e w1 ⟨rfl, hb1⟩; replace k0 := k0.step hb1; replace nx := bgo nx hb1; clear e0 e1 e2 e3 e4 e5 e6 e7 e8 e9 l0; have e0 := k0.cell 0; have e1 := k0.cell 1; have e2 := k0.cell 2; have e3 := k0.cell 3; have e4 := k0.cell 4; have e5 := k0.cell 5; have e6 := k0.cell 6; have e7 := k0.cell 7; have e8 := k0.cell 8; have e9 := k0.cell 9; simp only [List.getElem?_toArray, List.getElem?_cons_zero, List.getElem?_cons_succ] at e0 e1 e2 e3 e4 e5 e6 e7 e8 e9; have l0 := k0.lt))
  go_wp2_with (go_at_call_of 46 (Value.slice ad t.dt.length cd); go_loud ((with_reducible refine (C2.out _ nx).mono ?_); rintro e w2 ⟨rfl, hb2⟩; replace k0 := k0.step hb2; replace nx := bgo nx hb2; clear e0 e1 e2 e3 e4 e5 e6 e7 e8 e9 l0; have e0 := k0.cell 0; have e1 := k0.cell 1; have e2 := k0.cell 2; have e3 := k0.cell 3; have e4 := k0.cell 4; have e5 := k0.cell 5; have e6 := k0.cell 6; have e7 := k0.cell 7; have e8 := k0.cell 8; have e9 := k0.cell 9; simp only [List.getElem?_toArray, List.getElem?_cons_zero, List.getElem?_cons_succ] at e0 e1 e2 e3 e4 e5 e6 e7 e8 e9; have l0 := k0.lt))
  clear C1 C2 hb1 hb2
  go_loopw [3, 4, 32] (fun _ _ i wr => ∃ k : Nat, k ≤ t.rev.length ∧ i = .int .i64 k ∧ Hid (riseTo t.rev k) ∧ Hid (∀ j, j < k → ∀ (hj : j < t.rev.length), (!hasB t.mt t.rev[j] && !hasB t.dt t.rev[j]) = true) ∧ Blk wr w.heap.size #[.int .i64 t.seq, .slice am t.mt.length cm, .slice ad t.dt.length cd, .slice ar t.rev.length cr, .bool t.h0.on, .int .i64 t.h0.left, .bool t.h1.on, .int .i64 t.h1.left, .bool t.h2.on, .int .i64 t.h2.left] 55 ∧ Below w.heap.size w wr) (fun _ _ i _ => t.rev.length - (intOf i).toNat)
  case atStart => exact ⟨0, Nat.zero_le _, rfl, hid (fun j hj => absurd hj (Nat.not_lt_zero j)), hid (fun j hj => absurd hj (Nat.not_lt_zero j)), k0, nx⟩
  case round =>
    clear k0 nx e0 e1 e2 e3 e4 e5 e6 e7 e8 e9 l0
    obtain ⟨k, hk, rfl, hri, hap, k0, nx⟩ := hrel
    have e0 := k0.cell 0; have e1 := k0.cell 1; have e2 := k0.cell 2; have e3 := k0.cell 3; have e4 := k0.cell 4; have e5 := k0.cell 5; have e6 := k0.cell 6; have e7 := k0.cell 7; have e8 := k0.cell 8; have e9 := k0.cell 9; simp only [List.getElem?_toArray, List.getElem?_cons_zero, List.getElem?_cons_succ] at e0 e1 e2 e3 e4 e5 e6 e7 e8 e9; have l0 := k0.lt
    by_cases hlt : k < t.rev.length
    · obtain ⟨b1, o1, rfl, d0⟩ := RL.at1 (fun x => .int .i64 x) (fun _ => rfl) (hr.out.below nx) hlt
      have hgd : t.rev.getD k 0 = t.rev[k] := by simp [hlt]
      have hno := hid (show ¬ riseAt t.rev k → gT = false from fun hh => hng.out (.inr (.inr (.inr (.inl (rise_no hlt hh))))))
      have hnA := hid (show (!hasB t.mt t.rev[k] && !hasB t.dt t.rev[k]) = false → gT = false from fun hh => hng.out (.inr (.inr (.inr (.inr (.inl (har.out k hlt hh)))))))
      have hyA := hid (show (!hasB t.mt t.rev[k] && !hasB t.dt t.rev[k]) = true → ∀ j, j < k + 1 → ∀ (hj : j < t.rev.length), (!hasB t.mt t.rev[j] && !hasB t.dt t.rev[j]) = true from fun hh j hj hj2 => by
        by_cases e : j = k
        · subst e; exact hh
        · exact hap.out j (by omega) hj2)
      have hBk := txn_block t.rev[k]
      by_cases hb : isBlk t.rev[k] = true
      · have hb' := of_decide_eq_true hb
        have hBk := fun w => hBk w
        rw [hb] at hBk
        replace hBk := hid hBk
        rcases Nat.eq_zero_or_pos k with hk0 | hk0
        · subst hk0
          have hr1 := hid (riseTo_succ hri.out (show riseAt t.rev 0 from by unfold riseAt; rw [hgd]; exact ⟨hb'.1, hb'.2, fun h => absurd h (Nat.lt_irrefl 0)⟩))
          simp only [Nat.add_zero] at d0
          clear hno hgd hb hb' hri hap
          generalize t.rev[0] = x at *
          have hMb := hid (fun w' (nx : Below w.heap.size w w') => txn_has t.mt x _ w' hcm.out (hm.out.below nx) n1)
          have hDb := hid (fun w' (nx : Below w.heap.size w w') => txn_has t.dt x _ w' hcd.out (hd.out.below nx) n2)
          by_cases hh1 : hasB t.mt x = true
          · have hv := hid (hnA.out (by rw [hh1]; rfl))
            have hMb := hid (fun w' nx => by have := hMb.out w' nx; rwa [hh1] at this)
            clear hh1 hDb hnA hyA
            go_wp2_with (go_at_call 47; go_loud ((with_reducible refine (hBk.out _).mono ?_); rintro e w1 ⟨rfl, rfl⟩))
            go_wp2_with (go_at_call_of 48 (Value.slice am t.mt.length cm); go_loud ((with_reducible refine (hMb.out _ nx).mono ?_); rintro e w2 ⟨rfl, hb2⟩; replace k0 := k0.step hb2; replace nx := bgo nx hb2; clear e0 e1 e2 e3 e4 e5 e6 e7 e8 e9 l0; have e0 := k0.cell 0; have e1 := k0.cell 1; have e2 := k0.cell 2; have e3 := k0.cell 3; have e4 := k0.cell 4; have e5 := k0.cell 5; have e6 := k0.cell 6; have e7 := k0.cell 7; have e8 := k0.cell 8; have e9 := k0.cell 9; simp only [List.getElem?_toArray, List.getElem?_cons_zero, List.getElem?_cons_succ] at e0 e1 e2 e3 e4 e5 e6 e7 e8 e9; have l0 := k0.lt))
            go_ret
            exact ⟨ret_b hv.out.symm, nx⟩
          · rw [Bool.not_eq_true] at hh1
            have hMb := hid (fun w' nx => by have := hMb.out w' nx; rwa [hh1] at this)
            by_cases hh2 : hasB t.dt x = true
            · have hv := hid (hnA.out (by rw [hh1, hh2]; rfl))
              have hDb := hid (fun w' nx => by have := hDb.out w' nx; rwa [hh2] at this)
              clear hh1 hh2 hnA hyA
              go_wp2_with (go_at_call 47; go_loud ((with_reducible refine (hBk.out _).mono ?_); rintro e w1 ⟨rfl, rfl⟩))
              go_wp2_with (go_at_call_of 48 (Value.slice am t.mt.length cm); go_loud ((with_reducible refine (hMb.out _ nx).mono ?_); rintro e w2 ⟨rfl, hb2⟩; replace k0 := k0.step hb2; replace nx := bgo nx hb2; clear e0 e1 e2 e3 e4 e5 e6 e7 e8 e9 l0; have e0 := k0.cell 0; have e1 := k0.cell 1; have e2 := k0.cell 2; have e3 := k0.cell 3; have e4 := k0.cell 4; have e5 := k0.cell 5; have e6 := k0.cell 6; have e7 := k0.cell 7; have e8 := k0.cell 8; have e9 := k0.cell 9; simp only [List.getElem?_toArray, List.getElem?_cons_zero, List.getElem?_cons_succ] at e0 e1 e2 e3 e4 e5 e6 e7 e8 e9; have l0 := k0.lt))
              go_wp2_with (go_at_call_of 48 (Value.slice ad t.dt.length cd); go_loud ((with_reducible refine (hDb.out _ nx).mono ?_); rintro e w2 ⟨rfl, hb2⟩; replace k0 := k0.step hb2; replace nx := bgo nx hb2; clear e0 e1 e2 e3 e4 e5 e6 e7 e8 e9 l0; have e0 := k0.cell 0; have e1 := k0.cell 1; have e2 := k0.cell 2; have e3 := k0.cell 3; have e4 := k0.cell 4; have e5 := k0.cell 5; have e6 := k0.cell 6; have e7 := k0.cell 7; have e8 := k0.cell 8; have e9 := k0.cell 9; simp only [List.getElem?_toArray, List.getElem?_cons_zero, List.getElem?_cons_succ] at e0 e1 e2 e3 e4 e5 e6 e7 e8 e9; have l0 := k0.lt))
              go_ret
              exact ⟨ret_b hv.out.symm, nx⟩
            · rw [Bool.not_eq_true] at hh2
              have hDb := hid (fun w' nx => by have := hDb.out w' nx; rwa [hh2] at this)
              have hy := hid (hyA.out (by rw [hh1, hh2]; rfl))
              clear hh1 hh2 hnA hyA
              go_wp2_with (go_at_call 47; go_loud ((with_reducible refine (hBk.out _).mono ?_); rintro e w1 ⟨rfl, rfl⟩))
              go_wp2_with (go_at_call_of 48 (Value.slice am t.mt.length cm); go_loud ((with_reducible refine (hMb.out _ nx).mono ?_); rintro e w2 ⟨rfl, hb2⟩; replace k0 := k0.step hb2; replace nx := bgo nx hb2; clear e0 e1 e2 e3 e4 e5 e6 e7 e8 e9 l0; have e0 := k0.cell 0; have e1 := k0.cell 1; have e2 := k0.cell 2; have e3 := k0.cell 3; have e4 := k0.cell 4; have e5 := k0.cell 5; have e6 := k0.cell 6; have e7 := k0.cell 7; have e8 := k0.cell 8; have e9 := k0.cell 9; simp only [List.getElem?_toArray, List.getElem?_cons_zero, List.getElem?_cons_succ] at e0 e1 e2 e3 e4 e5 e6 e7 e8 e9; have l0 := k0.lt))
              go_wp2_with (go_at_call_of 48 (Value.slice ad t.dt.length cd); go_loud ((with_reducible refine (hDb.out _ nx).mono ?_); rintro e w2 ⟨rfl, hb2⟩; replace k0 := k0.step hb2; replace nx := bgo nx hb2; clear e0 e1 e2 e3 e4 e5 e6 e7 e8 e9 l0; have e0 := k0.cell 0; have e1 := k0.cell 1; have e2 := k0.cell 2; have e3 := k0.cell 3; have e4 := k0.cell 4; have e5 := k0.cell 5; have e6 := k0.cell 6; have e7 := k0.cell 7; have e8 := k0.cell 8; have e9 := k0.cell 9; simp only [List.getElem?_toArray, List.getElem?_cons_zero, List.getElem?_cons_succ] at e0 e1 e2 e3 e4 e5 e6 e7 e8 e9; have l0 := k0.lt))
              go_roundw
              case rel => exact ⟨0 + 1, by omega, by go_num, hr1, hy, k0, nx⟩
              case measure => simp [intOf]; omega
        · obtain ⟨j, rfl⟩ : ∃ j, k = j + 1 := ⟨k - 1, by omega⟩
          have hlj : j < t.rev.length := by omega
          obtain ⟨b2, off2, hbb, d2⟩ := RL.at1 (fun x => .int .i64 x) (fun _ => rfl) (hr.out.below nx) hlj
          simp only [Option.some.injEq, Addr.mk.injEq] at hbb
          obtain ⟨rfl, rfl, _⟩ := hbb
          have hgj : t.rev.getD j 0 = t.rev[j] := by simp [hlj]
          have hiff : riseAt t.rev (j + 1) ↔ t.rev[j] < t.rev[j + 1] := by
            unfold riseAt
            rw [hgd, Nat.add_sub_cancel, hgj]
            exact ⟨fun h => h.2.2 (by omega), fun h => ⟨hb'.1, hb'.2, fun _ => h⟩⟩
          by_cases hlt2 : t.rev[j] < t.rev[j + 1]
          · have hr1 := hid (riseTo_succ hri.out (hiff.2 hlt2))
            clear hno hgd hgj hb hb' hri hap hiff
            generalize t.rev[j + 1] = x at *
            generalize t.rev[j] = y at *
            have hMb := hid (fun w' (nx : Below w.heap.size w w') => txn_has t.mt x _ w' hcm.out (hm.out.below nx) n1)
            have hDb := hid (fun w' (nx : Below w.heap.size w w') => txn_has t.dt x _ w' hcd.out (hd.out.below nx) n2)
            by_cases hh1 : hasB t.mt x = true
            · have hv := hid (hnA.out (by rw [hh1]; rfl))
              have hMb := hid (fun w' nx => by have := hMb.out w' nx; rwa [hh1] at this)
              clear hh1 hDb hnA hyA
              go_wp2_with (go_at_call 47; go_loud ((with_reducible refine (hBk.out _).mono ?_); rintro e w1 ⟨rfl, rfl⟩))
              go_wp2_with (go_at_call_of 48 (Value.slice am t.mt.length cm); go_loud ((with_reducible refine (hMb.out _ nx).mono ?_); rintro e w2 ⟨rfl, hb2⟩; replace k0 := k0.step hb2; replace nx := bgo nx hb2; clear e0 e1 e2 e3 e4 e5 e6 e7 e8 e9 l0; have e0 := k0.cell 0; have e1 := k0.cell 1; have e2 := k0.cell 2; have e3 := k0.cell 3; have e4 := k0.cell 4; have e5 := k0.cell 5; have e6 := k0.cell 6; have e7 := k0.cell 7; have e8 := k0.cell 8; have e9 := k0.cell 9; simp only [List.getElem?_toArray, List.getElem?_cons_zero, List.getElem?_cons_succ] at e0 e1 e2 e3 e4 e5 e6 e7 e8 e9; have l0 := k0.lt))
              go_ret
              exact ⟨ret_b hv.out.symm, nx⟩
            · rw [Bool.not_eq_true] at hh1
              have hMb := hid (fun w' nx => by have := hMb.out w' nx; rwa [hh1] at this)
              by_cases hh2 : hasB t.dt x = true
              · have hv := hid (hnA.out (by rw [hh1, hh2]; rfl))
                have hDb := hid (fun w' nx => by have := hDb.out w' nx; rwa [hh2] at this)
                clear hh1 hh2 hnA hyA
                go_wp2_with (go_at_call 47; go_loud ((with_reducible refine (hBk.out _).mono ?_); rintro e w1 ⟨rfl, rfl⟩))
                go_wp2_with (go_at_call_of 48 (Value.slice am t.mt.length cm); go_loud ((with_reducible refine (hMb.out _ nx).mono ?_); rintro e w2 ⟨rfl, hb2⟩; replace k0 := k0.step hb2; replace nx := bgo nx hb2; clear e0 e1 e2 e3 e4 e5 e6 e7 e8 e9 l0; have e0 := k0.cell 0; have e1 := k0.cell 1; have e2 := k0.cell 2; have e3 := k0.cell 3; have e4 := k0.cell 4; have e5 := k0.cell 5; have e6 := k0.cell 6; have e7 := k0.cell 7; have e8 := k0.cell 8; have e9 := k0.cell 9; simp only [List.getElem?_toArray, List.getElem?_cons_zero, List.getElem?_cons_succ] at e0 e1 e2 e3 e4 e5 e6 e7 e8 e9; have l0 := k0.lt))
                go_wp2_with (go_at_call_of 48 (Value.slice ad t.dt.length cd); go_loud ((with_reducible refine (hDb.out _ nx).mono ?_); rintro e w2 ⟨rfl, hb2⟩; replace k0 := k0.step hb2; replace nx := bgo nx hb2; clear e0 e1 e2 e3 e4 e5 e6 e7 e8 e9 l0; have e0 := k0.cell 0; have e1 := k0.cell 1; have e2 := k0.cell 2; have e3 := k0.cell 3; have e4 := k0.cell 4; have e5 := k0.cell 5; have e6 := k0.cell 6; have e7 := k0.cell 7; have e8 := k0.cell 8; have e9 := k0.cell 9; simp only [List.getElem?_toArray, List.getElem?_cons_zero, List.getElem?_cons_succ] at e0 e1 e2 e3 e4 e5 e6 e7 e8 e9; have l0 := k0.lt))
                go_ret
                exact ⟨ret_b hv.out.symm, nx⟩
              · rw [Bool.not_eq_true] at hh2
                have hDb := hid (fun w' nx => by have := hDb.out w' nx; rwa [hh2] at this)
                have hy := hid (hyA.out (by rw [hh1, hh2]; rfl))
                clear hh1 hh2 hnA hyA
                go_wp2_with (go_at_call 47; go_loud ((with_reducible refine (hBk.out _).mono ?_); rintro e w1 ⟨rfl, rfl⟩))
                go_wp2_with (go_at_call_of 48 (Value.slice am t.mt.length cm); go_loud ((with_reducible refine (hMb.out _ nx).mono ?_); rintro e w2 ⟨rfl, hb2⟩; replace k0 := k0.step hb2; replace nx := bgo nx hb2; clear e0 e1 e2 e3 e4 e5 e6 e7 e8 e9 l0; have e0 := k0.cell 0; have e1 := k0.cell 1; have e2 := k0.cell 2; have e3 := k0.cell 3; have e4 := k0.cell 4; have e5 := k0.cell 5; have e6 := k0.cell 6; have e7 := k0.cell 7; have e8 := k0.cell 8; have e9 := k0.cell 9; simp only [List.getElem?_toArray, List.getElem?_cons_zero, List.getElem?_cons_succ] at e0 e1 e2 e3 e4 e5 e6 e7 e8 e9; have l0 := k0.lt))
                go_wp2_with (go_at_call_of 48 (Value.slice ad t.dt.length cd); go_loud ((with_reducible refine (hDb.out _ nx).mono ?_); rintro e w2 ⟨rfl, hb2⟩; replace k0 := k0.step hb2; replace nx := bgo nx hb2; clear e0 e1 e2 e3 e4 e5 e6 e7 e8 e9 l0; have e0 := k0.cell 0; have e1 := k0.cell 1; have e2 := k0.cell 2; have e3 := k0.cell 3; have e4 := k0.cell 4; have e5 := k0.cell 5; have e6 := k0.cell 6; have e7 := k0.cell 7; have e8 := k0.cell 8; have e9 := k0.cell 9; simp only [List.getElem?_toArray, List.getElem?_cons_zero, List.getElem?_cons_succ] at e0 e1 e2 e3 e4 e5 e6 e7 e8 e9; have l0 := k0.lt))
                go_roundw
                case rel => exact ⟨j + 1 + 1, by omega, by go_num, hr1, hy, k0, nx⟩
                case measure => simp [intOf]; omega
          · have hv := hid (hno.out (fun hh => hlt2 (hiff.1 hh)))
            clear hno hgd hgj hb hb' hri hap hiff hnA hyA
            generalize t.rev[j + 1] = x at *
            generalize t.rev[j] = y at *
            go_wp2_with (go_at_call 47; go_loud ((with_reducible refine (hBk.out _).mono ?_); rintro e w1 ⟨rfl, rfl⟩))
            go_ret
            exact ⟨ret_b hv.out.symm, nx⟩
      · have hv := hid (hno.out (fun hh => hb (by
          unfold riseAt at hh
          rw [hgd] at hh
          exact decide_eq_true ⟨hh.1, hh.2.1⟩)))
        rw [Bool.not_eq_true] at hb
        have hBk := fun w => hBk w
        rw [hb] at hBk
        replace hBk := hid hBk
        clear hno hgd hb hri hap hnA hyA
        generalize t.rev[k] = x at *
        go_wp2_with (go_at_call 47; go_loud ((with_reducible refine (hBk.out _).mono ?_); rintro e w1 ⟨rfl, rfl⟩))
        go_ret
        exact ⟨ret_b hv.out.symm, nx⟩
    · obtain rfl : k = t.rev.length := by omega
      have hrise := hid ((rise_iff t.rev).2 hri.out)
      have hapr := hid (show ∀ j (hj : j < t.rev.length), (!hasB t.mt t.rev[j] && !hasB t.dt t.rev[j]) = true from fun j hj => hap.out j hj hj)
      clear hri hap
      go_wp2
      go_loopw [6, 70] (fun _ i wr => ∃ k : Nat, k ≤ t.mt.length ∧ i = .int .i64 k ∧ Hid (∀ j, j < k → ∀ (hj : j < t.mt.length), (!hasB t.dt t.mt[j].block) = true) ∧ Blk wr w.heap.size #[.int .i64 t.seq, .slice am t.mt.length cm, .slice ad t.dt.length cd, .slice ar t.rev.length cr, .bool t.h0.on, .int .i64 t.h0.left, .bool t.h1.on, .int .i64 t.h1.left, .bool t.h2.on, .int .i64 t.h2.left] 55 ∧ Below w.heap.size w wr) (fun _ i _ => t.mt.length - (intOf i).toNat)
      case atStart => exact ⟨0, Nat.zero_le _, rfl, hid (fun j hj => absurd hj (Nat.not_lt_zero j)), k0, nx⟩
      case round =>
        clear k0 nx e0 e1 e2 e3 e4 e5 e6 e7 e8 e9 l0
        obtain ⟨k, hk, rfl, hap, k0, nx⟩ := hrel
        have e0 := k0.cell 0; have e1 := k0.cell 1; have e2 := k0.cell 2; have e3 := k0.cell 3; have e4 := k0.cell 4; have e5 := k0.cell 5; have e6 := k0.cell 6; have e7 := k0.cell 7; have e8 := k0.cell 8; have e9 := k0.cell 9; simp only [List.getElem?_toArray, List.getElem?_cons_zero, List.getElem?_cons_succ] at e0 e1 e2 e3 e4 e5 e6 e7 e8 e9; have l0 := k0.lt
        by_cases hlt : k < t.mt.length
        · obtain ⟨b1, o1, rfl, d0, d1⟩ := RL.at2 (fun x => .int .i64 x.block) (fun x => .string x.text) (fun _ => rfl) (hm.out.below nx) hlt
          have hnA := hid (show (!hasB t.dt t.mt[k].block) = false → gT = false from fun hh => hng.out (.inr (.inr (.inr (.inr (.inl (ham.out k hlt hh)))))))
          have hyA := hid (show (!hasB t.dt t.mt[k].block) = true → ∀ j, j < k + 1 → ∀ (hj : j < t.mt.length), (!hasB t.dt t.mt[j].block) = true from fun hh j hj hj2 => by
            by_cases e : j = k
            · subst e; exact hh
            · exact hap.out j (by omega) hj2)
          generalize t.mt[k] = c at *
          obtain ⟨x, ct⟩ := c
          dsimp only at *
          have hDb := hid (fun w' (nx : Below w.heap.size w w') => txn_has t.dt x _ w' hcd.out (hd.out.below nx) n2)
          replace k0 := k0.alloc (.cells #[.int .i64 x, .string ct] 46)
          have nx' := nx
          replace nx := bal nx (.cells #[.int .i64 x, .string ct] 46)
          clear e0 e1 e2 e3 e4 e5 e6 e7 e8 e9 l0; have e0 := k0.cell 0; have e1 := k0.cell 1; have e2 := k0.cell 2; have e3 := k0.cell 3; have e4 := k0.cell 4; have e5 := k0.cell 5; have e6 := k0.cell 6; have e7 := k0.cell 7; have e8 := k0.cell 8; have e9 := k0.cell 9; simp only [List.getElem?_toArray, List.getElem?_cons_zero, List.getElem?_cons_succ] at e0 e1 e2 e3 e4 e5 e6 e7 e8 e9; have l0 := k0.lt
          have kx := Blk.new wr #[.int .i64 x, .string ct] 46
          have x0 := kx.cell 0
          simp only [List.getElem?_toArray, List.getElem?_cons_zero, List.getElem?_cons_succ] at x0
          by_cases hh2 : hasB t.dt x = true
          · have hv := hid (hnA.out (by rw [hh2]; rfl))
            have hDb := hid (fun w' nx => by have := hDb.out w' nx; rwa [hh2] at this)
            clear hh2 hnA hyA hap
            go_wp2_with (go_at_call_of 48 (Value.slice ad t.dt.length cd); go_loud ((with_reducible refine (hDb.out _ nx).mono ?_); rintro e w2 ⟨rfl, hb2⟩; replace k0 := k0.step hb2; replace nx := bgo nx hb2; clear e0 e1 e2 e3 e4 e5 e6 e7 e8 e9 l0; have e0 := k0.cell 0; have e1 := k0.cell 1; have e2 := k0.cell 2; have e3 := k0.cell 3; have e4 := k0.cell 4; have e5 := k0.cell 5; have e6 := k0.cell 6; have e7 := k0.cell 7; have e8 := k0.cell 8; have e9 := k0.cell 9; simp only [List.getElem?_toArray, List.getElem?_cons_zero, List.getElem?_cons_succ] at e0 e1 e2 e3 e4 e5 e6 e7 e8 e9; have l0 := k0.lt))
            go_ret
            exact ⟨ret_b hv.out.symm, nx⟩
          · rw [Bool.not_eq_true] at hh2
            have hDb := hid (fun w' nx => by have := hDb.out w' nx; rwa [hh2] at this)
            have hy := hid (hyA.out (by rw [hh2]; rfl))
            clear hh2 hnA hyA hap
            go_wp2_with (go_at_call_of 48 (Value.slice ad t.dt.length cd); go_loud ((with_reducible refine (hDb.out _ nx).mono ?_); rintro e w2 ⟨rfl, hb2⟩; replace k0 := k0.step hb2; replace nx := bgo nx hb2; clear e0 e1 e2 e3 e4 e5 e6 e7 e8 e9 l0; have e0 := k0.cell 0; have e1 := k0.cell 1; have e2 := k0.cell 2; have e3 := k0.cell 3; have e4 := k0.cell 4; have e5 := k0.cell 5; have e6 := k0.cell 6; have e7 := k0.cell 7; have e8 := k0.cell 8; have e9 := k0.cell 9; simp only [List.getElem?_toArray, List.getElem?_cons_zero, List.getElem?_cons_succ] at e0 e1 e2 e3 e4 e5 e6 e7 e8 e9; have l0 := k0.lt))
            go_roundw
            case rel => first | exact ⟨k + 1, by omega, by go_num, hy, k0, nx⟩ | ((repeat apply Exists.intro); refine ⟨⟨k + 1, by omega, ?_, hy, k0, nx⟩, rfl⟩; go_num)
            case measure => simp [intOf]; omega
        · obtain rfl : k = t.mt.length := by omega
          have hapm := hid (hay.out hapr.out (fun j hj => hap.out j hj hj))
          clear hap hapr
          go_wp2
          go_loopw [8, 82] (fun _ i wr => ∃ k : Nat, k ≤ 3 ∧ i = .int .i64 k ∧ Hid (∀ j, j < k → (if j = 0 then hOk t.h0 else if j = 1 then hOk t.h1 else hOk t.h2) = true) ∧ Blk wr w.heap.size #[.int .i64 t.seq, .slice am t.mt.length cm, .slice ad t.dt.length cd, .slice ar t.rev.length cr, .bool t.h0.on, .int .i64 t.h0.left, .bool t.h1.on, .int .i64 t.h1.left, .bool t.h2.on, .int .i64 t.h2.left] 55 ∧ Below w.heap.size w wr) (fun _ i _ => 3 - (intOf i).toNat)
          case atStart => exact ⟨0, by decide, rfl, hid (fun j hj => absurd hj (Nat.not_lt_zero j)), k0, nx⟩
          case round =>
            clear k0 nx e0 e1 e2 e3 e4 e5 e6 e7 e8 e9 l0
            obtain ⟨k, hk, rfl, hall, k0, nx⟩ := hrel
            have l0 := k0.lt
            by_cases hlt : k < 3
            · obtain (rfl | rfl | rfl) : k = 0 ∨ k = 1 ∨ k = 2 := by omega
              · have hi := hi3.out wr
                replace hi := hi.1
                have hof := hOk_iff' t.h0
                have hnh := fun hh => hng.out (.inr (.inr (.inr (.inr (.inr (.inl hh))))))
                generalize t.h0.on = o at *
                generalize hle : t.h0.left = lf at *
                replace hnh := hid hnh; replace hle := hid hle
                by_cases hoo : hOk t.h0 = true
                · obtain ⟨a1, a2, a3⟩ := hof.1 hoo
                  have hoo2 := hid hoo
                  have hall2 := hid (show ∀ j, j < 0 + 1 → (if j = 0 then hOk t.h0 else if j = 1 then hOk t.h1 else hOk t.h2) = true from by
                    intro j hj
                    by_cases e : j = 0
                    · subst e; exact hoo2.out
                    · exact hall.out j (by omega))
                  clear hof hoo
                  by_cases hz : lf = 0
                  · subst hz
                    cases o
                    · go_wp2
                      go_roundw
                      case rel => first | exact ⟨0 + 1, by decide, rfl, hall2, k0.alloc _, bal nx _⟩ | ((repeat apply Exists.intro); exact ⟨⟨0 + 1, by decide, rfl, hall2, k0.alloc _, bal nx _⟩, rfl⟩)
                      case measure => simp [intOf]
                    · go_wp2
                      go_roundw
                      case rel => first | exact ⟨0 + 1, by decide, rfl, hall2, k0.alloc _, bal nx _⟩ | ((repeat apply Exists.intro); exact ⟨⟨0 + 1, by decide, rfl, hall2, k0.alloc _, bal nx _⟩, rfl⟩)
                      case measure => simp [intOf]
                  · have ho : o = true := a3.resolve_right hz
                    have hz2 : 0 < lf := by omega
                    subst ho
                    clear hz a3
                    go_wp2
                    go_roundw
                    case rel => first | exact ⟨0 + 1, by decide, rfl, hall2, k0.alloc _, bal nx _⟩ | ((repeat apply Exists.intro); exact ⟨⟨0 + 1, by decide, rfl, hall2, k0.alloc _, bal nx _⟩, rfl⟩)
                    case measure => simp [intOf]
                · replace hoo : hOk t.h0 = false := by simpa using hoo
                  have hgf := hid (hnh.out hoo)
                  have hof2 : ¬ (0 ≤ lf ∧ lf ≤ 24 ∧ (o = true ∨ lf = 0)) := fun h => by rw [hof.2 h] at hoo; cases hoo
                  clear hof hoo
                  by_cases q1 : lf < 0
                  · clear hof2
                    go_wp2
                    go_ret
                    exact ⟨ret_b hgf.out.symm, bal nx _⟩
                  · by_cases q2 : 24 < lf
                    · clear hof2
                      go_wp2
                      go_ret
                      exact ⟨ret_b hgf.out.symm, bal nx _⟩
                    · have q3 : (lf != 0) = true := bne_iff_ne.2 (fun hz => hof2 ⟨by omega, by omega, .inr hz⟩)
                      have q4 : o = false := by
                        cases o
                        · rfl
                        · exact absurd ⟨by omega, by omega, .inl rfl⟩ hof2
                      subst q4
                      clear hof2
                      go_wp2
                      go_ret
                      exact ⟨ret_b hgf.out.symm, bal nx _⟩
              · have hi := hi3.out wr
                replace hi := hi.2.1
                have hof := hOk_iff' t.h1
                have hnh := fun hh => hng.out (.inr (.inr (.inr (.inr (.inr (.inr (.inl hh)))))))
                generalize t.h1.on = o at *
                generalize hle : t.h1.left = lf at *
                replace hnh := hid hnh; replace hle := hid hle
                by_cases hoo : hOk t.h1 = true
                · obtain ⟨a1, a2, a3⟩ := hof.1 hoo
                  have hoo2 := hid hoo
                  have hall2 := hid (show ∀ j, j < 1 + 1 → (if j = 0 then hOk t.h0 else if j = 1 then hOk t.h1 else hOk t.h2) = true from by
                    intro j hj
                    by_cases e : j = 1
                    · subst e; exact hoo2.out
                    · exact hall.out j (by omega))
                  clear hof hoo
                  by_cases hz : lf = 0
                  · subst hz
                    cases o
                    · go_wp2
                      go_roundw
                      case rel => first | exact ⟨1 + 1, by decide, rfl, hall2, k0.alloc _, bal nx _⟩ | ((repeat apply Exists.intro); exact ⟨⟨1 + 1, by decide, rfl, hall2, k0.alloc _, bal nx _⟩, rfl⟩)
                      case measure => simp [intOf]
                    · go_wp2
                      go_roundw
                      case rel => first | exact ⟨1 + 1, by decide, rfl, hall2, k0.alloc _, bal nx _⟩ | ((repeat apply Exists.intro); exact ⟨⟨1 + 1, by decide, rfl, hall2, k0.alloc _, bal nx _⟩, rfl⟩)
                      case measure => simp [intOf]
                  · have ho : o = true := a3.resolve_right hz
                    have hz2 : 0 < lf := by omega
                    subst ho
                    clear hz a3
                    go_wp2
                    go_roundw
                    case rel => first | exact ⟨1 + 1, by decide, rfl, hall2, k0.alloc _, bal nx _⟩ | ((repeat apply Exists.intro); exact ⟨⟨1 + 1, by decide, rfl, hall2, k0.alloc _, bal nx _⟩, rfl⟩)
                    case measure => simp [intOf]
                · replace hoo : hOk t.h1 = false := by simpa using hoo
                  have hgf := hid (hnh.out hoo)
                  have hof2 : ¬ (0 ≤ lf ∧ lf ≤ 24 ∧ (o = true ∨ lf = 0)) := fun h => by rw [hof.2 h] at hoo; cases hoo
                  clear hof hoo
                  by_cases q1 : lf < 0
                  · clear hof2
                    go_wp2
                    go_ret
                    exact ⟨ret_b hgf.out.symm, bal nx _⟩
                  · by_cases q2 : 24 < lf
                    · clear hof2
                      go_wp2
                      go_ret
                      exact ⟨ret_b hgf.out.symm, bal nx _⟩
                    · have q3 : (lf != 0) = true := bne_iff_ne.2 (fun hz => hof2 ⟨by omega, by omega, .inr hz⟩)
                      have q4 : o = false := by
                        cases o
                        · rfl
                        · exact absurd ⟨by omega, by omega, .inl rfl⟩ hof2
                      subst q4
                      clear hof2
                      go_wp2
                      go_ret
                      exact ⟨ret_b hgf.out.symm, bal nx _⟩
              · have hi := hi3.out wr
                replace hi := hi.2.2
                have hof := hOk_iff' t.h2
                have hnh := fun hh => hng.out (.inr (.inr (.inr (.inr (.inr (.inr (.inr hh)))))))
                generalize t.h2.on = o at *
                generalize hle : t.h2.left = lf at *
                replace hnh := hid hnh; replace hle := hid hle
                by_cases hoo : hOk t.h2 = true
                · obtain ⟨a1, a2, a3⟩ := hof.1 hoo
                  have hoo2 := hid hoo
                  have hall2 := hid (show ∀ j, j < 2 + 1 → (if j = 0 then hOk t.h0 else if j = 1 then hOk t.h1 else hOk t.h2) = true from by
                    intro j hj
                    by_cases e : j = 2
                    · subst e; exact hoo2.out
                    · exact hall.out j (by omega))
                  clear hof hoo
                  by_cases hz : lf = 0
                  · subst hz
                    cases o
                    · go_wp2
                      go_roundw
                      case rel => first | exact ⟨2 + 1, by decide, rfl, hall2, k0.alloc _, bal nx _⟩ | ((repeat apply Exists.intro); exact ⟨⟨2 + 1, by decide, rfl, hall2, k0.alloc _, bal nx _⟩, rfl⟩)
                      case measure => simp [intOf]
                    · go_wp2
                      go_roundw
                      case rel => first | exact ⟨2 + 1, by decide, rfl, hall2, k0.alloc _, bal nx _⟩ | ((repeat apply Exists.intro); exact ⟨⟨2 + 1, by decide, rfl, hall2, k0.alloc _, bal nx _⟩, rfl⟩)
                      case measure => simp [intOf]
                  · have ho : o = true := a3.resolve_right hz
                    have hz2 : 0 < lf := by omega
                    subst ho
                    clear hz a3
                    go_wp2
                    go_roundw
                    case rel => first | exact ⟨2 + 1, by decide, rfl, hall2, k0.alloc _, bal nx _⟩ | ((repeat apply Exists.intro); exact ⟨⟨2 + 1, by decide, rfl, hall2, k0.alloc _, bal nx _⟩, rfl⟩)
                    case measure => simp [intOf]
                · replace hoo : hOk t.h2 = false := by simpa using hoo
                  have hgf := hid (hnh.out hoo)
                  have hof2 : ¬ (0 ≤ lf ∧ lf ≤ 24 ∧ (o = true ∨ lf = 0)) := fun h => by rw [hof.2 h] at hoo; cases hoo
                  clear hof hoo
                  by_cases q1 : lf < 0
                  · clear hof2
                    go_wp2
                    go_ret
                    exact ⟨ret_b hgf.out.symm, bal nx _⟩
                  · by_cases q2 : 24 < lf
                    · clear hof2
                      go_wp2
                      go_ret
                      exact ⟨ret_b hgf.out.symm, bal nx _⟩
                    · have q3 : (lf != 0) = true := bne_iff_ne.2 (fun hz => hof2 ⟨by omega, by omega, .inr hz⟩)
                      have q4 : o = false := by
                        cases o
                        · rfl
                        · exact absurd ⟨by omega, by omega, .inl rfl⟩ hof2
                      subst q4
                      clear hof2
                      go_wp2
                      go_ret
                      exact ⟨ret_b hgf.out.symm, bal nx _⟩
            · obtain rfl : k = 3 := by omega
              have hv := hid (hyes.out hsq.out hcm'.out hcd'.out hrise.out hapm.out (hall.out 0 (by decide)) (hall.out 1 (by decide)) (hall.out 2 (by decide)))
              clear hall
              go_wp2
              go_ret
              exact ⟨ret_b hv.out.symm, nx⟩
end Go.Proofs.YtjhmfljlclajnacDoor

namespace Wb
open Go Go.RowKit
theorem Own.cellsOf {α : Type} {f : α → List Value} {base : Nat} {e : TypeId} {c : Nat} {w : World} {v : Value} {l : List α} (h : Own f base e c w v l) {g : Nat} (hg : v.ownBlock = some g) : ∃ cur, w.heap[g]? = some (.cells cur e (0, 0)) := by
  obtain ⟨_, h2⟩ := h
  rcases h2 with ⟨rfl, _⟩ | ⟨g', cap, cur, rfl, _, hh, _⟩
  · cases hg
  · simp only [Value.ownBlock, Option.some.injEq] at hg
    subst hg
    exact ⟨cur, hh⟩
theorem Own.apart {α β : Type} {f : α → List Value} {f2 : β → List Value} {base base2 : Nat} {e e2 : TypeId} {c c2 : Nat} {w : World} {v v2 : Value} {l : List α} {l2 : List β} (h : Own f base e c w v l) (h2 : Own f2 base2 e2 c2 w v2 l2) (hne : e ≠ e2) : v.ownBlock = none ∨ v.ownBlock ≠ v2.ownBlock := by
  cases hv : v.ownBlock with
  | none => exact .inl rfl
  | some g =>
    refine .inr fun hh => ?_
    obtain ⟨c1, h1⟩ := h.cellsOf hv
    obtain ⟨c2, h3⟩ := h2.cellsOf hh.symm
    rw [h1] at h3
    simp only [Option.some.injEq, Obj.cells.injEq] at h3
    exact hne h3.2.1
/-- What is owned stays, while a row of another type is appended to. -/
theorem Own.grownTy {α β : Type} {f : α → List Value} {f2 : β → List Value} {base base2 : Nat} {e e2 : TypeId} {c c2 : Nat} {w w' : World} {v v2 : Value} {l : List α} {l2 : List β} (h : Own f base e c w v l) (h2 : Own f2 base2 e2 c2 w v2 l2) (hne : e ≠ e2) (hg : w.grownBy w' v2.ownBlock) : Own f base e c w' v l :=
  h.grown hg (h.apart h2 hne)
/-- An owned transaction. -/
def OTxn (base : Nat) (tc ti : TypeId) (w : World) (v : Value) (t : Txn) : Prop :=
  ∃ vm vd vr, v = txnV t vm vd vr ∧ Own cpyC base tc 2 w vm t.mt ∧ Own cpyC base tc 2 w vd t.dt ∧ Own intC base ti 1 w vr t.rev ∧ t.mt.length ≤ 5864062014805 ∧ t.dt.length ≤ 5864062014805 ∧ t.rev.length ≤ 17592186044160
section
variable {base : Nat} {tc ti tt : TypeId} {w w' : World} {v : Value} {t : Txn}
theorem OTxn.reads (h : OTxn base tc ti w v t) : RTxn w v t := by
  obtain ⟨vm, vd, vr, hv, h1, h2, h3, h4⟩ := h
  exact ⟨vm, vd, vr, hv, h1.reads, h2.reads, h3.reads, h4⟩
theorem OTxn.below (h : OTxn base tc ti w v t) (hb : Below w.heap.size w w') : OTxn base tc ti w' v t := by
  obtain ⟨vm, vd, vr, hv, h1, h2, h3, h4⟩ := h
  exact ⟨vm, vd, vr, hv, h1.below hb, h2.below hb, h3.below hb, h4⟩
theorem OTxn.mono (h : OTxn base tc ti w v t) {b2 : Nat} (hb : b2 ≤ base) : OTxn b2 tc ti w v t := by
  obtain ⟨vm, vd, vr, hv, h1, h2, h3, h4⟩ := h
  exact ⟨vm, vd, vr, hv, h1.mono hb, h2.mono hb, h3.mono hb, h4⟩
theorem OTxn.grownTy {β : Type} {f2 : β → List Value} {base2 : Nat} {e2 : TypeId} {c2 : Nat} {v2 : Value} {l2 : List β} (h : OTxn base tc ti w v t) (h2 : Own f2 base2 e2 c2 w v2 l2) (hc : tc ≠ e2) (hi : ti ≠ e2) (hg : w.grownBy w' v2.ownBlock) : OTxn base tc ti w' v t := by
  obtain ⟨vm, vd, vr, hv, h1, h2', h3, h4⟩ := h
  exact ⟨vm, vd, vr, hv, h1.grownTy h2 hc hg, h2'.grownTy h2 hc hg, h3.grownTy h2 hi hg, h4⟩
theorem OTxn.tv (h : OTxn base tc ti w v t) : ∃ x : TV, x.t = t ∧ v = x.val ∧ OTxn base tc ti w x.val x.t := by
  obtain ⟨x, hx, hv, _⟩ := h.reads.tv
  exact ⟨x, hx, hv, by rw [hx, ← hv]; exact h⟩
/-- An owned list of owned transactions. -/
def OTxns (base : Nat) (tt tc ti : TypeId) (w : World) (v : Value) (l : List Txn) : Prop :=
  ∃ xs : List TV, Own tvC base tt 10 w v xs ∧ xs.map (·.t) = l ∧ ∀ x ∈ xs, OTxn base tc ti w x.val x.t
variable {l : List Txn}
theorem OTxns.nil (base : Nat) (tt tc ti : TypeId) (w : World) : OTxns base tt tc ti w (.slice none 0 0) [] := ⟨[], Own.nil _ _ _ _ _, rfl, fun _ h => absurd h List.not_mem_nil⟩
theorem OTxns.below (h : OTxns base tt tc ti w v l) (hb : Below w.heap.size w w') : OTxns base tt tc ti w' v l := by
  obtain ⟨xs, h1, h2, h3⟩ := h
  exact ⟨xs, h1.below hb, h2, fun x hx => (h3 x hx).below hb⟩
theorem OTxns.mono (h : OTxns base tt tc ti w v l) {b2 : Nat} (hb : b2 ≤ base) : OTxns b2 tt tc ti w v l := by
  obtain ⟨xs, h1, h2, h3⟩ := h
  exact ⟨xs, h1.mono hb, h2, fun x hx => (h3 x hx).mono hb⟩
theorem OTxns.reads (h : OTxns base tt tc ti w v l) (hl : l.length ≤ 1099511627744) : RTxns w v l := by
  obtain ⟨xs, h1, rfl, h3⟩ := h
  exact ⟨xs, h1.reads, rfl, fun x hx => (h3 x hx).reads, by simpa using hl⟩
theorem OTxns.form (h : OTxns base tt tc ti w v l) : ∃ a c, v = .slice a l.length c := by
  obtain ⟨xs, h1, rfl, h3⟩ := h
  obtain ⟨a, c, hv⟩ := h1.form
  exact ⟨a, c, by rw [hv, List.length_map]⟩
/-- Behind an append of one more. -/
theorem OTxns.pushed {xs : List TV} {v' : Value} {y : TV} (h1 : Own tvC base tt 10 w v xs) (h3 : ∀ x ∈ xs, OTxn base tc ti w x.val x.t) (hy : OTxn base tc ti w y.val y.t) (hc : tc ≠ tt) (hi : ti ≠ tt) (ho : Own tvC base tt 10 w' v' (xs ++ [y])) (hg : w.grownBy w' v.ownBlock) :
    OTxns base tt tc ti w' v' (xs.map (·.t) ++ [y.t]) := by
  refine ⟨xs ++ [y], ho, by simp, fun x hx => ?_⟩
  rcases List.mem_append.1 hx with hx | hx
  · exact (h3 x hx).grownTy h1 hc hi hg
  · rw [List.mem_singleton] at hx
    subst hx
    exact hy.grownTy h1 hc hi hg
end
/-- Element k of a slice of transactions, its slices written out. -/
theorem RTxns.at3 {w : World} {a : Option Addr} {n cap : Nat} {l : List Txn} (h : RTxns w (.slice a n cap) l) {k : Nat} (hk : k < l.length) :
    ∃ b off am cm ad cd ar cr, a = some ⟨b, off, none⟩ ∧ RTxn w (txnV l[k] (.slice am l[k].mt.length cm) (.slice ad l[k].dt.length cd) (.slice ar l[k].rev.length cr)) l[k] ∧ w.cell? ⟨b, off + k * 10, none⟩ = some (.int .i64 l[k].seq) ∧ w.cell? ⟨b, off + k * 10 + 1, none⟩ = some (.slice am l[k].mt.length cm) ∧ w.cell? ⟨b, off + k * 10 + 2, none⟩ = some (.slice ad l[k].dt.length cd) ∧ w.cell? ⟨b, off + k * 10 + 3, none⟩ = some (.slice ar l[k].rev.length cr) ∧ w.cell? ⟨b, off + k * 10 + 4, none⟩ = some (.bool l[k].h0.on) ∧ w.cell? ⟨b, off + k * 10 + 5, none⟩ = some (.int .i64 l[k].h0.left) ∧ w.cell? ⟨b, off + k * 10 + 6, none⟩ = some (.bool l[k].h1.on) ∧ w.cell? ⟨b, off + k * 10 + 7, none⟩ = some (.int .i64 l[k].h1.left) ∧ w.cell? ⟨b, off + k * 10 + 8, none⟩ = some (.bool l[k].h2.on) ∧ w.cell? ⟨b, off + k * 10 + 9, none⟩ = some (.int .i64 l[k].h2.left) := by
  obtain ⟨b, off, vm, vd, vr, ha, hr, c0, c1, c2, c3, c4⟩ := h.at hk
  have hr' := hr
  obtain ⟨vm', vd', vr', hv, hm, hd, hrr, n1, n2, n3⟩ := hr
  simp only [txnV, Value.agg.injEq, Array.mk.injEq, List.cons.injEq, and_true, true_and] at hv
  obtain ⟨rfl, rfl, rfl⟩ := hv
  obtain ⟨am, cm, rfl, _⟩ := hm.form
  obtain ⟨ad, cd, rfl, _⟩ := hd.form
  obtain ⟨ar, cr, rfl, _⟩ := hrr.form
  exact ⟨b, off, am, cm, ad, cd, ar, cr, ha, hr', c0, c1, c2, c3, c4⟩
end Wb

namespace Wb
open Go Go.RowKit
theorem Own.setCells {α : Type} {f : α → List Value} {base : Nat} {e : TypeId} {c : Nat} {v : Value} {l : List α} : ∀ (ps : List (Addr × Value)) (w : World), Own f base e c w v l → (∀ p ∈ ps, p.1.block < base) → Own f base e c (ps.foldl (fun w p => w.setCell p.1 p.2) w) v l
  | [], _, h, _ => h
  | p :: ps, w, h, hp => Own.setCells ps _ (h.setCell (hp p (by simp)) p.2) (fun q hq => hp q (by simp [hq]))
theorem Below.setCells {B : Nat} {w : World} : ∀ (ps : List (Addr × Value)) (w' : World), Below B w w' → (∀ p ∈ ps, B ≤ p.1.block) → Below B w (ps.foldl (fun w p => w.setCell p.1 p.2) w')
  | [], _, h, _ => h
  | p :: ps, w', h, hp => Below.setCells ps _ (h.setCell (hp p (by simp)) p.2) (fun q hq => hp q (by simp [hq]))
end Wb
namespace Go.Proofs.YtjhmfljlclajnacDoor
open Go.RowKit Wb
set_option linter.unusedVariables false
set_option linter.unusedSimpArgs false
set_option maxRecDepth 100000
set_option maxHeartbeats 4000000
theorem elemIntT : Elem Tryd.prog 50 3 1 8 := Elem.mk' (z := .int .i64 0) Tryd.underlying50 (by kernel_rfl) rfl

end Go.Proofs.YtjhmfljlclajnacDoor

namespace Wb
open Go Go.RowKit
def cntI (bs : List Int) (x : Int) : Int := (bs.countP (fun b => b == x) : Nat)
def cntL (bs : List Int) : List Int := (List.range 12).map fun (k : Nat) => cntI bs k
theorem cnt_append (l1 l2 : List Int) (x : Int) : cntI (l1 ++ l2) x = cntI l1 x + cntI l2 x := by simp [cntI]
theorem cnt_one (b x : Int) : cntI [b] x = if b = x then 1 else 0 := by
  by_cases h : b = x <;> simp [cntI, h]
theorem cntL_len (bs : List Int) : (cntL bs).length = 12 := by simp [cntL]
theorem cntL_nil : cntL [] = List.replicate 12 0 := rfl
theorem cntL_get (bs : List Int) {k : Nat} (hk : k < 12) : (cntL bs)[k]'(by rw [cntL_len]; exact hk) = cntI bs k := by simp [cntL]
theorem cnt_nonneg (bs : List Int) (x : Int) : 0 ≤ cntI bs x := by unfold cntI; omega
theorem cnt_le (bs : List Int) (x : Int) : cntI bs x ≤ bs.length := by
  unfold cntI
  have := List.countP_le_length (p := fun b => b == x) (l := bs)
  omega
theorem cntL_step (bs : List Int) {b : Nat} (_hb : b < 12) : cntL (bs ++ [(b : Int)]) = (cntL bs).set b (cntI bs b + 1) := by
  refine List.ext_getElem (by simp [cntL]) fun n h1 h2 => ?_
  rw [cntL_len] at h1
  rw [cntL_get _ h1, List.getElem_set, cnt_append, cnt_one]
  by_cases h : b = n
  · subst h; rw [if_pos rfl, if_pos rfl]
  · rw [if_neg (by omega), if_neg h, cntL_get _ h1]; omega
theorem inI_false {l : List Int} {x : Int} (h : ∀ b ∈ l, b ≠ x) : inI l x = false := by
  unfold inI
  rw [List.any_eq_false]
  intro b hb hh
  exact h b hb (beq_iff_eq.1 hh)
theorem cnt_rise {r : List Int} (h : ∀ k (hk : k < r.length), ∀ i (hi : i < k), r[i] < r[k]) (x : Int) : cntI r x = if inI r x then 1 else 0 := by
  have key : ∀ k, k ≤ r.length → cntI (r.take k) x = if inI (r.take k) x then 1 else 0 := by
    intro k
    induction k with
    | zero => intro _; rfl
    | succ k ih =>
      intro hk
      have hk' : k < r.length := by omega
      rw [inI_step hk', List.take_succ_eq_append_getElem hk', cnt_append, cnt_one, ih (by omega)]
      by_cases hx : r[k] = x
      · have hn : inI (r.take k) x = false := inI_false fun b hb => by
          obtain ⟨i, hi, rfl⟩ := List.mem_iff_getElem.1 hb
          rw [List.length_take] at hi
          rw [List.getElem_take]
          have := h k hk' i (by omega)
          omega
        rw [hn, if_pos hx, beq_iff_eq.2 hx]
        simp
      · have hb : (r[k] == x) = false := beq_eq_false_iff_ne.2 hx
        rw [if_neg hx, hb, Bool.or_false]
        omega
  have := key r.length (Nat.le_refl _)
  rwa [List.take_length] at this
theorem inI_blks (l : List Cpy) (x : Int) : inI (blks l) x = hasB l x := by simp [inI, blks, hasB, List.any_map, Function.comp_def]
theorem cnt_copies {l : List Cpy} (h : copiesB l = true) (x : Int) : cntI (blks l) x = if hasB l x then 1 else 0 := by
  rw [← inI_blks]
  refine cnt_rise (fun k hk i hi => ?_) x
  have hk' : k < l.length := by simpa [blks] using hk
  have := (copies_get h hk').2.2.1 i hi
  simpa [blks] using this
theorem cnt_rev {r : List Int} (h : rise r = true) (x : Int) : cntI r x = if inI r x then 1 else 0 := cnt_rise (fun _ hk i hi => (rise_get h hk).2.2 i hi) x
theorem hasB_mem {l : List Cpy} {b : Int} : hasB l b = true ↔ ∃ c ∈ l, c.block = b := by simp [hasB]
theorem inI_mem {l : List Int} {b : Int} : inI l b = true ↔ b ∈ l := by simp [inI]
theorem apart_iff (t : Txn) : apart t = true ↔ (∀ x, ¬ (inI t.rev x = true ∧ hasB t.mt x = true)) ∧ (∀ x, ¬ (inI t.rev x = true ∧ hasB t.dt x = true)) ∧ (∀ x, ¬ (hasB t.mt x = true ∧ hasB t.dt x = true)) := by
  unfold apart
  rw [Bool.and_eq_true, List.all_eq_true, List.all_eq_true]
  constructor
  · rintro ⟨h1, h2⟩
    refine ⟨fun x ⟨hx, hy⟩ => ?_, fun x ⟨hx, hy⟩ => ?_, fun x ⟨hx, hy⟩ => ?_⟩
    · have := h1 x (inI_mem.1 hx)
      rw [hy] at this; cases this
    · have := h1 x (inI_mem.1 hx)
      rw [hy] at this; simp at this
    · obtain ⟨c, hc, rfl⟩ := hasB_mem.1 hx
      have := h2 c hc
      rw [hy] at this; cases this
  · rintro ⟨h1, h2, h3⟩
    refine ⟨fun b hb => ?_, fun c hc => ?_⟩
    · have hx := inI_mem.2 hb
      cases hm : hasB t.mt b
      · cases hd : hasB t.dt b
        · rfl
        · exact absurd ⟨hx, hd⟩ (h2 b)
      · exact absurd ⟨hx, hm⟩ (h1 b)
    · cases hd : hasB t.dt c.block
      · rfl
      · exact absurd ⟨hasB_mem.2 ⟨c, hc, rfl⟩, hd⟩ (h3 c.block)
/-- All that a transaction names. -/
def allOf (t : Txn) : List Int := (blks t.mt ++ blks t.dt) ++ t.rev
theorem cnt_all {t : Txn} (h1 : copiesB t.mt = true) (h2 : copiesB t.dt = true) (h3 : rise t.rev = true) (x : Int) :
    cntI (allOf t) x = (if hasB t.mt x then 1 else 0) + (if hasB t.dt x then 1 else 0) + (if inI t.rev x then 1 else 0) := by
  unfold allOf
  rw [cnt_append, cnt_append, cnt_copies h1, cnt_copies h2, cnt_rev h3]
theorem apart_cnt {t : Txn} (h1 : copiesB t.mt = true) (h2 : copiesB t.dt = true) (h3 : rise t.rev = true) (h : apart t = true) (x : Int) : cntI (allOf t) x ≤ 1 := by
  rw [cnt_all h1 h2 h3]
  obtain ⟨g1, g2, g3⟩ := (apart_iff t).1 h
  have g1 := g1 x; have g2 := g2 x; have g3 := g3 x
  cases hm : hasB t.mt x <;> cases hd : hasB t.dt x <;> cases hr : inI t.rev x <;> simp_all
theorem cnt_apart {t : Txn} (h1 : copiesB t.mt = true) (h2 : copiesB t.dt = true) (h3 : rise t.rev = true) (h : ∀ k : Nat, k < 12 → cntI (allOf t) k ≤ 1) : apart t = true := by
  have hall : ∀ x, cntI (allOf t) x ≤ 1 := by
    intro x
    by_cases hx : 0 ≤ x ∧ x < 12
    · have := h x.toNat (by omega)
      rwa [Int.toNat_of_nonneg hx.1] at this
    · rw [cnt_all h1 h2 h3]
      have hm : hasB t.mt x = false := by
        cases hh : hasB t.mt x
        · rfl
        · obtain ⟨c, hc, rfl⟩ := hasB_mem.1 hh
          obtain ⟨k, hk, rfl⟩ := List.mem_iff_getElem.1 hc
          exact absurd (of_decide_eq_true (copies_get h1 hk).1) hx
      have hd : hasB t.dt x = false := by
        cases hh : hasB t.dt x
        · rfl
        · obtain ⟨c, hc, rfl⟩ := hasB_mem.1 hh
          obtain ⟨k, hk, rfl⟩ := List.mem_iff_getElem.1 hc
          exact absurd (of_decide_eq_true (copies_get h2 hk).1) hx
      rw [hm, hd]
      cases inI t.rev x <;> decide
  rw [apart_iff]
  refine ⟨fun x ⟨a, b⟩ => ?_, fun x ⟨a, b⟩ => ?_, fun x ⟨a, b⟩ => ?_⟩
  all_goals
    have := hall x
    rw [cnt_all h1 h2 h3, a, b] at this
  · cases hd : hasB t.dt x <;> simp [hd] at this
  · cases hd : hasB t.mt x <;> simp [hd] at this
  · cases hd : inI t.rev x <;> simp [hd] at this
/-! ### Copies, one by one -/
def okC (l : List Cpy) (k : Nat) : Prop := riseAt (blks l) k ∧ (l.getD k ⟨0, ⟨#[]⟩⟩).text.size = 32
def okTo (l : List Cpy) (n : Nat) : Prop := ∀ k, k < n → okC l k
theorem copies_okTo (l : List Cpy) : copiesB l = true ↔ okTo l l.length := by
  unfold copiesB
  rw [Bool.and_eq_true, rise_iff]
  have hl : (blks l).length = l.length := by simp [blks]
  rw [hl]
  constructor
  · rintro ⟨h1, h2⟩ k hk
    refine ⟨h1 k hk, ?_⟩
    rw [List.getD_eq_getElem?_getD, List.getElem?_eq_getElem hk]
    exact of_decide_eq_true (List.all_eq_true.1 h2 _ (List.getElem_mem hk))
  · intro h
    refine ⟨fun k hk => (h k hk).1, ?_⟩
    rw [List.all_eq_true]
    intro c hc
    obtain ⟨k, hk, rfl⟩ := List.mem_iff_getElem.1 hc
    have := (h k hk).2
    rw [List.getD_eq_getElem?_getD, List.getElem?_eq_getElem hk] at this
    exact decide_eq_true this
theorem copies_no {l : List Cpy} {k : Nat} (hk : k < l.length) (h : ¬ okC l k) : copiesB l = false := by
  cases hc : copiesB l
  · rfl
  · exact absurd ((copies_okTo l).1 hc k hk) h
/-- The block before place k. -/
def lastB (l : List Int) (k : Nat) : Int := if k = 0 then -1 else l.getD (k - 1) 0
theorem lastB_succ {l : List Int} {k : Nat} (hk : k < l.length) : lastB l (k + 1) = l[k] := by
  unfold lastB
  rw [if_neg (by omega), Nat.add_sub_cancel]
  simp [hk]
theorem okC_iff {l : List Cpy} {k : Nat} (hk : k < l.length) (hto : okTo l k) : okC l k ↔ lastB (blks l) k < l[k].block ∧ l[k].block < 12 ∧ l[k].text.size = 32 := by
  have e : (blks l).getD k 0 = l[k].block := by simp [blks, hk]
  have e2 : l.getD k ⟨0, ⟨#[]⟩⟩ = l[k] := by simp [hk]
  unfold okC riseAt lastB
  rw [e, e2]
  by_cases h0 : k = 0
  · subst h0
    simp only [Nat.lt_irrefl, false_implies, and_true, if_true]
    omega
  · rw [if_neg h0]
    have hp : 0 ≤ (blks l).getD (k - 1) 0 := (hto (k - 1) (by omega)).1.1
    constructor
    · rintro ⟨⟨a, b, c⟩, d⟩
      exact ⟨c (by omega), b, d⟩
    · rintro ⟨a, b, c⟩
      exact ⟨⟨by omega, b, fun _ => a⟩, c⟩
end Wb

namespace Wb
open Go Go.RowKit
theorem run_index_ints {P : Program} {t e : TypeId} {n : Nat} {i : TypeInfo} (w : World) (ht : P.underlying t = some (.array n e)) (hi : P.info? e = some i) (hs : i.size = 1) (hz : (isAgg e).run P w = .ok false w) (l : List Int) (hl : l.length = n) {k : Nat} (hk : k < l.length) :
    (Instr.index t (.agg (l.map (Value.int .i64)).toArray) (.int .i64 (k : Int))).run P w = .ok (.int .i64 l[k]) w := by
  have h0 : (0 : Int) ≤ (k : Int) ∧ (k : Int) < (n : Int) := by omega
  simp [Instr.index, asIntOf, run_underlying ht, h0, Go.sizeOf, typeInfo, hi, hs, part, hz, Result.andThen, hk]
  omega
end Wb

namespace Wb
open Go Go.RowKit
theorem map_set (l : List Int) (n : Nat) (y : Int) : ((l.map (Value.int .i64)).toArray).setIfInBounds n (.int .i64 y) = ((l.set n y).map (Value.int .i64)).toArray := by
  simp [List.map_set]
theorem notGood {t : Txn} (h : seqOk t.seq = false ∨ copiesB t.mt = false ∨ copiesB t.dt = false ∨ rise t.rev = false ∨ apart t = false ∨ hOk t.h0 = false ∨ hOk t.h1 = false ∨ hOk t.h2 = false) : goodT t = false := by
  cases hg : goodT t
  · rfl
  · obtain ⟨h1, h2, h3, h4, h5, h6, h7, h8⟩ := (goodT_iff t).1 hg
    rw [h1, h2, h3, h4, h5, h6, h7, h8] at h
    simp at h
theorem hOk_iff (h : Hnd) : hOk h = true ↔ 0 ≤ h.left ∧ h.left ≤ 24 ∧ (h.on = true ∨ h.left = 0) := by
  unfold hOk; simp [and_assoc]
end Wb
namespace Go.Proofs.YtjhmfljlclajnacDoor
open Go.RowKit Wb
set_option linter.unusedVariables false
set_option linter.unusedSimpArgs false
set_option maxRecDepth 100000
set_option maxHeartbeats 16000000
theorem index3 (w : World) (o0 o1 o2 : Bool) (l0 l1 l2 : Int) :
    (Instr.index 53 (.agg #[.bool o0, .int .i64 l0, .bool o1, .int .i64 l1, .bool o2, .int .i64 l2]) (.int .i64 0)).run Tryd.prog w = .ok (.agg #[.bool o0, .int .i64 l0]) w ∧
    (Instr.index 53 (.agg #[.bool o0, .int .i64 l0, .bool o1, .int .i64 l1, .bool o2, .int .i64 l2]) (.int .i64 1)).run Tryd.prog w = .ok (.agg #[.bool o1, .int .i64 l1]) w ∧
    (Instr.index 53 (.agg #[.bool o0, .int .i64 l0, .bool o1, .int .i64 l1, .bool o2, .int .i64 l2]) (.int .i64 2)).run Tryd.prog w = .ok (.agg #[.bool o2, .int .i64 l2]) w :=
  ⟨by kernel_rfl, by kernel_rfl, by kernel_rfl⟩

end Go.Proofs.YtjhmfljlclajnacDoor

namespace Go.Proofs.YtjhmfljlclajnacDoor
open Go.RowKit Wb
set_option linter.unusedVariables false
set_option linter.unusedSimpArgs false
set_option maxRecDepth 100000
set_option maxHeartbeats 4000000

end Go.Proofs.YtjhmfljlclajnacDoor

namespace Go.Proofs.YtjhmfljlclajnacDoor
open Go.RowKit Wb
set_option linter.unusedVariables false
set_option linter.unusedSimpArgs false
set_option maxRecDepth 100000
set_option maxHeartbeats 4000000
theorem elemTxn : Elem Tryd.prog 29 55 10 128 := Elem.mk' (z := .agg #[.int .i64 0, .slice none 0 0, .slice none 0 0, .slice none 0 0, .bool false, .int .i64 0, .bool false, .int .i64 0, .bool false, .int .i64 0]) Tryd.underlying29 (by kernel_rfl) rfl

end Go.Proofs.YtjhmfljlclajnacDoor
