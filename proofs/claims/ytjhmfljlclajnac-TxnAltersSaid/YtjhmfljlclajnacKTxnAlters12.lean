/- The walks of the reference's Alter. (gen_alter.py) -/
import Derived.Test.YtjhmfljlclajnacKTxnAlters10
import Derived.Test.YtjhmfljlclajnacKTxnAlters6
namespace Go.Proofs.Ytjhmfljlclajnac
open Go.RowKit Wb
set_option linter.unusedVariables false
set_option linter.unusedSimpArgs false
set_option maxRecDepth 100000
set_option maxHeartbeats 8000000

theorem ref_Alter_chg_new0 (seq : Int) (mt dt : List Cpy) (rev : List Int) (o0 o1 o2 : Bool) (x0 x1 x2 : Int) (am ad ar : Option Addr) (cm cd cr : Nat) (b : Int) (s : ByteArray) (w0 : World) (hm : RL cpyC w0 (.slice am mt.length cm) mt) (hd : RL cpyC w0 (.slice ad dt.length cd) dt) (hr : RL intC w0 (.slice ar rev.length cr) rev) (n1 : mt.length ≤ 12) (n2 : dt.length ≤ 12) (n3 : rev.length ≤ 12) (hgt : goodT ⟨seq, mt, dt, rev, ⟨true, x0⟩, ⟨o1, x1⟩, ⟨o2, x2⟩⟩ = true) (hblk : isBlk b = true) (hs : ((s.size : Int) != 32) = false) (hqm : hasB mt b = false) (hqd : hasB dt b = false) (hqr : inI rev b = false) (hx : 0 < x0) (hx2 : x0 ≤ 24) :
    Calls Try.prog 8 #[.int .i64 0, .agg #[.int .i64 seq, .slice am mt.length cm, .slice ad dt.length cd, .slice ar rev.length cr, .bool true, .int .i64 x0, .bool o1, .int .i64 x1, .bool o2, .int .i64 x2], .int .i64 0, .int .i64 b, .string s] w0 (AltOk w0 ⟨seq, withL mt b s, dt, revK false rev b 12, ⟨true, x0 - 1⟩, ⟨o1, x1⟩, ⟨o2, x2⟩⟩) := by
  have hT : RTxn w0 (txnV ⟨seq, mt, dt, rev, ⟨true, x0⟩, ⟨o1, x1⟩, ⟨o2, x2⟩⟩ (.slice am mt.length cm) (.slice ad dt.length cd) (.slice ar rev.length cr)) ⟨seq, mt, dt, rev, ⟨true, x0⟩, ⟨o1, x1⟩, ⟨o2, x2⟩⟩ := ⟨_, _, _, rfl, hm, hd, hr, by dsimp only; omega, by dsimp only; omega, by dsimp only; omega⟩
  have hCp := hid (fun w' (hb : Below w0.heap.size w0 w') => ref_CopyTxn _ _ w' (hT.below hb))
  have hGd := fun w' (hb : Below w0.heap.size w0 w') => ref_GoodTxn _ _ w' (hT.below hb)
  rw [hgt] at hGd
  replace hGd := hid hGd
  have hBk := hid (by simpa only [hblk] using (fun w' => ref_isBlock b w'))
  have hInM := hid (by simpa only [hqm] using (fun w' (hb : Below w0.heap.size w0 w') => ref_in mt b _ w' (hm.below hb) (by omega)))
  have hInD := hid (by simpa only [hqd] using (fun w' (hb : Below w0.heap.size w0 w') => ref_in dt b _ w' (hd.below hb) (by omega)))
  have hAm := hid (fun x w' (hb : Below w0.heap.size w0 w') => ref_among rev x _ w' (hr.below hb) (by omega))
  have hAb := hid (by simpa only [hqr] using (fun w' (hb : Below w0.heap.size w0 w') => ref_among rev b _ w' (hr.below hb) (by omega)))
  have hWm := hid (fun w' (hb : Below w0.heap.size w0 w') => ref_with mt b s _ w' (hm.below hb) (by omega))
  have hWd := hid (fun w' (hb : Below w0.heap.size w0 w') => ref_with dt b s _ w' (hd.below hb) (by omega))
  have hRm := hid (fun w' (hb : Below w0.heap.size w0 w') => ref_rest mt b _ w' (hm.below hb) (by omega))
  have hRd := hid (fun w' (hb : Below w0.heap.size w0 w') => ref_rest dt b _ w' (hd.below hb) (by omega))
  have hsu := hid (fun n => revK_succ false rev b n)
  have hle := hid (fun n => revK_len false rev b n)
  have hrv0 : revK false rev b 0 = [] := rfl
  have hrv : ∃ G, G = revK false rev b := ⟨_, rfl⟩
  obtain ⟨G, hG⟩ := hrv
  rw [← hG] at hsu hle hrv0 ⊢
  simp only [txnV] at hCp hGd
  replace hqm := hid hqm; replace hqd := hid hqd; replace hqr := hid hqr
  clear hT hm hd hr hgt hG
  have X := St.start [] w0
  go_enter Try.func8, Try.ntmps8
  have e0 : (x0 == 0) = false := beq_eq_false_iff_ne.2 (by omega)
  go_wp2_with (first
    | (refine at_mem rfl ?_; (first | (refine at_load rfl ?_; (first | (refine c_load1 rfl _ _ rfl rfl X (by repeat (first | exact ReadA.here rfl | apply ReadA.there)) ?_) | (refine c_loadN rfl _ _ rfl rfl X (by repeat (first | exact ReadB.here (Nat.le_of_ble_eq_true rfl) | apply ReadB.there)) ?_))) | (refine at_store rfl ?_; (first | (refine c_store1 rfl _ _ _ rfl rfl (by first | exact EvR.const _ | exact EvR.tmp rfl rfl) X rfl rfl (by repeat (first | exact PutA.here (Nat.le_of_ble_eq_true rfl) | apply PutA.there)) ?_; intro w X2; (try simp only [upd] at X2); replace X := X2; clear X2) | (refine c_storeN rfl _ _ _ rfl rfl rfl X rfl rfl (by repeat (first | exact PutA.here (Nat.le_of_ble_eq_true rfl) | apply PutA.there)) ?_; intro w X2; (try simp only [upd] at X2); replace X := X2; clear X2))) | (refine m_alloc rfl _ rfl X ?_; intro g w X2; (replace X := X2; clear X2)) | (refine m_box rfl _ _ rfl (by first | exact EvR.const _ | exact EvR.tmp rfl rfl) rfl X ?_; intro g w X2; (replace X := X2; clear X2))); (simp only [Act.put, List.setIfInBounds_toArray, List.set_cons_succ, List.set_cons_zero, List.drop_succ_cons, List.drop_zero, List.take_succ_cons, List.take_zero, Nat.reduceAdd]))
    | (go_at_call 30; go_loud ((with_reducible refine (hGd.out _ X.below).mono ?_); rintro e w1 ⟨rfl, hb1⟩; replace X := X.call hb1; clear hb1))
    | (go_at_call 31; go_loud ((with_reducible refine (hBk.out _).mono ?_); rintro e w1 ⟨rfl, rfl⟩))
    | (go_at_call 32; go_loud ((with_reducible refine (hInM.out _ X.below).mono ?_); rintro e w1 ⟨rfl, hb1⟩; replace X := X.call hb1; clear hb1))
    | (go_at_call 32; go_loud ((with_reducible refine (hInD.out _ X.below).mono ?_); rintro e w1 ⟨rfl, hb1⟩; replace X := X.call hb1; clear hb1))
    | (go_at_call 33; go_loud ((with_reducible refine (hAb.out _ X.below).mono ?_); rintro e w1 ⟨rfl, rfl⟩))
    | (go_at_call 6; go_loud ((with_reducible refine (hCp.out _ X.below).mono ?_); rintro e w1 ⟨vc, rfl, ⟨vm', vd', vr', rfl, p1, p2, p3, _⟩, hb1⟩; obtain ⟨am', cm', rfl⟩ := p1.form; obtain ⟨ad', cd', rfl⟩ := p2.form; obtain ⟨ar', cr', rfl⟩ := p3.form; have f1 := hid (p1.fresh X.mv.size); have f2 := hid (p2.fresh X.mv.size); have f3 := hid (p3.fresh X.mv.size); simp only [txnV]; replace X := X.addOTxn hb1 p1 p2 p3; dsimp only at X; clear hb1 p1 p2 p3)))
  obtain ⟨gO, gR, gT, rfl, rfl, rfl⟩ := X.gs3
  go_loopw [115] (fun i wr => ∃ (k : Nat) (M : List Ent) (a : Option Addr) (c : Nat), k ≤ 12 ∧ i = .int .i64 k ∧ OwnM intC 3 1 (.slice a (G k).length c) (G k) M ∧ St [] w0 wr (⟨gO, [.int .i64 seq, .slice am' mt.length cm', .slice ad' dt.length cd', .slice a (G k).length c, .bool true, .int .i64 (x0 - 1), .bool o1, .int .i64 x1, .bool o2, .int .i64 x2], 28⟩ :: ⟨gR, [.int .i64 0, .slice none 0 0, .slice none 0 0, .slice none 0 0, .bool false, .int .i64 0, .bool false, .int .i64 0, .bool false, .int .i64 0], 28⟩ :: ⟨gT, [.int .i64 seq, .slice am mt.length cm, .slice ad dt.length cd, .slice ar rev.length cr, .bool true, .int .i64 x0, .bool o1, .int .i64 x1, .bool o2, .int .i64 x2], 28⟩ :: (M ++ [])) [Rd.of cpyC (.slice am' mt.length cm') mt, Rd.of cpyC (.slice ad' dt.length cd') dt, Rd.of intC (.slice ar' rev.length cr') rev]) (fun i _ => 12 - (intOf i).toNat)
  case atStart => exact ⟨0, [], none, 0, by decide, rfl, by rw [hrv0]; exact .nil _ _ _, by rw [hrv0]; exact X⟩
  case round =>
    clear X
    obtain ⟨k, M, a, c, hk, rfl, hO, X⟩ := hrel
    by_cases hlt : k < 12
    · have hAk := hAm.out (k : Int)
      have hs := hsu.out k
      have hl := hle.out k
      obtain ⟨Q, hQ⟩ : ∃ Q, inI rev (k : Int) = Q := ⟨_, rfl⟩
      rw [hQ] at hAk hs
      replace hAk := hid hAk
      by_cases hb : (k : Int) = b
      · have e1 : ((k : Int) == b) = true := beq_iff_eq.2 hb
        have e2 : ((k : Int) != b) = false := by simp [hb]
        rw [e1, e2] at hs
        simp only [Bool.and_false, Bool.and_true, Bool.false_and, Bool.true_and, Bool.or_self, Bool.or_false, Bool.or_true, Bool.false_eq_true, ↓reduceIte, List.append_nil] at hs
        replace hs := hid hs
        clear hb hQ
        go_wp2_with (first
    | (refine at_mem rfl ?_; (first | (refine at_load rfl ?_; (first | (refine c_load1 rfl _ _ rfl rfl X (by repeat (first | exact ReadA.here rfl | apply ReadA.there)) ?_) | (refine c_loadN rfl _ _ rfl rfl X (by repeat (first | exact ReadB.here (Nat.le_of_ble_eq_true rfl) | apply ReadB.there)) ?_))) | (refine at_store rfl ?_; (first | (refine c_store1 rfl _ _ _ rfl rfl (by first | exact EvR.const _ | exact EvR.tmp rfl rfl) X rfl rfl (by repeat (first | exact PutA.here (Nat.le_of_ble_eq_true rfl) | apply PutA.there)) ?_; intro w X2; (try simp only [upd] at X2); replace X := X2; clear X2) | (refine c_storeN rfl _ _ _ rfl rfl rfl X rfl rfl (by repeat (first | exact PutA.here (Nat.le_of_ble_eq_true rfl) | apply PutA.there)) ?_; intro w X2; (try simp only [upd] at X2); replace X := X2; clear X2))) | (refine m_alloc rfl _ rfl X ?_; intro g w X2; (replace X := X2; clear X2)) | (refine m_box rfl _ _ rfl (by first | exact EvR.const _ | exact EvR.tmp rfl rfl) rfl X ?_; intro g w X2; (replace X := X2; clear X2))); (simp only [Act.put, List.setIfInBounds_toArray, List.set_cons_succ, List.set_cons_zero, List.drop_succ_cons, List.drop_zero, List.take_succ_cons, List.take_zero, Nat.reduceAdd]))
    | (go_at_call 33; go_loud ((with_reducible refine (hAk.out _ X.below).mono ?_); rintro e w1 ⟨rfl, rfl⟩)))
        rw [← hs.out] at hO X
        go_roundw
        case rel => (first | exact ⟨k + 1, M, a, c, by omega, by go_num, hO, X⟩ | ((repeat apply Exists.intro); exact ⟨⟨k + 1, M, a, c, by omega, by go_num, hO, X⟩, rfl⟩))
        case measure => simp [intOf]; omega
      · have e1 : ((k : Int) == b) = false := beq_eq_false_iff_ne.2 hb
        have e2 : ((k : Int) != b) = true := by simp [hb]
        rw [e1, e2] at hs
        cases Q with
        | false =>
          simp only [Bool.and_false, Bool.and_true, Bool.false_and, Bool.true_and, Bool.or_self, Bool.or_false, Bool.or_true, Bool.false_eq_true, ↓reduceIte, List.append_nil] at hs
          replace hs := hid hs
          clear hb hQ
          go_wp2_with (first
    | (refine at_mem rfl ?_; (first | (refine at_load rfl ?_; (first | (refine c_load1 rfl _ _ rfl rfl X (by repeat (first | exact ReadA.here rfl | apply ReadA.there)) ?_) | (refine c_loadN rfl _ _ rfl rfl X (by repeat (first | exact ReadB.here (Nat.le_of_ble_eq_true rfl) | apply ReadB.there)) ?_))) | (refine at_store rfl ?_; (first | (refine c_store1 rfl _ _ _ rfl rfl (by first | exact EvR.const _ | exact EvR.tmp rfl rfl) X rfl rfl (by repeat (first | exact PutA.here (Nat.le_of_ble_eq_true rfl) | apply PutA.there)) ?_; intro w X2; (try simp only [upd] at X2); replace X := X2; clear X2) | (refine c_storeN rfl _ _ _ rfl rfl rfl X rfl rfl (by repeat (first | exact PutA.here (Nat.le_of_ble_eq_true rfl) | apply PutA.there)) ?_; intro w X2; (try simp only [upd] at X2); replace X := X2; clear X2))) | (refine m_alloc rfl _ rfl X ?_; intro g w X2; (replace X := X2; clear X2)) | (refine m_box rfl _ _ rfl (by first | exact EvR.const _ | exact EvR.tmp rfl rfl) rfl X ?_; intro g w X2; (replace X := X2; clear X2))); (simp only [Act.put, List.setIfInBounds_toArray, List.set_cons_succ, List.set_cons_zero, List.drop_succ_cons, List.drop_zero, List.take_succ_cons, List.take_zero, Nat.reduceAdd]))
    | (go_at_call 33; go_loud ((with_reducible refine (hAk.out _ X.below).mono ?_); rintro e w1 ⟨rfl, rfl⟩)))
          rw [← hs.out] at hO X
          go_roundw
          case rel => (first | exact ⟨k + 1, M, a, c, by omega, by go_num, hO, X⟩ | ((repeat apply Exists.intro); exact ⟨⟨k + 1, M, a, c, by omega, by go_num, hO, X⟩, rfl⟩))
          case measure => simp [intOf]; omega
        | true =>
          simp only [Bool.and_false, Bool.and_true, Bool.false_and, Bool.true_and, Bool.or_self, Bool.or_false, Bool.false_or, Bool.or_true, Bool.false_eq_true, ↓reduceIte, List.append_nil] at hs
          replace hs := hid hs
          clear hb hQ
          go_wp2_with (first
    | (refine at_mem rfl ?_; (first | (refine at_load rfl ?_; (first | (refine c_load1 rfl _ _ rfl rfl X (by repeat (first | exact ReadA.here rfl | apply ReadA.there)) ?_) | (refine c_loadN rfl _ _ rfl rfl X (by repeat (first | exact ReadB.here (Nat.le_of_ble_eq_true rfl) | apply ReadB.there)) ?_))) | (refine at_store rfl ?_; (first | (refine c_store1 rfl _ _ _ rfl rfl (by first | exact EvR.const _ | exact EvR.tmp rfl rfl) X rfl rfl (by repeat (first | exact PutA.here (Nat.le_of_ble_eq_true rfl) | apply PutA.there)) ?_; intro w X2; (try simp only [upd] at X2); replace X := X2; clear X2) | (refine c_storeN rfl _ _ _ rfl rfl rfl X rfl rfl (by repeat (first | exact PutA.here (Nat.le_of_ble_eq_true rfl) | apply PutA.there)) ?_; intro w X2; (try simp only [upd] at X2); replace X := X2; clear X2))) | (refine m_alloc rfl _ rfl X ?_; intro g w X2; (replace X := X2; clear X2)) | (refine m_box rfl _ _ rfl (by first | exact EvR.const _ | exact EvR.tmp rfl rfl) rfl X ?_; intro g w X2; (replace X := X2; clear X2))); (simp only [Act.put, List.setIfInBounds_toArray, List.set_cons_succ, List.set_cons_zero, List.drop_succ_cons, List.drop_zero, List.take_succ_cons, List.take_zero, Nat.reduceAdd]))
    | (at_builtin; go_loud (refine m_push [_, _, _] rfl _ _ _ rfl 8 intC_flat elemIntT X hO rfl (k : Int) rfl rfl (by omega) (by unfold maxLen; omega) ?_); intro a7 c7 w7 M7 hO7 X7; simp only [List.cons_append, List.nil_append] at X7; replace X := X7; clear X7)
    | (go_at_call 33; go_loud ((with_reducible refine (hAk.out _ X.below).mono ?_); rintro e w1 ⟨rfl, rfl⟩)))
          rw [show (G k).length + 1 = (G (k + 1)).length by rw [hs.out]; simp] at X hO7
          rw [← hs.out] at hO7
          go_roundw
          case rel => (first | exact ⟨k + 1, M7, a7, c7, by omega, by go_num, hO7, X⟩ | ((repeat apply Exists.intro); exact ⟨⟨k + 1, M7, a7, c7, by omega, by go_num, hO7, X⟩, rfl⟩))
          case measure => simp [intOf]; omega
    · obtain rfl : k = 12 := by omega
      clear hsu hle hrv0
      generalize G 12 = G at *
      have f9 := hid (hO.fresh (L := [_, _, _]) (T := []) X)
      have X9 := X.ownEnd (L := [_, _, _]) hO
      simp only [List.cons_append, List.nil_append] at X9
      replace X := X9
      clear X9 hO
      go_wp2_with (first
    | (refine at_mem rfl ?_; (first | (refine at_load rfl ?_; (first | (refine c_load1 rfl _ _ rfl rfl X (by repeat (first | exact ReadA.here rfl | apply ReadA.there)) ?_) | (refine c_loadN rfl _ _ rfl rfl X (by repeat (first | exact ReadB.here (Nat.le_of_ble_eq_true rfl) | apply ReadB.there)) ?_))) | (refine at_store rfl ?_; (first | (refine c_store1 rfl _ _ _ rfl rfl (by first | exact EvR.const _ | exact EvR.tmp rfl rfl) X rfl rfl (by repeat (first | exact PutA.here (Nat.le_of_ble_eq_true rfl) | apply PutA.there)) ?_; intro w X2; (try simp only [upd] at X2); replace X := X2; clear X2) | (refine c_storeN rfl _ _ _ rfl rfl rfl X rfl rfl (by repeat (first | exact PutA.here (Nat.le_of_ble_eq_true rfl) | apply PutA.there)) ?_; intro w X2; (try simp only [upd] at X2); replace X := X2; clear X2))) | (refine m_alloc rfl _ rfl X ?_; intro g w X2; (replace X := X2; clear X2)) | (refine m_box rfl _ _ rfl (by first | exact EvR.const _ | exact EvR.tmp rfl rfl) rfl X ?_; intro g w X2; (replace X := X2; clear X2))); (simp only [Act.put, List.setIfInBounds_toArray, List.set_cons_succ, List.set_cons_zero, List.drop_succ_cons, List.drop_zero, List.take_succ_cons, List.take_zero, Nat.reduceAdd]))
    | (go_at_call 34; go_loud ((with_reducible refine (hWm.out _ X.below).mono ?_); rintro e w1 ⟨v4, rfl, ho4, hb4⟩; obtain ⟨a4, c4, rfl⟩ := ho4.form; have f4 := hid (ho4.fresh X.mv.size); replace X := X.addOwn hb4 ho4; clear hb4 ho4)))
      exact m_ret2 rfl (.tmp rfl rfl) (.tmp rfl rfl) X (.tail _ (.head _)) rfl rfl ⟨_, _, _, rfl, ⟨X.r0, f4.out⟩, ⟨X.read (.tail _ (.tail _ (.tail _ (.head _)))), f2.out⟩, ⟨X.r1, f9.out⟩, X.below⟩

theorem ref_Alter_chg_old0 (seq : Int) (mt dt : List Cpy) (rev : List Int) (o0 o1 o2 : Bool) (x0 x1 x2 : Int) (am ad ar : Option Addr) (cm cd cr : Nat) (b : Int) (s : ByteArray) (w0 : World) (hm : RL cpyC w0 (.slice am mt.length cm) mt) (hd : RL cpyC w0 (.slice ad dt.length cd) dt) (hr : RL intC w0 (.slice ar rev.length cr) rev) (n1 : mt.length ≤ 12) (n2 : dt.length ≤ 12) (n3 : rev.length ≤ 12) (hgt : goodT ⟨seq, mt, dt, rev, ⟨true, x0⟩, ⟨o1, x1⟩, ⟨o2, x2⟩⟩ = true) (hblk : isBlk b = true) (hs : ((s.size : Int) != 32) = false) {q3 : Bool} (hqm : hasB mt b = true) (hqd : hasB dt b = false) (hqr : inI rev b = q3) :
    Calls Try.prog 8 #[.int .i64 0, .agg #[.int .i64 seq, .slice am mt.length cm, .slice ad dt.length cd, .slice ar rev.length cr, .bool true, .int .i64 x0, .bool o1, .int .i64 x1, .bool o2, .int .i64 x2], .int .i64 0, .int .i64 b, .string s] w0 (AltOk w0 ⟨seq, withL mt b s, dt, revK false rev b 12, ⟨true, x0⟩, ⟨o1, x1⟩, ⟨o2, x2⟩⟩) := by
  have hT : RTxn w0 (txnV ⟨seq, mt, dt, rev, ⟨true, x0⟩, ⟨o1, x1⟩, ⟨o2, x2⟩⟩ (.slice am mt.length cm) (.slice ad dt.length cd) (.slice ar rev.length cr)) ⟨seq, mt, dt, rev, ⟨true, x0⟩, ⟨o1, x1⟩, ⟨o2, x2⟩⟩ := ⟨_, _, _, rfl, hm, hd, hr, by dsimp only; omega, by dsimp only; omega, by dsimp only; omega⟩
  have hCp := hid (fun w' (hb : Below w0.heap.size w0 w') => ref_CopyTxn _ _ w' (hT.below hb))
  have hGd := fun w' (hb : Below w0.heap.size w0 w') => ref_GoodTxn _ _ w' (hT.below hb)
  rw [hgt] at hGd
  replace hGd := hid hGd
  have hBk := hid (by simpa only [hblk] using (fun w' => ref_isBlock b w'))
  have hInM := hid (by simpa only [hqm] using (fun w' (hb : Below w0.heap.size w0 w') => ref_in mt b _ w' (hm.below hb) (by omega)))
  have hInD := hid (by simpa only [hqd] using (fun w' (hb : Below w0.heap.size w0 w') => ref_in dt b _ w' (hd.below hb) (by omega)))
  have hAm := hid (fun x w' (hb : Below w0.heap.size w0 w') => ref_among rev x _ w' (hr.below hb) (by omega))
  have hAb := hid (by simpa only [hqr] using (fun w' (hb : Below w0.heap.size w0 w') => ref_among rev b _ w' (hr.below hb) (by omega)))
  have hWm := hid (fun w' (hb : Below w0.heap.size w0 w') => ref_with mt b s _ w' (hm.below hb) (by omega))
  have hWd := hid (fun w' (hb : Below w0.heap.size w0 w') => ref_with dt b s _ w' (hd.below hb) (by omega))
  have hRm := hid (fun w' (hb : Below w0.heap.size w0 w') => ref_rest mt b _ w' (hm.below hb) (by omega))
  have hRd := hid (fun w' (hb : Below w0.heap.size w0 w') => ref_rest dt b _ w' (hd.below hb) (by omega))
  have hsu := hid (fun n => revK_succ false rev b n)
  have hle := hid (fun n => revK_len false rev b n)
  have hrv0 : revK false rev b 0 = [] := rfl
  have hrv : ∃ G, G = revK false rev b := ⟨_, rfl⟩
  obtain ⟨G, hG⟩ := hrv
  rw [← hG] at hsu hle hrv0 ⊢
  simp only [txnV] at hCp hGd
  replace hqm := hid hqm; replace hqd := hid hqd; replace hqr := hid hqr
  clear hT hm hd hr hgt hG
  have X := St.start [] w0
  go_enter Try.func8, Try.ntmps8
  go_wp2_with (first
    | (refine at_mem rfl ?_; (first | (refine at_load rfl ?_; (first | (refine c_load1 rfl _ _ rfl rfl X (by repeat (first | exact ReadA.here rfl | apply ReadA.there)) ?_) | (refine c_loadN rfl _ _ rfl rfl X (by repeat (first | exact ReadB.here (Nat.le_of_ble_eq_true rfl) | apply ReadB.there)) ?_))) | (refine at_store rfl ?_; (first | (refine c_store1 rfl _ _ _ rfl rfl (by first | exact EvR.const _ | exact EvR.tmp rfl rfl) X rfl rfl (by repeat (first | exact PutA.here (Nat.le_of_ble_eq_true rfl) | apply PutA.there)) ?_; intro w X2; (try simp only [upd] at X2); replace X := X2; clear X2) | (refine c_storeN rfl _ _ _ rfl rfl rfl X rfl rfl (by repeat (first | exact PutA.here (Nat.le_of_ble_eq_true rfl) | apply PutA.there)) ?_; intro w X2; (try simp only [upd] at X2); replace X := X2; clear X2))) | (refine m_alloc rfl _ rfl X ?_; intro g w X2; (replace X := X2; clear X2)) | (refine m_box rfl _ _ rfl (by first | exact EvR.const _ | exact EvR.tmp rfl rfl) rfl X ?_; intro g w X2; (replace X := X2; clear X2))); (simp only [Act.put, List.setIfInBounds_toArray, List.set_cons_succ, List.set_cons_zero, List.drop_succ_cons, List.drop_zero, List.take_succ_cons, List.take_zero, Nat.reduceAdd]))
    | (go_at_call 30; go_loud ((with_reducible refine (hGd.out _ X.below).mono ?_); rintro e w1 ⟨rfl, hb1⟩; replace X := X.call hb1; clear hb1))
    | (go_at_call 31; go_loud ((with_reducible refine (hBk.out _).mono ?_); rintro e w1 ⟨rfl, rfl⟩))
    | (go_at_call 32; go_loud ((with_reducible refine (hInM.out _ X.below).mono ?_); rintro e w1 ⟨rfl, hb1⟩; replace X := X.call hb1; clear hb1))
    | (go_at_call 32; go_loud ((with_reducible refine (hInD.out _ X.below).mono ?_); rintro e w1 ⟨rfl, hb1⟩; replace X := X.call hb1; clear hb1))
    | (go_at_call 33; go_loud ((with_reducible refine (hAb.out _ X.below).mono ?_); rintro e w1 ⟨rfl, rfl⟩))
    | (go_at_call 6; go_loud ((with_reducible refine (hCp.out _ X.below).mono ?_); rintro e w1 ⟨vc, rfl, ⟨vm', vd', vr', rfl, p1, p2, p3, _⟩, hb1⟩; obtain ⟨am', cm', rfl⟩ := p1.form; obtain ⟨ad', cd', rfl⟩ := p2.form; obtain ⟨ar', cr', rfl⟩ := p3.form; have f1 := hid (p1.fresh X.mv.size); have f2 := hid (p2.fresh X.mv.size); have f3 := hid (p3.fresh X.mv.size); simp only [txnV]; replace X := X.addOTxn hb1 p1 p2 p3; dsimp only at X; clear hb1 p1 p2 p3)))
  obtain ⟨gO, gR, gT, rfl, rfl, rfl⟩ := X.gs3
  go_loopw [115] (fun i wr => ∃ (k : Nat) (M : List Ent) (a : Option Addr) (c : Nat), k ≤ 12 ∧ i = .int .i64 k ∧ OwnM intC 3 1 (.slice a (G k).length c) (G k) M ∧ St [] w0 wr (⟨gO, [.int .i64 seq, .slice am' mt.length cm', .slice ad' dt.length cd', .slice a (G k).length c, .bool true, .int .i64 x0, .bool o1, .int .i64 x1, .bool o2, .int .i64 x2], 28⟩ :: ⟨gR, [.int .i64 0, .slice none 0 0, .slice none 0 0, .slice none 0 0, .bool false, .int .i64 0, .bool false, .int .i64 0, .bool false, .int .i64 0], 28⟩ :: ⟨gT, [.int .i64 seq, .slice am mt.length cm, .slice ad dt.length cd, .slice ar rev.length cr, .bool true, .int .i64 x0, .bool o1, .int .i64 x1, .bool o2, .int .i64 x2], 28⟩ :: (M ++ [])) [Rd.of cpyC (.slice am' mt.length cm') mt, Rd.of cpyC (.slice ad' dt.length cd') dt, Rd.of intC (.slice ar' rev.length cr') rev]) (fun i _ => 12 - (intOf i).toNat)
  case atStart => exact ⟨0, [], none, 0, by decide, rfl, by rw [hrv0]; exact .nil _ _ _, by rw [hrv0]; exact X⟩
  case round =>
    clear X
    obtain ⟨k, M, a, c, hk, rfl, hO, X⟩ := hrel
    by_cases hlt : k < 12
    · have hAk := hAm.out (k : Int)
      have hs := hsu.out k
      have hl := hle.out k
      obtain ⟨Q, hQ⟩ : ∃ Q, inI rev (k : Int) = Q := ⟨_, rfl⟩
      rw [hQ] at hAk hs
      replace hAk := hid hAk
      by_cases hb : (k : Int) = b
      · have e1 : ((k : Int) == b) = true := beq_iff_eq.2 hb
        have e2 : ((k : Int) != b) = false := by simp [hb]
        rw [e1, e2] at hs
        simp only [Bool.and_false, Bool.and_true, Bool.false_and, Bool.true_and, Bool.or_self, Bool.or_false, Bool.or_true, Bool.false_eq_true, ↓reduceIte, List.append_nil] at hs
        replace hs := hid hs
        clear hb hQ
        go_wp2_with (first
    | (refine at_mem rfl ?_; (first | (refine at_load rfl ?_; (first | (refine c_load1 rfl _ _ rfl rfl X (by repeat (first | exact ReadA.here rfl | apply ReadA.there)) ?_) | (refine c_loadN rfl _ _ rfl rfl X (by repeat (first | exact ReadB.here (Nat.le_of_ble_eq_true rfl) | apply ReadB.there)) ?_))) | (refine at_store rfl ?_; (first | (refine c_store1 rfl _ _ _ rfl rfl (by first | exact EvR.const _ | exact EvR.tmp rfl rfl) X rfl rfl (by repeat (first | exact PutA.here (Nat.le_of_ble_eq_true rfl) | apply PutA.there)) ?_; intro w X2; (try simp only [upd] at X2); replace X := X2; clear X2) | (refine c_storeN rfl _ _ _ rfl rfl rfl X rfl rfl (by repeat (first | exact PutA.here (Nat.le_of_ble_eq_true rfl) | apply PutA.there)) ?_; intro w X2; (try simp only [upd] at X2); replace X := X2; clear X2))) | (refine m_alloc rfl _ rfl X ?_; intro g w X2; (replace X := X2; clear X2)) | (refine m_box rfl _ _ rfl (by first | exact EvR.const _ | exact EvR.tmp rfl rfl) rfl X ?_; intro g w X2; (replace X := X2; clear X2))); (simp only [Act.put, List.setIfInBounds_toArray, List.set_cons_succ, List.set_cons_zero, List.drop_succ_cons, List.drop_zero, List.take_succ_cons, List.take_zero, Nat.reduceAdd]))
    | (go_at_call 33; go_loud ((with_reducible refine (hAk.out _ X.below).mono ?_); rintro e w1 ⟨rfl, rfl⟩)))
        rw [← hs.out] at hO X
        go_roundw
        case rel => (first | exact ⟨k + 1, M, a, c, by omega, by go_num, hO, X⟩ | ((repeat apply Exists.intro); exact ⟨⟨k + 1, M, a, c, by omega, by go_num, hO, X⟩, rfl⟩))
        case measure => simp [intOf]; omega
      · have e1 : ((k : Int) == b) = false := beq_eq_false_iff_ne.2 hb
        have e2 : ((k : Int) != b) = true := by simp [hb]
        rw [e1, e2] at hs
        cases Q with
        | false =>
          simp only [Bool.and_false, Bool.and_true, Bool.false_and, Bool.true_and, Bool.or_self, Bool.or_false, Bool.or_true, Bool.false_eq_true, ↓reduceIte, List.append_nil] at hs
          replace hs := hid hs
          clear hb hQ
          go_wp2_with (first
    | (refine at_mem rfl ?_; (first | (refine at_load rfl ?_; (first | (refine c_load1 rfl _ _ rfl rfl X (by repeat (first | exact ReadA.here rfl | apply ReadA.there)) ?_) | (refine c_loadN rfl _ _ rfl rfl X (by repeat (first | exact ReadB.here (Nat.le_of_ble_eq_true rfl) | apply ReadB.there)) ?_))) | (refine at_store rfl ?_; (first | (refine c_store1 rfl _ _ _ rfl rfl (by first | exact EvR.const _ | exact EvR.tmp rfl rfl) X rfl rfl (by repeat (first | exact PutA.here (Nat.le_of_ble_eq_true rfl) | apply PutA.there)) ?_; intro w X2; (try simp only [upd] at X2); replace X := X2; clear X2) | (refine c_storeN rfl _ _ _ rfl rfl rfl X rfl rfl (by repeat (first | exact PutA.here (Nat.le_of_ble_eq_true rfl) | apply PutA.there)) ?_; intro w X2; (try simp only [upd] at X2); replace X := X2; clear X2))) | (refine m_alloc rfl _ rfl X ?_; intro g w X2; (replace X := X2; clear X2)) | (refine m_box rfl _ _ rfl (by first | exact EvR.const _ | exact EvR.tmp rfl rfl) rfl X ?_; intro g w X2; (replace X := X2; clear X2))); (simp only [Act.put, List.setIfInBounds_toArray, List.set_cons_succ, List.set_cons_zero, List.drop_succ_cons, List.drop_zero, List.take_succ_cons, List.take_zero, Nat.reduceAdd]))
    | (go_at_call 33; go_loud ((with_reducible refine (hAk.out _ X.below).mono ?_); rintro e w1 ⟨rfl, rfl⟩)))
          rw [← hs.out] at hO X
          go_roundw
          case rel => (first | exact ⟨k + 1, M, a, c, by omega, by go_num, hO, X⟩ | ((repeat apply Exists.intro); exact ⟨⟨k + 1, M, a, c, by omega, by go_num, hO, X⟩, rfl⟩))
          case measure => simp [intOf]; omega
        | true =>
          simp only [Bool.and_false, Bool.and_true, Bool.false_and, Bool.true_and, Bool.or_self, Bool.or_false, Bool.false_or, Bool.or_true, Bool.false_eq_true, ↓reduceIte, List.append_nil] at hs
          replace hs := hid hs
          clear hb hQ
          go_wp2_with (first
    | (refine at_mem rfl ?_; (first | (refine at_load rfl ?_; (first | (refine c_load1 rfl _ _ rfl rfl X (by repeat (first | exact ReadA.here rfl | apply ReadA.there)) ?_) | (refine c_loadN rfl _ _ rfl rfl X (by repeat (first | exact ReadB.here (Nat.le_of_ble_eq_true rfl) | apply ReadB.there)) ?_))) | (refine at_store rfl ?_; (first | (refine c_store1 rfl _ _ _ rfl rfl (by first | exact EvR.const _ | exact EvR.tmp rfl rfl) X rfl rfl (by repeat (first | exact PutA.here (Nat.le_of_ble_eq_true rfl) | apply PutA.there)) ?_; intro w X2; (try simp only [upd] at X2); replace X := X2; clear X2) | (refine c_storeN rfl _ _ _ rfl rfl rfl X rfl rfl (by repeat (first | exact PutA.here (Nat.le_of_ble_eq_true rfl) | apply PutA.there)) ?_; intro w X2; (try simp only [upd] at X2); replace X := X2; clear X2))) | (refine m_alloc rfl _ rfl X ?_; intro g w X2; (replace X := X2; clear X2)) | (refine m_box rfl _ _ rfl (by first | exact EvR.const _ | exact EvR.tmp rfl rfl) rfl X ?_; intro g w X2; (replace X := X2; clear X2))); (simp only [Act.put, List.setIfInBounds_toArray, List.set_cons_succ, List.set_cons_zero, List.drop_succ_cons, List.drop_zero, List.take_succ_cons, List.take_zero, Nat.reduceAdd]))
    | (at_builtin; go_loud (refine m_push [_, _, _] rfl _ _ _ rfl 8 intC_flat elemIntT X hO rfl (k : Int) rfl rfl (by omega) (by unfold maxLen; omega) ?_); intro a7 c7 w7 M7 hO7 X7; simp only [List.cons_append, List.nil_append] at X7; replace X := X7; clear X7)
    | (go_at_call 33; go_loud ((with_reducible refine (hAk.out _ X.below).mono ?_); rintro e w1 ⟨rfl, rfl⟩)))
          rw [show (G k).length + 1 = (G (k + 1)).length by rw [hs.out]; simp] at X hO7
          rw [← hs.out] at hO7
          go_roundw
          case rel => (first | exact ⟨k + 1, M7, a7, c7, by omega, by go_num, hO7, X⟩ | ((repeat apply Exists.intro); exact ⟨⟨k + 1, M7, a7, c7, by omega, by go_num, hO7, X⟩, rfl⟩))
          case measure => simp [intOf]; omega
    · obtain rfl : k = 12 := by omega
      clear hsu hle hrv0
      generalize G 12 = G at *
      have f9 := hid (hO.fresh (L := [_, _, _]) (T := []) X)
      have X9 := X.ownEnd (L := [_, _, _]) hO
      simp only [List.cons_append, List.nil_append] at X9
      replace X := X9
      clear X9 hO
      go_wp2_with (first
    | (refine at_mem rfl ?_; (first | (refine at_load rfl ?_; (first | (refine c_load1 rfl _ _ rfl rfl X (by repeat (first | exact ReadA.here rfl | apply ReadA.there)) ?_) | (refine c_loadN rfl _ _ rfl rfl X (by repeat (first | exact ReadB.here (Nat.le_of_ble_eq_true rfl) | apply ReadB.there)) ?_))) | (refine at_store rfl ?_; (first | (refine c_store1 rfl _ _ _ rfl rfl (by first | exact EvR.const _ | exact EvR.tmp rfl rfl) X rfl rfl (by repeat (first | exact PutA.here (Nat.le_of_ble_eq_true rfl) | apply PutA.there)) ?_; intro w X2; (try simp only [upd] at X2); replace X := X2; clear X2) | (refine c_storeN rfl _ _ _ rfl rfl rfl X rfl rfl (by repeat (first | exact PutA.here (Nat.le_of_ble_eq_true rfl) | apply PutA.there)) ?_; intro w X2; (try simp only [upd] at X2); replace X := X2; clear X2))) | (refine m_alloc rfl _ rfl X ?_; intro g w X2; (replace X := X2; clear X2)) | (refine m_box rfl _ _ rfl (by first | exact EvR.const _ | exact EvR.tmp rfl rfl) rfl X ?_; intro g w X2; (replace X := X2; clear X2))); (simp only [Act.put, List.setIfInBounds_toArray, List.set_cons_succ, List.set_cons_zero, List.drop_succ_cons, List.drop_zero, List.take_succ_cons, List.take_zero, Nat.reduceAdd]))
    | (go_at_call 34; go_loud ((with_reducible refine (hWm.out _ X.below).mono ?_); rintro e w1 ⟨v4, rfl, ho4, hb4⟩; obtain ⟨a4, c4, rfl⟩ := ho4.form; have f4 := hid (ho4.fresh X.mv.size); replace X := X.addOwn hb4 ho4; clear hb4 ho4)))
      exact m_ret2 rfl (.tmp rfl rfl) (.tmp rfl rfl) X (.tail _ (.head _)) rfl rfl ⟨_, _, _, rfl, ⟨X.r0, f4.out⟩, ⟨X.read (.tail _ (.tail _ (.tail _ (.head _)))), f2.out⟩, ⟨X.r1, f9.out⟩, X.below⟩

theorem ref_Alter_chg_was0 (seq : Int) (mt dt : List Cpy) (rev : List Int) (o0 o1 o2 : Bool) (x0 x1 x2 : Int) (am ad ar : Option Addr) (cm cd cr : Nat) (b : Int) (s : ByteArray) (w0 : World) (hm : RL cpyC w0 (.slice am mt.length cm) mt) (hd : RL cpyC w0 (.slice ad dt.length cd) dt) (hr : RL intC w0 (.slice ar rev.length cr) rev) (n1 : mt.length ≤ 12) (n2 : dt.length ≤ 12) (n3 : rev.length ≤ 12) (hgt : goodT ⟨seq, mt, dt, rev, ⟨true, x0⟩, ⟨o1, x1⟩, ⟨o2, x2⟩⟩ = true) (hblk : isBlk b = true) (hs : ((s.size : Int) != 32) = false) (hqm : hasB mt b = false) (hqd : hasB dt b = false) (hqr : inI rev b = true) :
    Calls Try.prog 8 #[.int .i64 0, .agg #[.int .i64 seq, .slice am mt.length cm, .slice ad dt.length cd, .slice ar rev.length cr, .bool true, .int .i64 x0, .bool o1, .int .i64 x1, .bool o2, .int .i64 x2], .int .i64 0, .int .i64 b, .string s] w0 (AltOk w0 ⟨seq, withL mt b s, dt, revK false rev b 12, ⟨true, x0⟩, ⟨o1, x1⟩, ⟨o2, x2⟩⟩) := by
  have hT : RTxn w0 (txnV ⟨seq, mt, dt, rev, ⟨true, x0⟩, ⟨o1, x1⟩, ⟨o2, x2⟩⟩ (.slice am mt.length cm) (.slice ad dt.length cd) (.slice ar rev.length cr)) ⟨seq, mt, dt, rev, ⟨true, x0⟩, ⟨o1, x1⟩, ⟨o2, x2⟩⟩ := ⟨_, _, _, rfl, hm, hd, hr, by dsimp only; omega, by dsimp only; omega, by dsimp only; omega⟩
  have hCp := hid (fun w' (hb : Below w0.heap.size w0 w') => ref_CopyTxn _ _ w' (hT.below hb))
  have hGd := fun w' (hb : Below w0.heap.size w0 w') => ref_GoodTxn _ _ w' (hT.below hb)
  rw [hgt] at hGd
  replace hGd := hid hGd
  have hBk := hid (by simpa only [hblk] using (fun w' => ref_isBlock b w'))
  have hInM := hid (by simpa only [hqm] using (fun w' (hb : Below w0.heap.size w0 w') => ref_in mt b _ w' (hm.below hb) (by omega)))
  have hInD := hid (by simpa only [hqd] using (fun w' (hb : Below w0.heap.size w0 w') => ref_in dt b _ w' (hd.below hb) (by omega)))
  have hAm := hid (fun x w' (hb : Below w0.heap.size w0 w') => ref_among rev x _ w' (hr.below hb) (by omega))
  have hAb := hid (by simpa only [hqr] using (fun w' (hb : Below w0.heap.size w0 w') => ref_among rev b _ w' (hr.below hb) (by omega)))
  have hWm := hid (fun w' (hb : Below w0.heap.size w0 w') => ref_with mt b s _ w' (hm.below hb) (by omega))
  have hWd := hid (fun w' (hb : Below w0.heap.size w0 w') => ref_with dt b s _ w' (hd.below hb) (by omega))
  have hRm := hid (fun w' (hb : Below w0.heap.size w0 w') => ref_rest mt b _ w' (hm.below hb) (by omega))
  have hRd := hid (fun w' (hb : Below w0.heap.size w0 w') => ref_rest dt b _ w' (hd.below hb) (by omega))
  have hsu := hid (fun n => revK_succ false rev b n)
  have hle := hid (fun n => revK_len false rev b n)
  have hrv0 : revK false rev b 0 = [] := rfl
  have hrv : ∃ G, G = revK false rev b := ⟨_, rfl⟩
  obtain ⟨G, hG⟩ := hrv
  rw [← hG] at hsu hle hrv0 ⊢
  simp only [txnV] at hCp hGd
  replace hqm := hid hqm; replace hqd := hid hqd; replace hqr := hid hqr
  clear hT hm hd hr hgt hG
  have X := St.start [] w0
  go_enter Try.func8, Try.ntmps8
  go_wp2_with (first
    | (refine at_mem rfl ?_; (first | (refine at_load rfl ?_; (first | (refine c_load1 rfl _ _ rfl rfl X (by repeat (first | exact ReadA.here rfl | apply ReadA.there)) ?_) | (refine c_loadN rfl _ _ rfl rfl X (by repeat (first | exact ReadB.here (Nat.le_of_ble_eq_true rfl) | apply ReadB.there)) ?_))) | (refine at_store rfl ?_; (first | (refine c_store1 rfl _ _ _ rfl rfl (by first | exact EvR.const _ | exact EvR.tmp rfl rfl) X rfl rfl (by repeat (first | exact PutA.here (Nat.le_of_ble_eq_true rfl) | apply PutA.there)) ?_; intro w X2; (try simp only [upd] at X2); replace X := X2; clear X2) | (refine c_storeN rfl _ _ _ rfl rfl rfl X rfl rfl (by repeat (first | exact PutA.here (Nat.le_of_ble_eq_true rfl) | apply PutA.there)) ?_; intro w X2; (try simp only [upd] at X2); replace X := X2; clear X2))) | (refine m_alloc rfl _ rfl X ?_; intro g w X2; (replace X := X2; clear X2)) | (refine m_box rfl _ _ rfl (by first | exact EvR.const _ | exact EvR.tmp rfl rfl) rfl X ?_; intro g w X2; (replace X := X2; clear X2))); (simp only [Act.put, List.setIfInBounds_toArray, List.set_cons_succ, List.set_cons_zero, List.drop_succ_cons, List.drop_zero, List.take_succ_cons, List.take_zero, Nat.reduceAdd]))
    | (go_at_call 30; go_loud ((with_reducible refine (hGd.out _ X.below).mono ?_); rintro e w1 ⟨rfl, hb1⟩; replace X := X.call hb1; clear hb1))
    | (go_at_call 31; go_loud ((with_reducible refine (hBk.out _).mono ?_); rintro e w1 ⟨rfl, rfl⟩))
    | (go_at_call 32; go_loud ((with_reducible refine (hInM.out _ X.below).mono ?_); rintro e w1 ⟨rfl, hb1⟩; replace X := X.call hb1; clear hb1))
    | (go_at_call 32; go_loud ((with_reducible refine (hInD.out _ X.below).mono ?_); rintro e w1 ⟨rfl, hb1⟩; replace X := X.call hb1; clear hb1))
    | (go_at_call 33; go_loud ((with_reducible refine (hAb.out _ X.below).mono ?_); rintro e w1 ⟨rfl, rfl⟩))
    | (go_at_call 6; go_loud ((with_reducible refine (hCp.out _ X.below).mono ?_); rintro e w1 ⟨vc, rfl, ⟨vm', vd', vr', rfl, p1, p2, p3, _⟩, hb1⟩; obtain ⟨am', cm', rfl⟩ := p1.form; obtain ⟨ad', cd', rfl⟩ := p2.form; obtain ⟨ar', cr', rfl⟩ := p3.form; have f1 := hid (p1.fresh X.mv.size); have f2 := hid (p2.fresh X.mv.size); have f3 := hid (p3.fresh X.mv.size); simp only [txnV]; replace X := X.addOTxn hb1 p1 p2 p3; dsimp only at X; clear hb1 p1 p2 p3)))
  obtain ⟨gO, gR, gT, rfl, rfl, rfl⟩ := X.gs3
  go_loopw [115] (fun i wr => ∃ (k : Nat) (M : List Ent) (a : Option Addr) (c : Nat), k ≤ 12 ∧ i = .int .i64 k ∧ OwnM intC 3 1 (.slice a (G k).length c) (G k) M ∧ St [] w0 wr (⟨gO, [.int .i64 seq, .slice am' mt.length cm', .slice ad' dt.length cd', .slice a (G k).length c, .bool true, .int .i64 x0, .bool o1, .int .i64 x1, .bool o2, .int .i64 x2], 28⟩ :: ⟨gR, [.int .i64 0, .slice none 0 0, .slice none 0 0, .slice none 0 0, .bool false, .int .i64 0, .bool false, .int .i64 0, .bool false, .int .i64 0], 28⟩ :: ⟨gT, [.int .i64 seq, .slice am mt.length cm, .slice ad dt.length cd, .slice ar rev.length cr, .bool true, .int .i64 x0, .bool o1, .int .i64 x1, .bool o2, .int .i64 x2], 28⟩ :: (M ++ [])) [Rd.of cpyC (.slice am' mt.length cm') mt, Rd.of cpyC (.slice ad' dt.length cd') dt, Rd.of intC (.slice ar' rev.length cr') rev]) (fun i _ => 12 - (intOf i).toNat)
  case atStart => exact ⟨0, [], none, 0, by decide, rfl, by rw [hrv0]; exact .nil _ _ _, by rw [hrv0]; exact X⟩
  case round =>
    clear X
    obtain ⟨k, M, a, c, hk, rfl, hO, X⟩ := hrel
    by_cases hlt : k < 12
    · have hAk := hAm.out (k : Int)
      have hs := hsu.out k
      have hl := hle.out k
      obtain ⟨Q, hQ⟩ : ∃ Q, inI rev (k : Int) = Q := ⟨_, rfl⟩
      rw [hQ] at hAk hs
      replace hAk := hid hAk
      by_cases hb : (k : Int) = b
      · have e1 : ((k : Int) == b) = true := beq_iff_eq.2 hb
        have e2 : ((k : Int) != b) = false := by simp [hb]
        rw [e1, e2] at hs
        simp only [Bool.and_false, Bool.and_true, Bool.false_and, Bool.true_and, Bool.or_self, Bool.or_false, Bool.or_true, Bool.false_eq_true, ↓reduceIte, List.append_nil] at hs
        replace hs := hid hs
        clear hb hQ
        go_wp2_with (first
    | (refine at_mem rfl ?_; (first | (refine at_load rfl ?_; (first | (refine c_load1 rfl _ _ rfl rfl X (by repeat (first | exact ReadA.here rfl | apply ReadA.there)) ?_) | (refine c_loadN rfl _ _ rfl rfl X (by repeat (first | exact ReadB.here (Nat.le_of_ble_eq_true rfl) | apply ReadB.there)) ?_))) | (refine at_store rfl ?_; (first | (refine c_store1 rfl _ _ _ rfl rfl (by first | exact EvR.const _ | exact EvR.tmp rfl rfl) X rfl rfl (by repeat (first | exact PutA.here (Nat.le_of_ble_eq_true rfl) | apply PutA.there)) ?_; intro w X2; (try simp only [upd] at X2); replace X := X2; clear X2) | (refine c_storeN rfl _ _ _ rfl rfl rfl X rfl rfl (by repeat (first | exact PutA.here (Nat.le_of_ble_eq_true rfl) | apply PutA.there)) ?_; intro w X2; (try simp only [upd] at X2); replace X := X2; clear X2))) | (refine m_alloc rfl _ rfl X ?_; intro g w X2; (replace X := X2; clear X2)) | (refine m_box rfl _ _ rfl (by first | exact EvR.const _ | exact EvR.tmp rfl rfl) rfl X ?_; intro g w X2; (replace X := X2; clear X2))); (simp only [Act.put, List.setIfInBounds_toArray, List.set_cons_succ, List.set_cons_zero, List.drop_succ_cons, List.drop_zero, List.take_succ_cons, List.take_zero, Nat.reduceAdd]))
    | (go_at_call 33; go_loud ((with_reducible refine (hAk.out _ X.below).mono ?_); rintro e w1 ⟨rfl, rfl⟩)))
        rw [← hs.out] at hO X
        go_roundw
        case rel => (first | exact ⟨k + 1, M, a, c, by omega, by go_num, hO, X⟩ | ((repeat apply Exists.intro); exact ⟨⟨k + 1, M, a, c, by omega, by go_num, hO, X⟩, rfl⟩))
        case measure => simp [intOf]; omega
      · have e1 : ((k : Int) == b) = false := beq_eq_false_iff_ne.2 hb
        have e2 : ((k : Int) != b) = true := by simp [hb]
        rw [e1, e2] at hs
        cases Q with
        | false =>
          simp only [Bool.and_false, Bool.and_true, Bool.false_and, Bool.true_and, Bool.or_self, Bool.or_false, Bool.or_true, Bool.false_eq_true, ↓reduceIte, List.append_nil] at hs
          replace hs := hid hs
          clear hb hQ
          go_wp2_with (first
    | (refine at_mem rfl ?_; (first | (refine at_load rfl ?_; (first | (refine c_load1 rfl _ _ rfl rfl X (by repeat (first | exact ReadA.here rfl | apply ReadA.there)) ?_) | (refine c_loadN rfl _ _ rfl rfl X (by repeat (first | exact ReadB.here (Nat.le_of_ble_eq_true rfl) | apply ReadB.there)) ?_))) | (refine at_store rfl ?_; (first | (refine c_store1 rfl _ _ _ rfl rfl (by first | exact EvR.const _ | exact EvR.tmp rfl rfl) X rfl rfl (by repeat (first | exact PutA.here (Nat.le_of_ble_eq_true rfl) | apply PutA.there)) ?_; intro w X2; (try simp only [upd] at X2); replace X := X2; clear X2) | (refine c_storeN rfl _ _ _ rfl rfl rfl X rfl rfl (by repeat (first | exact PutA.here (Nat.le_of_ble_eq_true rfl) | apply PutA.there)) ?_; intro w X2; (try simp only [upd] at X2); replace X := X2; clear X2))) | (refine m_alloc rfl _ rfl X ?_; intro g w X2; (replace X := X2; clear X2)) | (refine m_box rfl _ _ rfl (by first | exact EvR.const _ | exact EvR.tmp rfl rfl) rfl X ?_; intro g w X2; (replace X := X2; clear X2))); (simp only [Act.put, List.setIfInBounds_toArray, List.set_cons_succ, List.set_cons_zero, List.drop_succ_cons, List.drop_zero, List.take_succ_cons, List.take_zero, Nat.reduceAdd]))
    | (go_at_call 33; go_loud ((with_reducible refine (hAk.out _ X.below).mono ?_); rintro e w1 ⟨rfl, rfl⟩)))
          rw [← hs.out] at hO X
          go_roundw
          case rel => (first | exact ⟨k + 1, M, a, c, by omega, by go_num, hO, X⟩ | ((repeat apply Exists.intro); exact ⟨⟨k + 1, M, a, c, by omega, by go_num, hO, X⟩, rfl⟩))
          case measure => simp [intOf]; omega
        | true =>
          simp only [Bool.and_false, Bool.and_true, Bool.false_and, Bool.true_and, Bool.or_self, Bool.or_false, Bool.false_or, Bool.or_true, Bool.false_eq_true, ↓reduceIte, List.append_nil] at hs
          replace hs := hid hs
          clear hb hQ
          go_wp2_with (first
    | (refine at_mem rfl ?_; (first | (refine at_load rfl ?_; (first | (refine c_load1 rfl _ _ rfl rfl X (by repeat (first | exact ReadA.here rfl | apply ReadA.there)) ?_) | (refine c_loadN rfl _ _ rfl rfl X (by repeat (first | exact ReadB.here (Nat.le_of_ble_eq_true rfl) | apply ReadB.there)) ?_))) | (refine at_store rfl ?_; (first | (refine c_store1 rfl _ _ _ rfl rfl (by first | exact EvR.const _ | exact EvR.tmp rfl rfl) X rfl rfl (by repeat (first | exact PutA.here (Nat.le_of_ble_eq_true rfl) | apply PutA.there)) ?_; intro w X2; (try simp only [upd] at X2); replace X := X2; clear X2) | (refine c_storeN rfl _ _ _ rfl rfl rfl X rfl rfl (by repeat (first | exact PutA.here (Nat.le_of_ble_eq_true rfl) | apply PutA.there)) ?_; intro w X2; (try simp only [upd] at X2); replace X := X2; clear X2))) | (refine m_alloc rfl _ rfl X ?_; intro g w X2; (replace X := X2; clear X2)) | (refine m_box rfl _ _ rfl (by first | exact EvR.const _ | exact EvR.tmp rfl rfl) rfl X ?_; intro g w X2; (replace X := X2; clear X2))); (simp only [Act.put, List.setIfInBounds_toArray, List.set_cons_succ, List.set_cons_zero, List.drop_succ_cons, List.drop_zero, List.take_succ_cons, List.take_zero, Nat.reduceAdd]))
    | (at_builtin; go_loud (refine m_push [_, _, _] rfl _ _ _ rfl 8 intC_flat elemIntT X hO rfl (k : Int) rfl rfl (by omega) (by unfold maxLen; omega) ?_); intro a7 c7 w7 M7 hO7 X7; simp only [List.cons_append, List.nil_append] at X7; replace X := X7; clear X7)
    | (go_at_call 33; go_loud ((with_reducible refine (hAk.out _ X.below).mono ?_); rintro e w1 ⟨rfl, rfl⟩)))
          rw [show (G k).length + 1 = (G (k + 1)).length by rw [hs.out]; simp] at X hO7
          rw [← hs.out] at hO7
          go_roundw
          case rel => (first | exact ⟨k + 1, M7, a7, c7, by omega, by go_num, hO7, X⟩ | ((repeat apply Exists.intro); exact ⟨⟨k + 1, M7, a7, c7, by omega, by go_num, hO7, X⟩, rfl⟩))
          case measure => simp [intOf]; omega
    · obtain rfl : k = 12 := by omega
      clear hsu hle hrv0
      generalize G 12 = G at *
      have f9 := hid (hO.fresh (L := [_, _, _]) (T := []) X)
      have X9 := X.ownEnd (L := [_, _, _]) hO
      simp only [List.cons_append, List.nil_append] at X9
      replace X := X9
      clear X9 hO
      go_wp2_with (first
    | (refine at_mem rfl ?_; (first | (refine at_load rfl ?_; (first | (refine c_load1 rfl _ _ rfl rfl X (by repeat (first | exact ReadA.here rfl | apply ReadA.there)) ?_) | (refine c_loadN rfl _ _ rfl rfl X (by repeat (first | exact ReadB.here (Nat.le_of_ble_eq_true rfl) | apply ReadB.there)) ?_))) | (refine at_store rfl ?_; (first | (refine c_store1 rfl _ _ _ rfl rfl (by first | exact EvR.const _ | exact EvR.tmp rfl rfl) X rfl rfl (by repeat (first | exact PutA.here (Nat.le_of_ble_eq_true rfl) | apply PutA.there)) ?_; intro w X2; (try simp only [upd] at X2); replace X := X2; clear X2) | (refine c_storeN rfl _ _ _ rfl rfl rfl X rfl rfl (by repeat (first | exact PutA.here (Nat.le_of_ble_eq_true rfl) | apply PutA.there)) ?_; intro w X2; (try simp only [upd] at X2); replace X := X2; clear X2))) | (refine m_alloc rfl _ rfl X ?_; intro g w X2; (replace X := X2; clear X2)) | (refine m_box rfl _ _ rfl (by first | exact EvR.const _ | exact EvR.tmp rfl rfl) rfl X ?_; intro g w X2; (replace X := X2; clear X2))); (simp only [Act.put, List.setIfInBounds_toArray, List.set_cons_succ, List.set_cons_zero, List.drop_succ_cons, List.drop_zero, List.take_succ_cons, List.take_zero, Nat.reduceAdd]))
    | (go_at_call 34; go_loud ((with_reducible refine (hWm.out _ X.below).mono ?_); rintro e w1 ⟨v4, rfl, ho4, hb4⟩; obtain ⟨a4, c4, rfl⟩ := ho4.form; have f4 := hid (ho4.fresh X.mv.size); replace X := X.addOwn hb4 ho4; clear hb4 ho4)))
      exact m_ret2 rfl (.tmp rfl rfl) (.tmp rfl rfl) X (.tail _ (.head _)) rfl rfl ⟨_, _, _, rfl, ⟨X.r0, f4.out⟩, ⟨X.read (.tail _ (.tail _ (.tail _ (.head _)))), f2.out⟩, ⟨X.r1, f9.out⟩, X.below⟩

theorem ref_Alter_chg_new1 (seq : Int) (mt dt : List Cpy) (rev : List Int) (o0 o1 o2 : Bool) (x0 x1 x2 : Int) (am ad ar : Option Addr) (cm cd cr : Nat) (b : Int) (s : ByteArray) (w0 : World) (hm : RL cpyC w0 (.slice am mt.length cm) mt) (hd : RL cpyC w0 (.slice ad dt.length cd) dt) (hr : RL intC w0 (.slice ar rev.length cr) rev) (n1 : mt.length ≤ 12) (n2 : dt.length ≤ 12) (n3 : rev.length ≤ 12) (hgt : goodT ⟨seq, mt, dt, rev, ⟨o0, x0⟩, ⟨true, x1⟩, ⟨o2, x2⟩⟩ = true) (hblk : isBlk b = true) (hs : ((s.size : Int) != 32) = false) (hqm : hasB mt b = false) (hqd : hasB dt b = false) (hqr : inI rev b = false) (hx : 0 < x1) (hx2 : x1 ≤ 24) :
    Calls Try.prog 8 #[.int .i64 0, .agg #[.int .i64 seq, .slice am mt.length cm, .slice ad dt.length cd, .slice ar rev.length cr, .bool o0, .int .i64 x0, .bool true, .int .i64 x1, .bool o2, .int .i64 x2], .int .i64 1, .int .i64 b, .string s] w0 (AltOk w0 ⟨seq, withL mt b s, dt, revK false rev b 12, ⟨o0, x0⟩, ⟨true, x1 - 1⟩, ⟨o2, x2⟩⟩) := by
  have hT : RTxn w0 (txnV ⟨seq, mt, dt, rev, ⟨o0, x0⟩, ⟨true, x1⟩, ⟨o2, x2⟩⟩ (.slice am mt.length cm) (.slice ad dt.length cd) (.slice ar rev.length cr)) ⟨seq, mt, dt, rev, ⟨o0, x0⟩, ⟨true, x1⟩, ⟨o2, x2⟩⟩ := ⟨_, _, _, rfl, hm, hd, hr, by dsimp only; omega, by dsimp only; omega, by dsimp only; omega⟩
  have hCp := hid (fun w' (hb : Below w0.heap.size w0 w') => ref_CopyTxn _ _ w' (hT.below hb))
  have hGd := fun w' (hb : Below w0.heap.size w0 w') => ref_GoodTxn _ _ w' (hT.below hb)
  rw [hgt] at hGd
  replace hGd := hid hGd
  have hBk := hid (by simpa only [hblk] using (fun w' => ref_isBlock b w'))
  have hInM := hid (by simpa only [hqm] using (fun w' (hb : Below w0.heap.size w0 w') => ref_in mt b _ w' (hm.below hb) (by omega)))
  have hInD := hid (by simpa only [hqd] using (fun w' (hb : Below w0.heap.size w0 w') => ref_in dt b _ w' (hd.below hb) (by omega)))
  have hAm := hid (fun x w' (hb : Below w0.heap.size w0 w') => ref_among rev x _ w' (hr.below hb) (by omega))
  have hAb := hid (by simpa only [hqr] using (fun w' (hb : Below w0.heap.size w0 w') => ref_among rev b _ w' (hr.below hb) (by omega)))
  have hWm := hid (fun w' (hb : Below w0.heap.size w0 w') => ref_with mt b s _ w' (hm.below hb) (by omega))
  have hWd := hid (fun w' (hb : Below w0.heap.size w0 w') => ref_with dt b s _ w' (hd.below hb) (by omega))
  have hRm := hid (fun w' (hb : Below w0.heap.size w0 w') => ref_rest mt b _ w' (hm.below hb) (by omega))
  have hRd := hid (fun w' (hb : Below w0.heap.size w0 w') => ref_rest dt b _ w' (hd.below hb) (by omega))
  have hsu := hid (fun n => revK_succ false rev b n)
  have hle := hid (fun n => revK_len false rev b n)
  have hrv0 : revK false rev b 0 = [] := rfl
  have hrv : ∃ G, G = revK false rev b := ⟨_, rfl⟩
  obtain ⟨G, hG⟩ := hrv
  rw [← hG] at hsu hle hrv0 ⊢
  simp only [txnV] at hCp hGd
  replace hqm := hid hqm; replace hqd := hid hqd; replace hqr := hid hqr
  clear hT hm hd hr hgt hG
  have X := St.start [] w0
  go_enter Try.func8, Try.ntmps8
  have e0 : (x1 == 0) = false := beq_eq_false_iff_ne.2 (by omega)
  go_wp2_with (first
    | (refine at_mem rfl ?_; (first | (refine at_load rfl ?_; (first | (refine c_load1 rfl _ _ rfl rfl X (by repeat (first | exact ReadA.here rfl | apply ReadA.there)) ?_) | (refine c_loadN rfl _ _ rfl rfl X (by repeat (first | exact ReadB.here (Nat.le_of_ble_eq_true rfl) | apply ReadB.there)) ?_))) | (refine at_store rfl ?_; (first | (refine c_store1 rfl _ _ _ rfl rfl (by first | exact EvR.const _ | exact EvR.tmp rfl rfl) X rfl rfl (by repeat (first | exact PutA.here (Nat.le_of_ble_eq_true rfl) | apply PutA.there)) ?_; intro w X2; (try simp only [upd] at X2); replace X := X2; clear X2) | (refine c_storeN rfl _ _ _ rfl rfl rfl X rfl rfl (by repeat (first | exact PutA.here (Nat.le_of_ble_eq_true rfl) | apply PutA.there)) ?_; intro w X2; (try simp only [upd] at X2); replace X := X2; clear X2))) | (refine m_alloc rfl _ rfl X ?_; intro g w X2; (replace X := X2; clear X2)) | (refine m_box rfl _ _ rfl (by first | exact EvR.const _ | exact EvR.tmp rfl rfl) rfl X ?_; intro g w X2; (replace X := X2; clear X2))); (simp only [Act.put, List.setIfInBounds_toArray, List.set_cons_succ, List.set_cons_zero, List.drop_succ_cons, List.drop_zero, List.take_succ_cons, List.take_zero, Nat.reduceAdd]))
    | (go_at_call 30; go_loud ((with_reducible refine (hGd.out _ X.below).mono ?_); rintro e w1 ⟨rfl, hb1⟩; replace X := X.call hb1; clear hb1))
    | (go_at_call 31; go_loud ((with_reducible refine (hBk.out _).mono ?_); rintro e w1 ⟨rfl, rfl⟩))
    | (go_at_call 32; go_loud ((with_reducible refine (hInM.out _ X.below).mono ?_); rintro e w1 ⟨rfl, hb1⟩; replace X := X.call hb1; clear hb1))
    | (go_at_call 32; go_loud ((with_reducible refine (hInD.out _ X.below).mono ?_); rintro e w1 ⟨rfl, hb1⟩; replace X := X.call hb1; clear hb1))
    | (go_at_call 33; go_loud ((with_reducible refine (hAb.out _ X.below).mono ?_); rintro e w1 ⟨rfl, rfl⟩))
    | (go_at_call 6; go_loud ((with_reducible refine (hCp.out _ X.below).mono ?_); rintro e w1 ⟨vc, rfl, ⟨vm', vd', vr', rfl, p1, p2, p3, _⟩, hb1⟩; obtain ⟨am', cm', rfl⟩ := p1.form; obtain ⟨ad', cd', rfl⟩ := p2.form; obtain ⟨ar', cr', rfl⟩ := p3.form; have f1 := hid (p1.fresh X.mv.size); have f2 := hid (p2.fresh X.mv.size); have f3 := hid (p3.fresh X.mv.size); simp only [txnV]; replace X := X.addOTxn hb1 p1 p2 p3; dsimp only at X; clear hb1 p1 p2 p3)))
  obtain ⟨gO, gR, gT, rfl, rfl, rfl⟩ := X.gs3
  go_loopw [115] (fun i wr => ∃ (k : Nat) (M : List Ent) (a : Option Addr) (c : Nat), k ≤ 12 ∧ i = .int .i64 k ∧ OwnM intC 3 1 (.slice a (G k).length c) (G k) M ∧ St [] w0 wr (⟨gO, [.int .i64 seq, .slice am' mt.length cm', .slice ad' dt.length cd', .slice a (G k).length c, .bool o0, .int .i64 x0, .bool true, .int .i64 (x1 - 1), .bool o2, .int .i64 x2], 28⟩ :: ⟨gR, [.int .i64 0, .slice none 0 0, .slice none 0 0, .slice none 0 0, .bool false, .int .i64 0, .bool false, .int .i64 0, .bool false, .int .i64 0], 28⟩ :: ⟨gT, [.int .i64 seq, .slice am mt.length cm, .slice ad dt.length cd, .slice ar rev.length cr, .bool o0, .int .i64 x0, .bool true, .int .i64 x1, .bool o2, .int .i64 x2], 28⟩ :: (M ++ [])) [Rd.of cpyC (.slice am' mt.length cm') mt, Rd.of cpyC (.slice ad' dt.length cd') dt, Rd.of intC (.slice ar' rev.length cr') rev]) (fun i _ => 12 - (intOf i).toNat)
  case atStart => exact ⟨0, [], none, 0, by decide, rfl, by rw [hrv0]; exact .nil _ _ _, by rw [hrv0]; exact X⟩
  case round =>
    clear X
    obtain ⟨k, M, a, c, hk, rfl, hO, X⟩ := hrel
    by_cases hlt : k < 12
    · have hAk := hAm.out (k : Int)
      have hs := hsu.out k
      have hl := hle.out k
      obtain ⟨Q, hQ⟩ : ∃ Q, inI rev (k : Int) = Q := ⟨_, rfl⟩
      rw [hQ] at hAk hs
      replace hAk := hid hAk
      by_cases hb : (k : Int) = b
      · have e1 : ((k : Int) == b) = true := beq_iff_eq.2 hb
        have e2 : ((k : Int) != b) = false := by simp [hb]
        rw [e1, e2] at hs
        simp only [Bool.and_false, Bool.and_true, Bool.false_and, Bool.true_and, Bool.or_self, Bool.or_false, Bool.or_true, Bool.false_eq_true, ↓reduceIte, List.append_nil] at hs
        replace hs := hid hs
        clear hb hQ
        go_wp2_with (first
    | (refine at_mem rfl ?_; (first | (refine at_load rfl ?_; (first | (refine c_load1 rfl _ _ rfl rfl X (by repeat (first | exact ReadA.here rfl | apply ReadA.there)) ?_) | (refine c_loadN rfl _ _ rfl rfl X (by repeat (first | exact ReadB.here (Nat.le_of_ble_eq_true rfl) | apply ReadB.there)) ?_))) | (refine at_store rfl ?_; (first | (refine c_store1 rfl _ _ _ rfl rfl (by first | exact EvR.const _ | exact EvR.tmp rfl rfl) X rfl rfl (by repeat (first | exact PutA.here (Nat.le_of_ble_eq_true rfl) | apply PutA.there)) ?_; intro w X2; (try simp only [upd] at X2); replace X := X2; clear X2) | (refine c_storeN rfl _ _ _ rfl rfl rfl X rfl rfl (by repeat (first | exact PutA.here (Nat.le_of_ble_eq_true rfl) | apply PutA.there)) ?_; intro w X2; (try simp only [upd] at X2); replace X := X2; clear X2))) | (refine m_alloc rfl _ rfl X ?_; intro g w X2; (replace X := X2; clear X2)) | (refine m_box rfl _ _ rfl (by first | exact EvR.const _ | exact EvR.tmp rfl rfl) rfl X ?_; intro g w X2; (replace X := X2; clear X2))); (simp only [Act.put, List.setIfInBounds_toArray, List.set_cons_succ, List.set_cons_zero, List.drop_succ_cons, List.drop_zero, List.take_succ_cons, List.take_zero, Nat.reduceAdd]))
    | (go_at_call 33; go_loud ((with_reducible refine (hAk.out _ X.below).mono ?_); rintro e w1 ⟨rfl, rfl⟩)))
        rw [← hs.out] at hO X
        go_roundw
        case rel => (first | exact ⟨k + 1, M, a, c, by omega, by go_num, hO, X⟩ | ((repeat apply Exists.intro); exact ⟨⟨k + 1, M, a, c, by omega, by go_num, hO, X⟩, rfl⟩))
        case measure => simp [intOf]; omega
      · have e1 : ((k : Int) == b) = false := beq_eq_false_iff_ne.2 hb
        have e2 : ((k : Int) != b) = true := by simp [hb]
        rw [e1, e2] at hs
        cases Q with
        | false =>
          simp only [Bool.and_false, Bool.and_true, Bool.false_and, Bool.true_and, Bool.or_self, Bool.or_false, Bool.or_true, Bool.false_eq_true, ↓reduceIte, List.append_nil] at hs
          replace hs := hid hs
          clear hb hQ
          go_wp2_with (first
    | (refine at_mem rfl ?_; (first | (refine at_load rfl ?_; (first | (refine c_load1 rfl _ _ rfl rfl X (by repeat (first | exact ReadA.here rfl | apply ReadA.there)) ?_) | (refine c_loadN rfl _ _ rfl rfl X (by repeat (first | exact ReadB.here (Nat.le_of_ble_eq_true rfl) | apply ReadB.there)) ?_))) | (refine at_store rfl ?_; (first | (refine c_store1 rfl _ _ _ rfl rfl (by first | exact EvR.const _ | exact EvR.tmp rfl rfl) X rfl rfl (by repeat (first | exact PutA.here (Nat.le_of_ble_eq_true rfl) | apply PutA.there)) ?_; intro w X2; (try simp only [upd] at X2); replace X := X2; clear X2) | (refine c_storeN rfl _ _ _ rfl rfl rfl X rfl rfl (by repeat (first | exact PutA.here (Nat.le_of_ble_eq_true rfl) | apply PutA.there)) ?_; intro w X2; (try simp only [upd] at X2); replace X := X2; clear X2))) | (refine m_alloc rfl _ rfl X ?_; intro g w X2; (replace X := X2; clear X2)) | (refine m_box rfl _ _ rfl (by first | exact EvR.const _ | exact EvR.tmp rfl rfl) rfl X ?_; intro g w X2; (replace X := X2; clear X2))); (simp only [Act.put, List.setIfInBounds_toArray, List.set_cons_succ, List.set_cons_zero, List.drop_succ_cons, List.drop_zero, List.take_succ_cons, List.take_zero, Nat.reduceAdd]))
    | (go_at_call 33; go_loud ((with_reducible refine (hAk.out _ X.below).mono ?_); rintro e w1 ⟨rfl, rfl⟩)))
          rw [← hs.out] at hO X
          go_roundw
          case rel => (first | exact ⟨k + 1, M, a, c, by omega, by go_num, hO, X⟩ | ((repeat apply Exists.intro); exact ⟨⟨k + 1, M, a, c, by omega, by go_num, hO, X⟩, rfl⟩))
          case measure => simp [intOf]; omega
        | true =>
          simp only [Bool.and_false, Bool.and_true, Bool.false_and, Bool.true_and, Bool.or_self, Bool.or_false, Bool.false_or, Bool.or_true, Bool.false_eq_true, ↓reduceIte, List.append_nil] at hs
          replace hs := hid hs
          clear hb hQ
          go_wp2_with (first
    | (refine at_mem rfl ?_; (first | (refine at_load rfl ?_; (first | (refine c_load1 rfl _ _ rfl rfl X (by repeat (first | exact ReadA.here rfl | apply ReadA.there)) ?_) | (refine c_loadN rfl _ _ rfl rfl X (by repeat (first | exact ReadB.here (Nat.le_of_ble_eq_true rfl) | apply ReadB.there)) ?_))) | (refine at_store rfl ?_; (first | (refine c_store1 rfl _ _ _ rfl rfl (by first | exact EvR.const _ | exact EvR.tmp rfl rfl) X rfl rfl (by repeat (first | exact PutA.here (Nat.le_of_ble_eq_true rfl) | apply PutA.there)) ?_; intro w X2; (try simp only [upd] at X2); replace X := X2; clear X2) | (refine c_storeN rfl _ _ _ rfl rfl rfl X rfl rfl (by repeat (first | exact PutA.here (Nat.le_of_ble_eq_true rfl) | apply PutA.there)) ?_; intro w X2; (try simp only [upd] at X2); replace X := X2; clear X2))) | (refine m_alloc rfl _ rfl X ?_; intro g w X2; (replace X := X2; clear X2)) | (refine m_box rfl _ _ rfl (by first | exact EvR.const _ | exact EvR.tmp rfl rfl) rfl X ?_; intro g w X2; (replace X := X2; clear X2))); (simp only [Act.put, List.setIfInBounds_toArray, List.set_cons_succ, List.set_cons_zero, List.drop_succ_cons, List.drop_zero, List.take_succ_cons, List.take_zero, Nat.reduceAdd]))
    | (at_builtin; go_loud (refine m_push [_, _, _] rfl _ _ _ rfl 8 intC_flat elemIntT X hO rfl (k : Int) rfl rfl (by omega) (by unfold maxLen; omega) ?_); intro a7 c7 w7 M7 hO7 X7; simp only [List.cons_append, List.nil_append] at X7; replace X := X7; clear X7)
    | (go_at_call 33; go_loud ((with_reducible refine (hAk.out _ X.below).mono ?_); rintro e w1 ⟨rfl, rfl⟩)))
          rw [show (G k).length + 1 = (G (k + 1)).length by rw [hs.out]; simp] at X hO7
          rw [← hs.out] at hO7
          go_roundw
          case rel => (first | exact ⟨k + 1, M7, a7, c7, by omega, by go_num, hO7, X⟩ | ((repeat apply Exists.intro); exact ⟨⟨k + 1, M7, a7, c7, by omega, by go_num, hO7, X⟩, rfl⟩))
          case measure => simp [intOf]; omega
    · obtain rfl : k = 12 := by omega
      clear hsu hle hrv0
      generalize G 12 = G at *
      have f9 := hid (hO.fresh (L := [_, _, _]) (T := []) X)
      have X9 := X.ownEnd (L := [_, _, _]) hO
      simp only [List.cons_append, List.nil_append] at X9
      replace X := X9
      clear X9 hO
      go_wp2_with (first
    | (refine at_mem rfl ?_; (first | (refine at_load rfl ?_; (first | (refine c_load1 rfl _ _ rfl rfl X (by repeat (first | exact ReadA.here rfl | apply ReadA.there)) ?_) | (refine c_loadN rfl _ _ rfl rfl X (by repeat (first | exact ReadB.here (Nat.le_of_ble_eq_true rfl) | apply ReadB.there)) ?_))) | (refine at_store rfl ?_; (first | (refine c_store1 rfl _ _ _ rfl rfl (by first | exact EvR.const _ | exact EvR.tmp rfl rfl) X rfl rfl (by repeat (first | exact PutA.here (Nat.le_of_ble_eq_true rfl) | apply PutA.there)) ?_; intro w X2; (try simp only [upd] at X2); replace X := X2; clear X2) | (refine c_storeN rfl _ _ _ rfl rfl rfl X rfl rfl (by repeat (first | exact PutA.here (Nat.le_of_ble_eq_true rfl) | apply PutA.there)) ?_; intro w X2; (try simp only [upd] at X2); replace X := X2; clear X2))) | (refine m_alloc rfl _ rfl X ?_; intro g w X2; (replace X := X2; clear X2)) | (refine m_box rfl _ _ rfl (by first | exact EvR.const _ | exact EvR.tmp rfl rfl) rfl X ?_; intro g w X2; (replace X := X2; clear X2))); (simp only [Act.put, List.setIfInBounds_toArray, List.set_cons_succ, List.set_cons_zero, List.drop_succ_cons, List.drop_zero, List.take_succ_cons, List.take_zero, Nat.reduceAdd]))
    | (go_at_call 34; go_loud ((with_reducible refine (hWm.out _ X.below).mono ?_); rintro e w1 ⟨v4, rfl, ho4, hb4⟩; obtain ⟨a4, c4, rfl⟩ := ho4.form; have f4 := hid (ho4.fresh X.mv.size); replace X := X.addOwn hb4 ho4; clear hb4 ho4)))
      exact m_ret2 rfl (.tmp rfl rfl) (.tmp rfl rfl) X (.tail _ (.head _)) rfl rfl ⟨_, _, _, rfl, ⟨X.r0, f4.out⟩, ⟨X.read (.tail _ (.tail _ (.tail _ (.head _)))), f2.out⟩, ⟨X.r1, f9.out⟩, X.below⟩

theorem ref_Alter_chg_old1 (seq : Int) (mt dt : List Cpy) (rev : List Int) (o0 o1 o2 : Bool) (x0 x1 x2 : Int) (am ad ar : Option Addr) (cm cd cr : Nat) (b : Int) (s : ByteArray) (w0 : World) (hm : RL cpyC w0 (.slice am mt.length cm) mt) (hd : RL cpyC w0 (.slice ad dt.length cd) dt) (hr : RL intC w0 (.slice ar rev.length cr) rev) (n1 : mt.length ≤ 12) (n2 : dt.length ≤ 12) (n3 : rev.length ≤ 12) (hgt : goodT ⟨seq, mt, dt, rev, ⟨o0, x0⟩, ⟨true, x1⟩, ⟨o2, x2⟩⟩ = true) (hblk : isBlk b = true) (hs : ((s.size : Int) != 32) = false) {q3 : Bool} (hqm : hasB mt b = true) (hqd : hasB dt b = false) (hqr : inI rev b = q3) :
    Calls Try.prog 8 #[.int .i64 0, .agg #[.int .i64 seq, .slice am mt.length cm, .slice ad dt.length cd, .slice ar rev.length cr, .bool o0, .int .i64 x0, .bool true, .int .i64 x1, .bool o2, .int .i64 x2], .int .i64 1, .int .i64 b, .string s] w0 (AltOk w0 ⟨seq, withL mt b s, dt, revK false rev b 12, ⟨o0, x0⟩, ⟨true, x1⟩, ⟨o2, x2⟩⟩) := by
  have hT : RTxn w0 (txnV ⟨seq, mt, dt, rev, ⟨o0, x0⟩, ⟨true, x1⟩, ⟨o2, x2⟩⟩ (.slice am mt.length cm) (.slice ad dt.length cd) (.slice ar rev.length cr)) ⟨seq, mt, dt, rev, ⟨o0, x0⟩, ⟨true, x1⟩, ⟨o2, x2⟩⟩ := ⟨_, _, _, rfl, hm, hd, hr, by dsimp only; omega, by dsimp only; omega, by dsimp only; omega⟩
  have hCp := hid (fun w' (hb : Below w0.heap.size w0 w') => ref_CopyTxn _ _ w' (hT.below hb))
  have hGd := fun w' (hb : Below w0.heap.size w0 w') => ref_GoodTxn _ _ w' (hT.below hb)
  rw [hgt] at hGd
  replace hGd := hid hGd
  have hBk := hid (by simpa only [hblk] using (fun w' => ref_isBlock b w'))
  have hInM := hid (by simpa only [hqm] using (fun w' (hb : Below w0.heap.size w0 w') => ref_in mt b _ w' (hm.below hb) (by omega)))
  have hInD := hid (by simpa only [hqd] using (fun w' (hb : Below w0.heap.size w0 w') => ref_in dt b _ w' (hd.below hb) (by omega)))
  have hAm := hid (fun x w' (hb : Below w0.heap.size w0 w') => ref_among rev x _ w' (hr.below hb) (by omega))
  have hAb := hid (by simpa only [hqr] using (fun w' (hb : Below w0.heap.size w0 w') => ref_among rev b _ w' (hr.below hb) (by omega)))
  have hWm := hid (fun w' (hb : Below w0.heap.size w0 w') => ref_with mt b s _ w' (hm.below hb) (by omega))
  have hWd := hid (fun w' (hb : Below w0.heap.size w0 w') => ref_with dt b s _ w' (hd.below hb) (by omega))
  have hRm := hid (fun w' (hb : Below w0.heap.size w0 w') => ref_rest mt b _ w' (hm.below hb) (by omega))
  have hRd := hid (fun w' (hb : Below w0.heap.size w0 w') => ref_rest dt b _ w' (hd.below hb) (by omega))
  have hsu := hid (fun n => revK_succ false rev b n)
  have hle := hid (fun n => revK_len false rev b n)
  have hrv0 : revK false rev b 0 = [] := rfl
  have hrv : ∃ G, G = revK false rev b := ⟨_, rfl⟩
  obtain ⟨G, hG⟩ := hrv
  rw [← hG] at hsu hle hrv0 ⊢
  simp only [txnV] at hCp hGd
  replace hqm := hid hqm; replace hqd := hid hqd; replace hqr := hid hqr
  clear hT hm hd hr hgt hG
  have X := St.start [] w0
  go_enter Try.func8, Try.ntmps8
  go_wp2_with (first
    | (refine at_mem rfl ?_; (first | (refine at_load rfl ?_; (first | (refine c_load1 rfl _ _ rfl rfl X (by repeat (first | exact ReadA.here rfl | apply ReadA.there)) ?_) | (refine c_loadN rfl _ _ rfl rfl X (by repeat (first | exact ReadB.here (Nat.le_of_ble_eq_true rfl) | apply ReadB.there)) ?_))) | (refine at_store rfl ?_; (first | (refine c_store1 rfl _ _ _ rfl rfl (by first | exact EvR.const _ | exact EvR.tmp rfl rfl) X rfl rfl (by repeat (first | exact PutA.here (Nat.le_of_ble_eq_true rfl) | apply PutA.there)) ?_; intro w X2; (try simp only [upd] at X2); replace X := X2; clear X2) | (refine c_storeN rfl _ _ _ rfl rfl rfl X rfl rfl (by repeat (first | exact PutA.here (Nat.le_of_ble_eq_true rfl) | apply PutA.there)) ?_; intro w X2; (try simp only [upd] at X2); replace X := X2; clear X2))) | (refine m_alloc rfl _ rfl X ?_; intro g w X2; (replace X := X2; clear X2)) | (refine m_box rfl _ _ rfl (by first | exact EvR.const _ | exact EvR.tmp rfl rfl) rfl X ?_; intro g w X2; (replace X := X2; clear X2))); (simp only [Act.put, List.setIfInBounds_toArray, List.set_cons_succ, List.set_cons_zero, List.drop_succ_cons, List.drop_zero, List.take_succ_cons, List.take_zero, Nat.reduceAdd]))
    | (go_at_call 30; go_loud ((with_reducible refine (hGd.out _ X.below).mono ?_); rintro e w1 ⟨rfl, hb1⟩; replace X := X.call hb1; clear hb1))
    | (go_at_call 31; go_loud ((with_reducible refine (hBk.out _).mono ?_); rintro e w1 ⟨rfl, rfl⟩))
    | (go_at_call 32; go_loud ((with_reducible refine (hInM.out _ X.below).mono ?_); rintro e w1 ⟨rfl, hb1⟩; replace X := X.call hb1; clear hb1))
    | (go_at_call 32; go_loud ((with_reducible refine (hInD.out _ X.below).mono ?_); rintro e w1 ⟨rfl, hb1⟩; replace X := X.call hb1; clear hb1))
    | (go_at_call 33; go_loud ((with_reducible refine (hAb.out _ X.below).mono ?_); rintro e w1 ⟨rfl, rfl⟩))
    | (go_at_call 6; go_loud ((with_reducible refine (hCp.out _ X.below).mono ?_); rintro e w1 ⟨vc, rfl, ⟨vm', vd', vr', rfl, p1, p2, p3, _⟩, hb1⟩; obtain ⟨am', cm', rfl⟩ := p1.form; obtain ⟨ad', cd', rfl⟩ := p2.form; obtain ⟨ar', cr', rfl⟩ := p3.form; have f1 := hid (p1.fresh X.mv.size); have f2 := hid (p2.fresh X.mv.size); have f3 := hid (p3.fresh X.mv.size); simp only [txnV]; replace X := X.addOTxn hb1 p1 p2 p3; dsimp only at X; clear hb1 p1 p2 p3)))
  obtain ⟨gO, gR, gT, rfl, rfl, rfl⟩ := X.gs3
  go_loopw [115] (fun i wr => ∃ (k : Nat) (M : List Ent) (a : Option Addr) (c : Nat), k ≤ 12 ∧ i = .int .i64 k ∧ OwnM intC 3 1 (.slice a (G k).length c) (G k) M ∧ St [] w0 wr (⟨gO, [.int .i64 seq, .slice am' mt.length cm', .slice ad' dt.length cd', .slice a (G k).length c, .bool o0, .int .i64 x0, .bool true, .int .i64 x1, .bool o2, .int .i64 x2], 28⟩ :: ⟨gR, [.int .i64 0, .slice none 0 0, .slice none 0 0, .slice none 0 0, .bool false, .int .i64 0, .bool false, .int .i64 0, .bool false, .int .i64 0], 28⟩ :: ⟨gT, [.int .i64 seq, .slice am mt.length cm, .slice ad dt.length cd, .slice ar rev.length cr, .bool o0, .int .i64 x0, .bool true, .int .i64 x1, .bool o2, .int .i64 x2], 28⟩ :: (M ++ [])) [Rd.of cpyC (.slice am' mt.length cm') mt, Rd.of cpyC (.slice ad' dt.length cd') dt, Rd.of intC (.slice ar' rev.length cr') rev]) (fun i _ => 12 - (intOf i).toNat)
  case atStart => exact ⟨0, [], none, 0, by decide, rfl, by rw [hrv0]; exact .nil _ _ _, by rw [hrv0]; exact X⟩
  case round =>
    clear X
    obtain ⟨k, M, a, c, hk, rfl, hO, X⟩ := hrel
    by_cases hlt : k < 12
    · have hAk := hAm.out (k : Int)
      have hs := hsu.out k
      have hl := hle.out k
      obtain ⟨Q, hQ⟩ : ∃ Q, inI rev (k : Int) = Q := ⟨_, rfl⟩
      rw [hQ] at hAk hs
      replace hAk := hid hAk
      by_cases hb : (k : Int) = b
      · have e1 : ((k : Int) == b) = true := beq_iff_eq.2 hb
        have e2 : ((k : Int) != b) = false := by simp [hb]
        rw [e1, e2] at hs
        simp only [Bool.and_false, Bool.and_true, Bool.false_and, Bool.true_and, Bool.or_self, Bool.or_false, Bool.or_true, Bool.false_eq_true, ↓reduceIte, List.append_nil] at hs
        replace hs := hid hs
        clear hb hQ
        go_wp2_with (first
    | (refine at_mem rfl ?_; (first | (refine at_load rfl ?_; (first | (refine c_load1 rfl _ _ rfl rfl X (by repeat (first | exact ReadA.here rfl | apply ReadA.there)) ?_) | (refine c_loadN rfl _ _ rfl rfl X (by repeat (first | exact ReadB.here (Nat.le_of_ble_eq_true rfl) | apply ReadB.there)) ?_))) | (refine at_store rfl ?_; (first | (refine c_store1 rfl _ _ _ rfl rfl (by first | exact EvR.const _ | exact EvR.tmp rfl rfl) X rfl rfl (by repeat (first | exact PutA.here (Nat.le_of_ble_eq_true rfl) | apply PutA.there)) ?_; intro w X2; (try simp only [upd] at X2); replace X := X2; clear X2) | (refine c_storeN rfl _ _ _ rfl rfl rfl X rfl rfl (by repeat (first | exact PutA.here (Nat.le_of_ble_eq_true rfl) | apply PutA.there)) ?_; intro w X2; (try simp only [upd] at X2); replace X := X2; clear X2))) | (refine m_alloc rfl _ rfl X ?_; intro g w X2; (replace X := X2; clear X2)) | (refine m_box rfl _ _ rfl (by first | exact EvR.const _ | exact EvR.tmp rfl rfl) rfl X ?_; intro g w X2; (replace X := X2; clear X2))); (simp only [Act.put, List.setIfInBounds_toArray, List.set_cons_succ, List.set_cons_zero, List.drop_succ_cons, List.drop_zero, List.take_succ_cons, List.take_zero, Nat.reduceAdd]))
    | (go_at_call 33; go_loud ((with_reducible refine (hAk.out _ X.below).mono ?_); rintro e w1 ⟨rfl, rfl⟩)))
        rw [← hs.out] at hO X
        go_roundw
        case rel => (first | exact ⟨k + 1, M, a, c, by omega, by go_num, hO, X⟩ | ((repeat apply Exists.intro); exact ⟨⟨k + 1, M, a, c, by omega, by go_num, hO, X⟩, rfl⟩))
        case measure => simp [intOf]; omega
      · have e1 : ((k : Int) == b) = false := beq_eq_false_iff_ne.2 hb
        have e2 : ((k : Int) != b) = true := by simp [hb]
        rw [e1, e2] at hs
        cases Q with
        | false =>
          simp only [Bool.and_false, Bool.and_true, Bool.false_and, Bool.true_and, Bool.or_self, Bool.or_false, Bool.or_true, Bool.false_eq_true, ↓reduceIte, List.append_nil] at hs
          replace hs := hid hs
          clear hb hQ
          go_wp2_with (first
    | (refine at_mem rfl ?_; (first | (refine at_load rfl ?_; (first | (refine c_load1 rfl _ _ rfl rfl X (by repeat (first | exact ReadA.here rfl | apply ReadA.there)) ?_) | (refine c_loadN rfl _ _ rfl rfl X (by repeat (first | exact ReadB.here (Nat.le_of_ble_eq_true rfl) | apply ReadB.there)) ?_))) | (refine at_store rfl ?_; (first | (refine c_store1 rfl _ _ _ rfl rfl (by first | exact EvR.const _ | exact EvR.tmp rfl rfl) X rfl rfl (by repeat (first | exact PutA.here (Nat.le_of_ble_eq_true rfl) | apply PutA.there)) ?_; intro w X2; (try simp only [upd] at X2); replace X := X2; clear X2) | (refine c_storeN rfl _ _ _ rfl rfl rfl X rfl rfl (by repeat (first | exact PutA.here (Nat.le_of_ble_eq_true rfl) | apply PutA.there)) ?_; intro w X2; (try simp only [upd] at X2); replace X := X2; clear X2))) | (refine m_alloc rfl _ rfl X ?_; intro g w X2; (replace X := X2; clear X2)) | (refine m_box rfl _ _ rfl (by first | exact EvR.const _ | exact EvR.tmp rfl rfl) rfl X ?_; intro g w X2; (replace X := X2; clear X2))); (simp only [Act.put, List.setIfInBounds_toArray, List.set_cons_succ, List.set_cons_zero, List.drop_succ_cons, List.drop_zero, List.take_succ_cons, List.take_zero, Nat.reduceAdd]))
    | (go_at_call 33; go_loud ((with_reducible refine (hAk.out _ X.below).mono ?_); rintro e w1 ⟨rfl, rfl⟩)))
          rw [← hs.out] at hO X
          go_roundw
          case rel => (first | exact ⟨k + 1, M, a, c, by omega, by go_num, hO, X⟩ | ((repeat apply Exists.intro); exact ⟨⟨k + 1, M, a, c, by omega, by go_num, hO, X⟩, rfl⟩))
          case measure => simp [intOf]; omega
        | true =>
          simp only [Bool.and_false, Bool.and_true, Bool.false_and, Bool.true_and, Bool.or_self, Bool.or_false, Bool.false_or, Bool.or_true, Bool.false_eq_true, ↓reduceIte, List.append_nil] at hs
          replace hs := hid hs
          clear hb hQ
          go_wp2_with (first
    | (refine at_mem rfl ?_; (first | (refine at_load rfl ?_; (first | (refine c_load1 rfl _ _ rfl rfl X (by repeat (first | exact ReadA.here rfl | apply ReadA.there)) ?_) | (refine c_loadN rfl _ _ rfl rfl X (by repeat (first | exact ReadB.here (Nat.le_of_ble_eq_true rfl) | apply ReadB.there)) ?_))) | (refine at_store rfl ?_; (first | (refine c_store1 rfl _ _ _ rfl rfl (by first | exact EvR.const _ | exact EvR.tmp rfl rfl) X rfl rfl (by repeat (first | exact PutA.here (Nat.le_of_ble_eq_true rfl) | apply PutA.there)) ?_; intro w X2; (try simp only [upd] at X2); replace X := X2; clear X2) | (refine c_storeN rfl _ _ _ rfl rfl rfl X rfl rfl (by repeat (first | exact PutA.here (Nat.le_of_ble_eq_true rfl) | apply PutA.there)) ?_; intro w X2; (try simp only [upd] at X2); replace X := X2; clear X2))) | (refine m_alloc rfl _ rfl X ?_; intro g w X2; (replace X := X2; clear X2)) | (refine m_box rfl _ _ rfl (by first | exact EvR.const _ | exact EvR.tmp rfl rfl) rfl X ?_; intro g w X2; (replace X := X2; clear X2))); (simp only [Act.put, List.setIfInBounds_toArray, List.set_cons_succ, List.set_cons_zero, List.drop_succ_cons, List.drop_zero, List.take_succ_cons, List.take_zero, Nat.reduceAdd]))
    | (at_builtin; go_loud (refine m_push [_, _, _] rfl _ _ _ rfl 8 intC_flat elemIntT X hO rfl (k : Int) rfl rfl (by omega) (by unfold maxLen; omega) ?_); intro a7 c7 w7 M7 hO7 X7; simp only [List.cons_append, List.nil_append] at X7; replace X := X7; clear X7)
    | (go_at_call 33; go_loud ((with_reducible refine (hAk.out _ X.below).mono ?_); rintro e w1 ⟨rfl, rfl⟩)))
          rw [show (G k).length + 1 = (G (k + 1)).length by rw [hs.out]; simp] at X hO7
          rw [← hs.out] at hO7
          go_roundw
          case rel => (first | exact ⟨k + 1, M7, a7, c7, by omega, by go_num, hO7, X⟩ | ((repeat apply Exists.intro); exact ⟨⟨k + 1, M7, a7, c7, by omega, by go_num, hO7, X⟩, rfl⟩))
          case measure => simp [intOf]; omega
    · obtain rfl : k = 12 := by omega
      clear hsu hle hrv0
      generalize G 12 = G at *
      have f9 := hid (hO.fresh (L := [_, _, _]) (T := []) X)
      have X9 := X.ownEnd (L := [_, _, _]) hO
      simp only [List.cons_append, List.nil_append] at X9
      replace X := X9
      clear X9 hO
      go_wp2_with (first
    | (refine at_mem rfl ?_; (first | (refine at_load rfl ?_; (first | (refine c_load1 rfl _ _ rfl rfl X (by repeat (first | exact ReadA.here rfl | apply ReadA.there)) ?_) | (refine c_loadN rfl _ _ rfl rfl X (by repeat (first | exact ReadB.here (Nat.le_of_ble_eq_true rfl) | apply ReadB.there)) ?_))) | (refine at_store rfl ?_; (first | (refine c_store1 rfl _ _ _ rfl rfl (by first | exact EvR.const _ | exact EvR.tmp rfl rfl) X rfl rfl (by repeat (first | exact PutA.here (Nat.le_of_ble_eq_true rfl) | apply PutA.there)) ?_; intro w X2; (try simp only [upd] at X2); replace X := X2; clear X2) | (refine c_storeN rfl _ _ _ rfl rfl rfl X rfl rfl (by repeat (first | exact PutA.here (Nat.le_of_ble_eq_true rfl) | apply PutA.there)) ?_; intro w X2; (try simp only [upd] at X2); replace X := X2; clear X2))) | (refine m_alloc rfl _ rfl X ?_; intro g w X2; (replace X := X2; clear X2)) | (refine m_box rfl _ _ rfl (by first | exact EvR.const _ | exact EvR.tmp rfl rfl) rfl X ?_; intro g w X2; (replace X := X2; clear X2))); (simp only [Act.put, List.setIfInBounds_toArray, List.set_cons_succ, List.set_cons_zero, List.drop_succ_cons, List.drop_zero, List.take_succ_cons, List.take_zero, Nat.reduceAdd]))
    | (go_at_call 34; go_loud ((with_reducible refine (hWm.out _ X.below).mono ?_); rintro e w1 ⟨v4, rfl, ho4, hb4⟩; obtain ⟨a4, c4, rfl⟩ := ho4.form; have f4 := hid (ho4.fresh X.mv.size); replace X := X.addOwn hb4 ho4; clear hb4 ho4)))
      exact m_ret2 rfl (.tmp rfl rfl) (.tmp rfl rfl) X (.tail _ (.head _)) rfl rfl ⟨_, _, _, rfl, ⟨X.r0, f4.out⟩, ⟨X.read (.tail _ (.tail _ (.tail _ (.head _)))), f2.out⟩, ⟨X.r1, f9.out⟩, X.below⟩

theorem ref_Alter_chg_was1 (seq : Int) (mt dt : List Cpy) (rev : List Int) (o0 o1 o2 : Bool) (x0 x1 x2 : Int) (am ad ar : Option Addr) (cm cd cr : Nat) (b : Int) (s : ByteArray) (w0 : World) (hm : RL cpyC w0 (.slice am mt.length cm) mt) (hd : RL cpyC w0 (.slice ad dt.length cd) dt) (hr : RL intC w0 (.slice ar rev.length cr) rev) (n1 : mt.length ≤ 12) (n2 : dt.length ≤ 12) (n3 : rev.length ≤ 12) (hgt : goodT ⟨seq, mt, dt, rev, ⟨o0, x0⟩, ⟨true, x1⟩, ⟨o2, x2⟩⟩ = true) (hblk : isBlk b = true) (hs : ((s.size : Int) != 32) = false) (hqm : hasB mt b = false) (hqd : hasB dt b = false) (hqr : inI rev b = true) :
    Calls Try.prog 8 #[.int .i64 0, .agg #[.int .i64 seq, .slice am mt.length cm, .slice ad dt.length cd, .slice ar rev.length cr, .bool o0, .int .i64 x0, .bool true, .int .i64 x1, .bool o2, .int .i64 x2], .int .i64 1, .int .i64 b, .string s] w0 (AltOk w0 ⟨seq, withL mt b s, dt, revK false rev b 12, ⟨o0, x0⟩, ⟨true, x1⟩, ⟨o2, x2⟩⟩) := by
  have hT : RTxn w0 (txnV ⟨seq, mt, dt, rev, ⟨o0, x0⟩, ⟨true, x1⟩, ⟨o2, x2⟩⟩ (.slice am mt.length cm) (.slice ad dt.length cd) (.slice ar rev.length cr)) ⟨seq, mt, dt, rev, ⟨o0, x0⟩, ⟨true, x1⟩, ⟨o2, x2⟩⟩ := ⟨_, _, _, rfl, hm, hd, hr, by dsimp only; omega, by dsimp only; omega, by dsimp only; omega⟩
  have hCp := hid (fun w' (hb : Below w0.heap.size w0 w') => ref_CopyTxn _ _ w' (hT.below hb))
  have hGd := fun w' (hb : Below w0.heap.size w0 w') => ref_GoodTxn _ _ w' (hT.below hb)
  rw [hgt] at hGd
  replace hGd := hid hGd
  have hBk := hid (by simpa only [hblk] using (fun w' => ref_isBlock b w'))
  have hInM := hid (by simpa only [hqm] using (fun w' (hb : Below w0.heap.size w0 w') => ref_in mt b _ w' (hm.below hb) (by omega)))
  have hInD := hid (by simpa only [hqd] using (fun w' (hb : Below w0.heap.size w0 w') => ref_in dt b _ w' (hd.below hb) (by omega)))
  have hAm := hid (fun x w' (hb : Below w0.heap.size w0 w') => ref_among rev x _ w' (hr.below hb) (by omega))
  have hAb := hid (by simpa only [hqr] using (fun w' (hb : Below w0.heap.size w0 w') => ref_among rev b _ w' (hr.below hb) (by omega)))
  have hWm := hid (fun w' (hb : Below w0.heap.size w0 w') => ref_with mt b s _ w' (hm.below hb) (by omega))
  have hWd := hid (fun w' (hb : Below w0.heap.size w0 w') => ref_with dt b s _ w' (hd.below hb) (by omega))
  have hRm := hid (fun w' (hb : Below w0.heap.size w0 w') => ref_rest mt b _ w' (hm.below hb) (by omega))
  have hRd := hid (fun w' (hb : Below w0.heap.size w0 w') => ref_rest dt b _ w' (hd.below hb) (by omega))
  have hsu := hid (fun n => revK_succ false rev b n)
  have hle := hid (fun n => revK_len false rev b n)
  have hrv0 : revK false rev b 0 = [] := rfl
  have hrv : ∃ G, G = revK false rev b := ⟨_, rfl⟩
  obtain ⟨G, hG⟩ := hrv
  rw [← hG] at hsu hle hrv0 ⊢
  simp only [txnV] at hCp hGd
  replace hqm := hid hqm; replace hqd := hid hqd; replace hqr := hid hqr
  clear hT hm hd hr hgt hG
  have X := St.start [] w0
  go_enter Try.func8, Try.ntmps8
  go_wp2_with (first
    | (refine at_mem rfl ?_; (first | (refine at_load rfl ?_; (first | (refine c_load1 rfl _ _ rfl rfl X (by repeat (first | exact ReadA.here rfl | apply ReadA.there)) ?_) | (refine c_loadN rfl _ _ rfl rfl X (by repeat (first | exact ReadB.here (Nat.le_of_ble_eq_true rfl) | apply ReadB.there)) ?_))) | (refine at_store rfl ?_; (first | (refine c_store1 rfl _ _ _ rfl rfl (by first | exact EvR.const _ | exact EvR.tmp rfl rfl) X rfl rfl (by repeat (first | exact PutA.here (Nat.le_of_ble_eq_true rfl) | apply PutA.there)) ?_; intro w X2; (try simp only [upd] at X2); replace X := X2; clear X2) | (refine c_storeN rfl _ _ _ rfl rfl rfl X rfl rfl (by repeat (first | exact PutA.here (Nat.le_of_ble_eq_true rfl) | apply PutA.there)) ?_; intro w X2; (try simp only [upd] at X2); replace X := X2; clear X2))) | (refine m_alloc rfl _ rfl X ?_; intro g w X2; (replace X := X2; clear X2)) | (refine m_box rfl _ _ rfl (by first | exact EvR.const _ | exact EvR.tmp rfl rfl) rfl X ?_; intro g w X2; (replace X := X2; clear X2))); (simp only [Act.put, List.setIfInBounds_toArray, List.set_cons_succ, List.set_cons_zero, List.drop_succ_cons, List.drop_zero, List.take_succ_cons, List.take_zero, Nat.reduceAdd]))
    | (go_at_call 30; go_loud ((with_reducible refine (hGd.out _ X.below).mono ?_); rintro e w1 ⟨rfl, hb1⟩; replace X := X.call hb1; clear hb1))
    | (go_at_call 31; go_loud ((with_reducible refine (hBk.out _).mono ?_); rintro e w1 ⟨rfl, rfl⟩))
    | (go_at_call 32; go_loud ((with_reducible refine (hInM.out _ X.below).mono ?_); rintro e w1 ⟨rfl, hb1⟩; replace X := X.call hb1; clear hb1))
    | (go_at_call 32; go_loud ((with_reducible refine (hInD.out _ X.below).mono ?_); rintro e w1 ⟨rfl, hb1⟩; replace X := X.call hb1; clear hb1))
    | (go_at_call 33; go_loud ((with_reducible refine (hAb.out _ X.below).mono ?_); rintro e w1 ⟨rfl, rfl⟩))
    | (go_at_call 6; go_loud ((with_reducible refine (hCp.out _ X.below).mono ?_); rintro e w1 ⟨vc, rfl, ⟨vm', vd', vr', rfl, p1, p2, p3, _⟩, hb1⟩; obtain ⟨am', cm', rfl⟩ := p1.form; obtain ⟨ad', cd', rfl⟩ := p2.form; obtain ⟨ar', cr', rfl⟩ := p3.form; have f1 := hid (p1.fresh X.mv.size); have f2 := hid (p2.fresh X.mv.size); have f3 := hid (p3.fresh X.mv.size); simp only [txnV]; replace X := X.addOTxn hb1 p1 p2 p3; dsimp only at X; clear hb1 p1 p2 p3)))
  obtain ⟨gO, gR, gT, rfl, rfl, rfl⟩ := X.gs3
  go_loopw [115] (fun i wr => ∃ (k : Nat) (M : List Ent) (a : Option Addr) (c : Nat), k ≤ 12 ∧ i = .int .i64 k ∧ OwnM intC 3 1 (.slice a (G k).length c) (G k) M ∧ St [] w0 wr (⟨gO, [.int .i64 seq, .slice am' mt.length cm', .slice ad' dt.length cd', .slice a (G k).length c, .bool o0, .int .i64 x0, .bool true, .int .i64 x1, .bool o2, .int .i64 x2], 28⟩ :: ⟨gR, [.int .i64 0, .slice none 0 0, .slice none 0 0, .slice none 0 0, .bool false, .int .i64 0, .bool false, .int .i64 0, .bool false, .int .i64 0], 28⟩ :: ⟨gT, [.int .i64 seq, .slice am mt.length cm, .slice ad dt.length cd, .slice ar rev.length cr, .bool o0, .int .i64 x0, .bool true, .int .i64 x1, .bool o2, .int .i64 x2], 28⟩ :: (M ++ [])) [Rd.of cpyC (.slice am' mt.length cm') mt, Rd.of cpyC (.slice ad' dt.length cd') dt, Rd.of intC (.slice ar' rev.length cr') rev]) (fun i _ => 12 - (intOf i).toNat)
  case atStart => exact ⟨0, [], none, 0, by decide, rfl, by rw [hrv0]; exact .nil _ _ _, by rw [hrv0]; exact X⟩
  case round =>
    clear X
    obtain ⟨k, M, a, c, hk, rfl, hO, X⟩ := hrel
    by_cases hlt : k < 12
    · have hAk := hAm.out (k : Int)
      have hs := hsu.out k
      have hl := hle.out k
      obtain ⟨Q, hQ⟩ : ∃ Q, inI rev (k : Int) = Q := ⟨_, rfl⟩
      rw [hQ] at hAk hs
      replace hAk := hid hAk
      by_cases hb : (k : Int) = b
      · have e1 : ((k : Int) == b) = true := beq_iff_eq.2 hb
        have e2 : ((k : Int) != b) = false := by simp [hb]
        rw [e1, e2] at hs
        simp only [Bool.and_false, Bool.and_true, Bool.false_and, Bool.true_and, Bool.or_self, Bool.or_false, Bool.or_true, Bool.false_eq_true, ↓reduceIte, List.append_nil] at hs
        replace hs := hid hs
        clear hb hQ
        go_wp2_with (first
    | (refine at_mem rfl ?_; (first | (refine at_load rfl ?_; (first | (refine c_load1 rfl _ _ rfl rfl X (by repeat (first | exact ReadA.here rfl | apply ReadA.there)) ?_) | (refine c_loadN rfl _ _ rfl rfl X (by repeat (first | exact ReadB.here (Nat.le_of_ble_eq_true rfl) | apply ReadB.there)) ?_))) | (refine at_store rfl ?_; (first | (refine c_store1 rfl _ _ _ rfl rfl (by first | exact EvR.const _ | exact EvR.tmp rfl rfl) X rfl rfl (by repeat (first | exact PutA.here (Nat.le_of_ble_eq_true rfl) | apply PutA.there)) ?_; intro w X2; (try simp only [upd] at X2); replace X := X2; clear X2) | (refine c_storeN rfl _ _ _ rfl rfl rfl X rfl rfl (by repeat (first | exact PutA.here (Nat.le_of_ble_eq_true rfl) | apply PutA.there)) ?_; intro w X2; (try simp only [upd] at X2); replace X := X2; clear X2))) | (refine m_alloc rfl _ rfl X ?_; intro g w X2; (replace X := X2; clear X2)) | (refine m_box rfl _ _ rfl (by first | exact EvR.const _ | exact EvR.tmp rfl rfl) rfl X ?_; intro g w X2; (replace X := X2; clear X2))); (simp only [Act.put, List.setIfInBounds_toArray, List.set_cons_succ, List.set_cons_zero, List.drop_succ_cons, List.drop_zero, List.take_succ_cons, List.take_zero, Nat.reduceAdd]))
    | (go_at_call 33; go_loud ((with_reducible refine (hAk.out _ X.below).mono ?_); rintro e w1 ⟨rfl, rfl⟩)))
        rw [← hs.out] at hO X
        go_roundw
        case rel => (first | exact ⟨k + 1, M, a, c, by omega, by go_num, hO, X⟩ | ((repeat apply Exists.intro); exact ⟨⟨k + 1, M, a, c, by omega, by go_num, hO, X⟩, rfl⟩))
        case measure => simp [intOf]; omega
      · have e1 : ((k : Int) == b) = false := beq_eq_false_iff_ne.2 hb
        have e2 : ((k : Int) != b) = true := by simp [hb]
        rw [e1, e2] at hs
        cases Q with
        | false =>
          simp only [Bool.and_false, Bool.and_true, Bool.false_and, Bool.true_and, Bool.or_self, Bool.or_false, Bool.or_true, Bool.false_eq_true, ↓reduceIte, List.append_nil] at hs
          replace hs := hid hs
          clear hb hQ
          go_wp2_with (first
    | (refine at_mem rfl ?_; (first | (refine at_load rfl ?_; (first | (refine c_load1 rfl _ _ rfl rfl X (by repeat (first | exact ReadA.here rfl | apply ReadA.there)) ?_) | (refine c_loadN rfl _ _ rfl rfl X (by repeat (first | exact ReadB.here (Nat.le_of_ble_eq_true rfl) | apply ReadB.there)) ?_))) | (refine at_store rfl ?_; (first | (refine c_store1 rfl _ _ _ rfl rfl (by first | exact EvR.const _ | exact EvR.tmp rfl rfl) X rfl rfl (by repeat (first | exact PutA.here (Nat.le_of_ble_eq_true rfl) | apply PutA.there)) ?_; intro w X2; (try simp only [upd] at X2); replace X := X2; clear X2) | (refine c_storeN rfl _ _ _ rfl rfl rfl X rfl rfl (by repeat (first | exact PutA.here (Nat.le_of_ble_eq_true rfl) | apply PutA.there)) ?_; intro w X2; (try simp only [upd] at X2); replace X := X2; clear X2))) | (refine m_alloc rfl _ rfl X ?_; intro g w X2; (replace X := X2; clear X2)) | (refine m_box rfl _ _ rfl (by first | exact EvR.const _ | exact EvR.tmp rfl rfl) rfl X ?_; intro g w X2; (replace X := X2; clear X2))); (simp only [Act.put, List.setIfInBounds_toArray, List.set_cons_succ, List.set_cons_zero, List.drop_succ_cons, List.drop_zero, List.take_succ_cons, List.take_zero, Nat.reduceAdd]))
    | (go_at_call 33; go_loud ((with_reducible refine (hAk.out _ X.below).mono ?_); rintro e w1 ⟨rfl, rfl⟩)))
          rw [← hs.out] at hO X
          go_roundw
          case rel => (first | exact ⟨k + 1, M, a, c, by omega, by go_num, hO, X⟩ | ((repeat apply Exists.intro); exact ⟨⟨k + 1, M, a, c, by omega, by go_num, hO, X⟩, rfl⟩))
          case measure => simp [intOf]; omega
        | true =>
          simp only [Bool.and_false, Bool.and_true, Bool.false_and, Bool.true_and, Bool.or_self, Bool.or_false, Bool.false_or, Bool.or_true, Bool.false_eq_true, ↓reduceIte, List.append_nil] at hs
          replace hs := hid hs
          clear hb hQ
          go_wp2_with (first
    | (refine at_mem rfl ?_; (first | (refine at_load rfl ?_; (first | (refine c_load1 rfl _ _ rfl rfl X (by repeat (first | exact ReadA.here rfl | apply ReadA.there)) ?_) | (refine c_loadN rfl _ _ rfl rfl X (by repeat (first | exact ReadB.here (Nat.le_of_ble_eq_true rfl) | apply ReadB.there)) ?_))) | (refine at_store rfl ?_; (first | (refine c_store1 rfl _ _ _ rfl rfl (by first | exact EvR.const _ | exact EvR.tmp rfl rfl) X rfl rfl (by repeat (first | exact PutA.here (Nat.le_of_ble_eq_true rfl) | apply PutA.there)) ?_; intro w X2; (try simp only [upd] at X2); replace X := X2; clear X2) | (refine c_storeN rfl _ _ _ rfl rfl rfl X rfl rfl (by repeat (first | exact PutA.here (Nat.le_of_ble_eq_true rfl) | apply PutA.there)) ?_; intro w X2; (try simp only [upd] at X2); replace X := X2; clear X2))) | (refine m_alloc rfl _ rfl X ?_; intro g w X2; (replace X := X2; clear X2)) | (refine m_box rfl _ _ rfl (by first | exact EvR.const _ | exact EvR.tmp rfl rfl) rfl X ?_; intro g w X2; (replace X := X2; clear X2))); (simp only [Act.put, List.setIfInBounds_toArray, List.set_cons_succ, List.set_cons_zero, List.drop_succ_cons, List.drop_zero, List.take_succ_cons, List.take_zero, Nat.reduceAdd]))
    | (at_builtin; go_loud (refine m_push [_, _, _] rfl _ _ _ rfl 8 intC_flat elemIntT X hO rfl (k : Int) rfl rfl (by omega) (by unfold maxLen; omega) ?_); intro a7 c7 w7 M7 hO7 X7; simp only [List.cons_append, List.nil_append] at X7; replace X := X7; clear X7)
    | (go_at_call 33; go_loud ((with_reducible refine (hAk.out _ X.below).mono ?_); rintro e w1 ⟨rfl, rfl⟩)))
          rw [show (G k).length + 1 = (G (k + 1)).length by rw [hs.out]; simp] at X hO7
          rw [← hs.out] at hO7
          go_roundw
          case rel => (first | exact ⟨k + 1, M7, a7, c7, by omega, by go_num, hO7, X⟩ | ((repeat apply Exists.intro); exact ⟨⟨k + 1, M7, a7, c7, by omega, by go_num, hO7, X⟩, rfl⟩))
          case measure => simp [intOf]; omega
    · obtain rfl : k = 12 := by omega
      clear hsu hle hrv0
      generalize G 12 = G at *
      have f9 := hid (hO.fresh (L := [_, _, _]) (T := []) X)
      have X9 := X.ownEnd (L := [_, _, _]) hO
      simp only [List.cons_append, List.nil_append] at X9
      replace X := X9
      clear X9 hO
      go_wp2_with (first
    | (refine at_mem rfl ?_; (first | (refine at_load rfl ?_; (first | (refine c_load1 rfl _ _ rfl rfl X (by repeat (first | exact ReadA.here rfl | apply ReadA.there)) ?_) | (refine c_loadN rfl _ _ rfl rfl X (by repeat (first | exact ReadB.here (Nat.le_of_ble_eq_true rfl) | apply ReadB.there)) ?_))) | (refine at_store rfl ?_; (first | (refine c_store1 rfl _ _ _ rfl rfl (by first | exact EvR.const _ | exact EvR.tmp rfl rfl) X rfl rfl (by repeat (first | exact PutA.here (Nat.le_of_ble_eq_true rfl) | apply PutA.there)) ?_; intro w X2; (try simp only [upd] at X2); replace X := X2; clear X2) | (refine c_storeN rfl _ _ _ rfl rfl rfl X rfl rfl (by repeat (first | exact PutA.here (Nat.le_of_ble_eq_true rfl) | apply PutA.there)) ?_; intro w X2; (try simp only [upd] at X2); replace X := X2; clear X2))) | (refine m_alloc rfl _ rfl X ?_; intro g w X2; (replace X := X2; clear X2)) | (refine m_box rfl _ _ rfl (by first | exact EvR.const _ | exact EvR.tmp rfl rfl) rfl X ?_; intro g w X2; (replace X := X2; clear X2))); (simp only [Act.put, List.setIfInBounds_toArray, List.set_cons_succ, List.set_cons_zero, List.drop_succ_cons, List.drop_zero, List.take_succ_cons, List.take_zero, Nat.reduceAdd]))
    | (go_at_call 34; go_loud ((with_reducible refine (hWm.out _ X.below).mono ?_); rintro e w1 ⟨v4, rfl, ho4, hb4⟩; obtain ⟨a4, c4, rfl⟩ := ho4.form; have f4 := hid (ho4.fresh X.mv.size); replace X := X.addOwn hb4 ho4; clear hb4 ho4)))
      exact m_ret2 rfl (.tmp rfl rfl) (.tmp rfl rfl) X (.tail _ (.head _)) rfl rfl ⟨_, _, _, rfl, ⟨X.r0, f4.out⟩, ⟨X.read (.tail _ (.tail _ (.tail _ (.head _)))), f2.out⟩, ⟨X.r1, f9.out⟩, X.below⟩

theorem ref_Alter_chg_new2 (seq : Int) (mt dt : List Cpy) (rev : List Int) (o0 o1 o2 : Bool) (x0 x1 x2 : Int) (am ad ar : Option Addr) (cm cd cr : Nat) (b : Int) (s : ByteArray) (w0 : World) (hm : RL cpyC w0 (.slice am mt.length cm) mt) (hd : RL cpyC w0 (.slice ad dt.length cd) dt) (hr : RL intC w0 (.slice ar rev.length cr) rev) (n1 : mt.length ≤ 12) (n2 : dt.length ≤ 12) (n3 : rev.length ≤ 12) (hgt : goodT ⟨seq, mt, dt, rev, ⟨o0, x0⟩, ⟨o1, x1⟩, ⟨true, x2⟩⟩ = true) (hblk : isBlk b = true) (hs : ((s.size : Int) != 32) = false) (hqm : hasB mt b = false) (hqd : hasB dt b = false) (hqr : inI rev b = false) (hx : 0 < x2) (hx2 : x2 ≤ 24) :
    Calls Try.prog 8 #[.int .i64 0, .agg #[.int .i64 seq, .slice am mt.length cm, .slice ad dt.length cd, .slice ar rev.length cr, .bool o0, .int .i64 x0, .bool o1, .int .i64 x1, .bool true, .int .i64 x2], .int .i64 2, .int .i64 b, .string s] w0 (AltOk w0 ⟨seq, withL mt b s, dt, revK false rev b 12, ⟨o0, x0⟩, ⟨o1, x1⟩, ⟨true, x2 - 1⟩⟩) := by
  have hT : RTxn w0 (txnV ⟨seq, mt, dt, rev, ⟨o0, x0⟩, ⟨o1, x1⟩, ⟨true, x2⟩⟩ (.slice am mt.length cm) (.slice ad dt.length cd) (.slice ar rev.length cr)) ⟨seq, mt, dt, rev, ⟨o0, x0⟩, ⟨o1, x1⟩, ⟨true, x2⟩⟩ := ⟨_, _, _, rfl, hm, hd, hr, by dsimp only; omega, by dsimp only; omega, by dsimp only; omega⟩
  have hCp := hid (fun w' (hb : Below w0.heap.size w0 w') => ref_CopyTxn _ _ w' (hT.below hb))
  have hGd := fun w' (hb : Below w0.heap.size w0 w') => ref_GoodTxn _ _ w' (hT.below hb)
  rw [hgt] at hGd
  replace hGd := hid hGd
  have hBk := hid (by simpa only [hblk] using (fun w' => ref_isBlock b w'))
  have hInM := hid (by simpa only [hqm] using (fun w' (hb : Below w0.heap.size w0 w') => ref_in mt b _ w' (hm.below hb) (by omega)))
  have hInD := hid (by simpa only [hqd] using (fun w' (hb : Below w0.heap.size w0 w') => ref_in dt b _ w' (hd.below hb) (by omega)))
  have hAm := hid (fun x w' (hb : Below w0.heap.size w0 w') => ref_among rev x _ w' (hr.below hb) (by omega))
  have hAb := hid (by simpa only [hqr] using (fun w' (hb : Below w0.heap.size w0 w') => ref_among rev b _ w' (hr.below hb) (by omega)))
  have hWm := hid (fun w' (hb : Below w0.heap.size w0 w') => ref_with mt b s _ w' (hm.below hb) (by omega))
  have hWd := hid (fun w' (hb : Below w0.heap.size w0 w') => ref_with dt b s _ w' (hd.below hb) (by omega))
  have hRm := hid (fun w' (hb : Below w0.heap.size w0 w') => ref_rest mt b _ w' (hm.below hb) (by omega))
  have hRd := hid (fun w' (hb : Below w0.heap.size w0 w') => ref_rest dt b _ w' (hd.below hb) (by omega))
  have hsu := hid (fun n => revK_succ false rev b n)
  have hle := hid (fun n => revK_len false rev b n)
  have hrv0 : revK false rev b 0 = [] := rfl
  have hrv : ∃ G, G = revK false rev b := ⟨_, rfl⟩
  obtain ⟨G, hG⟩ := hrv
  rw [← hG] at hsu hle hrv0 ⊢
  simp only [txnV] at hCp hGd
  replace hqm := hid hqm; replace hqd := hid hqd; replace hqr := hid hqr
  clear hT hm hd hr hgt hG
  have X := St.start [] w0
  go_enter Try.func8, Try.ntmps8
  have e0 : (x2 == 0) = false := beq_eq_false_iff_ne.2 (by omega)
  go_wp2_with (first
    | (refine at_mem rfl ?_; (first | (refine at_load rfl ?_; (first | (refine c_load1 rfl _ _ rfl rfl X (by repeat (first | exact ReadA.here rfl | apply ReadA.there)) ?_) | (refine c_loadN rfl _ _ rfl rfl X (by repeat (first | exact ReadB.here (Nat.le_of_ble_eq_true rfl) | apply ReadB.there)) ?_))) | (refine at_store rfl ?_; (first | (refine c_store1 rfl _ _ _ rfl rfl (by first | exact EvR.const _ | exact EvR.tmp rfl rfl) X rfl rfl (by repeat (first | exact PutA.here (Nat.le_of_ble_eq_true rfl) | apply PutA.there)) ?_; intro w X2; (try simp only [upd] at X2); replace X := X2; clear X2) | (refine c_storeN rfl _ _ _ rfl rfl rfl X rfl rfl (by repeat (first | exact PutA.here (Nat.le_of_ble_eq_true rfl) | apply PutA.there)) ?_; intro w X2; (try simp only [upd] at X2); replace X := X2; clear X2))) | (refine m_alloc rfl _ rfl X ?_; intro g w X2; (replace X := X2; clear X2)) | (refine m_box rfl _ _ rfl (by first | exact EvR.const _ | exact EvR.tmp rfl rfl) rfl X ?_; intro g w X2; (replace X := X2; clear X2))); (simp only [Act.put, List.setIfInBounds_toArray, List.set_cons_succ, List.set_cons_zero, List.drop_succ_cons, List.drop_zero, List.take_succ_cons, List.take_zero, Nat.reduceAdd]))
    | (go_at_call 30; go_loud ((with_reducible refine (hGd.out _ X.below).mono ?_); rintro e w1 ⟨rfl, hb1⟩; replace X := X.call hb1; clear hb1))
    | (go_at_call 31; go_loud ((with_reducible refine (hBk.out _).mono ?_); rintro e w1 ⟨rfl, rfl⟩))
    | (go_at_call 32; go_loud ((with_reducible refine (hInM.out _ X.below).mono ?_); rintro e w1 ⟨rfl, hb1⟩; replace X := X.call hb1; clear hb1))
    | (go_at_call 32; go_loud ((with_reducible refine (hInD.out _ X.below).mono ?_); rintro e w1 ⟨rfl, hb1⟩; replace X := X.call hb1; clear hb1))
    | (go_at_call 33; go_loud ((with_reducible refine (hAb.out _ X.below).mono ?_); rintro e w1 ⟨rfl, rfl⟩))
    | (go_at_call 6; go_loud ((with_reducible refine (hCp.out _ X.below).mono ?_); rintro e w1 ⟨vc, rfl, ⟨vm', vd', vr', rfl, p1, p2, p3, _⟩, hb1⟩; obtain ⟨am', cm', rfl⟩ := p1.form; obtain ⟨ad', cd', rfl⟩ := p2.form; obtain ⟨ar', cr', rfl⟩ := p3.form; have f1 := hid (p1.fresh X.mv.size); have f2 := hid (p2.fresh X.mv.size); have f3 := hid (p3.fresh X.mv.size); simp only [txnV]; replace X := X.addOTxn hb1 p1 p2 p3; dsimp only at X; clear hb1 p1 p2 p3)))
  obtain ⟨gO, gR, gT, rfl, rfl, rfl⟩ := X.gs3
  go_loopw [115] (fun i wr => ∃ (k : Nat) (M : List Ent) (a : Option Addr) (c : Nat), k ≤ 12 ∧ i = .int .i64 k ∧ OwnM intC 3 1 (.slice a (G k).length c) (G k) M ∧ St [] w0 wr (⟨gO, [.int .i64 seq, .slice am' mt.length cm', .slice ad' dt.length cd', .slice a (G k).length c, .bool o0, .int .i64 x0, .bool o1, .int .i64 x1, .bool true, .int .i64 (x2 - 1)], 28⟩ :: ⟨gR, [.int .i64 0, .slice none 0 0, .slice none 0 0, .slice none 0 0, .bool false, .int .i64 0, .bool false, .int .i64 0, .bool false, .int .i64 0], 28⟩ :: ⟨gT, [.int .i64 seq, .slice am mt.length cm, .slice ad dt.length cd, .slice ar rev.length cr, .bool o0, .int .i64 x0, .bool o1, .int .i64 x1, .bool true, .int .i64 x2], 28⟩ :: (M ++ [])) [Rd.of cpyC (.slice am' mt.length cm') mt, Rd.of cpyC (.slice ad' dt.length cd') dt, Rd.of intC (.slice ar' rev.length cr') rev]) (fun i _ => 12 - (intOf i).toNat)
  case atStart => exact ⟨0, [], none, 0, by decide, rfl, by rw [hrv0]; exact .nil _ _ _, by rw [hrv0]; exact X⟩
  case round =>
    clear X
    obtain ⟨k, M, a, c, hk, rfl, hO, X⟩ := hrel
    by_cases hlt : k < 12
    · have hAk := hAm.out (k : Int)
      have hs := hsu.out k
      have hl := hle.out k
      obtain ⟨Q, hQ⟩ : ∃ Q, inI rev (k : Int) = Q := ⟨_, rfl⟩
      rw [hQ] at hAk hs
      replace hAk := hid hAk
      by_cases hb : (k : Int) = b
      · have e1 : ((k : Int) == b) = true := beq_iff_eq.2 hb
        have e2 : ((k : Int) != b) = false := by simp [hb]
        rw [e1, e2] at hs
        simp only [Bool.and_false, Bool.and_true, Bool.false_and, Bool.true_and, Bool.or_self, Bool.or_false, Bool.or_true, Bool.false_eq_true, ↓reduceIte, List.append_nil] at hs
        replace hs := hid hs
        clear hb hQ
        go_wp2_with (first
    | (refine at_mem rfl ?_; (first | (refine at_load rfl ?_; (first | (refine c_load1 rfl _ _ rfl rfl X (by repeat (first | exact ReadA.here rfl | apply ReadA.there)) ?_) | (refine c_loadN rfl _ _ rfl rfl X (by repeat (first | exact ReadB.here (Nat.le_of_ble_eq_true rfl) | apply ReadB.there)) ?_))) | (refine at_store rfl ?_; (first | (refine c_store1 rfl _ _ _ rfl rfl (by first | exact EvR.const _ | exact EvR.tmp rfl rfl) X rfl rfl (by repeat (first | exact PutA.here (Nat.le_of_ble_eq_true rfl) | apply PutA.there)) ?_; intro w X2; (try simp only [upd] at X2); replace X := X2; clear X2) | (refine c_storeN rfl _ _ _ rfl rfl rfl X rfl rfl (by repeat (first | exact PutA.here (Nat.le_of_ble_eq_true rfl) | apply PutA.there)) ?_; intro w X2; (try simp only [upd] at X2); replace X := X2; clear X2))) | (refine m_alloc rfl _ rfl X ?_; intro g w X2; (replace X := X2; clear X2)) | (refine m_box rfl _ _ rfl (by first | exact EvR.const _ | exact EvR.tmp rfl rfl) rfl X ?_; intro g w X2; (replace X := X2; clear X2))); (simp only [Act.put, List.setIfInBounds_toArray, List.set_cons_succ, List.set_cons_zero, List.drop_succ_cons, List.drop_zero, List.take_succ_cons, List.take_zero, Nat.reduceAdd]))
    | (go_at_call 33; go_loud ((with_reducible refine (hAk.out _ X.below).mono ?_); rintro e w1 ⟨rfl, rfl⟩)))
        rw [← hs.out] at hO X
        go_roundw
        case rel => (first | exact ⟨k + 1, M, a, c, by omega, by go_num, hO, X⟩ | ((repeat apply Exists.intro); exact ⟨⟨k + 1, M, a, c, by omega, by go_num, hO, X⟩, rfl⟩))
        case measure => simp [intOf]; omega
      · have e1 : ((k : Int) == b) = false := beq_eq_false_iff_ne.2 hb
        have e2 : ((k : Int) != b) = true := by simp [hb]
        rw [e1, e2] at hs
        cases Q with
        | false =>
          simp only [Bool.and_false, Bool.and_true, Bool.false_and, Bool.true_and, Bool.or_self, Bool.or_false, Bool.or_true, Bool.false_eq_true, ↓reduceIte, List.append_nil] at hs
          replace hs := hid hs
          clear hb hQ
          go_wp2_with (first
    | (refine at_mem rfl ?_; (first | (refine at_load rfl ?_; (first | (refine c_load1 rfl _ _ rfl rfl X (by repeat (first | exact ReadA.here rfl | apply ReadA.there)) ?_) | (refine c_loadN rfl _ _ rfl rfl X (by repeat (first | exact ReadB.here (Nat.le_of_ble_eq_true rfl) | apply ReadB.there)) ?_))) | (refine at_store rfl ?_; (first | (refine c_store1 rfl _ _ _ rfl rfl (by first | exact EvR.const _ | exact EvR.tmp rfl rfl) X rfl rfl (by repeat (first | exact PutA.here (Nat.le_of_ble_eq_true rfl) | apply PutA.there)) ?_; intro w X2; (try simp only [upd] at X2); replace X := X2; clear X2) | (refine c_storeN rfl _ _ _ rfl rfl rfl X rfl rfl (by repeat (first | exact PutA.here (Nat.le_of_ble_eq_true rfl) | apply PutA.there)) ?_; intro w X2; (try simp only [upd] at X2); replace X := X2; clear X2))) | (refine m_alloc rfl _ rfl X ?_; intro g w X2; (replace X := X2; clear X2)) | (refine m_box rfl _ _ rfl (by first | exact EvR.const _ | exact EvR.tmp rfl rfl) rfl X ?_; intro g w X2; (replace X := X2; clear X2))); (simp only [Act.put, List.setIfInBounds_toArray, List.set_cons_succ, List.set_cons_zero, List.drop_succ_cons, List.drop_zero, List.take_succ_cons, List.take_zero, Nat.reduceAdd]))
    | (go_at_call 33; go_loud ((with_reducible refine (hAk.out _ X.below).mono ?_); rintro e w1 ⟨rfl, rfl⟩)))
          rw [← hs.out] at hO X
          go_roundw
          case rel => (first | exact ⟨k + 1, M, a, c, by omega, by go_num, hO, X⟩ | ((repeat apply Exists.intro); exact ⟨⟨k + 1, M, a, c, by omega, by go_num, hO, X⟩, rfl⟩))
          case measure => simp [intOf]; omega
        | true =>
          simp only [Bool.and_false, Bool.and_true, Bool.false_and, Bool.true_and, Bool.or_self, Bool.or_false, Bool.false_or, Bool.or_true, Bool.false_eq_true, ↓reduceIte, List.append_nil] at hs
          replace hs := hid hs
          clear hb hQ
          go_wp2_with (first
    | (refine at_mem rfl ?_; (first | (refine at_load rfl ?_; (first | (refine c_load1 rfl _ _ rfl rfl X (by repeat (first | exact ReadA.here rfl | apply ReadA.there)) ?_) | (refine c_loadN rfl _ _ rfl rfl X (by repeat (first | exact ReadB.here (Nat.le_of_ble_eq_true rfl) | apply ReadB.there)) ?_))) | (refine at_store rfl ?_; (first | (refine c_store1 rfl _ _ _ rfl rfl (by first | exact EvR.const _ | exact EvR.tmp rfl rfl) X rfl rfl (by repeat (first | exact PutA.here (Nat.le_of_ble_eq_true rfl) | apply PutA.there)) ?_; intro w X2; (try simp only [upd] at X2); replace X := X2; clear X2) | (refine c_storeN rfl _ _ _ rfl rfl rfl X rfl rfl (by repeat (first | exact PutA.here (Nat.le_of_ble_eq_true rfl) | apply PutA.there)) ?_; intro w X2; (try simp only [upd] at X2); replace X := X2; clear X2))) | (refine m_alloc rfl _ rfl X ?_; intro g w X2; (replace X := X2; clear X2)) | (refine m_box rfl _ _ rfl (by first | exact EvR.const _ | exact EvR.tmp rfl rfl) rfl X ?_; intro g w X2; (replace X := X2; clear X2))); (simp only [Act.put, List.setIfInBounds_toArray, List.set_cons_succ, List.set_cons_zero, List.drop_succ_cons, List.drop_zero, List.take_succ_cons, List.take_zero, Nat.reduceAdd]))
    | (at_builtin; go_loud (refine m_push [_, _, _] rfl _ _ _ rfl 8 intC_flat elemIntT X hO rfl (k : Int) rfl rfl (by omega) (by unfold maxLen; omega) ?_); intro a7 c7 w7 M7 hO7 X7; simp only [List.cons_append, List.nil_append] at X7; replace X := X7; clear X7)
    | (go_at_call 33; go_loud ((with_reducible refine (hAk.out _ X.below).mono ?_); rintro e w1 ⟨rfl, rfl⟩)))
          rw [show (G k).length + 1 = (G (k + 1)).length by rw [hs.out]; simp] at X hO7
          rw [← hs.out] at hO7
          go_roundw
          case rel => (first | exact ⟨k + 1, M7, a7, c7, by omega, by go_num, hO7, X⟩ | ((repeat apply Exists.intro); exact ⟨⟨k + 1, M7, a7, c7, by omega, by go_num, hO7, X⟩, rfl⟩))
          case measure => simp [intOf]; omega
    · obtain rfl : k = 12 := by omega
      clear hsu hle hrv0
      generalize G 12 = G at *
      have f9 := hid (hO.fresh (L := [_, _, _]) (T := []) X)
      have X9 := X.ownEnd (L := [_, _, _]) hO
      simp only [List.cons_append, List.nil_append] at X9
      replace X := X9
      clear X9 hO
      go_wp2_with (first
    | (refine at_mem rfl ?_; (first | (refine at_load rfl ?_; (first | (refine c_load1 rfl _ _ rfl rfl X (by repeat (first | exact ReadA.here rfl | apply ReadA.there)) ?_) | (refine c_loadN rfl _ _ rfl rfl X (by repeat (first | exact ReadB.here (Nat.le_of_ble_eq_true rfl) | apply ReadB.there)) ?_))) | (refine at_store rfl ?_; (first | (refine c_store1 rfl _ _ _ rfl rfl (by first | exact EvR.const _ | exact EvR.tmp rfl rfl) X rfl rfl (by repeat (first | exact PutA.here (Nat.le_of_ble_eq_true rfl) | apply PutA.there)) ?_; intro w X2; (try simp only [upd] at X2); replace X := X2; clear X2) | (refine c_storeN rfl _ _ _ rfl rfl rfl X rfl rfl (by repeat (first | exact PutA.here (Nat.le_of_ble_eq_true rfl) | apply PutA.there)) ?_; intro w X2; (try simp only [upd] at X2); replace X := X2; clear X2))) | (refine m_alloc rfl _ rfl X ?_; intro g w X2; (replace X := X2; clear X2)) | (refine m_box rfl _ _ rfl (by first | exact EvR.const _ | exact EvR.tmp rfl rfl) rfl X ?_; intro g w X2; (replace X := X2; clear X2))); (simp only [Act.put, List.setIfInBounds_toArray, List.set_cons_succ, List.set_cons_zero, List.drop_succ_cons, List.drop_zero, List.take_succ_cons, List.take_zero, Nat.reduceAdd]))
    | (go_at_call 34; go_loud ((with_reducible refine (hWm.out _ X.below).mono ?_); rintro e w1 ⟨v4, rfl, ho4, hb4⟩; obtain ⟨a4, c4, rfl⟩ := ho4.form; have f4 := hid (ho4.fresh X.mv.size); replace X := X.addOwn hb4 ho4; clear hb4 ho4)))
      exact m_ret2 rfl (.tmp rfl rfl) (.tmp rfl rfl) X (.tail _ (.head _)) rfl rfl ⟨_, _, _, rfl, ⟨X.r0, f4.out⟩, ⟨X.read (.tail _ (.tail _ (.tail _ (.head _)))), f2.out⟩, ⟨X.r1, f9.out⟩, X.below⟩

theorem ref_Alter_chg_old2 (seq : Int) (mt dt : List Cpy) (rev : List Int) (o0 o1 o2 : Bool) (x0 x1 x2 : Int) (am ad ar : Option Addr) (cm cd cr : Nat) (b : Int) (s : ByteArray) (w0 : World) (hm : RL cpyC w0 (.slice am mt.length cm) mt) (hd : RL cpyC w0 (.slice ad dt.length cd) dt) (hr : RL intC w0 (.slice ar rev.length cr) rev) (n1 : mt.length ≤ 12) (n2 : dt.length ≤ 12) (n3 : rev.length ≤ 12) (hgt : goodT ⟨seq, mt, dt, rev, ⟨o0, x0⟩, ⟨o1, x1⟩, ⟨true, x2⟩⟩ = true) (hblk : isBlk b = true) (hs : ((s.size : Int) != 32) = false) {q3 : Bool} (hqm : hasB mt b = true) (hqd : hasB dt b = false) (hqr : inI rev b = q3) :
    Calls Try.prog 8 #[.int .i64 0, .agg #[.int .i64 seq, .slice am mt.length cm, .slice ad dt.length cd, .slice ar rev.length cr, .bool o0, .int .i64 x0, .bool o1, .int .i64 x1, .bool true, .int .i64 x2], .int .i64 2, .int .i64 b, .string s] w0 (AltOk w0 ⟨seq, withL mt b s, dt, revK false rev b 12, ⟨o0, x0⟩, ⟨o1, x1⟩, ⟨true, x2⟩⟩) := by
  have hT : RTxn w0 (txnV ⟨seq, mt, dt, rev, ⟨o0, x0⟩, ⟨o1, x1⟩, ⟨true, x2⟩⟩ (.slice am mt.length cm) (.slice ad dt.length cd) (.slice ar rev.length cr)) ⟨seq, mt, dt, rev, ⟨o0, x0⟩, ⟨o1, x1⟩, ⟨true, x2⟩⟩ := ⟨_, _, _, rfl, hm, hd, hr, by dsimp only; omega, by dsimp only; omega, by dsimp only; omega⟩
  have hCp := hid (fun w' (hb : Below w0.heap.size w0 w') => ref_CopyTxn _ _ w' (hT.below hb))
  have hGd := fun w' (hb : Below w0.heap.size w0 w') => ref_GoodTxn _ _ w' (hT.below hb)
  rw [hgt] at hGd
  replace hGd := hid hGd
  have hBk := hid (by simpa only [hblk] using (fun w' => ref_isBlock b w'))
  have hInM := hid (by simpa only [hqm] using (fun w' (hb : Below w0.heap.size w0 w') => ref_in mt b _ w' (hm.below hb) (by omega)))
  have hInD := hid (by simpa only [hqd] using (fun w' (hb : Below w0.heap.size w0 w') => ref_in dt b _ w' (hd.below hb) (by omega)))
  have hAm := hid (fun x w' (hb : Below w0.heap.size w0 w') => ref_among rev x _ w' (hr.below hb) (by omega))
  have hAb := hid (by simpa only [hqr] using (fun w' (hb : Below w0.heap.size w0 w') => ref_among rev b _ w' (hr.below hb) (by omega)))
  have hWm := hid (fun w' (hb : Below w0.heap.size w0 w') => ref_with mt b s _ w' (hm.below hb) (by omega))
  have hWd := hid (fun w' (hb : Below w0.heap.size w0 w') => ref_with dt b s _ w' (hd.below hb) (by omega))
  have hRm := hid (fun w' (hb : Below w0.heap.size w0 w') => ref_rest mt b _ w' (hm.below hb) (by omega))
  have hRd := hid (fun w' (hb : Below w0.heap.size w0 w') => ref_rest dt b _ w' (hd.below hb) (by omega))
  have hsu := hid (fun n => revK_succ false rev b n)
  have hle := hid (fun n => revK_len false rev b n)
  have hrv0 : revK false rev b 0 = [] := rfl
  have hrv : ∃ G, G = revK false rev b := ⟨_, rfl⟩
  obtain ⟨G, hG⟩ := hrv
  rw [← hG] at hsu hle hrv0 ⊢
  simp only [txnV] at hCp hGd
  replace hqm := hid hqm; replace hqd := hid hqd; replace hqr := hid hqr
  clear hT hm hd hr hgt hG
  have X := St.start [] w0
  go_enter Try.func8, Try.ntmps8
  go_wp2_with (first
    | (refine at_mem rfl ?_; (first | (refine at_load rfl ?_; (first | (refine c_load1 rfl _ _ rfl rfl X (by repeat (first | exact ReadA.here rfl | apply ReadA.there)) ?_) | (refine c_loadN rfl _ _ rfl rfl X (by repeat (first | exact ReadB.here (Nat.le_of_ble_eq_true rfl) | apply ReadB.there)) ?_))) | (refine at_store rfl ?_; (first | (refine c_store1 rfl _ _ _ rfl rfl (by first | exact EvR.const _ | exact EvR.tmp rfl rfl) X rfl rfl (by repeat (first | exact PutA.here (Nat.le_of_ble_eq_true rfl) | apply PutA.there)) ?_; intro w X2; (try simp only [upd] at X2); replace X := X2; clear X2) | (refine c_storeN rfl _ _ _ rfl rfl rfl X rfl rfl (by repeat (first | exact PutA.here (Nat.le_of_ble_eq_true rfl) | apply PutA.there)) ?_; intro w X2; (try simp only [upd] at X2); replace X := X2; clear X2))) | (refine m_alloc rfl _ rfl X ?_; intro g w X2; (replace X := X2; clear X2)) | (refine m_box rfl _ _ rfl (by first | exact EvR.const _ | exact EvR.tmp rfl rfl) rfl X ?_; intro g w X2; (replace X := X2; clear X2))); (simp only [Act.put, List.setIfInBounds_toArray, List.set_cons_succ, List.set_cons_zero, List.drop_succ_cons, List.drop_zero, List.take_succ_cons, List.take_zero, Nat.reduceAdd]))
    | (go_at_call 30; go_loud ((with_reducible refine (hGd.out _ X.below).mono ?_); rintro e w1 ⟨rfl, hb1⟩; replace X := X.call hb1; clear hb1))
    | (go_at_call 31; go_loud ((with_reducible refine (hBk.out _).mono ?_); rintro e w1 ⟨rfl, rfl⟩))
    | (go_at_call 32; go_loud ((with_reducible refine (hInM.out _ X.below).mono ?_); rintro e w1 ⟨rfl, hb1⟩; replace X := X.call hb1; clear hb1))
    | (go_at_call 32; go_loud ((with_reducible refine (hInD.out _ X.below).mono ?_); rintro e w1 ⟨rfl, hb1⟩; replace X := X.call hb1; clear hb1))
    | (go_at_call 33; go_loud ((with_reducible refine (hAb.out _ X.below).mono ?_); rintro e w1 ⟨rfl, rfl⟩))
    | (go_at_call 6; go_loud ((with_reducible refine (hCp.out _ X.below).mono ?_); rintro e w1 ⟨vc, rfl, ⟨vm', vd', vr', rfl, p1, p2, p3, _⟩, hb1⟩; obtain ⟨am', cm', rfl⟩ := p1.form; obtain ⟨ad', cd', rfl⟩ := p2.form; obtain ⟨ar', cr', rfl⟩ := p3.form; have f1 := hid (p1.fresh X.mv.size); have f2 := hid (p2.fresh X.mv.size); have f3 := hid (p3.fresh X.mv.size); simp only [txnV]; replace X := X.addOTxn hb1 p1 p2 p3; dsimp only at X; clear hb1 p1 p2 p3)))
  obtain ⟨gO, gR, gT, rfl, rfl, rfl⟩ := X.gs3
  go_loopw [115] (fun i wr => ∃ (k : Nat) (M : List Ent) (a : Option Addr) (c : Nat), k ≤ 12 ∧ i = .int .i64 k ∧ OwnM intC 3 1 (.slice a (G k).length c) (G k) M ∧ St [] w0 wr (⟨gO, [.int .i64 seq, .slice am' mt.length cm', .slice ad' dt.length cd', .slice a (G k).length c, .bool o0, .int .i64 x0, .bool o1, .int .i64 x1, .bool true, .int .i64 x2], 28⟩ :: ⟨gR, [.int .i64 0, .slice none 0 0, .slice none 0 0, .slice none 0 0, .bool false, .int .i64 0, .bool false, .int .i64 0, .bool false, .int .i64 0], 28⟩ :: ⟨gT, [.int .i64 seq, .slice am mt.length cm, .slice ad dt.length cd, .slice ar rev.length cr, .bool o0, .int .i64 x0, .bool o1, .int .i64 x1, .bool true, .int .i64 x2], 28⟩ :: (M ++ [])) [Rd.of cpyC (.slice am' mt.length cm') mt, Rd.of cpyC (.slice ad' dt.length cd') dt, Rd.of intC (.slice ar' rev.length cr') rev]) (fun i _ => 12 - (intOf i).toNat)
  case atStart => exact ⟨0, [], none, 0, by decide, rfl, by rw [hrv0]; exact .nil _ _ _, by rw [hrv0]; exact X⟩
  case round =>
    clear X
    obtain ⟨k, M, a, c, hk, rfl, hO, X⟩ := hrel
    by_cases hlt : k < 12
    · have hAk := hAm.out (k : Int)
      have hs := hsu.out k
      have hl := hle.out k
      obtain ⟨Q, hQ⟩ : ∃ Q, inI rev (k : Int) = Q := ⟨_, rfl⟩
      rw [hQ] at hAk hs
      replace hAk := hid hAk
      by_cases hb : (k : Int) = b
      · have e1 : ((k : Int) == b) = true := beq_iff_eq.2 hb
        have e2 : ((k : Int) != b) = false := by simp [hb]
        rw [e1, e2] at hs
        simp only [Bool.and_false, Bool.and_true, Bool.false_and, Bool.true_and, Bool.or_self, Bool.or_false, Bool.or_true, Bool.false_eq_true, ↓reduceIte, List.append_nil] at hs
        replace hs := hid hs
        clear hb hQ
        go_wp2_with (first
    | (refine at_mem rfl ?_; (first | (refine at_load rfl ?_; (first | (refine c_load1 rfl _ _ rfl rfl X (by repeat (first | exact ReadA.here rfl | apply ReadA.there)) ?_) | (refine c_loadN rfl _ _ rfl rfl X (by repeat (first | exact ReadB.here (Nat.le_of_ble_eq_true rfl) | apply ReadB.there)) ?_))) | (refine at_store rfl ?_; (first | (refine c_store1 rfl _ _ _ rfl rfl (by first | exact EvR.const _ | exact EvR.tmp rfl rfl) X rfl rfl (by repeat (first | exact PutA.here (Nat.le_of_ble_eq_true rfl) | apply PutA.there)) ?_; intro w X2; (try simp only [upd] at X2); replace X := X2; clear X2) | (refine c_storeN rfl _ _ _ rfl rfl rfl X rfl rfl (by repeat (first | exact PutA.here (Nat.le_of_ble_eq_true rfl) | apply PutA.there)) ?_; intro w X2; (try simp only [upd] at X2); replace X := X2; clear X2))) | (refine m_alloc rfl _ rfl X ?_; intro g w X2; (replace X := X2; clear X2)) | (refine m_box rfl _ _ rfl (by first | exact EvR.const _ | exact EvR.tmp rfl rfl) rfl X ?_; intro g w X2; (replace X := X2; clear X2))); (simp only [Act.put, List.setIfInBounds_toArray, List.set_cons_succ, List.set_cons_zero, List.drop_succ_cons, List.drop_zero, List.take_succ_cons, List.take_zero, Nat.reduceAdd]))
    | (go_at_call 33; go_loud ((with_reducible refine (hAk.out _ X.below).mono ?_); rintro e w1 ⟨rfl, rfl⟩)))
        rw [← hs.out] at hO X
        go_roundw
        case rel => (first | exact ⟨k + 1, M, a, c, by omega, by go_num, hO, X⟩ | ((repeat apply Exists.intro); exact ⟨⟨k + 1, M, a, c, by omega, by go_num, hO, X⟩, rfl⟩))
        case measure => simp [intOf]; omega
      · have e1 : ((k : Int) == b) = false := beq_eq_false_iff_ne.2 hb
        have e2 : ((k : Int) != b) = true := by simp [hb]
        rw [e1, e2] at hs
        cases Q with
        | false =>
          simp only [Bool.and_false, Bool.and_true, Bool.false_and, Bool.true_and, Bool.or_self, Bool.or_false, Bool.or_true, Bool.false_eq_true, ↓reduceIte, List.append_nil] at hs
          replace hs := hid hs
          clear hb hQ
          go_wp2_with (first
    | (refine at_mem rfl ?_; (first | (refine at_load rfl ?_; (first | (refine c_load1 rfl _ _ rfl rfl X (by repeat (first | exact ReadA.here rfl | apply ReadA.there)) ?_) | (refine c_loadN rfl _ _ rfl rfl X (by repeat (first | exact ReadB.here (Nat.le_of_ble_eq_true rfl) | apply ReadB.there)) ?_))) | (refine at_store rfl ?_; (first | (refine c_store1 rfl _ _ _ rfl rfl (by first | exact EvR.const _ | exact EvR.tmp rfl rfl) X rfl rfl (by repeat (first | exact PutA.here (Nat.le_of_ble_eq_true rfl) | apply PutA.there)) ?_; intro w X2; (try simp only [upd] at X2); replace X := X2; clear X2) | (refine c_storeN rfl _ _ _ rfl rfl rfl X rfl rfl (by repeat (first | exact PutA.here (Nat.le_of_ble_eq_true rfl) | apply PutA.there)) ?_; intro w X2; (try simp only [upd] at X2); replace X := X2; clear X2))) | (refine m_alloc rfl _ rfl X ?_; intro g w X2; (replace X := X2; clear X2)) | (refine m_box rfl _ _ rfl (by first | exact EvR.const _ | exact EvR.tmp rfl rfl) rfl X ?_; intro g w X2; (replace X := X2; clear X2))); (simp only [Act.put, List.setIfInBounds_toArray, List.set_cons_succ, List.set_cons_zero, List.drop_succ_cons, List.drop_zero, List.take_succ_cons, List.take_zero, Nat.reduceAdd]))
    | (go_at_call 33; go_loud ((with_reducible refine (hAk.out _ X.below).mono ?_); rintro e w1 ⟨rfl, rfl⟩)))
          rw [← hs.out] at hO X
          go_roundw
          case rel => (first | exact ⟨k + 1, M, a, c, by omega, by go_num, hO, X⟩ | ((repeat apply Exists.intro); exact ⟨⟨k + 1, M, a, c, by omega, by go_num, hO, X⟩, rfl⟩))
          case measure => simp [intOf]; omega
        | true =>
          simp only [Bool.and_false, Bool.and_true, Bool.false_and, Bool.true_and, Bool.or_self, Bool.or_false, Bool.false_or, Bool.or_true, Bool.false_eq_true, ↓reduceIte, List.append_nil] at hs
          replace hs := hid hs
          clear hb hQ
          go_wp2_with (first
    | (refine at_mem rfl ?_; (first | (refine at_load rfl ?_; (first | (refine c_load1 rfl _ _ rfl rfl X (by repeat (first | exact ReadA.here rfl | apply ReadA.there)) ?_) | (refine c_loadN rfl _ _ rfl rfl X (by repeat (first | exact ReadB.here (Nat.le_of_ble_eq_true rfl) | apply ReadB.there)) ?_))) | (refine at_store rfl ?_; (first | (refine c_store1 rfl _ _ _ rfl rfl (by first | exact EvR.const _ | exact EvR.tmp rfl rfl) X rfl rfl (by repeat (first | exact PutA.here (Nat.le_of_ble_eq_true rfl) | apply PutA.there)) ?_; intro w X2; (try simp only [upd] at X2); replace X := X2; clear X2) | (refine c_storeN rfl _ _ _ rfl rfl rfl X rfl rfl (by repeat (first | exact PutA.here (Nat.le_of_ble_eq_true rfl) | apply PutA.there)) ?_; intro w X2; (try simp only [upd] at X2); replace X := X2; clear X2))) | (refine m_alloc rfl _ rfl X ?_; intro g w X2; (replace X := X2; clear X2)) | (refine m_box rfl _ _ rfl (by first | exact EvR.const _ | exact EvR.tmp rfl rfl) rfl X ?_; intro g w X2; (replace X := X2; clear X2))); (simp only [Act.put, List.setIfInBounds_toArray, List.set_cons_succ, List.set_cons_zero, List.drop_succ_cons, List.drop_zero, List.take_succ_cons, List.take_zero, Nat.reduceAdd]))
    | (at_builtin; go_loud (refine m_push [_, _, _] rfl _ _ _ rfl 8 intC_flat elemIntT X hO rfl (k : Int) rfl rfl (by omega) (by unfold maxLen; omega) ?_); intro a7 c7 w7 M7 hO7 X7; simp only [List.cons_append, List.nil_append] at X7; replace X := X7; clear X7)
    | (go_at_call 33; go_loud ((with_reducible refine (hAk.out _ X.below).mono ?_); rintro e w1 ⟨rfl, rfl⟩)))
          rw [show (G k).length + 1 = (G (k + 1)).length by rw [hs.out]; simp] at X hO7
          rw [← hs.out] at hO7
          go_roundw
          case rel => (first | exact ⟨k + 1, M7, a7, c7, by omega, by go_num, hO7, X⟩ | ((repeat apply Exists.intro); exact ⟨⟨k + 1, M7, a7, c7, by omega, by go_num, hO7, X⟩, rfl⟩))
          case measure => simp [intOf]; omega
    · obtain rfl : k = 12 := by omega
      clear hsu hle hrv0
      generalize G 12 = G at *
      have f9 := hid (hO.fresh (L := [_, _, _]) (T := []) X)
      have X9 := X.ownEnd (L := [_, _, _]) hO
      simp only [List.cons_append, List.nil_append] at X9
      replace X := X9
      clear X9 hO
      go_wp2_with (first
    | (refine at_mem rfl ?_; (first | (refine at_load rfl ?_; (first | (refine c_load1 rfl _ _ rfl rfl X (by repeat (first | exact ReadA.here rfl | apply ReadA.there)) ?_) | (refine c_loadN rfl _ _ rfl rfl X (by repeat (first | exact ReadB.here (Nat.le_of_ble_eq_true rfl) | apply ReadB.there)) ?_))) | (refine at_store rfl ?_; (first | (refine c_store1 rfl _ _ _ rfl rfl (by first | exact EvR.const _ | exact EvR.tmp rfl rfl) X rfl rfl (by repeat (first | exact PutA.here (Nat.le_of_ble_eq_true rfl) | apply PutA.there)) ?_; intro w X2; (try simp only [upd] at X2); replace X := X2; clear X2) | (refine c_storeN rfl _ _ _ rfl rfl rfl X rfl rfl (by repeat (first | exact PutA.here (Nat.le_of_ble_eq_true rfl) | apply PutA.there)) ?_; intro w X2; (try simp only [upd] at X2); replace X := X2; clear X2))) | (refine m_alloc rfl _ rfl X ?_; intro g w X2; (replace X := X2; clear X2)) | (refine m_box rfl _ _ rfl (by first | exact EvR.const _ | exact EvR.tmp rfl rfl) rfl X ?_; intro g w X2; (replace X := X2; clear X2))); (simp only [Act.put, List.setIfInBounds_toArray, List.set_cons_succ, List.set_cons_zero, List.drop_succ_cons, List.drop_zero, List.take_succ_cons, List.take_zero, Nat.reduceAdd]))
    | (go_at_call 34; go_loud ((with_reducible refine (hWm.out _ X.below).mono ?_); rintro e w1 ⟨v4, rfl, ho4, hb4⟩; obtain ⟨a4, c4, rfl⟩ := ho4.form; have f4 := hid (ho4.fresh X.mv.size); replace X := X.addOwn hb4 ho4; clear hb4 ho4)))
      exact m_ret2 rfl (.tmp rfl rfl) (.tmp rfl rfl) X (.tail _ (.head _)) rfl rfl ⟨_, _, _, rfl, ⟨X.r0, f4.out⟩, ⟨X.read (.tail _ (.tail _ (.tail _ (.head _)))), f2.out⟩, ⟨X.r1, f9.out⟩, X.below⟩

theorem ref_Alter_chg_was2 (seq : Int) (mt dt : List Cpy) (rev : List Int) (o0 o1 o2 : Bool) (x0 x1 x2 : Int) (am ad ar : Option Addr) (cm cd cr : Nat) (b : Int) (s : ByteArray) (w0 : World) (hm : RL cpyC w0 (.slice am mt.length cm) mt) (hd : RL cpyC w0 (.slice ad dt.length cd) dt) (hr : RL intC w0 (.slice ar rev.length cr) rev) (n1 : mt.length ≤ 12) (n2 : dt.length ≤ 12) (n3 : rev.length ≤ 12) (hgt : goodT ⟨seq, mt, dt, rev, ⟨o0, x0⟩, ⟨o1, x1⟩, ⟨true, x2⟩⟩ = true) (hblk : isBlk b = true) (hs : ((s.size : Int) != 32) = false) (hqm : hasB mt b = false) (hqd : hasB dt b = false) (hqr : inI rev b = true) :
    Calls Try.prog 8 #[.int .i64 0, .agg #[.int .i64 seq, .slice am mt.length cm, .slice ad dt.length cd, .slice ar rev.length cr, .bool o0, .int .i64 x0, .bool o1, .int .i64 x1, .bool true, .int .i64 x2], .int .i64 2, .int .i64 b, .string s] w0 (AltOk w0 ⟨seq, withL mt b s, dt, revK false rev b 12, ⟨o0, x0⟩, ⟨o1, x1⟩, ⟨true, x2⟩⟩) := by
  have hT : RTxn w0 (txnV ⟨seq, mt, dt, rev, ⟨o0, x0⟩, ⟨o1, x1⟩, ⟨true, x2⟩⟩ (.slice am mt.length cm) (.slice ad dt.length cd) (.slice ar rev.length cr)) ⟨seq, mt, dt, rev, ⟨o0, x0⟩, ⟨o1, x1⟩, ⟨true, x2⟩⟩ := ⟨_, _, _, rfl, hm, hd, hr, by dsimp only; omega, by dsimp only; omega, by dsimp only; omega⟩
  have hCp := hid (fun w' (hb : Below w0.heap.size w0 w') => ref_CopyTxn _ _ w' (hT.below hb))
  have hGd := fun w' (hb : Below w0.heap.size w0 w') => ref_GoodTxn _ _ w' (hT.below hb)
  rw [hgt] at hGd
  replace hGd := hid hGd
  have hBk := hid (by simpa only [hblk] using (fun w' => ref_isBlock b w'))
  have hInM := hid (by simpa only [hqm] using (fun w' (hb : Below w0.heap.size w0 w') => ref_in mt b _ w' (hm.below hb) (by omega)))
  have hInD := hid (by simpa only [hqd] using (fun w' (hb : Below w0.heap.size w0 w') => ref_in dt b _ w' (hd.below hb) (by omega)))
  have hAm := hid (fun x w' (hb : Below w0.heap.size w0 w') => ref_among rev x _ w' (hr.below hb) (by omega))
  have hAb := hid (by simpa only [hqr] using (fun w' (hb : Below w0.heap.size w0 w') => ref_among rev b _ w' (hr.below hb) (by omega)))
  have hWm := hid (fun w' (hb : Below w0.heap.size w0 w') => ref_with mt b s _ w' (hm.below hb) (by omega))
  have hWd := hid (fun w' (hb : Below w0.heap.size w0 w') => ref_with dt b s _ w' (hd.below hb) (by omega))
  have hRm := hid (fun w' (hb : Below w0.heap.size w0 w') => ref_rest mt b _ w' (hm.below hb) (by omega))
  have hRd := hid (fun w' (hb : Below w0.heap.size w0 w') => ref_rest dt b _ w' (hd.below hb) (by omega))
  have hsu := hid (fun n => revK_succ false rev b n)
  have hle := hid (fun n => revK_len false rev b n)
  have hrv0 : revK false rev b 0 = [] := rfl
  have hrv : ∃ G, G = revK false rev b := ⟨_, rfl⟩
  obtain ⟨G, hG⟩ := hrv
  rw [← hG] at hsu hle hrv0 ⊢
  simp only [txnV] at hCp hGd
  replace hqm := hid hqm; replace hqd := hid hqd; replace hqr := hid hqr
  clear hT hm hd hr hgt hG
  have X := St.start [] w0
  go_enter Try.func8, Try.ntmps8
  go_wp2_with (first
    | (refine at_mem rfl ?_; (first | (refine at_load rfl ?_; (first | (refine c_load1 rfl _ _ rfl rfl X (by repeat (first | exact ReadA.here rfl | apply ReadA.there)) ?_) | (refine c_loadN rfl _ _ rfl rfl X (by repeat (first | exact ReadB.here (Nat.le_of_ble_eq_true rfl) | apply ReadB.there)) ?_))) | (refine at_store rfl ?_; (first | (refine c_store1 rfl _ _ _ rfl rfl (by first | exact EvR.const _ | exact EvR.tmp rfl rfl) X rfl rfl (by repeat (first | exact PutA.here (Nat.le_of_ble_eq_true rfl) | apply PutA.there)) ?_; intro w X2; (try simp only [upd] at X2); replace X := X2; clear X2) | (refine c_storeN rfl _ _ _ rfl rfl rfl X rfl rfl (by repeat (first | exact PutA.here (Nat.le_of_ble_eq_true rfl) | apply PutA.there)) ?_; intro w X2; (try simp only [upd] at X2); replace X := X2; clear X2))) | (refine m_alloc rfl _ rfl X ?_; intro g w X2; (replace X := X2; clear X2)) | (refine m_box rfl _ _ rfl (by first | exact EvR.const _ | exact EvR.tmp rfl rfl) rfl X ?_; intro g w X2; (replace X := X2; clear X2))); (simp only [Act.put, List.setIfInBounds_toArray, List.set_cons_succ, List.set_cons_zero, List.drop_succ_cons, List.drop_zero, List.take_succ_cons, List.take_zero, Nat.reduceAdd]))
    | (go_at_call 30; go_loud ((with_reducible refine (hGd.out _ X.below).mono ?_); rintro e w1 ⟨rfl, hb1⟩; replace X := X.call hb1; clear hb1))
    | (go_at_call 31; go_loud ((with_reducible refine (hBk.out _).mono ?_); rintro e w1 ⟨rfl, rfl⟩))
    | (go_at_call 32; go_loud ((with_reducible refine (hInM.out _ X.below).mono ?_); rintro e w1 ⟨rfl, hb1⟩; replace X := X.call hb1; clear hb1))
    | (go_at_call 32; go_loud ((with_reducible refine (hInD.out _ X.below).mono ?_); rintro e w1 ⟨rfl, hb1⟩; replace X := X.call hb1; clear hb1))
    | (go_at_call 33; go_loud ((with_reducible refine (hAb.out _ X.below).mono ?_); rintro e w1 ⟨rfl, rfl⟩))
    | (go_at_call 6; go_loud ((with_reducible refine (hCp.out _ X.below).mono ?_); rintro e w1 ⟨vc, rfl, ⟨vm', vd', vr', rfl, p1, p2, p3, _⟩, hb1⟩; obtain ⟨am', cm', rfl⟩ := p1.form; obtain ⟨ad', cd', rfl⟩ := p2.form; obtain ⟨ar', cr', rfl⟩ := p3.form; have f1 := hid (p1.fresh X.mv.size); have f2 := hid (p2.fresh X.mv.size); have f3 := hid (p3.fresh X.mv.size); simp only [txnV]; replace X := X.addOTxn hb1 p1 p2 p3; dsimp only at X; clear hb1 p1 p2 p3)))
  obtain ⟨gO, gR, gT, rfl, rfl, rfl⟩ := X.gs3
  go_loopw [115] (fun i wr => ∃ (k : Nat) (M : List Ent) (a : Option Addr) (c : Nat), k ≤ 12 ∧ i = .int .i64 k ∧ OwnM intC 3 1 (.slice a (G k).length c) (G k) M ∧ St [] w0 wr (⟨gO, [.int .i64 seq, .slice am' mt.length cm', .slice ad' dt.length cd', .slice a (G k).length c, .bool o0, .int .i64 x0, .bool o1, .int .i64 x1, .bool true, .int .i64 x2], 28⟩ :: ⟨gR, [.int .i64 0, .slice none 0 0, .slice none 0 0, .slice none 0 0, .bool false, .int .i64 0, .bool false, .int .i64 0, .bool false, .int .i64 0], 28⟩ :: ⟨gT, [.int .i64 seq, .slice am mt.length cm, .slice ad dt.length cd, .slice ar rev.length cr, .bool o0, .int .i64 x0, .bool o1, .int .i64 x1, .bool true, .int .i64 x2], 28⟩ :: (M ++ [])) [Rd.of cpyC (.slice am' mt.length cm') mt, Rd.of cpyC (.slice ad' dt.length cd') dt, Rd.of intC (.slice ar' rev.length cr') rev]) (fun i _ => 12 - (intOf i).toNat)
  case atStart => exact ⟨0, [], none, 0, by decide, rfl, by rw [hrv0]; exact .nil _ _ _, by rw [hrv0]; exact X⟩
  case round =>
    clear X
    obtain ⟨k, M, a, c, hk, rfl, hO, X⟩ := hrel
    by_cases hlt : k < 12
    · have hAk := hAm.out (k : Int)
      have hs := hsu.out k
      have hl := hle.out k
      obtain ⟨Q, hQ⟩ : ∃ Q, inI rev (k : Int) = Q := ⟨_, rfl⟩
      rw [hQ] at hAk hs
      replace hAk := hid hAk
      by_cases hb : (k : Int) = b
      · have e1 : ((k : Int) == b) = true := beq_iff_eq.2 hb
        have e2 : ((k : Int) != b) = false := by simp [hb]
        rw [e1, e2] at hs
        simp only [Bool.and_false, Bool.and_true, Bool.false_and, Bool.true_and, Bool.or_self, Bool.or_false, Bool.or_true, Bool.false_eq_true, ↓reduceIte, List.append_nil] at hs
        replace hs := hid hs
        clear hb hQ
        go_wp2_with (first
    | (refine at_mem rfl ?_; (first | (refine at_load rfl ?_; (first | (refine c_load1 rfl _ _ rfl rfl X (by repeat (first | exact ReadA.here rfl | apply ReadA.there)) ?_) | (refine c_loadN rfl _ _ rfl rfl X (by repeat (first | exact ReadB.here (Nat.le_of_ble_eq_true rfl) | apply ReadB.there)) ?_))) | (refine at_store rfl ?_; (first | (refine c_store1 rfl _ _ _ rfl rfl (by first | exact EvR.const _ | exact EvR.tmp rfl rfl) X rfl rfl (by repeat (first | exact PutA.here (Nat.le_of_ble_eq_true rfl) | apply PutA.there)) ?_; intro w X2; (try simp only [upd] at X2); replace X := X2; clear X2) | (refine c_storeN rfl _ _ _ rfl rfl rfl X rfl rfl (by repeat (first | exact PutA.here (Nat.le_of_ble_eq_true rfl) | apply PutA.there)) ?_; intro w X2; (try simp only [upd] at X2); replace X := X2; clear X2))) | (refine m_alloc rfl _ rfl X ?_; intro g w X2; (replace X := X2; clear X2)) | (refine m_box rfl _ _ rfl (by first | exact EvR.const _ | exact EvR.tmp rfl rfl) rfl X ?_; intro g w X2; (replace X := X2; clear X2))); (simp only [Act.put, List.setIfInBounds_toArray, List.set_cons_succ, List.set_cons_zero, List.drop_succ_cons, List.drop_zero, List.take_succ_cons, List.take_zero, Nat.reduceAdd]))
    | (go_at_call 33; go_loud ((with_reducible refine (hAk.out _ X.below).mono ?_); rintro e w1 ⟨rfl, rfl⟩)))
        rw [← hs.out] at hO X
        go_roundw
        case rel => (first | exact ⟨k + 1, M, a, c, by omega, by go_num, hO, X⟩ | ((repeat apply Exists.intro); exact ⟨⟨k + 1, M, a, c, by omega, by go_num, hO, X⟩, rfl⟩))
        case measure => simp [intOf]; omega
      · have e1 : ((k : Int) == b) = false := beq_eq_false_iff_ne.2 hb
        have e2 : ((k : Int) != b) = true := by simp [hb]
        rw [e1, e2] at hs
        cases Q with
        | false =>
          simp only [Bool.and_false, Bool.and_true, Bool.false_and, Bool.true_and, Bool.or_self, Bool.or_false, Bool.or_true, Bool.false_eq_true, ↓reduceIte, List.append_nil] at hs
          replace hs := hid hs
          clear hb hQ
          go_wp2_with (first
    | (refine at_mem rfl ?_; (first | (refine at_load rfl ?_; (first | (refine c_load1 rfl _ _ rfl rfl X (by repeat (first | exact ReadA.here rfl | apply ReadA.there)) ?_) | (refine c_loadN rfl _ _ rfl rfl X (by repeat (first | exact ReadB.here (Nat.le_of_ble_eq_true rfl) | apply ReadB.there)) ?_))) | (refine at_store rfl ?_; (first | (refine c_store1 rfl _ _ _ rfl rfl (by first | exact EvR.const _ | exact EvR.tmp rfl rfl) X rfl rfl (by repeat (first | exact PutA.here (Nat.le_of_ble_eq_true rfl) | apply PutA.there)) ?_; intro w X2; (try simp only [upd] at X2); replace X := X2; clear X2) | (refine c_storeN rfl _ _ _ rfl rfl rfl X rfl rfl (by repeat (first | exact PutA.here (Nat.le_of_ble_eq_true rfl) | apply PutA.there)) ?_; intro w X2; (try simp only [upd] at X2); replace X := X2; clear X2))) | (refine m_alloc rfl _ rfl X ?_; intro g w X2; (replace X := X2; clear X2)) | (refine m_box rfl _ _ rfl (by first | exact EvR.const _ | exact EvR.tmp rfl rfl) rfl X ?_; intro g w X2; (replace X := X2; clear X2))); (simp only [Act.put, List.setIfInBounds_toArray, List.set_cons_succ, List.set_cons_zero, List.drop_succ_cons, List.drop_zero, List.take_succ_cons, List.take_zero, Nat.reduceAdd]))
    | (go_at_call 33; go_loud ((with_reducible refine (hAk.out _ X.below).mono ?_); rintro e w1 ⟨rfl, rfl⟩)))
          rw [← hs.out] at hO X
          go_roundw
          case rel => (first | exact ⟨k + 1, M, a, c, by omega, by go_num, hO, X⟩ | ((repeat apply Exists.intro); exact ⟨⟨k + 1, M, a, c, by omega, by go_num, hO, X⟩, rfl⟩))
          case measure => simp [intOf]; omega
        | true =>
          simp only [Bool.and_false, Bool.and_true, Bool.false_and, Bool.true_and, Bool.or_self, Bool.or_false, Bool.false_or, Bool.or_true, Bool.false_eq_true, ↓reduceIte, List.append_nil] at hs
          replace hs := hid hs
          clear hb hQ
          go_wp2_with (first
    | (refine at_mem rfl ?_; (first | (refine at_load rfl ?_; (first | (refine c_load1 rfl _ _ rfl rfl X (by repeat (first | exact ReadA.here rfl | apply ReadA.there)) ?_) | (refine c_loadN rfl _ _ rfl rfl X (by repeat (first | exact ReadB.here (Nat.le_of_ble_eq_true rfl) | apply ReadB.there)) ?_))) | (refine at_store rfl ?_; (first | (refine c_store1 rfl _ _ _ rfl rfl (by first | exact EvR.const _ | exact EvR.tmp rfl rfl) X rfl rfl (by repeat (first | exact PutA.here (Nat.le_of_ble_eq_true rfl) | apply PutA.there)) ?_; intro w X2; (try simp only [upd] at X2); replace X := X2; clear X2) | (refine c_storeN rfl _ _ _ rfl rfl rfl X rfl rfl (by repeat (first | exact PutA.here (Nat.le_of_ble_eq_true rfl) | apply PutA.there)) ?_; intro w X2; (try simp only [upd] at X2); replace X := X2; clear X2))) | (refine m_alloc rfl _ rfl X ?_; intro g w X2; (replace X := X2; clear X2)) | (refine m_box rfl _ _ rfl (by first | exact EvR.const _ | exact EvR.tmp rfl rfl) rfl X ?_; intro g w X2; (replace X := X2; clear X2))); (simp only [Act.put, List.setIfInBounds_toArray, List.set_cons_succ, List.set_cons_zero, List.drop_succ_cons, List.drop_zero, List.take_succ_cons, List.take_zero, Nat.reduceAdd]))
    | (at_builtin; go_loud (refine m_push [_, _, _] rfl _ _ _ rfl 8 intC_flat elemIntT X hO rfl (k : Int) rfl rfl (by omega) (by unfold maxLen; omega) ?_); intro a7 c7 w7 M7 hO7 X7; simp only [List.cons_append, List.nil_append] at X7; replace X := X7; clear X7)
    | (go_at_call 33; go_loud ((with_reducible refine (hAk.out _ X.below).mono ?_); rintro e w1 ⟨rfl, rfl⟩)))
          rw [show (G k).length + 1 = (G (k + 1)).length by rw [hs.out]; simp] at X hO7
          rw [← hs.out] at hO7
          go_roundw
          case rel => (first | exact ⟨k + 1, M7, a7, c7, by omega, by go_num, hO7, X⟩ | ((repeat apply Exists.intro); exact ⟨⟨k + 1, M7, a7, c7, by omega, by go_num, hO7, X⟩, rfl⟩))
          case measure => simp [intOf]; omega
    · obtain rfl : k = 12 := by omega
      clear hsu hle hrv0
      generalize G 12 = G at *
      have f9 := hid (hO.fresh (L := [_, _, _]) (T := []) X)
      have X9 := X.ownEnd (L := [_, _, _]) hO
      simp only [List.cons_append, List.nil_append] at X9
      replace X := X9
      clear X9 hO
      go_wp2_with (first
    | (refine at_mem rfl ?_; (first | (refine at_load rfl ?_; (first | (refine c_load1 rfl _ _ rfl rfl X (by repeat (first | exact ReadA.here rfl | apply ReadA.there)) ?_) | (refine c_loadN rfl _ _ rfl rfl X (by repeat (first | exact ReadB.here (Nat.le_of_ble_eq_true rfl) | apply ReadB.there)) ?_))) | (refine at_store rfl ?_; (first | (refine c_store1 rfl _ _ _ rfl rfl (by first | exact EvR.const _ | exact EvR.tmp rfl rfl) X rfl rfl (by repeat (first | exact PutA.here (Nat.le_of_ble_eq_true rfl) | apply PutA.there)) ?_; intro w X2; (try simp only [upd] at X2); replace X := X2; clear X2) | (refine c_storeN rfl _ _ _ rfl rfl rfl X rfl rfl (by repeat (first | exact PutA.here (Nat.le_of_ble_eq_true rfl) | apply PutA.there)) ?_; intro w X2; (try simp only [upd] at X2); replace X := X2; clear X2))) | (refine m_alloc rfl _ rfl X ?_; intro g w X2; (replace X := X2; clear X2)) | (refine m_box rfl _ _ rfl (by first | exact EvR.const _ | exact EvR.tmp rfl rfl) rfl X ?_; intro g w X2; (replace X := X2; clear X2))); (simp only [Act.put, List.setIfInBounds_toArray, List.set_cons_succ, List.set_cons_zero, List.drop_succ_cons, List.drop_zero, List.take_succ_cons, List.take_zero, Nat.reduceAdd]))
    | (go_at_call 34; go_loud ((with_reducible refine (hWm.out _ X.below).mono ?_); rintro e w1 ⟨v4, rfl, ho4, hb4⟩; obtain ⟨a4, c4, rfl⟩ := ho4.form; have f4 := hid (ho4.fresh X.mv.size); replace X := X.addOwn hb4 ho4; clear hb4 ho4)))
      exact m_ret2 rfl (.tmp rfl rfl) (.tmp rfl rfl) X (.tail _ (.head _)) rfl rfl ⟨_, _, _, rfl, ⟨X.r0, f4.out⟩, ⟨X.read (.tail _ (.tail _ (.tail _ (.head _)))), f2.out⟩, ⟨X.r1, f9.out⟩, X.below⟩
end Go.Proofs.Ytjhmfljlclajnac
