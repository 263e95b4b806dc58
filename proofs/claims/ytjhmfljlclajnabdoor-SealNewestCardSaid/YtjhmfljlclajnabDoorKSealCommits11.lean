/- The walk of the reference's blocksOf. The walks of AskedOf and OpenOf of the reference. Counting blocks. No program in sight. An element of an array value. No program in sight. The walk of GoodTxn. -/
import Derived.Test.YtjhmfljlclajnabDoorKSealCommits10
import Derived.Test.YtjhmfljlclajnabDoorKSealCommits6
import Derived.Test.YtjhmfljlclajnabDoorKSealCommits4
import Derived.Test.YtjhmfljlclajnabDoorKSealCommits7
import Derived.Test.YtjhmfljlclajnabDoorKSealCommits0
import Derived.Test.YtjhmfljlclajnabDoorBase
import Derived.Test.YtjhmfljlclajnabDoorStampR
import Derived.Laws.Rows
set_option linter.unusedVariables false
set_option linter.unusedSimpArgs false
namespace Go.Proofs.YtjhmfljlclajnabDoor
open Go.RowKit Wb
set_option linter.unusedVariables false
set_option linter.unusedSimpArgs false
set_option maxRecDepth 100000
set_option maxHeartbeats 16000000
theorem ref_blocksOf (t : Txn) (hgt : goodT t = true) (v : Value) (w0 : World) (ht : RTxn w0 v t) :
    Calls Tryd.prog 45 #[v] w0 fun e w' => ∃ v', e = .returned v' ∧ Wb.Own strC w0.heap.size 9 1 w' v' (logT t) ∧ Below w0.heap.size w0 w' := by
  obtain ⟨vm, vd, vr, rfl, hm, hd, hr, n1, n2, n3⟩ := ht
  obtain ⟨am, cm, rfl, hcm, _⟩ := hm.form
  obtain ⟨ad, cd, rfl, _⟩ := hd.form
  obtain ⟨ar, cr, rfl, hcr, _⟩ := hr.form
  have hg := goodT_of.1 hgt
  obtain ⟨l1, l2, l3⟩ := lens hg
  have hP0 := preT_zero t
  have hPs := fun k (hk : k < 2) => preT_succ t hk
  have hPe := preT_end l1
  have hPl := fun k (hk : k ≤ 2) => preT_len l1 hk
  have hLo : logT t = bodyT t ++ [markS (comM t.seq)] := rfl
  have hpl := fun k => partM_len (t := t) k
  have hpd : ∀ k, partM t k = (t.mt.drop (k * 10)).take 10 := fun k => rfl
  have hcp : ∀ c ∈ t.mt, c.text.size = 32 := fun c hc => ((copies_pw _).1 hg.mt).2 c hc |>.2
  have hrl1 := fun (h : t.rev ≠ []) => revL_one (q := t.seq) h
  have hrl0 : t.rev = [] → revL t.seq t.rev = [] := fun h => by unfold revL; rw [if_pos h]
  generalize hLG : logT t = LG at *
  generalize hBT : bodyT t = BT at *
  generalize preT t = PT at *
  generalize partM t = pm at *
  obtain ⟨seq, mt, dt, rev, ⟨o0, x0⟩, ⟨o1, x1⟩, ⟨o2, x2⟩⟩ := t
  dsimp only at *
  unfold txnV
  dsimp only
  have X : St [] w0 w0 [] [Rd.of cpyC (.slice am mt.length cm) mt, Rd.of intC (.slice ar rev.length cr) rev] := (((St.start [] w0).addR0 hr).addR0 hm)
  have hE3 : ∀ w' L', St [] w0 w' L' [Rd.of cpyC (.slice am mt.length cm) mt, Rd.of intC (.slice ar rev.length cr) rev] → _ := fun w' L' Z => ref_EncodeMark (listM seq rev) (.agg #[.int .i64 3, .int .i64 seq, .int .i64 0, .slice none 0 0, .slice ar rev.length cr]) w' ⟨_, _, rfl, RL.nil _ _, Z.r1, Nat.zero_le _, by dsimp only [listM]; omega⟩
  have hE4 : ∀ w', _ := fun w' => ref_EncodeMark (comM seq) (.agg #[.int .i64 4, .int .i64 seq, .int .i64 0, .slice none 0 0, .slice none 0 0]) w' ⟨_, _, rfl, RL.nil _ _, RL.nil _ _, Nat.zero_le _, Nat.zero_le _⟩
  have hEs := fun x w hx => ref_EscapeBlock x w hx
  generalize markS (comM seq) = mc at *
  generalize markE (comM seq) = me at *
  generalize markS (listM seq rev) = ml at *
  generalize markE (listM seq rev) = mle at *
  replace hm := hid hm; replace hd := hid hd; replace hr := hid hr; replace hP0 := hid hP0; replace hPs := hid hPs; replace hPe := hid hPe; replace hPl := hid hPl; replace hLo := hid hLo; replace hpl := hid hpl; replace hpd := hid hpd; replace hcp := hid hcp; replace hrl1 := hid hrl1; replace hrl0 := hid hrl0; replace hE3 := hid hE3; replace hE4 := hid hE4; replace hEs := hid hEs; replace hLG := hid hLG; replace hBT := hid hBT; replace hg := hid hg; replace hcm := hid hcm; replace hcr := hid hcr; replace hgt := hid hgt
  go_enter Tryd.func45, Tryd.ntmps45
  go_upto_if 24 with (first
    | (refine at_mem rfl ?_; (first | (refine at_load rfl ?_; (first | (refine c_load1 rfl _ _ rfl rfl X (by repeat (first | exact ReadA.here rfl | apply ReadA.there)) ?_) | (refine c_loadN rfl _ _ rfl rfl X (by repeat (first | exact ReadB.here (Nat.le_of_ble_eq_true rfl) | apply ReadB.there)) ?_))) | (refine at_store rfl ?_; (first | (refine c_store1 rfl _ _ _ rfl rfl (by first | exact EvR.const _ | exact EvR.tmp rfl rfl) X rfl rfl (by repeat (first | exact PutA.here (Nat.le_of_ble_eq_true rfl) | apply PutA.there)) ?_; intro w X2; (try simp only [upd] at X2); replace X := X2; clear X2) | (refine c_storeN rfl _ _ _ rfl rfl rfl X rfl rfl (by repeat (first | exact PutA.here (Nat.le_of_ble_eq_true rfl) | apply PutA.there)) ?_; intro w X2; (try simp only [upd] at X2); replace X := X2; clear X2))) | (refine m_alloc rfl _ rfl X ?_; intro g w X2; (replace X := X2; clear X2)) | (refine m_box rfl _ _ rfl (by first | exact EvR.const _ | exact EvR.tmp rfl rfl) rfl X ?_; intro g w X2; (replace X := X2; clear X2))); (simp only [Act.put, List.setIfInBounds_toArray, List.set_cons_succ, List.set_cons_zero, List.drop_succ_cons, List.drop_zero, List.take_succ_cons, List.take_zero, Nat.reduceAdd])))
  obtain ⟨g1, rfl⟩ := X.gs1
  go_cut [3] (fun v3 wx => ∃ (M : List Ent), OwnM strC 9 1 v3 (PT 0) M ∧ St [] w0 wx (⟨g1, [.int .i64 seq, .slice am mt.length cm, .slice ad dt.length cd, .slice ar rev.length cr, .bool o0, .int .i64 x0, .bool o1, .int .i64 x1, .bool o2, .int .i64 x2], 30⟩ :: (M ++ [])) [Rd.of cpyC (.slice am mt.length cm) mt, Rd.of intC (.slice ar rev.length cr) rev])
  case first =>
    by_cases hz : rev = []
    · have h0 := hrl0.out hz
      rw [← hP0.out] at h0
      have hzi : decide ((0 : Int) < (rev.length : Int)) = false := by rw [hz]; rfl
      subst hz
      go_wp2
      go_meet
      exact ⟨[], by rw [h0]; exact OwnM.nil _ _ _, X⟩
    · have h0 := hrl1.out hz
      rw [← hP0.out] at h0
      have hlen : 0 < rev.length := List.length_pos_iff.2 hz
      have hzi : decide ((0 : Int) < (rev.length : Int)) = true := decide_eq_true (by omega)
      have hgo : [ml].flatMap strC = [.string ml] := rfl
      replace h0 := hid h0; replace hz := hid hz
      go_wp2_with (first
        | (refine at_mem rfl ?_; (first | (refine at_load rfl ?_; (first | (refine c_load1 rfl _ _ rfl rfl X (by repeat (first | exact ReadA.here rfl | apply ReadA.there)) ?_) | (refine c_loadN rfl _ _ rfl rfl X (by repeat (first | exact ReadB.here (Nat.le_of_ble_eq_true rfl) | apply ReadB.there)) ?_))) | (refine at_store rfl ?_; (first | (refine c_store1 rfl _ _ _ rfl rfl (by first | exact EvR.const _ | exact EvR.tmp rfl rfl) X rfl rfl (by repeat (first | exact PutA.here (Nat.le_of_ble_eq_true rfl) | apply PutA.there)) ?_; intro w X2; (try simp only [upd] at X2); replace X := X2; clear X2) | (refine c_storeN rfl _ _ _ rfl rfl rfl X rfl rfl (by repeat (first | exact PutA.here (Nat.le_of_ble_eq_true rfl) | apply PutA.there)) ?_; intro w X2; (try simp only [upd] at X2); replace X := X2; clear X2))) | (refine m_alloc rfl _ rfl X ?_; intro g w X2; (replace X := X2; clear X2)) | (refine m_box rfl _ _ rfl (by first | exact EvR.const _ | exact EvR.tmp rfl rfl) rfl X ?_; intro g w X2; (replace X := X2; clear X2))); (simp only [Act.put, List.setIfInBounds_toArray, List.set_cons_succ, List.set_cons_zero, List.drop_succ_cons, List.drop_zero, List.take_succ_cons, List.take_zero, Nat.reduceAdd]))
        | (refine at_build rfl ?_; go_loud (refine m_build1 rfl rfl (by first | exact EvR.const _ | exact EvR.tmp rfl rfl) (by rfl) (by rfl) X ?_; intro g w2 X2; replace X := X2; clear X2; (simp only [Act.put, List.setIfInBounds_toArray, List.set_cons_succ, List.set_cons_zero, List.drop_succ_cons, List.drop_zero, List.take_succ_cons, List.take_zero, Nat.reduceAdd])))
        | (go_at_call 51; go_loud ((with_reducible refine (hE3.out _ _ X).mono ?_); rintro e w1 ⟨rfl, hb1⟩; replace X := X.call hb1; clear hb1))
        | (at_builtin; go_loud ((refine m_app (M := []) (T := []) (n := 1) [_] rfl rfl [ml] strC_flat X (OwnM.nil _ _ _) (by first | exact EvR.const _ | exact EvR.tmp rfl rfl) (by first | exact EvR.const _ | exact EvR.tmp rfl rfl) hgo rfl (by decide) ?_); intro a2 c2 w2 M2 hO3 X2; replace X := X2; clear X2; (simp only [Act.put, List.setIfInBounds_toArray, List.set_cons_succ, List.set_cons_zero, List.drop_succ_cons, List.drop_zero, List.take_succ_cons, List.take_zero, Nat.reduceAdd]))))
      go_meet
      exact ⟨M2, by rw [h0.out]; exact hO3, X⟩
  case rest =>
    clear X
    obtain ⟨M, hO, X⟩ := hcut
    go_wp2
    go_loopw [3, 6] (fun v3 i wr => ∃ (k : Nat) (M : List Ent), k ≤ chunkN 10 mt.length ∧ i = .int .i64 ((k : Int) * 10) ∧ OwnM strC 9 1 v3 (PT k) M ∧ St [] w0 wr (⟨g1, [.int .i64 seq, .slice am mt.length cm, .slice ad dt.length cd, .slice ar rev.length cr, .bool o0, .int .i64 x0, .bool o1, .int .i64 x1, .bool o2, .int .i64 x2], 30⟩ :: (M ++ [])) [Rd.of cpyC (.slice am mt.length cm) mt, Rd.of intC (.slice ar rev.length cr) rev]) (fun _ i _ => mt.length + 10 - (intOf i).toNat)
    case atStart => exact ⟨0, M, Nat.zero_le _, rfl, hO, X⟩
    case round =>
      clear X hO
      obtain ⟨k, M, hk, rfl, hO, X⟩ := hrel
      have hcn : chunkN 10 mt.length ≤ 2 := by unfold chunkN; omega
      by_cases hlt : k * 10 < mt.length
      · have hk2 : k < 2 := by omega
        obtain ⟨b, off, har, _⟩ := RL.at2 (f := cpyC) (fun x : Cpy => .int .i64 x.block) (fun x => .string x.text) (fun _ => rfl) X.r0 (k := 0) (by omega)
        have hpm := hpl.out k
        have hpq := hpd.out k
        have hP := hPs.out k hk2
        have hPn := hPl.out k (by omega)
        have hmem : ∀ c ∈ pm k, c.text.size = 32 := fun c hc => by
          rw [hpq] at hc
          exact hcp.out c (List.mem_of_mem_drop (List.mem_of_mem_take hc))
        have hp0 : 0 < (pm k).length := by omega
        have hp10 : (pm k).length ≤ 10 := by omega
        have hpn : k * 10 + (pm k).length ≤ mt.length := by omega
        have hX := fun w L R (X : St [] w0 w L R) (hR : Rd.of cpyC (.slice (some ⟨b, off, none⟩) mt.length cm) mt ∈ R) => X.partR (f := cpyC) (c := 2) (fun _ => rfl) hR (k * 10) (pm k).length hpn
        have hpe : (mt.drop (k * 10)).take (pm k).length = pm k := by
          rw [hpm, hpq]
          apply List.ext_getElem
          · simp
          · intro i _ _; simp
        rw [hpe] at hX
        have hmin : min ((k : Int) * 10 + 10) (mt.length : Int) = (k : Int) * 10 + ((pm k).length : Int) := by omega
        have q0 : 0 ≤ (k : Int) * 10 := by omega
        have q7 : decide ((k : Int) * 10 < (mt.length : Int)) = true := decide_eq_true (by omega)
        have q1 : 0 ≤ (k : Int) * 10 + ((pm k).length : Int) := by omega
        have q2 : (k : Int) * 10 + ((pm k).length : Int) ≤ (cm : Int) := by have := hcm.out; omega
        have q3 : (k : Int) * 10 ≤ (k : Int) * 10 + ((pm k).length : Int) := by omega
        have q4 : ((k : Int) * 10 + ((pm k).length : Int)).toNat = k * 10 + (pm k).length := by omega
        have q5 : ¬ cm = k * 10 := by have := hcm.out; omega
        have q6 : k * 10 + (pm k).length - k * 10 = (pm k).length := by omega
        subst har
        generalize pm k = p at *
        replace hpm := hid hpm; replace hpq := hid hpq; replace hP := hid hP; replace hPn := hid hPn; replace hmem := hid hmem; replace hX := hid hX; replace hpe := hid hpe
        go_wp2_with (first
          | (refine at_mem rfl ?_; (first | (refine at_load rfl ?_; (first | (refine c_load1 rfl _ _ rfl rfl X (by repeat (first | exact ReadA.here rfl | apply ReadA.there)) ?_) | (refine c_loadN rfl _ _ rfl rfl X (by repeat (first | exact ReadB.here (Nat.le_of_ble_eq_true rfl) | apply ReadB.there)) ?_))) | (refine at_store rfl ?_; (first | (refine c_store1 rfl _ _ _ rfl rfl (by first | exact EvR.const _ | exact EvR.tmp rfl rfl) X rfl rfl (by repeat (first | exact PutA.here (Nat.le_of_ble_eq_true rfl) | apply PutA.there)) ?_; intro w X2; (try simp only [upd] at X2); replace X := X2; clear X2) | (refine c_storeN rfl _ _ _ rfl rfl rfl X rfl rfl (by repeat (first | exact PutA.here (Nat.le_of_ble_eq_true rfl) | apply PutA.there)) ?_; intro w X2; (try simp only [upd] at X2); replace X := X2; clear X2))) | (refine m_alloc rfl _ rfl X ?_; intro g w X2; (replace X := X2; clear X2)) | (refine m_box rfl _ _ rfl (by first | exact EvR.const _ | exact EvR.tmp rfl rfl) rfl X ?_; intro g w X2; (replace X := X2; clear X2))); (simp only [Act.put, List.setIfInBounds_toArray, List.set_cons_succ, List.set_cons_zero, List.drop_succ_cons, List.drop_zero, List.take_succ_cons, List.take_zero, Nat.reduceAdd])))
        simp only [Nat.add_sub_cancel_left, q7]
        obtain ⟨gm, rfl⟩ := X.gs1
        have X2 := hX.out _ _ _ X (.head _)
        clear X
        have X := X2
        clear X2
        have hmp := fun i (hi : i < p.length) => map_take (f := tagC') hi
        have hms := fun i (hi : i < p.length) => map_take (f := fun c : Cpy => escS c.text) hi
        have hfp : p.take p.length = p := List.take_length
        have hqt : PT (k + 1) = PT k ++ ([markS (descM seq p)] ++ p.map (fun c => escS c.text)) := by rw [hP.out, partL_take (List.length_pos_iff.1 hp0)]
        replace hmp := hid hmp; replace hms := hid hms; replace hfp := hid hfp; replace hqt := hid hqt
        go_loopw [60] (fun i wr => ∃ (q : Nat) (MT : List Ent) (vt : Value), q ≤ p.length ∧ i = .int .i64 q ∧ OwnM tagC 92 2 vt ((p.take q).map tagC') MT ∧ St [] w0 wr (⟨gm, [.int .i64 2, .int .i64 seq, .int .i64 0, vt, .slice none 0 0], 81⟩ :: (MT ++ (⟨g1, [.int .i64 seq, .slice (some ⟨b, off, none⟩) mt.length cm, .slice ad dt.length cd, .slice ar rev.length cr, .bool o0, .int .i64 x0, .bool o1, .int .i64 x1, .bool o2, .int .i64 x2], 30⟩ :: (M ++ [])))) (Rd.of cpyC (.slice (some ⟨b, off + k * 10 * 2, none⟩) p.length p.length) p :: [Rd.of cpyC (.slice (some ⟨b, off, none⟩) mt.length cm) mt, Rd.of intC (.slice ar rev.length cr) rev])) (fun i _ => p.length - (intOf i).toNat)
        case atStart => exact ⟨0, [], _, Nat.zero_le _, rfl, OwnM.nil _ _ _, X⟩
        case round =>
          clear X
          obtain ⟨q, MT, vt, hq, rfl, hOT, X⟩ := hrel
          by_cases hlq : q < p.length
          · obtain ⟨bz, oz, hbo, c0, c1⟩ := RL.at2 (fun x : Cpy => .int .i64 x.block) (fun x => .string x.text) (fun _ => rfl) X.r0 hlq
            cases hbo
            have hm1 : (p.take (q + 1)).map tagC' = (p.take q).map tagC' ++ [(⟨p[q].block, isEsc p[q].text⟩ : Tag)] := hmp.out q hlq
            have hx32 := hmem.out p[q] (List.getElem_mem hlq)
            have hlT : ((p.take q).map tagC').length ≤ 10 := by rw [List.length_map, List.length_take]; omega
            (try dsimp only at c0 c1 hm1 hx32)
            generalize p[q] = x at *
            obtain ⟨xb, xt⟩ := x
            (try dsimp only at *)
            generalize (p.take q).map tagC' = lT at *
            obtain ⟨aT, cT, rfl⟩ := hOT.form
            have hEx := fun w => hEs.out xt w (by omega)
            generalize escS xt = xs at *
            generalize isEsc xt = xe at *
            have hgT : [(⟨xb, xe⟩ : Tag)].flatMap tagC = [.int .i64 xb, .bool xe] := rfl
            have h40T : lT.length + 1 ≤ 1099511627776 := by omega
            replace hm1 := hid hm1; replace hEx := hid hEx; replace hx32 := hid hx32
            go_wp2_with (first
              | (refine at_mem rfl ?_; (first | (refine at_load rfl ?_; (first | (refine c_load1 rfl _ _ rfl rfl X (by first | exact ReadA.here rfl | exact ReadA.there (ReadA.here rfl)) ?_) | (refine c_loadN rfl _ _ rfl rfl X (by first | exact ReadB.here (Nat.le_of_ble_eq_true rfl) | exact ReadB.there (ReadB.here (Nat.le_of_ble_eq_true rfl))) ?_))) | (refine at_store rfl ?_; (first | (refine c_store1 rfl _ _ _ rfl rfl (by first | exact EvR.const _ | exact EvR.tmp rfl rfl) X rfl rfl (by first | exact PutA.here (Nat.le_of_ble_eq_true rfl) | exact PutA.there (PutA.here (Nat.le_of_ble_eq_true rfl))) ?_; intro w X2; (try simp only [upd] at X2); replace X := X2; clear X2) | (refine c_storeN rfl _ _ _ rfl rfl rfl X rfl rfl (by first | exact PutA.here (Nat.le_of_ble_eq_true rfl) | exact PutA.there (PutA.here (Nat.le_of_ble_eq_true rfl))) ?_; intro w X2; (try simp only [upd] at X2); replace X := X2; clear X2))) | (refine m_alloc rfl _ rfl X ?_; intro g w X2; (replace X := X2; clear X2))); (simp only [Act.put, List.setIfInBounds_toArray, List.set_cons_succ, List.set_cons_zero, List.drop_succ_cons, List.drop_zero, List.take_succ_cons, List.take_zero, Nat.reduceAdd]))
              | (refine at_build rfl ?_; go_loud (refine m_build1 rfl rfl (by first | exact EvR.const _ | exact EvR.tmp rfl rfl) (by rfl) (by rfl) X ?_; intro g w2 X2; replace X := X2; clear X2; (simp only [Act.put, List.setIfInBounds_toArray, List.set_cons_succ, List.set_cons_zero, List.drop_succ_cons, List.drop_zero, List.take_succ_cons, List.take_zero, Nat.reduceAdd])))
              | (go_at_call 73; go_loud ((with_reducible refine (hEx.out _).mono ?_); rintro e w1 ⟨rfl, hb1⟩; replace X := X.call hb1; clear hb1))
              | (at_builtin; go_loud ((refine m_app (M := MT) (T := _ :: (M ++ [])) (n := 1) [_, _] rfl rfl [(⟨xb, xe⟩ : Tag)] tagC_flat X hOT (by first | exact EvR.const _ | exact EvR.tmp rfl rfl) (by first | exact EvR.const _ | exact EvR.tmp rfl rfl) hgT rfl h40T ?_); intro a2 c2 w2 MT2 hOT2 X2; replace X := X2; clear X2; (simp only [Act.put, List.setIfInBounds_toArray, List.set_cons_succ, List.set_cons_zero, List.drop_succ_cons, List.drop_zero, List.take_succ_cons, List.take_zero, Nat.reduceAdd]))))
            go_roundw
            case rel => (first | exact ⟨q + 1, MT2, _, by omega, by go_num, by rw [hm1.out]; exact hOT2, X.tail⟩ | ((repeat apply Exists.intro); exact ⟨⟨q + 1, MT2, _, by omega, by go_num, by rw [hm1.out]; exact hOT2, X.tail⟩, rfl⟩))
            case measure => simp only [intOf]; omega
          · obtain rfl : q = p.length := by omega
            rw [hfp.out] at hOT
            obtain ⟨aT, cT, rfl⟩ : ∃ a c, vt = .slice a p.length c := by
              obtain ⟨a, c, h⟩ := hOT.form
              exact ⟨a, c, by rw [h, List.length_map]⟩
            have Z := St.ownEnd (L := [_]) (M := MT) (T := _ :: (M ++ [])) X hOT
            clear X hOT
            have X : St [] w0 wr (⟨gm, [.int .i64 2, .int .i64 seq, .int .i64 0, .slice aT p.length cT, .slice none 0 0], 81⟩ :: ⟨g1, [.int .i64 seq, .slice (some ⟨b, off, none⟩) mt.length cm, .slice ad dt.length cd, .slice ar rev.length cr, .bool o0, .int .i64 x0, .bool o1, .int .i64 x1, .bool o2, .int .i64 x2], 30⟩ :: (M ++ [])) (Rd.of tagC (.slice aT p.length cT) (p.map tagC') :: Rd.of cpyC (.slice (some ⟨b, off + k * 10 * 2, none⟩) p.length p.length) p :: [Rd.of cpyC (.slice (some ⟨b, off, none⟩) mt.length cm) mt, Rd.of intC (.slice ar rev.length cr) rev]) := Z
            clear Z
            have hE2 : ∀ w' L', St [] w0 w' L' (Rd.of tagC (.slice aT p.length cT) (p.map tagC') :: Rd.of cpyC (.slice (some ⟨b, off + k * 10 * 2, none⟩) p.length p.length) p :: [Rd.of cpyC (.slice (some ⟨b, off, none⟩) mt.length cm) mt, Rd.of intC (.slice ar rev.length cr) rev]) → _ := fun w' L' Z => ref_EncodeMark (descM seq p) (.agg #[.int .i64 2, .int .i64 seq, .int .i64 0, .slice aT p.length cT, .slice none 0 0]) w' ⟨_, _, rfl, Z.r0, RL.nil _ _, by simp only [descM, List.length_map]; omega, Nat.zero_le _⟩
            generalize markS (descM seq p) = md at *
            generalize markE (descM seq p) = mde at *
            have hgo : [md].flatMap strC = [.string md] := rfl
            have hPk := hPn.out
            have h40 : (PT k).length + 1 ≤ 1099511627776 := by omega
            replace hE2 := hid hE2; replace hPk := hid hPk
            go_wp2_with (first
              | (refine at_mem rfl ?_; (first | (refine at_load rfl ?_; (first | (refine c_load1 rfl _ _ rfl rfl X (by repeat (first | exact ReadA.here rfl | apply ReadA.there)) ?_) | (refine c_loadN rfl _ _ rfl rfl X (by repeat (first | exact ReadB.here (Nat.le_of_ble_eq_true rfl) | apply ReadB.there)) ?_))) | (refine at_store rfl ?_; (first | (refine c_store1 rfl _ _ _ rfl rfl (by first | exact EvR.const _ | exact EvR.tmp rfl rfl) X rfl rfl (by repeat (first | exact PutA.here (Nat.le_of_ble_eq_true rfl) | apply PutA.there)) ?_; intro w X2; (try simp only [upd] at X2); replace X := X2; clear X2) | (refine c_storeN rfl _ _ _ rfl rfl rfl X rfl rfl (by repeat (first | exact PutA.here (Nat.le_of_ble_eq_true rfl) | apply PutA.there)) ?_; intro w X2; (try simp only [upd] at X2); replace X := X2; clear X2))) | (refine m_alloc rfl _ rfl X ?_; intro g w X2; (replace X := X2; clear X2)) | (refine m_box rfl _ _ rfl (by first | exact EvR.const _ | exact EvR.tmp rfl rfl) rfl X ?_; intro g w X2; (replace X := X2; clear X2))); (simp only [Act.put, List.setIfInBounds_toArray, List.set_cons_succ, List.set_cons_zero, List.drop_succ_cons, List.drop_zero, List.take_succ_cons, List.take_zero, Nat.reduceAdd]))
              | (refine at_build rfl ?_; go_loud (refine m_build1 rfl rfl (by first | exact EvR.const _ | exact EvR.tmp rfl rfl) (by rfl) (by rfl) X ?_; intro g w2 X2; replace X := X2; clear X2; (simp only [Act.put, List.setIfInBounds_toArray, List.set_cons_succ, List.set_cons_zero, List.drop_succ_cons, List.drop_zero, List.take_succ_cons, List.take_zero, Nat.reduceAdd])))
              | (go_at_call 51; go_loud ((with_reducible refine (hE2.out _ _ X).mono ?_); rintro e w1 ⟨rfl, hb1⟩; replace X := X.call hb1; clear hb1))
              | (at_builtin; go_loud ((refine m_app (M := M) (T := []) (n := 1) [_, _] rfl rfl [md] strC_flat X hO (by first | exact EvR.const _ | exact EvR.tmp rfl rfl) (by first | exact EvR.const _ | exact EvR.tmp rfl rfl) hgo rfl h40 ?_); intro a2 c2 w2 M2 hO2 X2; replace X := X2; clear X2; (simp only [Act.put, List.setIfInBounds_toArray, List.set_cons_succ, List.set_cons_zero, List.drop_succ_cons, List.drop_zero, List.take_succ_cons, List.take_zero, Nat.reduceAdd]))))
            go_loopw [3, 91] (fun v3 i wr => ∃ (q : Nat) (M : List Ent), q ≤ p.length ∧ i = .int .i64 q ∧ OwnM strC 9 1 v3 (PT k ++ [md] ++ (p.take q).map (fun c => escS c.text)) M ∧ St [] w0 wr (⟨gm, [.int .i64 2, .int .i64 seq, .int .i64 0, .slice aT p.length cT, .slice none 0 0], 81⟩ :: ⟨g1, [.int .i64 seq, .slice (some ⟨b, off, none⟩) mt.length cm, .slice ad dt.length cd, .slice ar rev.length cr, .bool o0, .int .i64 x0, .bool o1, .int .i64 x1, .bool o2, .int .i64 x2], 30⟩ :: (M ++ [])) (Rd.of tagC (.slice aT p.length cT) (p.map tagC') :: Rd.of cpyC (.slice (some ⟨b, off + k * 10 * 2, none⟩) p.length p.length) p :: [Rd.of cpyC (.slice (some ⟨b, off, none⟩) mt.length cm) mt, Rd.of intC (.slice ar rev.length cr) rev])) (fun _ i _ => p.length - (intOf i).toNat)
            case atStart => exact ⟨0, M2, Nat.zero_le _, rfl, by rw [List.take_zero, List.map_nil, List.append_nil]; exact hO2, X⟩
            case round =>
              clear X hO2 hO
              obtain ⟨q, M5, hq, rfl, hO5, X⟩ := hrel
              by_cases hlq : q < p.length
              · obtain ⟨bz, oz, hbo, c0, c1⟩ := RL.at2 (fun x : Cpy => .int .i64 x.block) (fun x => .string x.text) (fun _ => rfl) X.r1 hlq
                cases hbo
                have hm2 := hms.out q hlq
                have hx32 := hmem.out p[q] (List.getElem_mem hlq)
                have hlS : (PT k ++ [md] ++ (p.take q).map (fun c : Cpy => escS c.text)).length ≤ 100 := by simp only [List.length_append, List.length_map, List.length_take, List.length_singleton]; have := hPk.out; omega
                have hm3 : PT k ++ [md] ++ (p.take (q + 1)).map (fun c : Cpy => escS c.text) = (PT k ++ [md] ++ (p.take q).map (fun c : Cpy => escS c.text)) ++ [escS p[q].text] := by rw [hm2, ← List.append_assoc]
                clear hm2
                (try dsimp only at c0 c1 hm3 hx32)
                generalize p[q] = x at *
                obtain ⟨xb, xt⟩ := x
                (try dsimp only at *)
                generalize PT k ++ [md] ++ (p.take q).map (fun c : Cpy => escS c.text) = lS at *
                have hEx := fun w => hEs.out xt w (by omega)
                generalize escS xt = xs at *
                generalize isEsc xt = xe at *
                have hgS : [xs].flatMap strC = [.string xs] := rfl
                have h40S : lS.length + 1 ≤ 1099511627776 := by omega
                replace hm3 := hid hm3; replace hEx := hid hEx; replace hx32 := hid hx32
                go_wp2_with (first
                  | (refine at_mem rfl ?_; (first | (refine at_load rfl ?_; (first | (refine c_load1 rfl _ _ rfl rfl X (by first | exact ReadA.here rfl | exact ReadA.there (ReadA.here rfl)) ?_) | (refine c_loadN rfl _ _ rfl rfl X (by first | exact ReadB.here (Nat.le_of_ble_eq_true rfl) | exact ReadB.there (ReadB.here (Nat.le_of_ble_eq_true rfl))) ?_))) | (refine at_store rfl ?_; (first | (refine c_store1 rfl _ _ _ rfl rfl (by first | exact EvR.const _ | exact EvR.tmp rfl rfl) X rfl rfl (by first | exact PutA.here (Nat.le_of_ble_eq_true rfl) | exact PutA.there (PutA.here (Nat.le_of_ble_eq_true rfl))) ?_; intro w X2; (try simp only [upd] at X2); replace X := X2; clear X2) | (refine c_storeN rfl _ _ _ rfl rfl rfl X rfl rfl (by first | exact PutA.here (Nat.le_of_ble_eq_true rfl) | exact PutA.there (PutA.here (Nat.le_of_ble_eq_true rfl))) ?_; intro w X2; (try simp only [upd] at X2); replace X := X2; clear X2))) | (refine m_alloc rfl _ rfl X ?_; intro g w X2; (replace X := X2; clear X2))); (simp only [Act.put, List.setIfInBounds_toArray, List.set_cons_succ, List.set_cons_zero, List.drop_succ_cons, List.drop_zero, List.take_succ_cons, List.take_zero, Nat.reduceAdd]))
                  | (refine at_build rfl ?_; go_loud (refine m_build1 rfl rfl (by first | exact EvR.const _ | exact EvR.tmp rfl rfl) (by rfl) (by rfl) X ?_; intro g w2 X2; replace X := X2; clear X2; (simp only [Act.put, List.setIfInBounds_toArray, List.set_cons_succ, List.set_cons_zero, List.drop_succ_cons, List.drop_zero, List.take_succ_cons, List.take_zero, Nat.reduceAdd])))
                  | (go_at_call 73; go_loud ((with_reducible refine (hEx.out _).mono ?_); rintro e w1 ⟨rfl, hb1⟩; replace X := X.call hb1; clear hb1))
                  | (at_builtin; go_loud ((refine m_app (M := M5) (T := []) (n := 1) [_, _, _] rfl rfl [xs] strC_flat X hO5 (by first | exact EvR.const _ | exact EvR.tmp rfl rfl) (by first | exact EvR.const _ | exact EvR.tmp rfl rfl) hgS rfl h40S ?_); intro a2 c2 w2 M6 hO6 X2; replace X := X2; clear X2; (simp only [Act.put, List.setIfInBounds_toArray, List.set_cons_succ, List.set_cons_zero, List.drop_succ_cons, List.drop_zero, List.take_succ_cons, List.take_zero, Nat.reduceAdd]))))
                go_roundw
                case rel => (first | exact ⟨q + 1, M6, by omega, by go_num, by rw [hm3.out]; exact hO6, X.tail⟩ | ((repeat apply Exists.intro); exact ⟨⟨q + 1, M6, by omega, by go_num, by rw [hm3.out]; exact hO6, X.tail⟩, rfl⟩))
                case measure => simp only [intOf]; omega
              · obtain rfl : q = p.length := by omega
                rw [hfp.out, List.append_assoc] at hO5
                have hfin : PT k ++ ([md] ++ p.map (fun c : Cpy => escS c.text)) = PT (k + 1) := hqt.out.symm
                rw [hfin] at hO5
                have hcN : k + 1 ≤ chunkN 10 mt.length := (chunkN_lt (by decide)).2 hlt
                go_wp2
                go_roundw
                case rel => (first | exact ⟨k + 1, M5, hcN, by go_num, hO5, X.less (List.sublist_cons_self _ _) fun r hr => .tail _ (.tail _ hr)⟩ | ((repeat apply Exists.intro); exact ⟨⟨k + 1, M5, hcN, by go_num, hO5, X.less (List.sublist_cons_self _ _) fun r hr => .tail _ (.tail _ hr)⟩, rfl⟩))
                case measure => simp only [intOf]; omega
      · obtain rfl : k = chunkN 10 mt.length := Nat.le_antisymm hk (Nat.le_of_not_lt fun h => hlt ((chunkN_lt (by decide)).1 h))
        rw [hPe.out] at hO
        have hlt2 : ¬ ((chunkN 10 mt.length : Nat) : Int) * 10 < (mt.length : Int) := by exact_mod_cast hlt
        have hBl : BT.length ≤ 30 := by rw [← hPe.out]; exact hPl.out _ hcn
        have hgo : [mc].flatMap strC = [.string mc] := rfl
        have h40 : BT.length + 1 ≤ 1099511627776 := by omega
        go_wp2_with (first
          | (refine at_mem rfl ?_; (first | (refine at_load rfl ?_; (first | (refine c_load1 rfl _ _ rfl rfl X (by repeat (first | exact ReadA.here rfl | apply ReadA.there)) ?_) | (refine c_loadN rfl _ _ rfl rfl X (by repeat (first | exact ReadB.here (Nat.le_of_ble_eq_true rfl) | apply ReadB.there)) ?_))) | (refine at_store rfl ?_; (first | (refine c_store1 rfl _ _ _ rfl rfl (by first | exact EvR.const _ | exact EvR.tmp rfl rfl) X rfl rfl (by repeat (first | exact PutA.here (Nat.le_of_ble_eq_true rfl) | apply PutA.there)) ?_; intro w X2; (try simp only [upd] at X2); replace X := X2; clear X2) | (refine c_storeN rfl _ _ _ rfl rfl rfl X rfl rfl (by repeat (first | exact PutA.here (Nat.le_of_ble_eq_true rfl) | apply PutA.there)) ?_; intro w X2; (try simp only [upd] at X2); replace X := X2; clear X2))) | (refine m_alloc rfl _ rfl X ?_; intro g w X2; (replace X := X2; clear X2)) | (refine m_box rfl _ _ rfl (by first | exact EvR.const _ | exact EvR.tmp rfl rfl) rfl X ?_; intro g w X2; (replace X := X2; clear X2))); (simp only [Act.put, List.setIfInBounds_toArray, List.set_cons_succ, List.set_cons_zero, List.drop_succ_cons, List.drop_zero, List.take_succ_cons, List.take_zero, Nat.reduceAdd]))
          | (refine at_build rfl ?_; go_loud (refine m_build1 rfl rfl (by first | exact EvR.const _ | exact EvR.tmp rfl rfl) (by rfl) (by rfl) X ?_; intro g w2 X2; replace X := X2; clear X2; (simp only [Act.put, List.setIfInBounds_toArray, List.set_cons_succ, List.set_cons_zero, List.drop_succ_cons, List.drop_zero, List.take_succ_cons, List.take_zero, Nat.reduceAdd])))
          | (go_at_call 51; go_loud ((with_reducible refine (hE4.out _).mono ?_); rintro e w1 ⟨rfl, hb1⟩; replace X := X.call hb1; clear hb1))
          | (at_builtin; go_loud ((refine m_app (M := M) (T := []) (n := 1) [_] rfl rfl [mc] strC_flat X hO (by first | exact EvR.const _ | exact EvR.tmp rfl rfl) (by first | exact EvR.const _ | exact EvR.tmp rfl rfl) hgo rfl h40 ?_); intro a2 c2 w2 M2 hO2 X2; replace X := X2; clear X2; (simp only [Act.put, List.setIfInBounds_toArray, List.set_cons_succ, List.set_cons_zero, List.drop_succ_cons, List.drop_zero, List.take_succ_cons, List.take_zero, Nat.reduceAdd]))))
        go_ret
        exact ⟨_, rfl, by rw [hLo.out]; exact hO2.own (L := [_]) strC_flat X, X.below⟩
end Go.Proofs.YtjhmfljlclajnabDoor

namespace Go.Proofs.YtjhmfljlclajnabDoor
open Go.RowKit Wb
set_option linter.unusedVariables false
set_option linter.unusedSimpArgs false
set_option maxRecDepth 100000
set_option maxHeartbeats 4000000
theorem ref_OpenOf (t : Txn) (v : Value) (w : World) (h : RTxn w v t) :
    Calls Tryd.prog 44 #[v] w fun e w' => e = .returned (.bool (openB t)) ∧ Below w.heap.size w w' := by
  obtain ⟨vm, vd, vr, rfl, hm, hd, hr, n1, n2, n3⟩ := h
  obtain ⟨am, cm, rfl, _⟩ := hm.form
  obtain ⟨ad, cd, rfl, _⟩ := hd.form
  obtain ⟨ar, cr, rfl, _⟩ := hr.form
  obtain ⟨seq, mt, dt, rev, ⟨o0, l0⟩, ⟨o1, l1⟩, ⟨o2, l2⟩⟩ := t
  unfold txnV openB
  dsimp only at *
  have k0 := Blk.new w #[.int .i64 seq, .slice am mt.length cm, .slice ad dt.length cd, .slice ar rev.length cr, .bool o0, .int .i64 l0, .bool o1, .int .i64 l1, .bool o2, .int .i64 l2] 30
  have nx := bal (b0 w) (.cells #[.int .i64 seq, .slice am mt.length cm, .slice ad dt.length cd, .slice ar rev.length cr, .bool o0, .int .i64 l0, .bool o1, .int .i64 l1, .bool o2, .int .i64 l2] 30)
  have e4 := k0.cell 4; have e6 := k0.cell 6; have e8 := k0.cell 8
  simp only [List.getElem?_toArray, List.getElem?_cons_zero, List.getElem?_cons_succ] at e4 e6 e8
  clear hm hd hr
  cases o0 <;> cases o1 <;> cases o2
  all_goals
    go_enter Tryd.func44, Tryd.ntmps44
    go_wp2
    go_ret
    exact ⟨rfl, nx⟩
end Go.Proofs.YtjhmfljlclajnabDoor

namespace Wb
open Go Go.RowKit
def cntI (bs : List Int) (x : Int) : Int := (bs.countP (fun b => b == x) : Nat)
def cntL (bs : List Int) : List Int := (List.range 12).map fun (k : Nat) => cntI bs k
theorem cnt_append (l1 l2 : List Int) (x : Int) : cntI (l1 ++ l2) x = cntI l1 x + cntI l2 x := by simp [cntI]
theorem cnt_one (b x : Int) : cntI [b] x = if b = x then 1 else 0 := by
  by_cases h : b = x <;> simp [cntI, h]
theorem cntL_len (bs : List Int) : (cntL bs).length = 12 := by simp [cntL]
theorem cntL_nil : cntL [] = List.replicate 12 0 := rfl
theorem cntL_get (bs : List Int) {k : Nat} (hk : k < 12) : (cntL bs)[k]'(by rw [cntL_len]; exact hk) = cntI bs k := by simp [cntL]
theorem cnt_nonneg (bs : List Int) (x : Int) : 0 ≤ cntI bs x := by unfold cntI; omega
theorem cnt_le (bs : List Int) (x : Int) : cntI bs x ≤ bs.length := by
  unfold cntI
  have := List.countP_le_length (p := fun b => b == x) (l := bs)
  omega
theorem cntL_step (bs : List Int) {b : Nat} (_hb : b < 12) : cntL (bs ++ [(b : Int)]) = (cntL bs).set b (cntI bs b + 1) := by
  refine List.ext_getElem (by simp [cntL]) fun n h1 h2 => ?_
  rw [cntL_len] at h1
  rw [cntL_get _ h1, List.getElem_set, cnt_append, cnt_one]
  by_cases h : b = n
  · subst h; rw [if_pos rfl, if_pos rfl]
  · rw [if_neg (by omega), if_neg h, cntL_get _ h1]; omega
theorem inI_false {l : List Int} {x : Int} (h : ∀ b ∈ l, b ≠ x) : inI l x = false := by
  unfold inI
  rw [List.any_eq_false]
  intro b hb hh
  exact h b hb (beq_iff_eq.1 hh)
theorem cnt_rise {r : List Int} (h : ∀ k (hk : k < r.length), ∀ i (hi : i < k), r[i] < r[k]) (x : Int) : cntI r x = if inI r x then 1 else 0 := by
  have key : ∀ k, k ≤ r.length → cntI (r.take k) x = if inI (r.take k) x then 1 else 0 := by
    intro k
    induction k with
    | zero => intro _; rfl
    | succ k ih =>
      intro hk
      have hk' : k < r.length := by omega
      rw [inI_step hk', List.take_succ_eq_append_getElem hk', cnt_append, cnt_one, ih (by omega)]
      by_cases hx : r[k] = x
      · have hn : inI (r.take k) x = false := inI_false fun b hb => by
          obtain ⟨i, hi, rfl⟩ := List.mem_iff_getElem.1 hb
          rw [List.length_take] at hi
          rw [List.getElem_take]
          have := h k hk' i (by omega)
          omega
        rw [hn, if_pos hx, beq_iff_eq.2 hx]
        simp
      · have hb : (r[k] == x) = false := beq_eq_false_iff_ne.2 hx
        rw [if_neg hx, hb, Bool.or_false]
        omega
  have := key r.length (Nat.le_refl _)
  rwa [List.take_length] at this
theorem inI_blks (l : List Cpy) (x : Int) : inI (blks l) x = hasB l x := by simp [inI, blks, hasB, List.any_map, Function.comp_def]
theorem cnt_copies {l : List Cpy} (h : copiesB l = true) (x : Int) : cntI (blks l) x = if hasB l x then 1 else 0 := by
  rw [← inI_blks]
  refine cnt_rise (fun k hk i hi => ?_) x
  have hk' : k < l.length := by simpa [blks] using hk
  have := (copies_get h hk').2.2.1 i hi
  simpa [blks] using this
theorem cnt_rev {r : List Int} (h : rise r = true) (x : Int) : cntI r x = if inI r x then 1 else 0 := cnt_rise (fun _ hk i hi => (rise_get h hk).2.2 i hi) x
theorem hasB_mem {l : List Cpy} {b : Int} : hasB l b = true ↔ ∃ c ∈ l, c.block = b := by simp [hasB]
theorem inI_mem {l : List Int} {b : Int} : inI l b = true ↔ b ∈ l := by simp [inI]
theorem apart_iff (t : Txn) : apart t = true ↔ (∀ x, ¬ (inI t.rev x = true ∧ hasB t.mt x = true)) ∧ (∀ x, ¬ (inI t.rev x = true ∧ hasB t.dt x = true)) ∧ (∀ x, ¬ (hasB t.mt x = true ∧ hasB t.dt x = true)) := by
  unfold apart
  rw [Bool.and_eq_true, List.all_eq_true, List.all_eq_true]
  constructor
  · rintro ⟨h1, h2⟩
    refine ⟨fun x ⟨hx, hy⟩ => ?_, fun x ⟨hx, hy⟩ => ?_, fun x ⟨hx, hy⟩ => ?_⟩
    · have := h1 x (inI_mem.1 hx)
      rw [hy] at this; cases this
    · have := h1 x (inI_mem.1 hx)
      rw [hy] at this; simp at this
    · obtain ⟨c, hc, rfl⟩ := hasB_mem.1 hx
      have := h2 c hc
      rw [hy] at this; cases this
  · rintro ⟨h1, h2, h3⟩
    refine ⟨fun b hb => ?_, fun c hc => ?_⟩
    · have hx := inI_mem.2 hb
      cases hm : hasB t.mt b
      · cases hd : hasB t.dt b
        · rfl
        · exact absurd ⟨hx, hd⟩ (h2 b)
      · exact absurd ⟨hx, hm⟩ (h1 b)
    · cases hd : hasB t.dt c.block
      · rfl
      · exact absurd ⟨hasB_mem.2 ⟨c, hc, rfl⟩, hd⟩ (h3 c.block)
/-- All that a transaction names. -/
def allOf (t : Txn) : List Int := (blks t.mt ++ blks t.dt) ++ t.rev
theorem cnt_all {t : Txn} (h1 : copiesB t.mt = true) (h2 : copiesB t.dt = true) (h3 : rise t.rev = true) (x : Int) :
    cntI (allOf t) x = (if hasB t.mt x then 1 else 0) + (if hasB t.dt x then 1 else 0) + (if inI t.rev x then 1 else 0) := by
  unfold allOf
  rw [cnt_append, cnt_append, cnt_copies h1, cnt_copies h2, cnt_rev h3]
theorem apart_cnt {t : Txn} (h1 : copiesB t.mt = true) (h2 : copiesB t.dt = true) (h3 : rise t.rev = true) (h : apart t = true) (x : Int) : cntI (allOf t) x ≤ 1 := by
  rw [cnt_all h1 h2 h3]
  obtain ⟨g1, g2, g3⟩ := (apart_iff t).1 h
  have g1 := g1 x; have g2 := g2 x; have g3 := g3 x
  cases hm : hasB t.mt x <;> cases hd : hasB t.dt x <;> cases hr : inI t.rev x <;> simp_all
theorem cnt_apart {t : Txn} (h1 : copiesB t.mt = true) (h2 : copiesB t.dt = true) (h3 : rise t.rev = true) (h : ∀ k : Nat, k < 12 → cntI (allOf t) k ≤ 1) : apart t = true := by
  have hall : ∀ x, cntI (allOf t) x ≤ 1 := by
    intro x
    by_cases hx : 0 ≤ x ∧ x < 12
    · have := h x.toNat (by omega)
      rwa [Int.toNat_of_nonneg hx.1] at this
    · rw [cnt_all h1 h2 h3]
      have hm : hasB t.mt x = false := by
        cases hh : hasB t.mt x
        · rfl
        · obtain ⟨c, hc, rfl⟩ := hasB_mem.1 hh
          obtain ⟨k, hk, rfl⟩ := List.mem_iff_getElem.1 hc
          exact absurd (of_decide_eq_true (copies_get h1 hk).1) hx
      have hd : hasB t.dt x = false := by
        cases hh : hasB t.dt x
        · rfl
        · obtain ⟨c, hc, rfl⟩ := hasB_mem.1 hh
          obtain ⟨k, hk, rfl⟩ := List.mem_iff_getElem.1 hc
          exact absurd (of_decide_eq_true (copies_get h2 hk).1) hx
      rw [hm, hd]
      cases inI t.rev x <;> decide
  rw [apart_iff]
  refine ⟨fun x ⟨a, b⟩ => ?_, fun x ⟨a, b⟩ => ?_, fun x ⟨a, b⟩ => ?_⟩
  all_goals
    have := hall x
    rw [cnt_all h1 h2 h3, a, b] at this
  · cases hd : hasB t.dt x <;> simp [hd] at this
  · cases hd : hasB t.mt x <;> simp [hd] at this
  · cases hd : inI t.rev x <;> simp [hd] at this
/-! ### Copies, one by one -/
def okC (l : List Cpy) (k : Nat) : Prop := riseAt (blks l) k ∧ (l.getD k ⟨0, ⟨#[]⟩⟩).text.size = 32
def okTo (l : List Cpy) (n : Nat) : Prop := ∀ k, k < n → okC l k
theorem copies_okTo (l : List Cpy) : copiesB l = true ↔ okTo l l.length := by
  unfold copiesB
  rw [Bool.and_eq_true, rise_iff]
  have hl : (blks l).length = l.length := by simp [blks]
  rw [hl]
  constructor
  · rintro ⟨h1, h2⟩ k hk
    refine ⟨h1 k hk, ?_⟩
    rw [List.getD_eq_getElem?_getD, List.getElem?_eq_getElem hk]
    exact of_decide_eq_true (List.all_eq_true.1 h2 _ (List.getElem_mem hk))
  · intro h
    refine ⟨fun k hk => (h k hk).1, ?_⟩
    rw [List.all_eq_true]
    intro c hc
    obtain ⟨k, hk, rfl⟩ := List.mem_iff_getElem.1 hc
    have := (h k hk).2
    rw [List.getD_eq_getElem?_getD, List.getElem?_eq_getElem hk] at this
    exact decide_eq_true this
theorem copies_no {l : List Cpy} {k : Nat} (hk : k < l.length) (h : ¬ okC l k) : copiesB l = false := by
  cases hc : copiesB l
  · rfl
  · exact absurd ((copies_okTo l).1 hc k hk) h
/-- The block before place k. -/
def lastB (l : List Int) (k : Nat) : Int := if k = 0 then -1 else l.getD (k - 1) 0
theorem lastB_succ {l : List Int} {k : Nat} (hk : k < l.length) : lastB l (k + 1) = l[k] := by
  unfold lastB
  rw [if_neg (by omega), Nat.add_sub_cancel]
  simp [hk]
theorem okC_iff {l : List Cpy} {k : Nat} (hk : k < l.length) (hto : okTo l k) : okC l k ↔ lastB (blks l) k < l[k].block ∧ l[k].block < 12 ∧ l[k].text.size = 32 := by
  have e : (blks l).getD k 0 = l[k].block := by simp [blks, hk]
  have e2 : l.getD k ⟨0, ⟨#[]⟩⟩ = l[k] := by simp [hk]
  unfold okC riseAt lastB
  rw [e, e2]
  by_cases h0 : k = 0
  · subst h0
    simp only [Nat.lt_irrefl, false_implies, and_true, if_true]
    omega
  · rw [if_neg h0]
    have hp : 0 ≤ (blks l).getD (k - 1) 0 := (hto (k - 1) (by omega)).1.1
    constructor
    · rintro ⟨⟨a, b, c⟩, d⟩
      exact ⟨c (by omega), b, d⟩
    · rintro ⟨a, b, c⟩
      exact ⟨⟨by omega, b, fun _ => a⟩, c⟩
end Wb

namespace Wb
open Go Go.RowKit
theorem run_index_ints {P : Program} {t e : TypeId} {n : Nat} {i : TypeInfo} (w : World) (ht : P.underlying t = some (.array n e)) (hi : P.info? e = some i) (hs : i.size = 1) (hz : (isAgg e).run P w = .ok false w) (l : List Int) (hl : l.length = n) {k : Nat} (hk : k < l.length) :
    (Instr.index t (.agg (l.map (Value.int .i64)).toArray) (.int .i64 (k : Int))).run P w = .ok (.int .i64 l[k]) w := by
  have h0 : (0 : Int) ≤ (k : Int) ∧ (k : Int) < (n : Int) := by omega
  simp [Instr.index, asIntOf, run_underlying ht, h0, Go.sizeOf, typeInfo, hi, hs, part, hz, Result.andThen, hk]
  omega
end Wb

namespace Wb
open Go Go.RowKit
theorem map_set (l : List Int) (n : Nat) (y : Int) : ((l.map (Value.int .i64)).toArray).setIfInBounds n (.int .i64 y) = ((l.set n y).map (Value.int .i64)).toArray := by
  simp [List.map_set]
theorem notGood {t : Txn} (h : seqOk t.seq = false ∨ copiesB t.mt = false ∨ copiesB t.dt = false ∨ rise t.rev = false ∨ apart t = false ∨ hOk t.h0 = false ∨ hOk t.h1 = false ∨ hOk t.h2 = false) : goodT t = false := by
  cases hg : goodT t
  · rfl
  · obtain ⟨h1, h2, h3, h4, h5, h6, h7, h8⟩ := (goodT_iff t).1 hg
    rw [h1, h2, h3, h4, h5, h6, h7, h8] at h
    simp at h
theorem hOk_iff (h : Hnd) : hOk h = true ↔ 0 ≤ h.left ∧ h.left ≤ 24 ∧ (h.on = true ∨ h.left = 0) := by
  unfold hOk; simp [and_assoc]
end Wb
namespace Go.Proofs.YtjhmfljlclajnabDoor
open Go.RowKit Wb
set_option linter.unusedVariables false
set_option linter.unusedSimpArgs false
set_option maxRecDepth 100000
set_option maxHeartbeats 16000000
theorem index12 (w : World) (l : List Int) (hl : l.length = 12) {k : Nat} (hk : k < l.length) :
    (Instr.index 125 (.agg (l.map (Value.int .i64)).toArray) (.int .i64 (k : Int))).run Tryd.prog w = .ok (.int .i64 l[k]) w := by
  obtain ⟨i, hi, _, hs, _⟩ := info_parts (show (Tryd.prog.info? 3).map (fun i => (i.zero, i.size, i.bytes)) = some (some (.int .i64 0), 1, 8) by kernel_rfl)
  exact run_index_ints w Tryd.underlying125 hi hs (by kernel_rfl) l hl hk
theorem index3 (w : World) (o0 o1 o2 : Bool) (l0 l1 l2 : Int) :
    (Instr.index 28 (.agg #[.bool o0, .int .i64 l0, .bool o1, .int .i64 l1, .bool o2, .int .i64 l2]) (.int .i64 0)).run Tryd.prog w = .ok (.agg #[.bool o0, .int .i64 l0]) w ∧
    (Instr.index 28 (.agg #[.bool o0, .int .i64 l0, .bool o1, .int .i64 l1, .bool o2, .int .i64 l2]) (.int .i64 1)).run Tryd.prog w = .ok (.agg #[.bool o1, .int .i64 l1]) w ∧
    (Instr.index 28 (.agg #[.bool o0, .int .i64 l0, .bool o1, .int .i64 l1, .bool o2, .int .i64 l2]) (.int .i64 2)).run Tryd.prog w = .ok (.agg #[.bool o2, .int .i64 l2]) w :=
  ⟨by kernel_rfl, by kernel_rfl, by kernel_rfl⟩

theorem ref_GoodTxn (t : Txn) (v : Value) (w : World) (h : RTxn w v t) :
    Calls Tryd.prog 43 #[v] w fun e w' => e = .returned (.bool (goodT t)) ∧ Below w.heap.size w w' := by
  obtain ⟨vm, vd, vr, rfl, hm, hd, hr, n1, n2, n3⟩ := h
  obtain ⟨am, cm, rfl, _⟩ := hm.form
  obtain ⟨ad, cd, rfl, _⟩ := hd.form
  obtain ⟨ar, cr, rfl, _⟩ := hr.form
  have hRi := fun v w (hh : RL intC w v t.rev) => ref_rising v t.rev w hh
  have hng := fun hh => notGood (t := t) hh
  have hix := fun w (l : List Int) (hl : l.length = 12) k (hk : k < l.length) => index12 w l hl hk
  have hi3 := fun w => index3 w t.h0.on t.h1.on t.h2.on t.h0.left t.h1.left t.h2.left
  unfold txnV
  replace hm := hid hm; replace hd := hid hd; replace hr := hid hr; replace hRi := hid hRi; replace hng := hid hng; replace hix := hid hix; replace hi3 := hid hi3
  have k00 : Blk ((w.alloc (.cells #[.int .i64 t.seq, .slice am t.mt.length cm, .slice ad t.dt.length cd, .slice ar t.rev.length cr, .bool t.h0.on, .int .i64 t.h0.left, .bool t.h1.on, .int .i64 t.h1.left, .bool t.h2.on, .int .i64 t.h2.left] 30)).alloc (.cells #[.int .i64 0, .int .i64 0, .int .i64 0, .int .i64 0, .int .i64 0, .int .i64 0, .int .i64 0, .int .i64 0, .int .i64 0, .int .i64 0, .int .i64 0, .int .i64 0] 125)) w.heap.size #[.int .i64 t.seq, .slice am t.mt.length cm, .slice ad t.dt.length cd, .slice ar t.rev.length cr, .bool t.h0.on, .int .i64 t.h0.left, .bool t.h1.on, .int .i64 t.h1.left, .bool t.h2.on, .int .i64 t.h2.left] 30 := (Blk.new w _ _).alloc _
  have kw0 : Blk ((w.alloc (.cells #[.int .i64 t.seq, .slice am t.mt.length cm, .slice ad t.dt.length cd, .slice ar t.rev.length cr, .bool t.h0.on, .int .i64 t.h0.left, .bool t.h1.on, .int .i64 t.h1.left, .bool t.h2.on, .int .i64 t.h2.left] 30)).alloc (.cells #[.int .i64 0, .int .i64 0, .int .i64 0, .int .i64 0, .int .i64 0, .int .i64 0, .int .i64 0, .int .i64 0, .int .i64 0, .int .i64 0, .int .i64 0, .int .i64 0] 125)) (w.heap.size + 1) ((cntL []).map (Value.int .i64)).toArray 125 := Blk.newAt (by simp)
  have nx0 : Below w.heap.size w ((w.alloc (.cells #[.int .i64 t.seq, .slice am t.mt.length cm, .slice ad t.dt.length cd, .slice ar t.rev.length cr, .bool t.h0.on, .int .i64 t.h0.left, .bool t.h1.on, .int .i64 t.h1.left, .bool t.h2.on, .int .i64 t.h2.left] 30)).alloc (.cells #[.int .i64 0, .int .i64 0, .int .i64 0, .int .i64 0, .int .i64 0, .int .i64 0, .int .i64 0, .int .i64 0, .int .i64 0, .int .i64 0, .int .i64 0, .int .i64 0] 125)) := bal (bal (b0 w) _) _
  go_enter Tryd.func43, Tryd.ntmps43
  go_wp2
  go_loopw [4, 6, 19] (fun la _ i wr => ∃ k : Nat, k ≤ t.mt.length ∧ i = .int .i64 k ∧ la = .int .i64 (lastB (blks t.mt) k) ∧ Hid (okTo t.mt k) ∧ Blk wr w.heap.size #[.int .i64 t.seq, .slice am t.mt.length cm, .slice ad t.dt.length cd, .slice ar t.rev.length cr, .bool t.h0.on, .int .i64 t.h0.left, .bool t.h1.on, .int .i64 t.h1.left, .bool t.h2.on, .int .i64 t.h2.left] 30 ∧ Blk wr (w.heap.size + 1) ((cntL (blks (t.mt.take k))).map (Value.int .i64)).toArray 125 ∧ Below w.heap.size w wr) (fun _ _ i _ => t.mt.length - (intOf i).toNat)
  case atStart => exact ⟨0, Nat.zero_le _, rfl, rfl, hid (fun k hk => absurd hk (Nat.not_lt_zero k)), k00, kw0, nx0⟩
  case round =>
    clear k00 kw0 nx0
    obtain ⟨k, hk, rfl, rfl, hto, k0, kw, nx⟩ := hrel
    have l0 := k0.lt
    have lw := kw.lt
    by_cases hlt : k < t.mt.length
    · obtain ⟨b1, o1, rfl, c0, c1⟩ := RL.at2 (fun x => .int .i64 x.block) (fun x => .string x.text) (fun _ => rfl) (hm.out.below nx) hlt
      have hoi := okC_iff hlt hto.out
      have hno := fun hn => hng.out (.inr (.inl (copies_no hlt hn)))
      have hsc := fun ho => (show okTo t.mt (k + 1) from fun j hj => if e : j = k then e ▸ ho else hto.out j (by omega))
      have hbl : blks (t.mt.take (k + 1)) = blks (t.mt.take k) ++ [t.mt[k].block] := by unfold blks; rw [List.take_succ_eq_append_getElem hlt, List.map_append]; rfl
      have hls : lastB (blks t.mt) (k + 1) = t.mt[k].block := by rw [lastB_succ (by simpa [blks] using hlt)]; simp [blks]
      have hcl : (cntL (blks (t.mt.take k))).length = 12 := cntL_len _
      have hlast : lastB (blks t.mt) k = -1 ∨ 0 ≤ lastB (blks t.mt) k := by
        by_cases hk0 : k = 0
        · left; subst hk0; rfl
        · right; unfold lastB; rw [if_neg hk0]; exact (hto.out (k - 1) (by omega)).1.1
      generalize t.mt[k] = x at *
      generalize lastB (blks t.mt) k = la at *
      replace hno := hid hno; replace hsc := hid hsc; replace hbl := hid hbl; replace hls := hid hls; replace hcl := hid hcl
      by_cases hA : la < x.block
      · by_cases hB : x.block < 12
        · by_cases hC : x.text.size = 32
          · have ho := hid (hsc.out (hoi.2 ⟨hA, hB, hC⟩))
            have eC : ((x.text.size : Int) != 32) = false := by rw [hC]; rfl
            obtain ⟨n, hn⟩ : ∃ n : Nat, x.block = n := ⟨x.block.toNat, by omega⟩
            have hn12 : n < 12 := by omega
            have hst := cntL_step (blks (t.mt.take k)) hn12
            have hcn := cntL_get (blks (t.mt.take k)) hn12
            have hc0 := cnt_nonneg (blks (t.mt.take k)) (n : Int)
            have hc1 := cnt_le (blks (t.mt.take k)) (n : Int)
            have hc2 : (blks (t.mt.take k)).length ≤ 11728124029610 := by simp only [blks, List.length_append, List.length_map, List.length_take]; omega
            have kwc := kw.cell n
            have kwf := kw.free n
            rw [List.getElem?_toArray, List.getElem?_map, List.getElem?_eq_getElem (by rw [cntL_len]; exact hn12), hcn, Option.map_some] at kwc
            obtain ⟨xb, xt⟩ := x
            dsimp only at hn
            subst hn
            dsimp only at *
            generalize cntI (blks (t.mt.take k)) (n : Int) = cn at *
            have hsz := nx.size
            have hn12' : (n : Int) < 12 := by omega
            clear hoi hC hcn hB hlast
            replace hst := hid hst
            go_wp2
            go_roundw
            case rel =>
              refine ⟨k + 1, by omega, by go_num, by rw [hls.out], ho, (k0.set_other _ _ (by simp)).alloc _, ?_, bal (nx.setCell (by simp) _) _⟩
              rw [hbl.out]
              have hk2 := (kw.set n (.int .i64 (cn + 1))).alloc (.cells #[.int .i64 (n : Int), .string xt] 74)
              rw [map_set] at hk2
              rw [← hst.out] at hk2; exact hk2
            case measure => simp [intOf]; omega
          · have hgf := hid (hno.out (fun ho => hC (hoi.1 ho).2.2))
            have eC : ((x.text.size : Int) != 32) = true := bne_iff_ne.2 (by omega)
            clear hoi hC
            go_wp2
            go_ret
            exact ⟨ret_b hgf.out.symm, bal nx _⟩
        · have hgf := hid (hno.out (fun ho => hB (hoi.1 ho).2.1))
          have hB2 : 11 < x.block := by omega
          clear hoi hB
          go_wp2
          go_ret
          exact ⟨ret_b hgf.out.symm, bal nx _⟩
      · have hgf := hid (hno.out (fun ho => hA (hoi.1 ho).1))
        have hA2 : x.block ≤ la := by omega
        clear hoi hA
        go_wp2
        go_ret
        exact ⟨ret_b hgf.out.symm, bal nx _⟩
    · obtain rfl : k = t.mt.length := by omega
      have hokmt := hid ((copies_okTo t.mt).2 hto.out)
      rw [List.take_length] at kw
      have c2 := k0.cell 2
      simp only [List.getElem?_toArray, List.getElem?_cons_zero, List.getElem?_cons_succ] at c2
      go_wp2
      go_loopw [4, 8, 50] (fun la _ i wr => ∃ k : Nat, k ≤ t.dt.length ∧ i = .int .i64 k ∧ la = .int .i64 (lastB (blks t.dt) k) ∧ Hid (okTo t.dt k) ∧ Blk wr w.heap.size #[.int .i64 t.seq, .slice am t.mt.length cm, .slice ad t.dt.length cd, .slice ar t.rev.length cr, .bool t.h0.on, .int .i64 t.h0.left, .bool t.h1.on, .int .i64 t.h1.left, .bool t.h2.on, .int .i64 t.h2.left] 30 ∧ Blk wr (w.heap.size + 1) ((cntL (blks t.mt ++ blks (t.dt.take k))).map (Value.int .i64)).toArray 125 ∧ Below w.heap.size w wr) (fun _ _ i _ => t.dt.length - (intOf i).toNat)
      case atStart => exact ⟨0, Nat.zero_le _, rfl, rfl, hid (fun k hk => absurd hk (Nat.not_lt_zero k)), k0, by simpa [blks] using kw, nx⟩
      case round =>
        clear k0 kw nx l0 lw c2 hto hk hlt
        obtain ⟨k, hk, rfl, rfl, hto, k0, kw, nx⟩ := hrel
        have l0 := k0.lt
        have lw := kw.lt
        by_cases hlt : k < t.dt.length
        · obtain ⟨b1, o1, rfl, c0, c1⟩ := RL.at2 (fun x => .int .i64 x.block) (fun x => .string x.text) (fun _ => rfl) (hd.out.below nx) hlt
          have hoi := okC_iff hlt hto.out
          have hno := fun hn => hng.out (.inr (.inr (.inl (copies_no hlt hn))))
          have hsc := fun ho => (show okTo t.dt (k + 1) from fun j hj => if e : j = k then e ▸ ho else hto.out j (by omega))
          have hbl : blks (t.dt.take (k + 1)) = blks (t.dt.take k) ++ [t.dt[k].block] := by unfold blks; rw [List.take_succ_eq_append_getElem hlt, List.map_append]; rfl
          have hls : lastB (blks t.dt) (k + 1) = t.dt[k].block := by rw [lastB_succ (by simpa [blks] using hlt)]; simp [blks]
          have hcl : (cntL (blks t.mt ++ blks (t.dt.take k))).length = 12 := cntL_len _
          have hlast : lastB (blks t.dt) k = -1 ∨ 0 ≤ lastB (blks t.dt) k := by
            by_cases hk0 : k = 0
            · left; subst hk0; rfl
            · right; unfold lastB; rw [if_neg hk0]; exact (hto.out (k - 1) (by omega)).1.1
          generalize t.dt[k] = x at *
          generalize lastB (blks t.dt) k = la at *
          replace hno := hid hno; replace hsc := hid hsc; replace hbl := hid hbl; replace hls := hid hls; replace hcl := hid hcl
          by_cases hA : la < x.block
          · by_cases hB : x.block < 12
            · by_cases hC : x.text.size = 32
              · have ho := hid (hsc.out (hoi.2 ⟨hA, hB, hC⟩))
                have eC : ((x.text.size : Int) != 32) = false := by rw [hC]; rfl
                obtain ⟨n, hn⟩ : ∃ n : Nat, x.block = n := ⟨x.block.toNat, by omega⟩
                have hn12 : n < 12 := by omega
                have hst := cntL_step (blks t.mt ++ blks (t.dt.take k)) hn12
                have hcn := cntL_get (blks t.mt ++ blks (t.dt.take k)) hn12
                have hc0 := cnt_nonneg (blks t.mt ++ blks (t.dt.take k)) (n : Int)
                have hc1 := cnt_le (blks t.mt ++ blks (t.dt.take k)) (n : Int)
                have hc2 : (blks t.mt ++ blks (t.dt.take k)).length ≤ 11728124029610 := by simp only [blks, List.length_append, List.length_map, List.length_take]; omega
                have kwc := kw.cell n
                have kwf := kw.free n
                rw [List.getElem?_toArray, List.getElem?_map, List.getElem?_eq_getElem (by rw [cntL_len]; exact hn12), hcn, Option.map_some] at kwc
                obtain ⟨xb, xt⟩ := x
                dsimp only at hn
                subst hn
                dsimp only at *
                rw [List.append_assoc] at hst
                generalize cntI (blks t.mt ++ blks (t.dt.take k)) (n : Int) = cn at *
                have hsz := nx.size
                have hn12' : (n : Int) < 12 := by omega
                clear hoi hC hcn hB hlast
                replace hst := hid hst
                go_wp2
                go_roundw
                case rel =>
                  refine ⟨k + 1, by omega, by go_num, by rw [hls.out], ho, (k0.set_other _ _ (by simp)).alloc _, ?_, bal (nx.setCell (by simp) _) _⟩
                  rw [hbl.out]
                  have hk2 := (kw.set n (.int .i64 (cn + 1))).alloc (.cells #[.int .i64 (n : Int), .string xt] 74)
                  rw [map_set] at hk2
                  rw [← hst.out] at hk2; exact hk2
                case measure => simp [intOf]; omega
              · have hgf := hid (hno.out (fun ho => hC (hoi.1 ho).2.2))
                have eC : ((x.text.size : Int) != 32) = true := bne_iff_ne.2 (by omega)
                clear hoi hC
                go_wp2
                go_ret
                exact ⟨ret_b hgf.out.symm, bal nx _⟩
            · have hgf := hid (hno.out (fun ho => hB (hoi.1 ho).2.1))
              have hB2 : 11 < x.block := by omega
              clear hoi hB
              go_wp2
              go_ret
              exact ⟨ret_b hgf.out.symm, bal nx _⟩
          · have hgf := hid (hno.out (fun ho => hA (hoi.1 ho).1))
            have hA2 : x.block ≤ la := by omega
            clear hoi hA
            go_wp2
            go_ret
            exact ⟨ret_b hgf.out.symm, bal nx _⟩
        · obtain rfl : k = t.dt.length := by omega
          have hokdt := hid ((copies_okTo t.dt).2 hto.out)
          rw [List.take_length] at kw
          by_cases hrr : rise t.rev = true
          rotate_left
          · have hgf := hid (hng.out (.inr (.inr (.inr (.inl (by simpa using hrr))))))
            have hRk := fun w hh => hRi.out (.slice ar t.rev.length cr) w hh
            rw [Bool.not_eq_true _ |>.mp hrr] at hRk
            replace hRk := hid hRk
            have c3 := k0.cell 3
            simp only [List.getElem?_toArray, List.getElem?_cons_zero, List.getElem?_cons_succ] at c3
            clear hrr
            go_wp2_with (go_at_call 72; go_loud ((with_reducible refine (hRk.out _ (hr.out.below nx)).mono ?_); rintro e w1 ⟨rfl, rfl⟩))
            go_ret
            exact ⟨ret_b hgf.out.symm, nx⟩
          have hRk := fun w hh => hRi.out (.slice ar t.rev.length cr) w hh
          rw [hrr] at hRk
          replace hRk := hid hRk
          have hrg := hid (fun k (hk : k < t.rev.length) => rise_get hrr hk)
          replace hrr := hid hrr
          have c3 := k0.cell 3
          simp only [List.getElem?_toArray, List.getElem?_cons_zero, List.getElem?_cons_succ] at c3
          go_wp2_with (go_at_call 72; go_loud ((with_reducible refine (hRk.out _ (hr.out.below nx)).mono ?_); rintro e w1 ⟨rfl, rfl⟩))
          go_loopw [10, 85] (fun _ i wr => ∃ k : Nat, k ≤ t.rev.length ∧ i = .int .i64 k ∧ Blk wr w.heap.size #[.int .i64 t.seq, .slice am t.mt.length cm, .slice ad t.dt.length cd, .slice ar t.rev.length cr, .bool t.h0.on, .int .i64 t.h0.left, .bool t.h1.on, .int .i64 t.h1.left, .bool t.h2.on, .int .i64 t.h2.left] 30 ∧ Blk wr (w.heap.size + 1) ((cntL ((blks t.mt ++ blks t.dt) ++ t.rev.take k)).map (Value.int .i64)).toArray 125 ∧ Below w.heap.size w wr) (fun _ i _ => t.rev.length - (intOf i).toNat)
          case atStart => exact ⟨0, Nat.zero_le _, rfl, k0, by simpa using kw, nx⟩
          case round =>
            clear k0 kw nx l0 lw c3
            obtain ⟨k, hk, rfl, k0, kw, nx⟩ := hrel
            have l0 := k0.lt
            have lw := kw.lt
            by_cases hlt : k < t.rev.length
            · obtain ⟨b1, o1, rfl, c0⟩ := RL.at1 (fun x => .int .i64 x) (fun _ => rfl) (hr.out.below nx) hlt
              obtain ⟨g1, g2, _⟩ := hrg.out k hlt
              have htk : t.rev.take (k + 1) = t.rev.take k ++ [t.rev[k]] := List.take_succ_eq_append_getElem hlt
              generalize t.rev[k] = x at *
              obtain ⟨n, rfl⟩ : ∃ n : Nat, x = n := ⟨x.toNat, by omega⟩
              have hn12 : n < 12 := by omega
              have hst := cntL_step ((blks t.mt ++ blks t.dt) ++ t.rev.take k) hn12
              have hcn := cntL_get ((blks t.mt ++ blks t.dt) ++ t.rev.take k) hn12
              have hc0 := cnt_nonneg ((blks t.mt ++ blks t.dt) ++ t.rev.take k) (n : Int)
              have hc1 := cnt_le ((blks t.mt ++ blks t.dt) ++ t.rev.take k) (n : Int)
              have hc2 : ((blks t.mt ++ blks t.dt) ++ t.rev.take k).length ≤ 29320310073770 := by simp only [blks, List.length_append, List.length_map, List.length_take]; omega
              have kwc := kw.cell n
              have kwf := kw.free n
              rw [List.getElem?_toArray, List.getElem?_map, List.getElem?_eq_getElem (by rw [cntL_len]; exact hn12), hcn, Option.map_some] at kwc
              generalize cntI ((blks t.mt ++ blks t.dt) ++ t.rev.take k) (n : Int) = cn at *
              have hn12' : (n : Int) < 12 := by omega
              clear hcn
              replace hst := hid hst; replace htk := hid htk
              go_wp2
              go_roundw
              case rel =>
                refine ⟨k + 1, by omega, by go_num, k0.set_other _ _ (by simp), ?_, nx.setCell (by simp) _⟩
                have hk2 := kw.set n (.int .i64 (cn + 1))
                rw [map_set, ← hst.out] at hk2
                rw [htk.out, ← List.append_assoc]
                exact hk2
              case measure => simp [intOf]; omega
            · obtain rfl : k = t.rev.length := by omega
              rw [List.take_length] at kw
              have hap := fun ha x => apart_cnt hokmt.out hokdt.out hrr.out ha x
              have hac := fun hh => cnt_apart hokmt.out hokdt.out hrr.out hh
              change Blk wr (w.heap.size + 1) ((cntL (allOf t)).map (Value.int .i64)).toArray 125 at kw
              have hsz : some 12 = some (((cntL (allOf t)).map (Value.int .i64)).toArray).size := by simp [cntL_len]
              have hget : ∀ k : Nat, k < 12 → (cntL (allOf t))[k]? = some (cntI (allOf t) k) := fun k hk => by rw [List.getElem?_eq_getElem (by rw [cntL_len]; exact hk), cntL_get _ hk]
              have hl12 := cntL_len (allOf t)
              have hng5 := fun (ha : ¬ apart t = true) => hng.out (.inr (.inr (.inr (.inr (.inl (by simpa using ha))))))
              generalize hcl : cntL (allOf t) = cl at *
              generalize hca : cntI (allOf t) = ca at *
              clear hcl hca
              replace hap := hid hap; replace hac := hid hac; replace hsz := hid hsz; replace hget := hid hget; replace hl12 := hid hl12; replace hng5 := hid hng5
              have kw2 := hid kw
              clear hlt
              go_wp2_with (refine wpList_load_row rfl 125 _ rfl _ rfl _ _ _ _ kw2.out Tryd.underlying125 rfl ((by kernel_rfl : _ = some 12).trans hsz.out) ?_)
              go_loopw [12, 96] (fun _ i wr => ∃ k : Nat, k ≤ 12 ∧ i = .int .i64 k ∧ Hid (∀ j : Nat, j < k → ca j ≤ 1) ∧ Blk wr w.heap.size #[.int .i64 t.seq, .slice am t.mt.length cm, .slice ad t.dt.length cd, .slice ar t.rev.length cr, .bool t.h0.on, .int .i64 t.h0.left, .bool t.h1.on, .int .i64 t.h1.left, .bool t.h2.on, .int .i64 t.h2.left] 30 ∧ Below w.heap.size w wr) (fun _ i _ => 12 - (intOf i).toNat)
              case atStart => exact ⟨0, by decide, rfl, hid (fun j hj => absurd hj (Nat.not_lt_zero j)), k0, nx⟩
              case round =>
                clear k0 kw kw2 nx l0 lw
                obtain ⟨k, hk, rfl, hall, k0, nx⟩ := hrel
                by_cases hlt : k < 12
                · have hixk := hix.out wr cl hl12.out k (by rw [hl12.out]; exact hlt)
                  have hg2 := hget.out k hlt
                  rw [List.getElem?_eq_getElem (by rw [hl12.out]; exact hlt)] at hg2
                  simp only [Option.some.injEq] at hg2
                  rw [hg2] at hixk
                  clear hg2
                  by_cases hc : ca k ≤ 1
                  · have hall2 := hid (show ∀ j : Nat, j < k + 1 → ca j ≤ 1 from fun j hj => by
                      rcases Nat.lt_succ_iff_lt_or_eq.1 hj with h1 | rfl
                      · exact hall.out j h1
                      · exact hc)
                    generalize ca k = cn at *
                    go_wp2
                    go_roundw
                    case rel => exact ⟨k + 1, by omega, by go_num, hall2, k0, nx⟩
                    case measure => simp [intOf]; omega
                  · have hgf := hid (hng5.out (fun ha => hc (hap.out ha k)))
                    have hc2 : 1 < ca k := by omega
                    generalize ca k = cn at *
                    clear hc
                    go_wp2
                    go_ret
                    exact ⟨ret_b hgf.out.symm, nx⟩
                · obtain rfl : k = 12 := by omega
                  have hapt := hid (hac.out (fun j hj => hall.out j hj))
                  have l0 := k0.lt
                  have e4 := k0.cell 4; have e5 := k0.cell 5; have e6 := k0.cell 6; have e7 := k0.cell 7; have e8 := k0.cell 8; have e9 := k0.cell 9
                  simp only [List.getElem?_toArray, List.getElem?_cons_zero, List.getElem?_cons_succ] at e4 e5 e6 e7 e8 e9
                  clear hlt hall
                  go_wp2
                  go_loopw [14, 104] (fun _ i wr => ∃ k : Nat, k ≤ 3 ∧ i = .int .i64 k ∧ Hid (∀ j, j < k → (if j = 0 then hOk t.h0 else if j = 1 then hOk t.h1 else hOk t.h2) = true) ∧ Blk wr w.heap.size #[.int .i64 t.seq, .slice am t.mt.length cm, .slice ad t.dt.length cd, .slice ar t.rev.length cr, .bool t.h0.on, .int .i64 t.h0.left, .bool t.h1.on, .int .i64 t.h1.left, .bool t.h2.on, .int .i64 t.h2.left] 30 ∧ Below w.heap.size w wr) (fun _ i _ => 3 - (intOf i).toNat)
                  case atStart => exact ⟨0, by decide, rfl, hid (fun j hj => absurd hj (Nat.not_lt_zero j)), k0, nx⟩
                  case round =>
                    clear k0 nx l0 e4 e5 e6 e7 e8 e9
                    obtain ⟨k, hk, rfl, hall, k0, nx⟩ := hrel
                    have l0 := k0.lt
                    by_cases hlt : k < 3
                    · obtain (rfl | rfl | rfl) : k = 0 ∨ k = 1 ∨ k = 2 := by omega
                      · -- handle 0
                        have hi := hi3.out wr
                        replace hi := hi.1
                        have hof := hOk_iff t.h0
                        have hnh := fun hh => hng.out (.inr (.inr (.inr (.inr (.inr (.inl hh))))))
                        generalize t.h0.on = o at *
                        generalize hle : t.h0.left = lf at *
                        replace hnh := hid hnh; replace hle := hid hle
                        by_cases hoo : hOk t.h0 = true
                        · obtain ⟨a1, a2, a3⟩ := hof.1 hoo
                          have hoo2 := hid hoo
                          have hall2 := hid (show ∀ j, j < 0 + 1 → (if j = 0 then hOk t.h0 else if j = 1 then hOk t.h1 else hOk t.h2) = true from by intro j hj; obtain rfl : j = 0 := (by omega); exact hoo2.out)
                          clear hof hoo
                          by_cases hz : lf = 0
                          · subst hz
                            go_wp2
                            go_roundw
                            case rel => first | exact ⟨0 + 1, by decide, rfl, hall2, k0.alloc _, bal nx _⟩ | ((repeat apply Exists.intro); exact ⟨⟨0 + 1, by decide, rfl, hall2, k0.alloc _, bal nx _⟩, rfl⟩)
                            case measure => simp [intOf]
                          · have ho : o = true := a3.resolve_right hz
                            have hz2 : 0 < lf := by omega
                            subst ho
                            clear hz a3
                            go_wp2
                            go_roundw
                            case rel => first | exact ⟨0 + 1, by decide, rfl, hall2, k0.alloc _, bal nx _⟩ | ((repeat apply Exists.intro); exact ⟨⟨0 + 1, by decide, rfl, hall2, k0.alloc _, bal nx _⟩, rfl⟩)
                            case measure => simp [intOf]
                        · replace hoo : hOk t.h0 = false := by simpa using hoo
                          have hgf := hid (hnh.out hoo)
                          have hof2 : ¬ (0 ≤ lf ∧ lf ≤ 24 ∧ (o = true ∨ lf = 0)) := fun h => by rw [hof.2 h] at hoo; cases hoo
                          clear hof hoo
                          by_cases q1 : lf < 0
                          · clear hof2
                            go_wp2
                            go_ret
                            exact ⟨ret_b hgf.out.symm, bal nx _⟩
                          · by_cases q2 : 24 < lf
                            · clear hof2
                              go_wp2
                              go_ret
                              exact ⟨ret_b hgf.out.symm, bal nx _⟩
                            · have q3 : 0 < lf := by
                                by_cases hz : lf = 0
                                · exact absurd ⟨by omega, by omega, .inr hz⟩ hof2
                                · omega
                              have q4 : o = false := by
                                cases o
                                · rfl
                                · exact absurd ⟨by omega, by omega, .inl rfl⟩ hof2
                              have q5 : 0 ≤ lf := by omega
                              have q6 : lf ≤ 24 := by omega
                              subst q4
                              clear hof2 q1 q2
                              go_wp2
                              go_ret
                              exact ⟨ret_b hgf.out.symm, bal nx _⟩
                      · -- handle 1
                        have hi := hi3.out wr
                        replace hi := hi.2.1
                        have hof := hOk_iff t.h1
                        have hnh := fun hh => hng.out (.inr (.inr (.inr (.inr (.inr (.inr (.inl hh)))))))
                        generalize t.h1.on = o at *
                        generalize hle : t.h1.left = lf at *
                        replace hnh := hid hnh; replace hle := hid hle
                        by_cases hoo : hOk t.h1 = true
                        · obtain ⟨a1, a2, a3⟩ := hof.1 hoo
                          have hoo2 := hid hoo
                          have hall2 := hid (show ∀ j, j < 1 + 1 → (if j = 0 then hOk t.h0 else if j = 1 then hOk t.h1 else hOk t.h2) = true from by intro j hj; rcases Nat.lt_succ_iff_lt_or_eq.1 hj with h1 | rfl; (· exact hall.out j h1); exact hoo2.out)
                          clear hof hoo
                          by_cases hz : lf = 0
                          · subst hz
                            go_wp2
                            go_roundw
                            case rel => first | exact ⟨1 + 1, by decide, rfl, hall2, k0.alloc _, bal nx _⟩ | ((repeat apply Exists.intro); exact ⟨⟨1 + 1, by decide, rfl, hall2, k0.alloc _, bal nx _⟩, rfl⟩)
                            case measure => simp [intOf]
                          · have ho : o = true := a3.resolve_right hz
                            have hz2 : 0 < lf := by omega
                            subst ho
                            clear hz a3
                            go_wp2
                            go_roundw
                            case rel => first | exact ⟨1 + 1, by decide, rfl, hall2, k0.alloc _, bal nx _⟩ | ((repeat apply Exists.intro); exact ⟨⟨1 + 1, by decide, rfl, hall2, k0.alloc _, bal nx _⟩, rfl⟩)
                            case measure => simp [intOf]
                        · replace hoo : hOk t.h1 = false := by simpa using hoo
                          have hgf := hid (hnh.out hoo)
                          have hof2 : ¬ (0 ≤ lf ∧ lf ≤ 24 ∧ (o = true ∨ lf = 0)) := fun h => by rw [hof.2 h] at hoo; cases hoo
                          clear hof hoo
                          by_cases q1 : lf < 0
                          · clear hof2
                            go_wp2
                            go_ret
                            exact ⟨ret_b hgf.out.symm, bal nx _⟩
                          · by_cases q2 : 24 < lf
                            · clear hof2
                              go_wp2
                              go_ret
                              exact ⟨ret_b hgf.out.symm, bal nx _⟩
                            · have q3 : 0 < lf := by
                                by_cases hz : lf = 0
                                · exact absurd ⟨by omega, by omega, .inr hz⟩ hof2
                                · omega
                              have q4 : o = false := by
                                cases o
                                · rfl
                                · exact absurd ⟨by omega, by omega, .inl rfl⟩ hof2
                              have q5 : 0 ≤ lf := by omega
                              have q6 : lf ≤ 24 := by omega
                              subst q4
                              clear hof2 q1 q2
                              go_wp2
                              go_ret
                              exact ⟨ret_b hgf.out.symm, bal nx _⟩
                      · -- handle 2
                        have hi := hi3.out wr
                        replace hi := hi.2.2
                        have hof := hOk_iff t.h2
                        have hnh := fun hh => hng.out (.inr (.inr (.inr (.inr (.inr (.inr (.inr hh)))))))
                        generalize t.h2.on = o at *
                        generalize hle : t.h2.left = lf at *
                        replace hnh := hid hnh; replace hle := hid hle
                        by_cases hoo : hOk t.h2 = true
                        · obtain ⟨a1, a2, a3⟩ := hof.1 hoo
                          have hoo2 := hid hoo
                          have hall2 := hid (show ∀ j, j < 2 + 1 → (if j = 0 then hOk t.h0 else if j = 1 then hOk t.h1 else hOk t.h2) = true from by intro j hj; rcases Nat.lt_succ_iff_lt_or_eq.1 hj with h1 | rfl; (· exact hall.out j h1); exact hoo2.out)
                          clear hof hoo
                          by_cases hz : lf = 0
                          · subst hz
                            go_wp2
                            go_roundw
                            case rel => first | exact ⟨2 + 1, by decide, rfl, hall2, k0.alloc _, bal nx _⟩ | ((repeat apply Exists.intro); exact ⟨⟨2 + 1, by decide, rfl, hall2, k0.alloc _, bal nx _⟩, rfl⟩)
                            case measure => simp [intOf]
                          · have ho : o = true := a3.resolve_right hz
                            have hz2 : 0 < lf := by omega
                            subst ho
                            clear hz a3
                            go_wp2
                            go_roundw
                            case rel => first | exact ⟨2 + 1, by decide, rfl, hall2, k0.alloc _, bal nx _⟩ | ((repeat apply Exists.intro); exact ⟨⟨2 + 1, by decide, rfl, hall2, k0.alloc _, bal nx _⟩, rfl⟩)
                            case measure => simp [intOf]
                        · replace hoo : hOk t.h2 = false := by simpa using hoo
                          have hgf := hid (hnh.out hoo)
                          have hof2 : ¬ (0 ≤ lf ∧ lf ≤ 24 ∧ (o = true ∨ lf = 0)) := fun h => by rw [hof.2 h] at hoo; cases hoo
                          clear hof hoo
                          by_cases q1 : lf < 0
                          · clear hof2
                            go_wp2
                            go_ret
                            exact ⟨ret_b hgf.out.symm, bal nx _⟩
                          · by_cases q2 : 24 < lf
                            · clear hof2
                              go_wp2
                              go_ret
                              exact ⟨ret_b hgf.out.symm, bal nx _⟩
                            · have q3 : 0 < lf := by
                                by_cases hz : lf = 0
                                · exact absurd ⟨by omega, by omega, .inr hz⟩ hof2
                                · omega
                              have q4 : o = false := by
                                cases o
                                · rfl
                                · exact absurd ⟨by omega, by omega, .inl rfl⟩ hof2
                              have q5 : 0 ≤ lf := by omega
                              have q6 : lf ≤ 24 := by omega
                              subst q4
                              clear hof2 q1 q2
                              go_wp2
                              go_ret
                              exact ⟨ret_b hgf.out.symm, bal nx _⟩
                    · obtain rfl : k = 3 := by omega
                      have e0 := k0.cell 0
                      simp only [List.getElem?_toArray, List.getElem?_cons_zero, List.getElem?_cons_succ] at e0
                      have hgt : seqOk t.seq = true → goodT t = true := fun hh => (goodT_iff t).2 ⟨hh, hokmt.out, hokdt.out, hrr.out, hapt.out, hall.out 0 (by decide), hall.out 1 (by decide), hall.out 2 (by decide)⟩
                      have hgn : seqOk t.seq = false → goodT t = false := fun hh => hng.out (.inl hh)
                      generalize hsq : t.seq = sq at *
                      replace hgt := hid hgt; replace hgn := hid hgn; replace hsq := hid hsq
                      by_cases q1 : 1 ≤ sq
                      · by_cases q2 : sq ≤ 2147483647
                        · have hv := hid (hgt.out (decide_eq_true ⟨q1, q2⟩))
                          have q3 : 0 < sq := by omega
                          have q4 : sq < 2147483648 := by omega
                          go_wp2
                          go_ret
                          exact ⟨ret_b hv.out.symm, nx⟩
                        · have hv := hid (hgn.out (decide_eq_false (fun h => q2 h.2)))
                          have q3 : 0 < sq := by omega
                          have q4 : decide (sq < 2147483648) = false := decide_eq_false (by omega)
                          go_wp2
                          go_ret
                          exact ⟨ret_b hv.out.symm, nx⟩
                      · have hv := hid (hgn.out (decide_eq_false (fun h => q1 h.1)))
                        have q3 : sq ≤ 0 := by omega
                        go_wp2
                        go_ret
                        exact ⟨ret_b hv.out.symm, nx⟩
end Go.Proofs.YtjhmfljlclajnabDoor
