/- Parts of the proof: Com ComRP ComB SealL Laid LaidF Dec2 Dec3 Dec. -/
import Derived.Test.YtjhmfljlclajnacDoorKSealWhole5
import Derived.Test.YtjhmfljlclajnacDoorKSealWhole6
import Derived.Test.YtjhmfljlclajnacDoorKSealWhole3
import Derived.Test.YtjhmfljlclajnacDoorKSealWhole2
import Derived.Test.YtjhmfljlclajnacDoorKSealWhole1
import Derived.Test.YtjhmfljlclajnacDoorURing
import Derived.Test.YtjhmfljlclajnacDoorUPure
import Derived.Deep.RegionWith
import Derived.Test.YtjhmfljlclajnacDoorUFit2
import Derived.Test.YtjhmfljlclajnacDoorUPure2
import Derived.Deep.CutBlock
import Derived.Deep.DeepCutAuto
import Derived.Test.YtjhmfljlclajnacDoorKSealWhole0
import Derived.Test.YtjhmfljlclajnacDoorUBase
import Derived.Test.YtjhmfljlclajnacDoorKSealWhole4
import Derived.Laws.Rows
import Derived.Test.YtjhmfljlclajnacDoorURegCall
import Derived.Test.YtjhmfljlclajnacDoorChecked
import Derived.ChangeKeysEq
import Derived.Deep.QuietTactic
import Derived.BigQuiet
import Derived.Test.YtjhmfljlclajnacDoorCards
import Derived.Test.YtjhmfljlclajnacDoorTie
import Derived.Lib.LaidTab
import Derived.Test.YtjhmfljlclajnacDoorUDec2a
import Derived.Test.YtjhmfljlclajnacDoorUDec2b
import Derived.Test.YtjhmfljlclajnacDoorUDec2c
import Derived.Test.YtjhmfljlclajnacDoorUDec2d
import Derived.Test.YtjhmfljlclajnacDoorUMarks
import Derived.Test.YtjhmfljlclajnacDoorUDecP2
import Derived.Test.YtjhmfljlclajnacDoorUDecA
set_option linter.unusedVariables false
set_option linter.unusedSimpArgs false
namespace Go.Proofs.YtjhmfljlclajnacDoor
open Go.RowKit Wb
set_option maxRecDepth 100000
set_option maxHeartbeats 16000000
theorem seal_Commit_go (r : Ring) (t : Txn) (vm vd vr : Value) (w0 : World) (ht : RTxn w0 (txnV t vm vd vr) t) (hF : Sl w0 (flR 0).v 1 (flR 0).cs) (hc : comE r t = 0) :
    Calls Tryd.prog 17 #[r.val, txnV t vm vd vr] w0 fun e w' => ∃ v', e = .returned (.tuple #[(takeR r (comN t)).val, v', .int .i64 0]) ∧ Wb.Own stpC w0.heap.size 84 3 w' v' (comL r t) ∧ Below w0.heap.size w0 w' := by
 have hG := fun w' (hb : Below w0.heap.size w0 w') => txn_Good t _ w' (ht.below hb)
 have hO := fun w' (hb : Below w0.heap.size w0 w') => txn_Open t _ w' (ht.below hb)
 have hRG := fun w' => ring_Good r w'
 have hTk := fun w' => ring_Take r (comN t) w'
 obtain ⟨vm', vd', vr', hvv, hm, hd, hr, n1, n2, n3⟩ := ht
 simp only [txnV, Value.agg.injEq, Array.mk.injEq, List.cons.injEq, and_true, true_and] at hvv
 obtain ⟨rfl, rfl, rfl⟩ := hvv
 obtain ⟨am, cm, rfl, hcm, _⟩ := hm.form
 obtain ⟨ad, cd, rfl, _⟩ := hd.form
 obtain ⟨ar, cr, rfl, hcr, _⟩ := hr.form
 have hce := hc
 unfold comE at hc
 split at hc
 ·cases hc
 rename_i hcond
 simp only [not_or, Bool.not_eq_false, Bool.not_eq_true] at hcond
 obtain ⟨q1, q2, q3⟩ := hcond
 rw [q2] at hG
 rw [q3] at hO
 rw [q1] at hRG
 rw [hc] at hTk
 have hg := goodT_of.1 q2
 obtain ⟨l1, l2, l3⟩ := lens hg
 have hNd := fun w' => ring_Need t.mt.length t.rev.length w'
 have hne : needE t.mt.length t.rev.length = 0 := (need_most hg).2
 rw [hne] at hNd
 have hN : needN t.mt.length t.rev.length = ((bodyT t).length : Int) + 1 := (bodyT_len hg).symm
 rw [hN] at hNd
 have hNc : comN t = ((bodyT t).length : Int) + 1 := hN
 rw [hNc] at hTk ⊢
 have hTL : takeL r (((bodyT t).length : Int) + 1) = places r.head ((bodyT t).length + 1) := by
  unfold takeL
  rw [← hNc, if_pos hc, hNc]
  congr 1
 rw [hTL] at hTk
 have hjlt : (bodyT t).length + 1 ≤ 24 := by
  have := takeL_len r (((bodyT t).length : Int) + 1)
  rw [hTL, places_len] at this
  exact this
 have hh : 0 ≤ r.head ∧ r.head < 24 := ⟨((goodR_iff r).1 q1).1, ((goodR_iff r).1 q1).2.1⟩
 have hmt := fun k (hk : k < t.dt.length) => map_take (f := goS) hk
 have hfu : t.dt.take t.dt.length = t.dt := List.take_length
 generalize hnb : (bodyT t).length = nb at *
 generalize hCL : comL r t = CL at *
 obtain ⟨⟨rh, ru⟩, hTR⟩ : ∃ x : Ring, takeR r ((nb : Int) + 1) = x := ⟨_, rfl⟩
 rw [hTR] at hTk ⊢
 obtain ⟨h0, u0⟩ := r
 obtain ⟨seq, mt, dt, rev, ⟨o0, x0⟩, ⟨o1, x1⟩, ⟨o2, x2⟩⟩ := t
 obtain ⟨DS, LS, pj, pm, hC⟩ := comF (r := ⟨h0, u0⟩) (t := ⟨seq, mt, dt, rev, ⟨o0, x0⟩, ⟨o1, x1⟩, ⟨o2, x2⟩⟩) l1 l2 hce
 rw [hnb] at hC
 obtain ⟨hL0, hLr, hLp, hJ0, hJn, hJe, hMl, hMd, hLl, hDl, hCd, hds0, hBk, hB0⟩ := hC
 rw [hCL] at hCd
 dsimp only at hLr hLp hJ0 hJn hJe hMl hMd hds0 hBk hCd
 simp only [txnV, Ring.val] at hG hO hRG hTk hNd hm hd hr hmt hfu l1 l2 l3 n1 n2 n3 hcm hcr ⊢
 have hW := fun x s w => seal_write x s w
 have X : St [] w0 w0 [] [flR 0, Rd.of cpyC (.slice am mt.length cm) mt, Rd.of cpyC (.slice ad dt.length cd) dt, Rd.of intC (.slice ar rev.length cr) rev] := ((((St.start [] w0).addR0 hr).addR0 hd).addR0 hm).addR0 hF
 replace hG := hid hG; replace hO := hid hO; replace hRG := hid hRG; replace hTk := hid hTk; replace hNd := hid hNd; replace hm := hid hm; replace hd := hid hd; replace hr := hid hr; replace hW := hid hW; replace hmt := hid hmt; replace hfu := hid hfu; replace hnb := hid hnb; replace hCL := hid hCL; replace hTR := hid hTR; replace hcm := hid hcm; replace hcr := hid hcr; replace hg := hid hg; replace hce := hid hce; replace hL0 := hid hL0; replace hLr := hid hLr; replace hLp := hid hLp; replace hJ0 := hid hJ0; replace hJn := hid hJn; replace hJe := hid hJe; replace hMl := hid hMl; replace hMd := hid hMd; replace hLl := hid hLl; replace hDl := hid hDl; replace hCd := hid hCd; replace hds0 := hid hds0; replace hBk := hid hBk; replace hB0 := hid hB0
 clear hF hne hN hNc hc q1 q2 q3 hTL
 have hsp : (nb : Int) + 1 ≠ 0 := by omega
 refine calls_marks Tryd.func17 rfl ?_; simp only [Tryd.ntmps17, List.size_toArray, List.length_cons, List.length_nil, Nat.reduceAdd, Nat.reduceSub, Array.replicate_succ, Array.replicate_zero, List.push_toArray, List.append_toArray, List.nil_append, List.cons_append]
 go_upto_block 0 with (first
  | (refine ZcL ?_) | (refine ZcS ?_; clear X; intro w X) | (refine ZcA ?_; clear X; intro g w X)
  | (go_at_call 30; go_loud ((with_reducible refine (hRG.out _).mono ?_); rintro e w1 ⟨rfl, hb1⟩; replace X := X.call hb1; clear hb1))
  | (go_at_call 26; go_loud ((with_reducible refine (hG.out _ X.below).mono ?_); rintro e w1 ⟨rfl, hb1⟩; replace X := X.call hb1; clear hb1))
  | (go_at_call 31; go_loud ((with_reducible refine (hO.out _ X.below).mono ?_); rintro e w1 ⟨rfl, hb1⟩; replace X := X.call hb1; clear hb1))
  | (go_at_call 32; go_loud ((with_reducible refine (hNd.out _).mono ?_); rintro e w1 ⟨rfl, rfl⟩))
  | (go_at_call 33; go_loud ((with_reducible refine (hTk.out _).mono ?_); rintro e w1 ⟨va, rfl, hoa, hb1⟩; obtain ⟨ga, ca, rfl, hac, hacm⟩ := own_base intC_flat hoa (by rw [places_len]; omega); replace X := X.addOwn hb1 hoa; clear hb1 hoa)))
 obtain ⟨g12, g10, g9, g4, g3, g2, rfl, rfl, rfl, rfl, rfl, rfl⟩ := X.gs6
 have hpl := places_len h0 (nb + 1)
 rw [hpl] at hac X ⊢
 replace hpl := hid hpl
 go_cut [] from 27 to 77 (fun wx => ∃ (M : List Ent) (v : Value), OwnM stpC 84 3 v (dt.map goS) M ∧ St [] w0 wx (⟨g12, [v], 39⟩ :: ⟨g10, [.slice (some ⟨ga, 0, none⟩) (nb + 1) ca], 50⟩ :: ⟨g9, [.int .i64 rh, .int .i64 ru], 57⟩ :: ⟨g4, [.int .i64 0, .int .i64 0], 57⟩ :: ⟨g3, [.int .i64 seq, .slice am mt.length cm, .slice ad dt.length cd, .slice ar rev.length cr, .bool o0, .int .i64 x0, .bool o1, .int .i64 x1, .bool o2, .int .i64 x2], 55⟩ :: ⟨g2, [.int .i64 h0, .int .i64 u0], 57⟩ :: (M ++ [])) [Rd.of intC (.slice (some ⟨ga, 0, none⟩) (nb + 1) ca) (places h0 (nb + 1)), flR 0, Rd.of cpyC (.slice am mt.length cm) mt, Rd.of cpyC (.slice ad dt.length cd) dt, Rd.of intC (.slice ar rev.length cr) rev])
 case first =>
  go_wp2
  go_loopw [64] (fun i wr => ∃ (k : Nat) (M : List Ent) (v : Value), k ≤ dt.length ∧ i = .int .i64 k ∧ OwnM stpC 84 3 v ((dt.take k).map goS) M ∧ St [] w0 wr (⟨g12, [v], 39⟩ :: ⟨g10, [.slice (some ⟨ga, 0, none⟩) (nb + 1) ca], 50⟩ :: ⟨g9, [.int .i64 rh, .int .i64 ru], 57⟩ :: ⟨g4, [.int .i64 0, .int .i64 0], 57⟩ :: ⟨g3, [.int .i64 seq, .slice am mt.length cm, .slice ad dt.length cd, .slice ar rev.length cr, .bool o0, .int .i64 x0, .bool o1, .int .i64 x1, .bool o2, .int .i64 x2], 55⟩ :: ⟨g2, [.int .i64 h0, .int .i64 u0], 57⟩ :: (M ++ [])) [Rd.of intC (.slice (some ⟨ga, 0, none⟩) (nb + 1) ca) (places h0 (nb + 1)), flR 0, Rd.of cpyC (.slice am mt.length cm) mt, Rd.of cpyC (.slice ad dt.length cd) dt, Rd.of intC (.slice ar rev.length cr) rev]) (fun i _ => dt.length - (intOf i).toNat)
  case atStart => exact ⟨0, [], _, Nat.zero_le _, rfl, OwnM.nil _ _ _, X⟩
  case round =>
   clear X
   obtain ⟨k, M, v, hk, rfl, hO2, X⟩ := hrel
   by_cases hlt : k < dt.length
   ·obtain ⟨b1, o1, rfl, c0, c1⟩ := RL.at2 (fun x => .int .i64 x.block) (fun x => .string x.text) (fun _ => rfl) (hd.out.below X.below) hlt
    obtain ⟨y0, y1⟩ := of_decide_eq_true (copies_get hg.out.dt hlt).1
    have hmk := hmt.out k hlt
    have hlk : ((dt.take k).map goS).length ≤ 12 := by rw [List.length_map, List.length_take]; omega
    dsimp only at c0 c1 y0 y1 hmk
    generalize dt[k] = x at *
    obtain ⟨xb, xt⟩ := x
    dsimp only at *
    generalize (dt.take k).map goS = ls at *
    obtain ⟨ao, co, rfl⟩ := hO2.form
    have hwr : IntKind.i64.wrap (25 + xb) = 25 + xb := IntWalk.i64_in _ (by omega)
    have hgo : [goS ⟨xb, xt⟩].flatMap stpC = [.int .i64 1, .int .i64 (25 + xb), .string xt] := rfl
    have h40 : ls.length + 1 ≤ 1099511627776 := by omega
    replace hmk := hid hmk
    go_wp2_with (first
     | (refine ZcL ?_) | (refine ZcS ?_; clear X; intro w X) | (refine ZcA ?_; clear X; intro g w X))
    (refine q_startS 2 [9] [6, 7, 8, 9] [0, 2, 5] [0, 1, 2, 3, 4, 5, 6, 7, 8, 9] X ?_; clear X; intro hQ X hL; simp only [zF, zG] at hL; simp only [zF, zG])
    (refine Zl ?_)
    (refine Zf ?_)
    (refine Zl ?_)
    (refine Zg ?_)
    (refine Zf ?_)
    (refine Zl ?_)
    (refine q_callS 27 Tryd.func27 (hW.out _ _ _) ?_; rintro e w1 ⟨rfl, hb1⟩; replace X := X.call hb1; clear hb1; refine Zce ?_; clear hL; intro hL)
    (refine q_build1 rfl rfl Zev (by rfl) (by rfl) X hL rfl rfl ?_; intro g w X2 hL2; replace X := X2; replace hL := hL2; clear X2 hL2; (simp only [Act.put, zA, zB, zC, zD, zE, zF, zG, Nat.reduceAdd]))
    (refine q_app (M := M) (T := []) (n := 1) [_, _, _, _, _, _, _] rfl rfl [goS ⟨xb, xt⟩] stpC_flat X hO2 Zev Zev hgo rfl h40 hL (.cons_cons _ (.cons_cons _ (List.nil_sublist _))) rfl rfl ?_; intro a2 c2 w2 M2 hO3 X2 hL2; replace X := X2; replace hL := hL2; clear X2 hL2; (simp only [Act.put, zA, zB, zC, zD, zE, zF, zG, Nat.reduceAdd]))
    (refine Zb ?_; clear X; intro w X)
    refine q_nil ?_
    go_wp2
    go_roundw
    case rel => exact ⟨k + 1, M2, _, by omega, by go_num, by rw [hmk.out]; exact hO3, X.tail⟩
    case measure => simp [intOf]; omega
   ·obtain rfl : k = dt.length := by omega
    rw [hfu.out] at hO2
    go_wp2
    go_meet
    exact ⟨M, v, hO2, X⟩
 case rest =>
  clear X
  obtain ⟨M, v, hO2, X⟩ := hcut
  obtain ⟨ao, co, rfl⟩ := hO2.form
  have hml : (dt.map goS).length = dt.length := List.length_map _
  have hds := hds0.out
  generalize dt.map goS = ls at *
  rw [hml] at hO2 X
  replace hds := hid hds
  go_upto_if 80 with (first | (refine ZcL ?_) | (refine ZcS ?_; clear X; intro w X) | (refine ZcA ?_; clear X; intro g w X))
  go_cut [] from 78 to 84 (fun wx => ∃ (M : List Ent) (v : Value), OwnM stpC 84 3 v DS M ∧ St [] w0 wx (⟨g12, [v], 39⟩ :: ⟨g10, [.slice (some ⟨ga, 0, none⟩) (nb + 1) ca], 50⟩ :: ⟨g9, [.int .i64 rh, .int .i64 ru], 57⟩ :: ⟨g4, [.int .i64 0, .int .i64 0], 57⟩ :: ⟨g3, [.int .i64 seq, .slice am mt.length cm, .slice ad dt.length cd, .slice ar rev.length cr, .bool o0, .int .i64 x0, .bool o1, .int .i64 x1, .bool o2, .int .i64 x2], 55⟩ :: ⟨g2, [.int .i64 h0, .int .i64 u0], 57⟩ :: (M ++ [])) [Rd.of intC (.slice (some ⟨ga, 0, none⟩) (nb + 1) ca) (places h0 (nb + 1)), flR 0, Rd.of cpyC (.slice am mt.length cm) mt, Rd.of cpyC (.slice ad dt.length cd) dt, Rd.of intC (.slice ar rev.length cr) rev])
  case first =>
   have hgo : [flushS].flatMap stpC = [.int .i64 2, .int .i64 0, .string ⟨#[]⟩] := rfl
   have h40 : ls.length + 1 ≤ 1099511627776 := by omega
   by_cases hz : 0 < dt.length
   ·rw [if_pos hz] at hds
    have hzi : decide (0 < dt.length) = true := decide_eq_true hz
    go_wp2_with (first
     | (refine ZcL ?_) | (refine ZcS ?_; clear X; intro w X) | (refine ZcA ?_; clear X; intro g w X)
     | (refine at_mem rfl ?_; refine m_rd0 rfl rfl rfl X Zfl (by rfl) ?_; (simp only [Act.put, zA, zB, zC, zD, zE, zF, zG, Nat.reduceAdd]))
     | (refine at_build rfl ?_; go_loud (refine m_build1 rfl rfl Zev (by rfl) (by rfl) X ?_; intro g w2 X2; replace X := X2; clear X2; (simp only [Act.put, zA, zB, zC, zD, zE, zF, zG, Nat.reduceAdd])))
     | (at_builtin; go_loud ((refine m_app (M := M) (T := []) (n := 1) [_, _, _, _, _, _] rfl rfl [flushS] stpC_flat X hO2 Zev Zev hgo rfl h40 ?_); intro a2 c2 w2 M2 hO3 X2; replace X := X2; clear X2; (simp only [Act.put, zA, zB, zC, zD, zE, zF, zG, Nat.reduceAdd]))))
    go_meet
    exact ⟨M2, _, by rw [← hds.out]; exact hO3, X⟩
   ·rw [if_neg hz, List.append_nil] at hds
    have hzi : decide (0 < dt.length) = false := decide_eq_false hz
    go_wp2_with (first
     | (refine ZcL ?_) | (refine ZcS ?_; clear X; intro w X) | (refine ZcA ?_; clear X; intro g w X))
    go_meet
    exact ⟨M, _, by rw [← hds.out]; exact hO2, X⟩
  case rest =>
   clear X hO2
   obtain ⟨M, v, hO2, X⟩ := hcut
   have hCh := fun w L R (X : St [] w0 w L R) => chunkI ar rev.length cr 20 20 rfl (by decide) (by decide) X
   replace hCh := hid hCh
   go_wp2_with (first
    | (refine ZcL ?_) | (refine ZcS ?_; clear X; intro w X) | (refine ZcA ?_; clear X; intro g w X)
    | (go_at_call 36; go_loud ((with_reducible refine (hCh.out _ _ _ X).mono ?_); rintro e w1 ⟨gs, gn, rfl, X2⟩; replace X := X2; clear X2)))
   obtain ⟨gn, gs, g16, g15, rfl, rfl, rfl, rfl⟩ := X.gs4
   have X1 : St [] w0 w1 (⟨g12, [v], 39⟩ :: ⟨g10, [.slice (some ⟨ga, 0, none⟩) (nb + 1) ca], 50⟩ :: ⟨g15, [.func (.func 34) #[] #[.pointer (some ⟨g12, 0, none⟩), .pointer (some ⟨g10, 0, none⟩)]], 93⟩ :: ⟨g3, [.int .i64 seq, .slice am mt.length cm, .slice ad dt.length cd, .slice ar rev.length cr, .bool o0, .int .i64 x0, .bool o1, .int .i64 x1, .bool o2, .int .i64 x2], 55⟩ :: ⟨g16, [.func (.func 35) #[] #[.pointer (some ⟨g3, 0, none⟩), .pointer (some ⟨g15, 0, none⟩)]], 94⟩ :: ⟨g9, [.int .i64 rh, .int .i64 ru], 57⟩ :: ⟨g4, [.int .i64 0, .int .i64 0], 57⟩ :: ⟨g2, [.int .i64 h0, .int .i64 u0], 57⟩ :: (M ++ [⟨gn, [.int .i64 20], 3⟩, ⟨gs, [.slice ar rev.length cr], 50⟩])) [Rd.of intC (.slice (some ⟨ga, 0, none⟩) (nb + 1) ca) (places h0 (nb + 1)), flR 0, Rd.of cpyC (.slice am mt.length cm) mt, Rd.of cpyC (.slice ad dt.length cd) dt, Rd.of intC (.slice ar rev.length cr) rev] := by
    have Z := ((((((X.front [_, _, _, _, _, _, _, _]).front [_, _, _, _]).front [_, _, _, _, _, _]).front [_, _, _, _, _, _]).front [_, _, _, _, _]).front [_, _, _, _, _])
    exact Z.perm (by
     rw [List.append_nil]
     exact List.perm_append_comm (l₁ := [⟨gn, [.int .i64 20], 3⟩, ⟨gs, [.slice ar rev.length cr], 50⟩]) (l₂ := ⟨g12, [v], _⟩ :: _ :: _ :: _ :: _ :: _ :: _ :: _ :: M))
   replace X := X1
   clear X1
   obtain ⟨xs, hit, hxl, hxs⟩ : ∃ xs : List Value, Iter Tryd.prog 54 #[.pointer (some ⟨gs, 0, none⟩), .pointer (some ⟨gn, 0, none⟩)] xs [gs, gn] w1 ∧ xs.length = (revL seq rev).length ∧ ∀ k (hk : k < xs.length), ∃ b off, ar = some ⟨b, off, none⟩ ∧ k = 0 ∧ rev ≠ [] ∧ xs[k] = .slice (some ⟨b, off, none⟩) rev.length rev.length := by
    have c1 := X.cell (g := gs) (cs := [.slice ar rev.length cr]) (t := 50) (by simp) 0
    have c2 := X.cell (g := gn) (cs := [.int .i64 20]) (t := 3) (by simp) 0
    by_cases hz : rev = []
    ·subst hz
     exact ⟨[], chunkI_nil ar cr gs gn 20 w1 c1 c2, rfl, fun k hk => absurd hk (Nat.not_lt_zero _)⟩
    ·have hlen : 0 < rev.length := List.length_pos_iff.2 hz
     obtain ⟨b, off, rfl, _⟩ := RL.at1 (fun x => .int .i64 x) (fun _ => rfl) hr.out hlen
     have h0 : chunkL b off 1 20 rev.length = [.slice (some ⟨b, off, none⟩) rev.length rev.length] := by
      have : chunkN 20 rev.length = 1 := by unfold chunkN; omega
      unfold chunkL
      rw [this]
      simp [chunkV, List.range_succ]
      omega
     refine ⟨chunkL b off 1 20 rev.length, chunkI_iter b off cr rev.length 20 gs gn (by decide) (by decide) (by omega) hcr.out w1 c1 c2, ?_, fun k hk => ?_⟩
     ·rw [h0, revL_len, if_neg hz]; rfl
     ·rw [h0] at hk
      obtain rfl : k = 0 := by simpa using hk
      exact ⟨b, off, rfl, rfl, hz, by simp [h0]⟩
   have hsz1 := X.mv.size
   have hgs := X.lts ⟨gs, [.slice ar rev.length cr], 50⟩ (by simp)
   have hgn := X.lts ⟨gn, [.int .i64 20], 3⟩ (by simp)
   have hpk : ∀ j, j < nb + 1 → ((places h0 (nb + 1)).flatMap intC)[j]? = some (.int .i64 ((h0 + j) % 24)) := fun j hj => by
    have e : (places h0 (nb + 1)).flatMap intC = (places h0 (nb + 1)).map (fun x => .int .i64 x) := by rw [List.flatMap_def]; induction places h0 (nb + 1) with | nil => rfl | cons x l ih => simp [intC] at ih ⊢; exact ih
    rw [e, List.getElem?_map, places_get h0 _ j hj]; rfl
   obtain ⟨I, hI⟩ : ∃ I : Nat → World → Prop, I = fun k W => ∃ (M : List Ent) (v at_ : Value), k ≤ (revL seq rev).length ∧ OwnM stpC 84 3 v (DS ++ LS k) M ∧ (k < nb + 1 → at_ = .slice (some ⟨ga, k, none⟩) (nb + 1 - k) (ca - k)) ∧ St [] w0 W (⟨g12, [v], 39⟩ :: ⟨g10, [at_], 50⟩ :: ⟨g15, [.func (.func 34) #[] #[.pointer (some ⟨g12, 0, none⟩), .pointer (some ⟨g10, 0, none⟩)]], 93⟩ :: ⟨g3, [.int .i64 seq, .slice am mt.length cm, .slice ad dt.length cd, .slice ar rev.length cr, .bool o0, .int .i64 x0, .bool o1, .int .i64 x1, .bool o2, .int .i64 x2], 55⟩ :: ⟨g16, [.func (.func 35) #[] #[.pointer (some ⟨g3, 0, none⟩), .pointer (some ⟨g15, 0, none⟩)]], 94⟩ :: ⟨g9, [.int .i64 rh, .int .i64 ru], 57⟩ :: ⟨g4, [.int .i64 0, .int .i64 0], 57⟩ :: ⟨g2, [.int .i64 h0, .int .i64 u0], 57⟩ :: (M ++ [⟨gn, [.int .i64 20], 3⟩, ⟨gs, [.slice ar rev.length cr], 50⟩])) [Rd.of intC (.slice (some ⟨ga, 0, none⟩) (nb + 1) ca) (places h0 (nb + 1)), flR 0, Rd.of cpyC (.slice am mt.length cm) mt, Rd.of cpyC (.slice ad dt.length cd) dt, Rd.of intC (.slice ar rev.length cr) rev] := ⟨_, rfl⟩
   replace hI := hid hI
   refine wp_range (gf := 54) (lb := #[.pointer (some ⟨gs, 0, none⟩), .pointer (some ⟨gn, 0, none⟩)]) (xs := xs) (B := [gs, gn]) rfl (enters_of Tryd.func54 (by kernel_rfl) rfl) (by simpa using ⟨hgs, hgn⟩) hit
    I (by rw [hI.out]; exact fun k A A' ⟨M, v, a1, h0, h1, h2, X⟩ hb => ⟨M, v, a1, h0, h1, h2, X.call hb⟩)
    (by rw [hI.out]; exact fun k A l o o' ⟨M, v, a1, h0, h1, h2, X⟩ hl ho hc => ⟨M, v, a1, h0, h1, h2, X.putO o' (Nat.le_trans hsz1 hl) ho hc (by simp)⟩)
    (by rw [hI.out]; exact ⟨M, v, _, Nat.zero_le _, by rw [hL0.out, List.append_nil]; exact hO2, fun _ => rfl, X⟩) ?round ?done
   case round =>
    intro k hk l W
    obtain ⟨b, off, har, rfl, hrv, hxk⟩ := hxs k hk
    have hxk2 : xs[0] = .slice ar rev.length rev.length := by rw [hxk, har]
    rw [hxk2]
    have hLr1 := hid (hLr.out hrv)
    have hrl1 : (revL seq rev).length = 1 := by rw [revL_len, if_neg hrv]
    clear hxs hxk hxk2 har hit hxl hLr hds0 hLp hmt
    (try (simp only [Act.put, zA, zB, zC, zD, zE, zF, zG, Nat.reduceAdd]))
    refine region_in (by rfl) (fun _ _ h => h) ?_
    go_wp2
    refine ⟨rfl, fun W2 hsz hI2 => ?_⟩
    have hI3 := hI2
    rw [hI.out] at hI3
    obtain ⟨M2, v2, at2, hk0, hO3, hat, X2⟩ := hI3
    obtain rfl := hat (by omega)
    rw [hL0.out, List.append_nil] at hO3
    have X3 := X2.shortR (f := intC) (a := ar) (cap := cr) (l := rev) Zfl
    have Y := X3.restart
    have hmk : ∀ w' L', St (List.map Ent.g (⟨g12, [v2], 39⟩ :: ⟨g10, [.slice (some ⟨ga, 0, none⟩) (nb + 1 - 0) (ca - 0)], 50⟩ :: ⟨g15, [.func (.func 34) #[] #[.pointer (some ⟨g12, 0, none⟩), .pointer (some ⟨g10, 0, none⟩)]], 93⟩ :: ⟨g3, [.int .i64 seq, .slice am mt.length cm, .slice ad dt.length cd, .slice ar rev.length cr, .bool o0, .int .i64 x0, .bool o1, .int .i64 x1, .bool o2, .int .i64 x2], 55⟩ :: ⟨g16, [.func (.func 35) #[] #[.pointer (some ⟨g3, 0, none⟩), .pointer (some ⟨g15, 0, none⟩)]], 94⟩ :: ⟨g9, [.int .i64 rh, .int .i64 ru], 57⟩ :: ⟨g4, [.int .i64 0, .int .i64 0], 57⟩ :: ⟨g2, [.int .i64 h0, .int .i64 u0], 57⟩ :: (M2 ++ [⟨gn, [.int .i64 20], 3⟩, ⟨gs, [.slice ar rev.length cr], 50⟩]))) W2 w' L' (Rd.of intC (.slice ar rev.length rev.length) rev :: [Rd.of intC (.slice (some ⟨ga, 0, none⟩) (nb + 1) ca) (places h0 (nb + 1)), flR 0, Rd.of cpyC (.slice am mt.length cm) mt, Rd.of cpyC (.slice ad dt.length cd) dt, Rd.of intC (.slice ar rev.length cr) rev]) → RMark w' (.agg #[.int .i64 3, .int .i64 seq, .int .i64 0, .slice none 0 0, .slice ar rev.length rev.length]) (listM seq rev) :=
     fun w' L' Z => ⟨_, _, rfl, RL.nil _ _, Z.r0, Nat.zero_le _, by dsimp only [listM]; omega⟩
    have hpj := hpk 0 (by omega)
    have hb24 : 0 ≤ (h0 + ((0 : Nat) : Int)) % 24 ∧ (h0 + ((0 : Nat) : Int)) % 24 < 24 := ⟨Int.emod_nonneg _ (by decide), Int.emod_lt_of_pos _ (by decide)⟩
    have hll : (DS ++ LS 0).length ≤ 1000 := by rw [List.length_append, hLl.out 0 (by omega)]; have := hDl.out; omega
    rw [hL0.out, List.append_nil] at hll
    have hMk := fun w (X : St (List.map Ent.g (⟨g12, [v2], 39⟩ :: ⟨g10, [.slice (some ⟨ga, 0, none⟩) (nb + 1 - 0) (ca - 0)], 50⟩ :: ⟨g15, [.func (.func 34) #[] #[.pointer (some ⟨g12, 0, none⟩), .pointer (some ⟨g10, 0, none⟩)]], 93⟩ :: ⟨g3, [.int .i64 seq, .slice am mt.length cm, .slice ad dt.length cd, .slice ar rev.length cr, .bool o0, .int .i64 x0, .bool o1, .int .i64 x1, .bool o2, .int .i64 x2], 55⟩ :: ⟨g16, [.func (.func 35) #[] #[.pointer (some ⟨g3, 0, none⟩), .pointer (some ⟨g15, 0, none⟩)]], 94⟩ :: ⟨g9, [.int .i64 rh, .int .i64 ru], 57⟩ :: ⟨g4, [.int .i64 0, .int .i64 0], 57⟩ :: ⟨g2, [.int .i64 h0, .int .i64 u0], 57⟩ :: (M2 ++ [⟨gn, [.int .i64 20], 3⟩, ⟨gs, [.slice ar rev.length cr], 50⟩]))) W2 w (⟨g12, [v2], 39⟩ :: ⟨g10, [.slice (some ⟨ga, 0, none⟩) (nb + 1 - 0) (ca - 0)], 50⟩ :: ⟨g15, [.func (.func 34) #[] #[.pointer (some ⟨g12, 0, none⟩), .pointer (some ⟨g10, 0, none⟩)]], 93⟩ :: ⟨g3, [.int .i64 seq, .slice am mt.length cm, .slice ad dt.length cd, .slice ar rev.length cr, .bool o0, .int .i64 x0, .bool o1, .int .i64 x1, .bool o2, .int .i64 x2], 55⟩ :: ⟨g16, [.func (.func 35) #[] #[.pointer (some ⟨g3, 0, none⟩), .pointer (some ⟨g15, 0, none⟩)]], 94⟩ :: ⟨g9, [.int .i64 rh, .int .i64 ru], 57⟩ :: ⟨g4, [.int .i64 0, .int .i64 0], 57⟩ :: ⟨g2, [.int .i64 h0, .int .i64 u0], 57⟩ :: (M2 ++ [⟨gn, [.int .i64 20], 3⟩, ⟨gs, [.slice ar rev.length cr], 50⟩])) (Rd.of intC (.slice ar rev.length rev.length) rev :: [Rd.of intC (.slice (some ⟨ga, 0, none⟩) (nb + 1) ca) (places h0 (nb + 1)), flR 0, Rd.of cpyC (.slice am mt.length cm) mt, Rd.of cpyC (.slice ad dt.length cd) dt, Rd.of intC (.slice ar rev.length cr) rev])) => seal_mark 3 0 0 seq (.slice none 0 0) (.slice ar rev.length rev.length) (listM seq rev) _ hb24 hmk (A := [_, _, _, _]) (M := M2) (T := [⟨gn, [.int .i64 20], 3⟩, ⟨gs, [.slice ar rev.length cr], 50⟩]) X hO3 (n := (places h0 (nb + 1)).length) (n' := nb + 1) (cap := ca) (cs := (places h0 (nb + 1)).flatMap intC) (.tail _ (.head _)) hpj (by omega) (by omega) hll
    replace hMk := hid hMk; replace hmk := hid hmk; replace hI := hid hI; replace hpj := hid hpj
    clear X X2
    have X := Y
    refine wpIn_block (region_in (by rfl) (fun _ _ h => by cases h.1) ?_)
    generalize hS : List.map Ent.g (⟨g12, [v2], 39⟩ :: ⟨g10, [.slice (some ⟨ga, 0, none⟩) (nb + 1 - 0) (ca - 0)], 50⟩ :: ⟨g15, [.func (.func 34) #[] #[.pointer (some ⟨g12, 0, none⟩), .pointer (some ⟨g10, 0, none⟩)]], 93⟩ :: ⟨g3, [.int .i64 seq, .slice am mt.length cm, .slice ad dt.length cd, .slice ar rev.length cr, .bool o0, .int .i64 x0, .bool o1, .int .i64 x1, .bool o2, .int .i64 x2], 55⟩ :: ⟨g16, [.func (.func 35) #[] #[.pointer (some ⟨g3, 0, none⟩), .pointer (some ⟨g15, 0, none⟩)]], 94⟩ :: ⟨g9, [.int .i64 rh, .int .i64 ru], 57⟩ :: ⟨g4, [.int .i64 0, .int .i64 0], 57⟩ :: ⟨g2, [.int .i64 h0, .int .i64 u0], 57⟩ :: (M2 ++ [⟨gn, [.int .i64 20], 3⟩, ⟨gs, [.slice ar rev.length cr], 50⟩])) = S at X hMk
    replace hS := hid hS
    go_wp2_with (first
     | (refine ZcL ?_) | (refine ZcS ?_; clear X; intro w X) | (refine ZcA ?_; clear X; intro g w X)
     | (go_at_call 35; go_loud ((with_reducible refine (hMk.out _ X).mono ?_); rintro e w4 ⟨u, v4, at4, M4, rfl, hO4, hat4, X4⟩; clear X; have X := X4; clear X4)))
    have hS2 := hS.out
    subst hS2
    have k1 := X3.blk ⟨gs, [.slice ar rev.length cr], 50⟩ (by simp)
    have k2 := X3.blk ⟨gn, [.int .i64 20], 3⟩ (by simp)
    have k3 := X.blk ⟨gs, [.slice ar rev.length cr], 50⟩ (by simp)
    have k4 := X.blk ⟨gn, [.int .i64 20], 3⟩ (by simp)
    refine ⟨trivial, X3.keepsFrom X _, fun b hb => ?_, ?_⟩
    ·rcases List.mem_cons.1 hb with rfl | hb
     ·exact k3.trans k1.symm
     ·obtain rfl := List.mem_singleton.1 hb
      exact k4.trans k2.symm
    ·rw [hI.out]
     exact ⟨M4, v4, at4, by rw [hrl1]; exact Nat.le_refl _, by rw [hLr1.out, hL0.out, List.nil_append]; exact hO4, fun h => hat4 (by omega), (X3.back X).less (List.Sublist.refl _) fun r hr => .tail _ hr⟩
   case done =>
    intro D1 W1 hD1 hI2 hDf1
    have hI3 := hI2
    rw [hI.out, hxl, ← hJ0.out] at hI3
    clear hI2 hI hit hxl hxs hO2 X hds0 hLr hgs hgn
    clear I
    obtain ⟨M1, v1, at1, _, hO3, hat1, X1⟩ := hI3
    obtain rfl := hat1 (by have := hB0.out; omega)
    have X2 := X1.less (L2 := ⟨g12, [v1], 39⟩ :: ⟨g10, [.slice (some ⟨ga, pj 0, none⟩) (nb + 1 - pj 0) (ca - pj 0)], 50⟩ :: ⟨g15, [.func (.func 34) #[] #[.pointer (some ⟨g12, 0, none⟩), .pointer (some ⟨g10, 0, none⟩)]], 93⟩ :: ⟨g3, [.int .i64 seq, .slice am mt.length cm, .slice ad dt.length cd, .slice ar rev.length cr, .bool o0, .int .i64 x0, .bool o1, .int .i64 x1, .bool o2, .int .i64 x2], 55⟩ :: ⟨g16, [.func (.func 35) #[] #[.pointer (some ⟨g3, 0, none⟩), .pointer (some ⟨g15, 0, none⟩)]], 94⟩ :: ⟨g9, [.int .i64 rh, .int .i64 ru], 57⟩ :: ⟨g4, [.int .i64 0, .int .i64 0], 57⟩ :: ⟨g2, [.int .i64 h0, .int .i64 u0], 57⟩ :: (M1 ++ [])) (R2 := [Rd.of intC (.slice (some ⟨ga, 0, none⟩) (nb + 1) ca) (places h0 (nb + 1)), flR 0, Rd.of cpyC (.slice am mt.length cm) mt, Rd.of cpyC (.slice ad dt.length cd) dt, Rd.of intC (.slice ar rev.length cr) rev]) (by
     rw [List.append_nil]
     repeat (first | exact List.sublist_append_left _ _ | refine List.Sublist.cons_cons _ ?_)) (fun r hr => hr)
    have X := X2.restart
    clear X1 hat1
    generalize hS1 : List.map Ent.g (⟨g12, [v1], 39⟩ :: ⟨g10, [.slice (some ⟨ga, pj 0, none⟩) (nb + 1 - pj 0) (ca - pj 0)], 50⟩ :: ⟨g15, [.func (.func 34) #[] #[.pointer (some ⟨g12, 0, none⟩), .pointer (some ⟨g10, 0, none⟩)]], 93⟩ :: ⟨g3, [.int .i64 seq, .slice am mt.length cm, .slice ad dt.length cd, .slice ar rev.length cr, .bool o0, .int .i64 x0, .bool o1, .int .i64 x1, .bool o2, .int .i64 x2], 55⟩ :: ⟨g16, [.func (.func 35) #[] #[.pointer (some ⟨g3, 0, none⟩), .pointer (some ⟨g15, 0, none⟩)]], 94⟩ :: ⟨g9, [.int .i64 rh, .int .i64 ru], 57⟩ :: ⟨g4, [.int .i64 0, .int .i64 0], 57⟩ :: ⟨g2, [.int .i64 h0, .int .i64 u0], 57⟩ :: (M1 ++ [])) = S1 at X
    replace hS1 := hid hS1
    have hCh := fun w L R (X : St S1 W1 w L R) => chunkC am mt.length cm 10 10 rfl (by decide) (by decide) X
    replace hCh := hid hCh; replace hDf1 := hid hDf1
    dsimp only
    go_wp2_with (first
     | (refine ZcL ?_) | (refine ZcS ?_; clear X; intro w X) | (refine ZcA ?_; clear X; intro g w X)
     | (go_at_call 37; go_loud ((with_reducible refine (hCh.out _ _ _ X).mono ?_); rintro e w2 ⟨gs, gn, rfl, X3⟩; clear X; have X := X3; clear X3)))
    obtain ⟨gn, gs, rfl, rfl⟩ := X.gs2
    have X4 : St S1 W1 w2 (⟨g12, [v1], 39⟩ :: ⟨g10, [.slice (some ⟨ga, pj 0, none⟩) (nb + 1 - pj 0) (ca - pj 0)], 50⟩ :: ⟨g15, [.func (.func 34) #[] #[.pointer (some ⟨g12, 0, none⟩), .pointer (some ⟨g10, 0, none⟩)]], 93⟩ :: ⟨g3, [.int .i64 seq, .slice am mt.length cm, .slice ad dt.length cd, .slice ar rev.length cr, .bool o0, .int .i64 x0, .bool o1, .int .i64 x1, .bool o2, .int .i64 x2], 55⟩ :: ⟨g16, [.func (.func 35) #[] #[.pointer (some ⟨g3, 0, none⟩), .pointer (some ⟨g15, 0, none⟩)]], 94⟩ :: ⟨g9, [.int .i64 rh, .int .i64 ru], 57⟩ :: ⟨g4, [.int .i64 0, .int .i64 0], 57⟩ :: ⟨g2, [.int .i64 h0, .int .i64 u0], 57⟩ :: (M1 ++ [⟨gn, [.int .i64 10], 3⟩, ⟨gs, [.slice am mt.length cm], 37⟩])) [Rd.of intC (.slice (some ⟨ga, 0, none⟩) (nb + 1) ca) (places h0 (nb + 1)), flR 0, Rd.of cpyC (.slice am mt.length cm) mt, Rd.of cpyC (.slice ad dt.length cd) dt, Rd.of intC (.slice ar rev.length cr) rev] :=
     X.perm (by
      rw [List.append_nil]
      exact List.perm_append_comm (l₁ := [⟨gn, [.int .i64 10], 3⟩, ⟨gs, [.slice am mt.length cm], 37⟩]) (l₂ := ⟨g12, [v1], _⟩ :: _ :: _ :: _ :: _ :: _ :: _ :: _ :: M1))
    clear X
    have X := X4
    clear X4
    obtain ⟨xs, hit, hxl, hxs⟩ : ∃ xs : List Value, Iter Tryd.prog 55 #[.pointer (some ⟨gs, 0, none⟩), .pointer (some ⟨gn, 0, none⟩)] xs [gs, gn] w2 ∧ xs.length = chunkN 10 mt.length ∧ ∀ k (hk : k < xs.length), k * 10 < mt.length ∧ ∃ b off, am = some ⟨b, off, none⟩ ∧ xs[k] = .slice (some ⟨b, off + k * 10 * 2, none⟩) (pm k).length (pm k).length := by
     have c1 := X.cell (g := gs) (cs := [.slice am mt.length cm]) (t := 37) (by simp) 0
     have c2 := X.cell (g := gn) (cs := [.int .i64 10]) (t := 3) (by simp) 0
     by_cases hz : mt.length = 0
     ·rw [hz] at c1
      have hz2 : chunkN 10 mt.length = 0 := by unfold chunkN; omega
      exact ⟨[], chunkC_nil am cm gs gn 10 w2 c1 c2, by rw [hz2]; rfl, fun k hk => absurd hk (Nat.not_lt_zero _)⟩
     ·obtain ⟨b, off, rfl, _⟩ := RL.at2 (f := cpyC) (fun x : Cpy => .int .i64 x.block) (fun x => .string x.text) (fun _ => rfl) hm.out (k := 0) (by omega)
      refine ⟨chunkL b off 2 10 mt.length, chunkC_iter b off cm mt.length 10 gs gn (by decide) (by decide) (by omega) hcm.out w2 c1 c2, by simp [chunkL], fun k hk => ?_⟩
      have hk2 : k < chunkN 10 mt.length := by simpa [chunkL] using hk
      exact ⟨(chunkN_lt (by decide)).1 hk2, b, off, rfl, by simp only [chunkL, chunkV, List.getElem_map, List.getElem_range, hMl.out k]⟩
    have hsz2 := X.mv.size
    have hgs := X.lts ⟨gs, [.slice am mt.length cm], 37⟩ (by simp)
    have hgn := X.lts ⟨gn, [.int .i64 10], 3⟩ (by simp)
    obtain ⟨I, hI⟩ : ∃ I : Nat → World → Prop, I = fun k W => ∃ (M : List Ent) (v at_ : Value), OwnM stpC 84 3 v (DS ++ LS (pj k)) M ∧ (pj k < nb + 1 → at_ = .slice (some ⟨ga, pj k, none⟩) (nb + 1 - pj k) (ca - pj k)) ∧ St S1 W1 W (⟨g12, [v], 39⟩ :: ⟨g10, [at_], 50⟩ :: ⟨g15, [.func (.func 34) #[] #[.pointer (some ⟨g12, 0, none⟩), .pointer (some ⟨g10, 0, none⟩)]], 93⟩ :: ⟨g3, [.int .i64 seq, .slice am mt.length cm, .slice ad dt.length cd, .slice ar rev.length cr, .bool o0, .int .i64 x0, .bool o1, .int .i64 x1, .bool o2, .int .i64 x2], 55⟩ :: ⟨g16, [.func (.func 35) #[] #[.pointer (some ⟨g3, 0, none⟩), .pointer (some ⟨g15, 0, none⟩)]], 94⟩ :: ⟨g9, [.int .i64 rh, .int .i64 ru], 57⟩ :: ⟨g4, [.int .i64 0, .int .i64 0], 57⟩ :: ⟨g2, [.int .i64 h0, .int .i64 u0], 57⟩ :: (M ++ [⟨gn, [.int .i64 10], 3⟩, ⟨gs, [.slice am mt.length cm], 37⟩])) [Rd.of intC (.slice (some ⟨ga, 0, none⟩) (nb + 1) ca) (places h0 (nb + 1)), flR 0, Rd.of cpyC (.slice am mt.length cm) mt, Rd.of cpyC (.slice ad dt.length cd) dt, Rd.of intC (.slice ar rev.length cr) rev] := ⟨_, rfl⟩
    replace hI := hid hI
    have hS1n : ∀ l, w2.heap.size ≤ l → l ∉ S1 := fun l hl hm => by
     rw [← hS1.out] at hm
     obtain ⟨e, he, rfl⟩ := List.mem_map.1 hm
     have := X2.lts e he
     omega
    refine wp_range (gf := 55) (lb := #[.pointer (some ⟨gs, 0, none⟩), .pointer (some ⟨gn, 0, none⟩)]) (xs := xs) (B := [gs, gn]) rfl (enters_of Tryd.func55 (by kernel_rfl) rfl) (by simpa using ⟨hgs, hgn⟩) hit
     I (by rw [hI.out]; exact fun k A A' ⟨M, v, a1, h1, h2, X⟩ hb => ⟨M, v, a1, h1, h2, X.call hb⟩)
     (by rw [hI.out]; exact fun k A l o o' ⟨M, v, a1, h1, h2, X⟩ hl ho hc => ⟨M, v, a1, h1, h2, X.putO o' (Nat.le_trans hsz2 hl) ho hc (hS1n l hl)⟩)
     (by rw [hI.out]; exact ⟨M1, v1, _, hO3, fun _ => rfl, X⟩) ?round ?done
    case round =>
     intro k hk l W
     obtain ⟨hkm, b, off, har, hxk⟩ := hxs k hk
     have hbk := hBk.out k hkm
     have hjn := hJn.out k hkm
     have hlp := hLp.out k hkm
     have hpd := hMd.out k
     have hpl2 := hMl.out k
     have hxk2 : xs[k] = .slice (some ⟨b, off + k * 10 * 2, none⟩) (pm k).length (pm k).length := hxk
     rw [hxk2]
     clear hxs hxk hxk2 hit hxl hLp hmt hJn hMd hMl hBk
     replace hpl2 := hid hpl2; replace hpd := hid hpd; replace hjn := hid hjn; replace hlp := hid hlp
     (try (simp only [Act.put, zA, zB, zC, zD, zE, zF, zG, Nat.reduceAdd]))
     refine region_in (by rfl) (fun _ _ h => h) ?_
     go_wp2
     refine ⟨rfl, fun W2 hsz hI2 => ?_⟩
     have hI3 := hI2
     rw [hI.out] at hI3
     obtain ⟨M2, v2, at2, hO4, hat, X6⟩ := hI3
     obtain rfl := hat (by omega)
     have X7 : St S1 W1 W2 (⟨g12, [v2], 39⟩ :: ⟨g10, [.slice (some ⟨ga, pj k, none⟩) (nb + 1 - pj k) (ca - pj k)], 50⟩ :: ⟨g15, [.func (.func 34) #[] #[.pointer (some ⟨g12, 0, none⟩), .pointer (some ⟨g10, 0, none⟩)]], 93⟩ :: ⟨g3, [.int .i64 seq, .slice am mt.length cm, .slice ad dt.length cd, .slice ar rev.length cr, .bool o0, .int .i64 x0, .bool o1, .int .i64 x1, .bool o2, .int .i64 x2], 55⟩ :: ⟨g16, [.func (.func 35) #[] #[.pointer (some ⟨g3, 0, none⟩), .pointer (some ⟨g15, 0, none⟩)]], 94⟩ :: ⟨g9, [.int .i64 rh, .int .i64 ru], 57⟩ :: ⟨g4, [.int .i64 0, .int .i64 0], 57⟩ :: ⟨g2, [.int .i64 h0, .int .i64 u0], 57⟩ :: (M2 ++ [⟨gn, [.int .i64 10], 3⟩, ⟨gs, [.slice am mt.length cm], 37⟩])) (Rd.of cpyC (.slice (some ⟨b, off + k * 10 * 2, none⟩) (pm k).length (pm k).length) (pm k) :: [Rd.of intC (.slice (some ⟨ga, 0, none⟩) (nb + 1) ca) (places h0 (nb + 1)), flR 0, Rd.of cpyC (.slice am mt.length cm) mt, Rd.of cpyC (.slice ad dt.length cd) dt, Rd.of intC (.slice ar rev.length cr) rev]) := by
      have h1 : (mt.drop (k * 10)).take (pm k).length = pm k := by
       rw [hpl2.out, hpd.out]
       apply List.ext_getElem
       ·simp
       ·intro i _ _; simp
      have h2 := X6.partR (f := cpyC) (c := 2) (fun _ => rfl) (b := b) (off := off) (n := mt.length) (cap := cm) (l := mt) (by subst har; exact .tail _ (.tail _ (.head _))) (k * 10) (pm k).length (by have := hpl2.out; omega)
      rw [h1] at h2
      exact h2
     have hpt : ∀ i (hi : i < (pm k).length), (pm k)[i].text.size = 32 := fun i hi => by
      have hmem : (pm k)[i] ∈ mt := by
       have := List.getElem_mem hi
       generalize (pm k)[i] = c at *
       rw [hpd.out] at this
       exact List.mem_of_mem_drop (List.mem_of_mem_take this)
      obtain ⟨j, hj, he⟩ := List.mem_iff_getElem.1 hmem
      rw [← he]; exact (copies_get hg.out.mt hj).2.1
     have Y := X7.restart
     generalize hS5 : List.map Ent.g (⟨g12, [v2], 39⟩ :: ⟨g10, [.slice (some ⟨ga, pj k, none⟩) (nb + 1 - pj k) (ca - pj k)], 50⟩ :: ⟨g15, [.func (.func 34) #[] #[.pointer (some ⟨g12, 0, none⟩), .pointer (some ⟨g10, 0, none⟩)]], 93⟩ :: ⟨g3, [.int .i64 seq, .slice am mt.length cm, .slice ad dt.length cd, .slice ar rev.length cr, .bool o0, .int .i64 x0, .bool o1, .int .i64 x1, .bool o2, .int .i64 x2], 55⟩ :: ⟨g16, [.func (.func 35) #[] #[.pointer (some ⟨g3, 0, none⟩), .pointer (some ⟨g15, 0, none⟩)]], 94⟩ :: ⟨g9, [.int .i64 rh, .int .i64 ru], 57⟩ :: ⟨g4, [.int .i64 0, .int .i64 0], 57⟩ :: ⟨g2, [.int .i64 h0, .int .i64 u0], 57⟩ :: (M2 ++ [⟨gn, [.int .i64 10], 3⟩, ⟨gs, [.slice am mt.length cm], 37⟩])) = S5 at Y
     clear X X6 hI2 hpd
     have X := Y
     have hp0 : 0 < (pm k).length := by have := hpl2.out; omega
     have hp10 : (pm k).length ≤ 10 := by have := hpl2.out; omega
     generalize hjj : pj k = j at *
     generalize pm k = p at *
     generalize hoff : off + k * 10 * 2 = off2 at *
     replace hI := hid hI; replace hpt := hid hpt; replace hS5 := hid hS5; replace hjj := hid hjj; replace hoff := hid hoff
     have hmp := fun i (hi : i < p.length) => map_take (f := tagC') hi
     have hms := fun i (hi : i < p.length) => map_take (f := fun c : Cpy => escS c.text) hi
     have hfp : p.take p.length = p := List.take_length
     have hlp0 := hlp.out 0 _ (partL_head (q := seq) (p := p) (List.length_pos_iff.1 hp0))
     have hlpi := fun i (hi : i < p.length) => hlp.out (1 + i) _ (partL_copy (q := seq) hi)
     have hRp := X.r0
     have hjn2 : j + (1 + p.length) ≤ nb := hbk
     replace hmp := hid hmp; replace hms := hid hms; replace hfp := hid hfp; replace hlp0 := hid hlp0; replace hlpi := hid hlpi; replace hRp := hid hRp
     have hEs := fun x w hx => stamp_Escape x w hx
     replace hEs := hid hEs
     gi_wp2_with (first
      | (refine list_in (F := FW.inRound l) rfl (fun _ => trivial) (fun m => fenced_wide _ m) (fun _ _ h => by cases h.1) _ _ _ (by rfl) ?_; go_wp2_with (first | (refine ZcL ?_) | (refine ZcS ?_; clear X; intro w X) | (refine ZcA ?_; clear X; intro g w X))))
     obtain ⟨gm, rfl⟩ := X.gs1
     obtain ⟨CT, hCT⟩ : ∃ CT, CT = (⟨g12, [v2], 39⟩ :: ⟨g10, [.slice (some ⟨ga, j, none⟩) (nb + 1 - j) (ca - j)], 50⟩ :: ⟨g15, [.func (.func 34) #[] #[.pointer (some ⟨g12, 0, none⟩), .pointer (some ⟨g10, 0, none⟩)]], 93⟩ :: ⟨g3, [.int .i64 seq, .slice am mt.length cm, .slice ad dt.length cd, .slice ar rev.length cr, .bool o0, .int .i64 x0, .bool o1, .int .i64 x1, .bool o2, .int .i64 x2], 55⟩ :: ⟨g16, [.func (.func 35) #[] #[.pointer (some ⟨g3, 0, none⟩), .pointer (some ⟨g15, 0, none⟩)]], 94⟩ :: ⟨g9, [.int .i64 rh, .int .i64 ru], 57⟩ :: ⟨g4, [.int .i64 0, .int .i64 0], 57⟩ :: ⟨g2, [.int .i64 h0, .int .i64 u0], 57⟩ :: (M2 ++ [⟨gn, [.int .i64 10], 3⟩, ⟨gs, [.slice am mt.length cm], 37⟩])) := ⟨_, rfl⟩
     rw [← hCT] at X
     replace hCT := hid hCT
     gi_loopw [20, 102] (fun tx i wr => ∃ (q : Nat) (MT : List Ent) (vt : Value) (MS : List Ent), q ≤ p.length ∧ i = .int .i64 q ∧ OwnM tagC 103 2 vt ((p.take q).map tagC') MT ∧ OwnM strC 9 1 tx ((p.take q).map (fun c => escS c.text)) MS ∧ St S5 W2 wr (⟨gm, [.int .i64 2, .int .i64 0, .int .i64 0, vt, .slice none 0 0], 69⟩ :: (MT ++ (MS ++ CT))) (Rd.of cpyC (.slice (some ⟨b, off2, none⟩) p.length p.length) p :: [Rd.of intC (.slice (some ⟨ga, 0, none⟩) (nb + 1) ca) (places h0 (nb + 1)), flR 0, Rd.of cpyC (.slice am mt.length cm) mt, Rd.of cpyC (.slice ad dt.length cd) dt, Rd.of intC (.slice ar rev.length cr) rev])) (fun _ i _ => p.length - (intOf i).toNat)
     case atStart => exact ⟨0, [], _, [], Nat.zero_le _, rfl, OwnM.nil _ _ _, OwnM.nil _ _ _, X⟩
     case round =>
      clear X
      obtain ⟨q, MT, vt, MS, hq, rfl, hOT, hOS, X⟩ := hrel
      by_cases hlt : q < p.length
      ·obtain ⟨bz, oz, hbo, c0, c1⟩ := RL.at2 (fun x : Cpy => .int .i64 x.block) (fun x => .string x.text) (fun _ => rfl) X.r0 hlt
       cases hbo
       have hm1 : (p.take (q + 1)).map tagC' = (p.take q).map tagC' ++ [(⟨p[q].block, isEsc p[q].text⟩ : Tag)] := hmp.out q hlt
       have hm2 := hms.out q hlt
       have hx32 := hpt.out q hlt
       have hlT : ((p.take q).map tagC').length ≤ 10 := by rw [List.length_map, List.length_take]; omega
       have hlS : ((p.take q).map (fun c : Cpy => escS c.text)).length ≤ 10 := by rw [List.length_map, List.length_take]; omega
       (try dsimp only at c0 c1 hm1 hm2 hx32)
       generalize p[q] = x at *
       obtain ⟨xb, xt⟩ := x
       (try dsimp only at *)
       generalize (p.take q).map tagC' = lT at *
       generalize (p.take q).map (fun c : Cpy => escS c.text) = lS at *
       obtain ⟨aT, cT, rfl⟩ := hOT.form
       obtain ⟨aS, cS, rfl⟩ := hOS.form
       have hEx := fun w => hEs.out xt w (by omega)
       generalize escS xt = xs at *
       generalize isEsc xt = xe at *
       have hgT : [(⟨xb, xe⟩ : Tag)].flatMap tagC = [.int .i64 xb, .bool xe] := rfl
       have hgS : [xs].flatMap strC = [.string xs] := rfl
       have h40T : lT.length + 1 ≤ 1099511627776 := by omega
       have h40S : lS.length + 1 ≤ 1099511627776 := by omega
       replace hm1 := hid hm1; replace hm2 := hid hm2; replace hEx := hid hEx; replace hx32 := hid hx32
       gi_wp2_with (first
        | (refine list_in (F := FW.inRound l) rfl (fun _ => trivial) (fun m => fenced_wide _ m) (fun _ _ h => by cases h.1) _ _ _ (by rfl) ?_; go_wp2_with (first
         | (refine ZeL ?_) | (refine ZeS ?_; clear X; intro w X) | (refine ZeA ?_; clear X; intro g w X)
         | (refine at_build rfl ?_; go_loud (refine m_build1 rfl rfl Zev (by rfl) (by rfl) X ?_; intro g w2 X2; replace X := X2; clear X2; (simp only [Act.put, zA, zB, zC, zD, zE, zF, zG, Nat.reduceAdd])))
         | (go_at_call 38; go_loud ((with_reducible refine (hEx.out _).mono ?_); rintro e w1 ⟨rfl, hb1⟩; replace X := X.call hb1; clear hb1))
         | (at_builtin; (first
          | (refine m_app (M := MT) (T := MS ++ CT) (n := 1) [_, _] rfl rfl [(⟨xb, xe⟩ : Tag)] tagC_flat X hOT Zev Zev hgT rfl h40T ?_; intro a2 c2 w2 MT2 hOT2 X2; replace X := X2; clear X2; (simp only [Act.put, zA, zB, zC, zD, zE, zF, zG, Nat.reduceAdd]))
          | go_loud (refine m_app (M := MS) (T := CT) (n := 1) (_ :: _ :: MT2) rfl rfl [xs] strC_flat X hOS Zev Zev hgS rfl h40S ?_; intro a2 c2 w2 MS2 hOS2 X2; replace X := X2; clear X2; (simp only [Act.put, zA, zB, zC, zD, zE, zF, zG, Nat.reduceAdd])))))))
       exact ⟨⟨q + 1, MT2, _, MS2, by omega, by go_num, by rw [hm1.out]; exact hOT2, by rw [hm2.out]; exact hOS2, X.tail⟩, by simp only [intOf]; omega⟩
      ·obtain rfl : q = p.length := by omega
       rw [hfp.out] at hOT hOS
       obtain ⟨aT, cT, rfl⟩ : ∃ a c, vt = .slice a p.length c := by
        obtain ⟨a, c, h⟩ := hOT.form
        exact ⟨a, c, by rw [h, List.length_map]⟩
       obtain ⟨aS, cS, hvs⟩ := hOS.form
       rw [List.length_map] at hvs
       subst hvs
       obtain ⟨lS, hlS⟩ : ∃ l, l = p.map (fun c : Cpy => escS c.text) := ⟨_, rfl⟩
       rw [← hlS] at hOS
       have hlen : lS.length = p.length := by rw [hlS, List.length_map]
       have hget : ∀ i (hi : i < p.length) (hi2 : i < lS.length), lS[i] = escS p[i].text := fun i hi hi2 => by subst hlS; simp
       have Z3 : St S5 W2 wr (⟨g12, [v2], 39⟩ :: ⟨g10, [.slice (some ⟨ga, j, none⟩) (nb + 1 - j) (ca - j)], 50⟩ :: ⟨g15, [.func (.func 34) #[] #[.pointer (some ⟨g12, 0, none⟩), .pointer (some ⟨g10, 0, none⟩)]], 93⟩ :: ⟨g3, [.int .i64 seq, .slice am mt.length cm, .slice ad dt.length cd, .slice ar rev.length cr, .bool o0, .int .i64 x0, .bool o1, .int .i64 x1, .bool o2, .int .i64 x2], 55⟩ :: ⟨g16, [.func (.func 35) #[] #[.pointer (some ⟨g3, 0, none⟩), .pointer (some ⟨g15, 0, none⟩)]], 94⟩ :: ⟨g9, [.int .i64 rh, .int .i64 ru], 57⟩ :: ⟨g4, [.int .i64 0, .int .i64 0], 57⟩ :: ⟨g2, [.int .i64 h0, .int .i64 u0], 57⟩ :: ⟨gm, [.int .i64 2, .int .i64 0, .int .i64 0, .slice aT p.length cT, .slice none 0 0], 69⟩ :: (M2 ++ [⟨gn, [.int .i64 10], 3⟩, ⟨gs, [.slice am mt.length cm], 37⟩])) (Rd.of strC (.slice (aS) p.length cS) lS :: Rd.of tagC (.slice aT p.length cT) (p.map tagC') :: Rd.of cpyC (.slice (some ⟨b, off2, none⟩) p.length p.length) p :: [Rd.of intC (.slice (some ⟨ga, 0, none⟩) (nb + 1) ca) (places h0 (nb + 1)), flR 0, Rd.of cpyC (.slice am mt.length cm) mt, Rd.of cpyC (.slice ad dt.length cd) dt, Rd.of intC (.slice ar rev.length cr) rev]) := by
        have Z1 := St.ownEnd (L := [_]) (M := MT) (T := MS ++ CT) X hOT
        have Z2 := St.ownEnd (L := [_]) (M := MS) (T := CT) Z1 hOS
        rw [hCT.out] at Z2
        exact Z2.perm (List.perm_middle (l₁ := [_, _, _, _, _, _, _, _])).symm
       clear X hOT hOS hCT hmp hms hfp
       have X := Z3
       clear Z3
       have hb24 : ∀ i : Nat, 0 ≤ (h0 + (i : Int)) % 24 ∧ (h0 + (i : Int)) % 24 < 24 := fun i => ⟨Int.emod_nonneg _ (by decide), Int.emod_lt_of_pos _ (by decide)⟩
       have hmk : ∀ w' L', St S5 W2 w' L' (Rd.of strC (.slice (aS) p.length cS) lS :: Rd.of tagC (.slice aT p.length cT) (p.map tagC') :: Rd.of cpyC (.slice (some ⟨b, off2, none⟩) p.length p.length) p :: [Rd.of intC (.slice (some ⟨ga, 0, none⟩) (nb + 1) ca) (places h0 (nb + 1)), flR 0, Rd.of cpyC (.slice am mt.length cm) mt, Rd.of cpyC (.slice ad dt.length cd) dt, Rd.of intC (.slice ar rev.length cr) rev]) → RMark w' (.agg #[.int .i64 2, .int .i64 seq, .int .i64 0, .slice aT p.length cT, .slice none 0 0]) (descM seq p) :=
        fun w' L' Z => ⟨_, _, rfl, Z.r1, RL.nil _ _, by simp only [descM, List.length_map]; omega, Nat.zero_le _⟩
       have hll : ∀ i, i ≤ nb + 1 → (DS ++ LS i).length ≤ 1000 := fun i hi => by rw [List.length_append, hLl.out i hi]; have := hDl.out; omega
       have hMk := fun w (X : St S5 W2 w (⟨g12, [v2], 39⟩ :: ⟨g10, [.slice (some ⟨ga, j, none⟩) (nb + 1 - j) (ca - j)], 50⟩ :: ⟨g15, [.func (.func 34) #[] #[.pointer (some ⟨g12, 0, none⟩), .pointer (some ⟨g10, 0, none⟩)]], 93⟩ :: ⟨g3, [.int .i64 seq, .slice am mt.length cm, .slice ad dt.length cd, .slice ar rev.length cr, .bool o0, .int .i64 x0, .bool o1, .int .i64 x1, .bool o2, .int .i64 x2], 55⟩ :: ⟨g16, [.func (.func 35) #[] #[.pointer (some ⟨g3, 0, none⟩), .pointer (some ⟨g15, 0, none⟩)]], 94⟩ :: ⟨g9, [.int .i64 rh, .int .i64 ru], 57⟩ :: ⟨g4, [.int .i64 0, .int .i64 0], 57⟩ :: ⟨g2, [.int .i64 h0, .int .i64 u0], 57⟩ :: ⟨gm, [.int .i64 2, .int .i64 0, .int .i64 0, .slice aT p.length cT, .slice none 0 0], 69⟩ :: (M2 ++ [⟨gn, [.int .i64 10], 3⟩, ⟨gs, [.slice am mt.length cm], 37⟩])) (Rd.of strC (.slice (aS) p.length cS) lS :: Rd.of tagC (.slice aT p.length cT) (p.map tagC') :: Rd.of cpyC (.slice (some ⟨b, off2, none⟩) p.length p.length) p :: [Rd.of intC (.slice (some ⟨ga, 0, none⟩) (nb + 1) ca) (places h0 (nb + 1)), flR 0, Rd.of cpyC (.slice am mt.length cm) mt, Rd.of cpyC (.slice ad dt.length cd) dt, Rd.of intC (.slice ar rev.length cr) rev])) => seal_mark 2 0 0 seq (.slice aT p.length cT) (.slice none 0 0) (descM seq p) _ (hb24 j) hmk (A := [_, _, _, _, _]) (M := M2) (T := [⟨gn, [.int .i64 10], 3⟩, ⟨gs, [.slice am mt.length cm], 37⟩]) X hO4 (n := (places h0 (nb + 1)).length) (n' := nb + 1) (cap := ca) (cs := (places h0 (nb + 1)).flatMap intC) (.tail _ (.tail _ (.tail _ (.head _)))) (hpk j (by omega)) (by omega) (by omega) (hll j (by omega))
       have hlp1 : LS (j + (1 + 0)) = LS j ++ [atW ((h0 + ((j : Nat) : Int)) % 24) (markS (descM seq p))] := hlp0.out
       generalize markS (descM seq p) = md at *
       replace hMk := hid hMk; replace hmk := hid hmk; replace hll := hid hll; replace hb24 := hid hb24; replace hpk := hid hpk; replace hlp1 := hid hlp1; replace hget := hid hget; replace hlS := hid hlS; replace hlen := hid hlen
       gi_wp2_with (first
        | (refine list_in (F := FW.inRound l) rfl (fun _ => trivial) (fun m => fenced_wide _ m) (fun _ _ h => by cases h.1) _ _ _ (by rfl) ?_; go_wp2_with (first
         | (refine ZcL ?_) | (refine ZcS ?_; clear X; intro w X) | (refine ZcA ?_; clear X; intro g w X)
         | (go_at_call 35; go_loud ((with_reducible refine (hMk.out _ X).mono ?_); rintro e w4 ⟨u, v4, at4, M4, rfl, hO5, hat4, X4⟩; clear X; have X := X4; clear X4)))))
       obtain rfl : at4 = .slice (some ⟨ga, j + (1 + 0), none⟩) (nb + 1 - (j + (1 + 0))) (ca - (j + (1 + 0))) := (hat4 (by omega)).trans (by simp only [Nat.sub_sub, Nat.add_zero])
       rw [List.append_assoc, ← hlp1.out] at hO5
       gi_loopw [131] (fun i wr => ∃ (q : Nat) (M : List Ent) (v : Value), q ≤ p.length ∧ i = .int .i64 q ∧ OwnM stpC 84 3 v (DS ++ LS (j + (1 + q))) M ∧ St S5 W2 wr (⟨g12, [v], 39⟩ :: ⟨g10, [.slice (some ⟨ga, j + (1 + q), none⟩) (nb + 1 - (j + (1 + q))) (ca - (j + (1 + q)))], 50⟩ :: ⟨g15, [.func (.func 34) #[] #[.pointer (some ⟨g12, 0, none⟩), .pointer (some ⟨g10, 0, none⟩)]], 93⟩ :: ⟨g3, [.int .i64 seq, .slice am mt.length cm, .slice ad dt.length cd, .slice ar rev.length cr, .bool o0, .int .i64 x0, .bool o1, .int .i64 x1, .bool o2, .int .i64 x2], 55⟩ :: ⟨g16, [.func (.func 35) #[] #[.pointer (some ⟨g3, 0, none⟩), .pointer (some ⟨g15, 0, none⟩)]], 94⟩ :: ⟨g9, [.int .i64 rh, .int .i64 ru], 57⟩ :: ⟨g4, [.int .i64 0, .int .i64 0], 57⟩ :: ⟨g2, [.int .i64 h0, .int .i64 u0], 57⟩ :: ⟨gm, [.int .i64 2, .int .i64 0, .int .i64 0, .slice aT p.length cT, .slice none 0 0], 69⟩ :: (M ++ [⟨gn, [.int .i64 10], 3⟩, ⟨gs, [.slice am mt.length cm], 37⟩])) (Rd.of strC (.slice (aS) p.length cS) lS :: Rd.of tagC (.slice aT p.length cT) (p.map tagC') :: Rd.of cpyC (.slice (some ⟨b, off2, none⟩) p.length p.length) p :: [Rd.of intC (.slice (some ⟨ga, 0, none⟩) (nb + 1) ca) (places h0 (nb + 1)), flR 0, Rd.of cpyC (.slice am mt.length cm) mt, Rd.of cpyC (.slice ad dt.length cd) dt, Rd.of intC (.slice ar rev.length cr) rev])) (fun i _ => p.length - (intOf i).toNat)
       case atStart => exact ⟨0, M4, v4, Nat.zero_le _, rfl, hO5, X⟩
       case round =>
        clear X hO5
        obtain ⟨q, M5, v5, hq, rfl, hO5, X⟩ := hrel
        by_cases hlt : q < p.length
        ·have hlt2 : q < lS.length := by rw [hlen.out]; exact hlt
         obtain ⟨bz, oz, hbo, c0⟩ := RL.at1 (fun x : ByteArray => .string x) (fun _ => rfl) X.r0 hlt2
         obtain ⟨rfl⟩ := hbo
         rw [hget.out q hlt hlt2] at c0
         have hlq := hlpi.out q hlt
         have hLg := fun w (X : St S5 W2 w (⟨g12, [v5], 39⟩ :: ⟨g10, [.slice (some ⟨ga, j + (1 + q), none⟩) (nb + 1 - (j + (1 + q))) (ca - (j + (1 + q)))], 50⟩ :: ⟨g15, [.func (.func 34) #[] #[.pointer (some ⟨g12, 0, none⟩), .pointer (some ⟨g10, 0, none⟩)]], 93⟩ :: ⟨g3, [.int .i64 seq, .slice am mt.length cm, .slice ad dt.length cd, .slice ar rev.length cr, .bool o0, .int .i64 x0, .bool o1, .int .i64 x1, .bool o2, .int .i64 x2], 55⟩ :: ⟨g16, [.func (.func 35) #[] #[.pointer (some ⟨g3, 0, none⟩), .pointer (some ⟨g15, 0, none⟩)]], 94⟩ :: ⟨g9, [.int .i64 rh, .int .i64 ru], 57⟩ :: ⟨g4, [.int .i64 0, .int .i64 0], 57⟩ :: ⟨g2, [.int .i64 h0, .int .i64 u0], 57⟩ :: ⟨gm, [.int .i64 2, .int .i64 0, .int .i64 0, .slice aT p.length cT, .slice none 0 0], 69⟩ :: (M5 ++ [⟨gn, [.int .i64 10], 3⟩, ⟨gs, [.slice am mt.length cm], 37⟩])) (Rd.of strC (.slice (some ⟨bz, oz, none⟩) p.length cS) lS :: Rd.of tagC (.slice aT p.length cT) (p.map tagC') :: Rd.of cpyC (.slice (some ⟨b, off2, none⟩) p.length p.length) p :: [Rd.of intC (.slice (some ⟨ga, 0, none⟩) (nb + 1) ca) (places h0 (nb + 1)), flR 0, Rd.of cpyC (.slice am mt.length cm) mt, Rd.of cpyC (.slice ad dt.length cd) dt, Rd.of intC (.slice ar rev.length cr) rev])) => seal_log (escS p[q].text) _ (hb24.out (j + (1 + q))) (A := [_, _, _, _, _, _, _]) (M := M5) (T := [⟨gn, [.int .i64 10], 3⟩, ⟨gs, [.slice am mt.length cm], 37⟩]) X hO5 (n := (places h0 (nb + 1)).length) (n' := nb + 1) (cap := ca) (cs := (places h0 (nb + 1)).flatMap intC) (.tail _ (.tail _ (.tail _ (.head _)))) (hpk.out (j + (1 + q)) (by omega)) (by omega) (by omega) (hll.out _ (by omega))
         generalize escS p[q].text = xs at *
         replace hLg := hid hLg; replace hlq := hid hlq
         refine wpIn_seq_k fun K hK => region_in (by rfl) (fun _ _ h => by cases h.1) ?_
         go_wp2
         refine wpIn_seq (wpIn_cond_true (by simp [Act.eval, hlt]) (wpIn_skip ?_))
         refine wpIn_seq (wpIn_block ?_)
         refine wpIn_seq_k fun K hK => region_in (by rfl) (fun _ _ h => by cases h.1) ?_
         go_wp2_with fail
         refine region_in (by rfl) (fun _ _ h => by cases h.1) ?_
         go_wp2_with (first
             | (refine at_mem rfl ?_; refine at_load rfl ?_; refine c_load1 rfl _ _ rfl rfl X Zra ?_; (simp only [Act.put, zA, zB, zC, zD, zE, zF, zG, Nat.reduceAdd]))
             | (go_at_call 34; go_loud ((with_reducible refine (hLg.out _ X).mono ?_); rintro e w4 ⟨u, v6, at6, M6, rfl, hO6, hat6, X4⟩; clear X; have X := X4; clear X4)))
         obtain rfl : at6 = .slice (some ⟨ga, j + (1 + (q + 1)), none⟩) (nb + 1 - (j + (1 + (q + 1)))) (ca - (j + (1 + (q + 1)))) := (hat6 (by omega)).trans (by simp only [Nat.sub_sub, Nat.add_assoc])
         rw [List.append_assoc, ← hlq.out] at hO6
         refine region_in (by rfl) (fun _ _ h => by cases h.1) ?_
         go_wp2
         exact ⟨⟨q + 1, M6, v6, by omega, by go_num, hO6, X⟩, by simp only [intOf]; omega⟩
        ·obtain rfl : q = p.length := by omega
         refine wpIn_seq_k fun K hK => region_in (by rfl) (fun _ _ h => by cases h.1) ?_
         go_wp2
         gi_wp2
         have hS6 := hS5.out
         subst hS6
         have k1 := X7.blk ⟨gs, [.slice am mt.length cm], 37⟩ (by simp)
         have k2 := X7.blk ⟨gn, [.int .i64 10], 3⟩ (by simp)
         have k3 := X.blk ⟨gs, [.slice am mt.length cm], 37⟩ (by simp)
         have k4 := X.blk ⟨gn, [.int .i64 10], 3⟩ (by simp)
         have he : pj (k + 1) = j + (1 + p.length) := hjn.out
         refine ⟨X7.keepsFrom X _, ⟨k3.trans k1.symm, k4.trans k2.symm⟩, ?_⟩
         rw [hI.out]
         refine ⟨M5, v5, .slice (some ⟨ga, j + (1 + p.length), none⟩) (nb + 1 - (j + (1 + p.length))) (ca - (j + (1 + p.length))), by rw [he]; exact hO5, fun _ => by rw [he], ?_⟩
         exact (X7.back X).less (by repeat (first | exact List.Sublist.refl _ | refine List.Sublist.cons_cons _ ?_ | refine List.Sublist.cons _ ?_)) fun r hr => .tail _ (.tail _ (.tail _ hr))
    case done =>
     intro D2 W3 hD2 hI2 hDf2
     have hI3 := hI2
     rw [hI.out, hxl, ← hJe.out] at hI3
     clear hI2 hI hit hxl hxs hO3 hLp hJn hMl hMd hBk hgs hgn X
     clear I
     obtain ⟨M3, v3, at3, hO4, hat3, X3⟩ := hI3
     obtain rfl := hat3 (by omega)
     have hS2 := hS1.out
     subst hS2
     have X5 := (X2.back X3).less (L2 := ⟨g12, [v3], 39⟩ :: ⟨g10, [.slice (some ⟨ga, nb, none⟩) (nb + 1 - nb) (ca - nb)], 50⟩ :: ⟨g15, [.func (.func 34) #[] #[.pointer (some ⟨g12, 0, none⟩), .pointer (some ⟨g10, 0, none⟩)]], 93⟩ :: ⟨g3, [.int .i64 seq, .slice am mt.length cm, .slice ad dt.length cd, .slice ar rev.length cr, .bool o0, .int .i64 x0, .bool o1, .int .i64 x1, .bool o2, .int .i64 x2], 55⟩ :: ⟨g16, [.func (.func 35) #[] #[.pointer (some ⟨g3, 0, none⟩), .pointer (some ⟨g15, 0, none⟩)]], 94⟩ :: ⟨g9, [.int .i64 rh, .int .i64 ru], 57⟩ :: ⟨g4, [.int .i64 0, .int .i64 0], 57⟩ :: ⟨g2, [.int .i64 h0, .int .i64 u0], 57⟩ :: (M3 ++ [])) (R2 := [Rd.of intC (.slice (some ⟨ga, 0, none⟩) (nb + 1) ca) (places h0 (nb + 1)), flR 0, Rd.of cpyC (.slice am mt.length cm) mt, Rd.of cpyC (.slice ad dt.length cd) dt, Rd.of intC (.slice ar rev.length cr) rev]) (by
      rw [List.append_nil]
      repeat (first | exact List.sublist_append_left _ _ | refine List.Sublist.cons_cons _ ?_)) (fun r hr => hr)
     have hD13 := X2.other X3 hDf1.out rfl
     have hD1l : D1 < W1.heap.size := (Array.getElem?_eq_some_iff.1 hDf1.out).1
     have hD12 : D1 ≠ D2 := by omega
     have hD1w : w0.heap.size ≤ D1 := by omega
     have hD2w : w0.heap.size ≤ D2 := by have := X2.mv.size; omega
     have X := X5.restart
     clear X2 X3 hDf1 hS1n hat3
     generalize hS3 : List.map Ent.g (⟨g12, [v3], 39⟩ :: ⟨g10, [.slice (some ⟨ga, nb, none⟩) (nb + 1 - nb) (ca - nb)], 50⟩ :: ⟨g15, [.func (.func 34) #[] #[.pointer (some ⟨g12, 0, none⟩), .pointer (some ⟨g10, 0, none⟩)]], 93⟩ :: ⟨g3, [.int .i64 seq, .slice am mt.length cm, .slice ad dt.length cd, .slice ar rev.length cr, .bool o0, .int .i64 x0, .bool o1, .int .i64 x1, .bool o2, .int .i64 x2], 55⟩ :: ⟨g16, [.func (.func 35) #[] #[.pointer (some ⟨g3, 0, none⟩), .pointer (some ⟨g15, 0, none⟩)]], 94⟩ :: ⟨g9, [.int .i64 rh, .int .i64 ru], 57⟩ :: ⟨g4, [.int .i64 0, .int .i64 0], 57⟩ :: ⟨g2, [.int .i64 h0, .int .i64 u0], 57⟩ :: (M3 ++ [])) = S3 at X
     replace hS3 := hid hS3; replace hD13 := hid hD13; replace hDf2 := hid hDf2
     have hll : (DS ++ LS nb).length ≤ 40 := by rw [List.length_append, hLl.out nb (by omega)]; have := hDl.out; omega
     obtain ⟨ao, co, rfl⟩ := hO4.form
     generalize hDL : DS ++ LS nb = DL at *
     replace hDL := hid hDL
     dsimp only
     go_upto_if 140 with fail
     go_cut [] from 139 to 144 (fun wx => ∃ (M : List Ent) (v : Value), OwnM stpC 84 3 v (DL ++ (if nb = 0 then [] else [flushS])) M ∧ St S3 W3 wx (⟨g12, [v], 39⟩ :: ⟨g10, [.slice (some ⟨ga, nb, none⟩) (nb + 1 - nb) (ca - nb)], 50⟩ :: ⟨g15, [.func (.func 34) #[] #[.pointer (some ⟨g12, 0, none⟩), .pointer (some ⟨g10, 0, none⟩)]], 93⟩ :: ⟨g3, [.int .i64 seq, .slice am mt.length cm, .slice ad dt.length cd, .slice ar rev.length cr, .bool o0, .int .i64 x0, .bool o1, .int .i64 x1, .bool o2, .int .i64 x2], 55⟩ :: ⟨g16, [.func (.func 35) #[] #[.pointer (some ⟨g3, 0, none⟩), .pointer (some ⟨g15, 0, none⟩)]], 94⟩ :: ⟨g9, [.int .i64 rh, .int .i64 ru], 57⟩ :: ⟨g4, [.int .i64 0, .int .i64 0], 57⟩ :: ⟨g2, [.int .i64 h0, .int .i64 u0], 57⟩ :: (M ++ [])) [Rd.of intC (.slice (some ⟨ga, 0, none⟩) (nb + 1) ca) (places h0 (nb + 1)), flR 0, Rd.of cpyC (.slice am mt.length cm) mt, Rd.of cpyC (.slice ad dt.length cd) dt, Rd.of intC (.slice ar rev.length cr) rev])
     case first =>
      have hgo : [flushS].flatMap stpC = [.int .i64 2, .int .i64 0, .string ⟨#[]⟩] := rfl
      have h40 : DL.length + 1 ≤ 1099511627776 := by omega
      by_cases hz : nb = 0
      ·have hzj : decide ((1 : Int) < (nb : Int) + 1) = false := decide_eq_false (by omega)
       simp only [hzj]
       replace hz := hid hz
       go_wp2
       go_meet
       exact ⟨M3, _, by rw [if_pos hz.out, List.append_nil]; exact hO4, X⟩
      ·have hzj : decide ((1 : Int) < (nb : Int) + 1) = true := decide_eq_true (by omega)
       simp only [hzj]
       replace hz := hid hz
       go_wp2_with (first
        | (refine ZcL ?_) | (refine ZcS ?_; clear X; intro w X) | (refine ZcA ?_; clear X; intro g w X)
        | (refine at_mem rfl ?_; refine m_rd0 rfl rfl rfl X Zfl (by rfl) ?_; (simp only [Act.put, zA, zB, zC, zD, zE, zF, zG, Nat.reduceAdd]))
        | (refine at_build rfl ?_; go_loud (refine m_build1 rfl rfl Zev (by rfl) (by rfl) X ?_; intro g w2 X2; replace X := X2; clear X2; (simp only [Act.put, zA, zB, zC, zD, zE, zF, zG, Nat.reduceAdd])))
        | (at_builtin; go_loud ((refine m_app (M := M3) (T := []) (n := 1) [_, _, _, _, _, _, _, _] rfl rfl [flushS] stpC_flat X hO4 Zev Zev hgo rfl h40 ?_); intro a2 c2 w2 M2 hO3 X2; replace X := X2; clear X2; (simp only [Act.put, zA, zB, zC, zD, zE, zF, zG, Nat.reduceAdd]))))
       go_meet
       exact ⟨M2, _, by rw [if_neg hz.out]; exact hO3, X⟩
     case rest =>
      clear X hO4
      obtain ⟨M5, v5, hO5, X⟩ := hcut
      have hDE : CL = DL ++ (if nb = 0 then [] else [flushS]) ++ [atW ((h0 + (nb : Int)) % 24) (markS (comM seq))] ++ [flushS] := by
       rw [hCd.out, ← hDL.out]
       simp only [List.append_assoc, List.cons_append, List.nil_append]
      have hl6 : (DL ++ (if nb = 0 then [] else [flushS])).length ≤ 50 := by
       rw [List.length_append]
       have : (if nb = 0 then ([] : List Stp) else [flushS]).length ≤ 1 := by split <;> simp
       omega
      generalize (DL ++ (if nb = 0 then [] else [flushS])) = D6 at *
      have hb24 : 0 ≤ (h0 + ((nb : Nat) : Int)) % 24 ∧ (h0 + ((nb : Nat) : Int)) % 24 < 24 := ⟨Int.emod_nonneg _ (by decide), Int.emod_lt_of_pos _ (by decide)⟩
      have hpj := hpk nb (by omega)
      have hmk : ∀ w' L', St S3 W3 w' L' [Rd.of intC (.slice (some ⟨ga, 0, none⟩) (nb + 1) ca) (places h0 (nb + 1)), flR 0, Rd.of cpyC (.slice am mt.length cm) mt, Rd.of cpyC (.slice ad dt.length cd) dt, Rd.of intC (.slice ar rev.length cr) rev] → RMark w' (.agg #[.int .i64 4, .int .i64 seq, .int .i64 0, .slice none 0 0, .slice none 0 0]) (comM seq) :=
       fun w' L' Z => ⟨_, _, rfl, RL.nil _ _, RL.nil _ _, Nat.zero_le _, Nat.zero_le _⟩
      have hMk := fun w (X : St S3 W3 w (⟨g12, [v5], 39⟩ :: ⟨g10, [.slice (some ⟨ga, nb, none⟩) (nb + 1 - nb) (ca - nb)], 50⟩ :: ⟨g15, [.func (.func 34) #[] #[.pointer (some ⟨g12, 0, none⟩), .pointer (some ⟨g10, 0, none⟩)]], 93⟩ :: ⟨g3, [.int .i64 seq, .slice am mt.length cm, .slice ad dt.length cd, .slice ar rev.length cr, .bool o0, .int .i64 x0, .bool o1, .int .i64 x1, .bool o2, .int .i64 x2], 55⟩ :: ⟨g16, [.func (.func 35) #[] #[.pointer (some ⟨g3, 0, none⟩), .pointer (some ⟨g15, 0, none⟩)]], 94⟩ :: ⟨g9, [.int .i64 rh, .int .i64 ru], 57⟩ :: ⟨g4, [.int .i64 0, .int .i64 0], 57⟩ :: ⟨g2, [.int .i64 h0, .int .i64 u0], 57⟩ :: (M5 ++ [])) [Rd.of intC (.slice (some ⟨ga, 0, none⟩) (nb + 1) ca) (places h0 (nb + 1)), flR 0, Rd.of cpyC (.slice am mt.length cm) mt, Rd.of cpyC (.slice ad dt.length cd) dt, Rd.of intC (.slice ar rev.length cr) rev]) => seal_mark 4 0 0 seq (.slice none 0 0) (.slice none 0 0) (comM seq) _ hb24 hmk (A := [_, _, _, _]) (M := M5) (T := []) X hO5 (n := (places h0 (nb + 1)).length) (n' := nb + 1) (cap := ca) (cs := (places h0 (nb + 1)).flatMap intC) (.head _) hpj (by omega) (by omega) (by omega)
      generalize markS (comM seq) = mc at *
      replace hMk := hid hMk; replace hmk := hid hmk; replace hpj := hid hpj; replace hDE := hid hDE
      have hgo : [flushS].flatMap stpC = [.int .i64 2, .int .i64 0, .string ⟨#[]⟩] := rfl
      have hl7 : (D6 ++ [atW ((h0 + (nb : Int)) % 24) mc]).length + 1 ≤ 1099511627776 := by rw [List.length_append, List.length_singleton]; omega
      go_wp2_with (first
       | (refine ZcL ?_) | (refine ZcS ?_; clear X; intro w X) | (refine ZcA ?_; clear X; intro g w X)
       | (go_at_call 35; go_loud ((with_reducible refine (hMk.out _ X).mono ?_); rintro e w4 ⟨u, v4, at4, M4, rfl, hO4, hat4, X4⟩; clear X; have X := X4; clear X4; clear hat4)))
      generalize hD7 : D6 ++ [atW ((h0 + (nb : Int)) % 24) mc] = D7 at *
      replace hD7 := hid hD7
      obtain ⟨ao, co, rfl⟩ := hO4.form
      (refine q_startS 6 [] [3, 4, 5] [0, 1, 2] [0, 1, 2, 3, 4, 5, 6, 7] X ?_; clear X; intro hQ X hL; simp only [zF, zG] at hL; simp only [zF, zG])
      (refine Zl ?_)
      (refine Zl ?_)
      (refine q_rd0 rfl rfl rfl Zfl (by rfl) rfl rfl X hL hQ ?_; (simp only [Act.put, zA, zB, zC, zD, zE, zF, zG, Nat.reduceAdd]))
      (refine q_build1 rfl rfl Zev (by rfl) (by rfl) X hL rfl rfl ?_; intro g w X2 hL2; replace X := X2; replace hL := hL2; clear X2 hL2; (simp only [Act.put, zA, zB, zC, zD, zE, zF, zG, Nat.reduceAdd]))
      (refine q_app (M := M4) (T := []) (n := 1) [_, _, _, _, _, _, _, _] rfl rfl [flushS] stpC_flat X hO4 Zev Zev hgo rfl hl7 hL Zsn rfl rfl ?_; intro a2 c2 w2 M2 hO3 X2 hL2; replace X := X2; replace hL := hL2; clear X2 hL2; (simp only [Act.put, zA, zB, zC, zD, zE, zF, zG, Nat.reduceAdd]))
      ((first | (refine d_put1 rfl rfl Zev Zev X rfl rfl rfl rfl hL Zpa Zsn ?_) | (refine d_putN rfl rfl Zev rfl X rfl rfl rfl rfl hL Zpa Zsn ?_)); intro w X2 hL2; (try simp only [upd] at X2); (try simp only [upd] at hL2); replace X := X2; clear X2; replace hL := hL2; clear hL2; (simp only [Act.put, zA, zB, zC, zD, zE, zF, zG, Nat.reduceAdd]))
      (refine Za ?_)
      (refine Za ?_)
      refine q_nil ?_
      go_wp2
      have hS4 := hS3.out
      subst hS4
      have hX5 := X5.back X
      exact m_leave2 rfl (.tmp rfl rfl) (.tmp rfl rfl) (.tmp rfl rfl) hX5 (.tail _ (.tail _ (.tail _ (.tail _ (.tail _ (.tail _ (.head _))))))) rfl rfl (X5.other X hD13.out rfl) (X5.other X hDf2.out rfl) hD12 hD1w hD2w List.not_mem_nil List.not_mem_nil (fun w' X' => ⟨_, rfl, by rw [hDE.out]; exact hO3.own (L := [_, _, _, _, _, _, _, _]) stpC_flat X', X'.below⟩)
end Go.Proofs.YtjhmfljlclajnacDoor
namespace Wb
open Go Go.RowKit
structure RefF (r : Ring) (t : Txn) (nb : Nat) (LG : List ByteArray) (DS : List Stp) (RS : Nat → List Stp) (mc : ByteArray) : Prop where
 ln : LG.length = nb + 1
 z : RS 0 = []
 s : ∀ i (h : i < nb) (h2 : i < LG.length), RS (i + 1) = RS i ++ [atW ((r.head + (i : Int)) % 24) LG[i]]
 e : RS (nb + 1) = RS nb ++ ((if nb = 0 then [] else [flushS]) ++ [atW ((r.head + (nb : Int)) % 24) mc])
 m : ∀ (h : nb < LG.length), LG[nb] = mc
 l : ∀ i, i ≤ nb + 1 → (RS i).length ≤ i + 1
 d : DS.length ≤ 13
 c : comL r t = DS ++ (RS (nb + 1) ++ [flushS])
 g : t.dt.map goS ++ (if 0 < t.dt.length then [flushS] else []) = DS
theorem com_bad {r : Ring} {t : Txn} (h : goodR r = false ∨ goodT t = false ∨ openB t = true) : comE r t = 2 ∧ comR r t = r ∧ comL r t = [] := by
 have e : comE r t = 2 := by unfold comE; rw [if_pos h]
 refine ⟨e, by unfold comR; rw [e, if_neg (by decide)], by unfold comL; rw [e, if_neg (by decide)]⟩
theorem com_full {r : Ring} {t : Txn} (h : ¬ (goodR r = false ∨ goodT t = false ∨ openB t = true)) (hn : takeE r (comN t) ≠ 0) : comE r t = takeE r (comN t) ∧ comR r t = r ∧ comL r t = [] ∧ takeR r (comN t) = r ∧ takeL r (comN t) = [] := by
 have e : comE r t = takeE r (comN t) := by unfold comE; rw [if_neg h]
 refine ⟨e, by unfold comR; rw [e, if_neg hn], by unfold comL; rw [e, if_neg hn], by unfold takeR; rw [if_neg hn], by unfold takeL; rw [if_neg hn]⟩
theorem com_ok0 {r : Ring} {t : Txn} (h : ¬ (goodR r = false ∨ goodT t = false ∨ openB t = true)) (hn : takeE r (comN t) = 0) : comE r t = 0 ∧ comR r t = takeR r (comN t) := by
 have e : comE r t = 0 := by unfold comE; rw [if_neg h, hn]
 exact ⟨e, by unfold comR; rw [if_pos e]⟩
end Wb
namespace Go.Proofs.YtjhmfljlclajnacDoor
open Go.RowKit Wb
set_option maxRecDepth 100000
set_option maxHeartbeats 16000000
theorem seal_Commit_bad (r : Ring) (t : Txn) (v : Value) (w0 : World) (ht : RTxn w0 v t) (hb : goodR r = false ∨ goodT t = false ∨ openB t = true) :
    Calls Tryd.prog 17 #[r.val, v] w0 fun e w' => e = .returned (.tuple #[r.val, .slice none 0 0, .int .i64 2]) ∧ Below w0.heap.size w0 w' := by
 have hG := fun w' (hb : Below w0.heap.size w0 w') => txn_Good t _ w' (ht.below hb)
 have hO := fun w' (hb : Below w0.heap.size w0 w') => txn_Open t _ w' (ht.below hb)
 have hRG := fun w' => ring_Good r w'
 obtain ⟨vm, vd, vr, rfl, hm, hd, hr, n1, n2, n3⟩ := ht
 obtain ⟨h0, u0⟩ := r
 generalize goodT t = gt at *
 generalize openB t = ot at *
 generalize goodR ⟨h0, u0⟩ = gr at *
 unfold txnV at *
 simp only [Ring.val] at *
 have X : St [] w0 w0 [] [] := St.start [] w0
 replace hG := hid hG; replace hO := hid hO; replace hRG := hid hRG
 clear hm hd hr
 cases gr with
 | false =>
  clear hb
  refine calls_marks Tryd.func17 rfl ?_; simp only [Tryd.ntmps17, List.size_toArray, List.length_cons, List.length_nil, Nat.reduceAdd, Nat.reduceSub, Array.replicate_succ, Array.replicate_zero, List.push_toArray, List.append_toArray, List.nil_append, List.cons_append]
  go_wp2_with (first
   | (refine ZdL ?_) | (refine ZdS ?_; clear X; intro w X) | (refine ZdA ?_; clear X; intro g w X)
   | (go_at_call 30; go_loud ((with_reducible refine (hRG.out _).mono ?_); rintro e w1 ⟨rfl, hb1⟩; replace X := X.call hb1; clear hb1)))
  exact leave0 (m_ret3 rfl (.tmp rfl rfl) (.tmp rfl rfl) (.tmp rfl rfl) X (.head _) rfl rfl ⟨rfl, X.below⟩)
 | true =>
  cases gt with
  | false =>
   clear hb
   refine calls_marks Tryd.func17 rfl ?_; simp only [Tryd.ntmps17, List.size_toArray, List.length_cons, List.length_nil, Nat.reduceAdd, Nat.reduceSub, Array.replicate_succ, Array.replicate_zero, List.push_toArray, List.append_toArray, List.nil_append, List.cons_append]
   go_wp2_with (first
    | (refine ZdL ?_) | (refine ZdS ?_; clear X; intro w X) | (refine ZdA ?_; clear X; intro g w X)
    | (go_at_call 30; go_loud ((with_reducible refine (hRG.out _).mono ?_); rintro e w1 ⟨rfl, hb1⟩; replace X := X.call hb1; clear hb1))
    | (go_at_call 26; go_loud ((with_reducible refine (hG.out _ X.below).mono ?_); rintro e w1 ⟨rfl, hb1⟩; replace X := X.call hb1; clear hb1)))
   exact leave0 (m_ret3 rfl (.tmp rfl rfl) (.tmp rfl rfl) (.tmp rfl rfl) X (.head _) rfl rfl ⟨rfl, X.below⟩)
  | true =>
   obtain rfl : ot = true := by rcases hb with h | h | h <;> first | exact h | cases h
   clear hb
   refine calls_marks Tryd.func17 rfl ?_; simp only [Tryd.ntmps17, List.size_toArray, List.length_cons, List.length_nil, Nat.reduceAdd, Nat.reduceSub, Array.replicate_succ, Array.replicate_zero, List.push_toArray, List.append_toArray, List.nil_append, List.cons_append]
   go_wp2_with (first
    | (refine ZdL ?_) | (refine ZdS ?_; clear X; intro w X) | (refine ZdA ?_; clear X; intro g w X)
    | (go_at_call 30; go_loud ((with_reducible refine (hRG.out _).mono ?_); rintro e w1 ⟨rfl, hb1⟩; replace X := X.call hb1; clear hb1))
    | (go_at_call 26; go_loud ((with_reducible refine (hG.out _ X.below).mono ?_); rintro e w1 ⟨rfl, hb1⟩; replace X := X.call hb1; clear hb1))
    | (go_at_call 31; go_loud ((with_reducible refine (hO.out _ X.below).mono ?_); rintro e w1 ⟨rfl, hb1⟩; replace X := X.call hb1; clear hb1)))
   exact leave0 (m_ret3 rfl (.tmp rfl rfl) (.tmp rfl rfl) (.tmp rfl rfl) X (.head _) rfl rfl ⟨rfl, X.below⟩)
theorem seal_Commit_full (r : Ring) (t : Txn) (v : Value) (w0 : World) (ht : RTxn w0 v t) (hb : ¬ (goodR r = false ∨ goodT t = false ∨ openB t = true)) (hn : takeE r (comN t) ≠ 0) :
    Calls Tryd.prog 17 #[r.val, v] w0 fun e w' => e = .returned (.tuple #[r.val, .slice none 0 0, .int .i64 (takeE r (comN t))]) ∧ Below w0.heap.size w0 w' := by
 have hbb := hb
 simp only [not_or, Bool.not_eq_false, Bool.not_eq_true] at hb
 obtain ⟨q1, q2, q3⟩ := hb
 have hG := fun w' (hb : Below w0.heap.size w0 w') => txn_Good t _ w' (ht.below hb)
 have hO := fun w' (hb : Below w0.heap.size w0 w') => txn_Open t _ w' (ht.below hb)
 have hRG := fun w' => ring_Good r w'
 have hTk := fun w' => ring_Take r (comN t) w'
 rw [q2] at hG
 rw [q3] at hO
 rw [q1] at hRG
 obtain ⟨_, _, _, f4, f5⟩ := com_full hbb hn
 rw [f4, f5] at hTk
 have hNd := fun w' => ring_Need t.mt.length t.rev.length w'
 have hg := goodT_of.1 q2
 have hne : needE t.mt.length t.rev.length = 0 := (need_most hg).2
 rw [hne] at hNd
 have hNc : needN t.mt.length t.rev.length = comN t := rfl
 rw [hNc] at hNd
 generalize comN t = cn at *
 generalize takeE r cn = te at *
 have hte : (te != 0) = true := bne_iff_ne.2 hn
 obtain ⟨vm, vd, vr, rfl, hm, hd, hr, n1, n2, n3⟩ := ht
 obtain ⟨am, cm, rfl, hcm, _⟩ := hm.form
 obtain ⟨ar, cr, rfl, hcr, _⟩ := hr.form
 obtain ⟨h0, u0⟩ := r
 unfold txnV at *
 simp only [Ring.val] at *
 have X : St [] w0 w0 [] [] := St.start [] w0
 replace hG := hid hG; replace hO := hid hO; replace hRG := hid hRG; replace hTk := hid hTk; replace hNd := hid hNd
 clear hm hd hr hbb hn q1 q2 q3 f4 f5 hg hne hNc
 refine calls_marks Tryd.func17 rfl ?_; simp only [Tryd.ntmps17, List.size_toArray, List.length_cons, List.length_nil, Nat.reduceAdd, Nat.reduceSub, Array.replicate_succ, Array.replicate_zero, List.push_toArray, List.append_toArray, List.nil_append, List.cons_append]
 go_wp2_with (first
  | (refine ZdL ?_) | (refine ZdS ?_; clear X; intro w X) | (refine ZdA ?_; clear X; intro g w X)
  | (go_at_call 30; go_loud ((with_reducible refine (hRG.out _).mono ?_); rintro e w1 ⟨rfl, hb1⟩; replace X := X.call hb1; clear hb1))
  | (go_at_call 26; go_loud ((with_reducible refine (hG.out _ X.below).mono ?_); rintro e w1 ⟨rfl, hb1⟩; replace X := X.call hb1; clear hb1))
  | (go_at_call 31; go_loud ((with_reducible refine (hO.out _ X.below).mono ?_); rintro e w1 ⟨rfl, hb1⟩; replace X := X.call hb1; clear hb1))
  | (go_at_call 32; go_loud ((with_reducible refine (hNd.out _).mono ?_); rintro e w1 ⟨rfl, rfl⟩))
  | (go_at_call 33; go_loud ((with_reducible refine (hTk.out _).mono ?_); rintro e w1 ⟨va, rfl, hoa, hb1⟩; obtain ⟨pa, pc, rfl, _⟩ := hoa.reads.form; replace X := X.call hb1; clear hb1 hoa)))
 exact leave0 (m_ret3 rfl (.tmp rfl rfl) (.tmp rfl rfl) (.tmp rfl rfl) X (.tail _ (.tail _ (.head _))) rfl rfl ⟨rfl, X.below⟩)
theorem seal_Commit (r : Ring) (t : Txn) (v : Value) (w0 : World) (ht : RTxn w0 v t) (hF : Sl w0 (flR 0).v 1 (flR 0).cs) :
    Calls Tryd.prog 17 #[r.val, v] w0 fun e w' => ∃ v', e = .returned (.tuple #[(comR r t).val, v', .int .i64 (comE r t)]) ∧ Wb.Own stpC w0.heap.size 84 3 w' v' (comL r t) ∧ Below w0.heap.size w0 w' := by
 by_cases hb : goodR r = false ∨ goodT t = false ∨ openB t = true
 ·obtain ⟨e1, e2, e3⟩ := com_bad hb
  rw [e1, e2, e3]
  exact (seal_Commit_bad r t v w0 ht hb).mono fun e w' ⟨h1, h2⟩ => ⟨_, h1, Own.nil _ _ _ _ _, h2⟩
 ·by_cases hn : takeE r (comN t) = 0
  ·obtain ⟨e1, e2⟩ := com_ok0 hb hn
   rw [e1, e2]
   have ht2 := ht
   obtain ⟨vm, vd, vr, rfl, _⟩ := ht2
   exact seal_Commit_go r t vm vd vr w0 ht hF e1
  ·obtain ⟨e1, e2, e3, _, _⟩ := com_full hb hn
   rw [e1, e2, e3]
   exact (seal_Commit_full r t v w0 ht hb hn).mono fun e w' ⟨h1, h2⟩ => ⟨_, h1, Own.nil _ _ _ _ _, h2⟩
end Go.Proofs.YtjhmfljlclajnacDoor
namespace Wb
open Go Go.RowKit
def sealT : Txn := ⟨1, [], [], [4], hnd0, hnd0, hnd0⟩
theorem sealT_e : comE ⟨0, 0⟩ sealT = 0 := by decide
theorem sealT_body : bodyT sealT = [markS (listM 1 [4])] := rfl
theorem sealT_r : comR ⟨0, 0⟩ sealT = ⟨2, 2⟩ := by
 unfold comR
 rw [if_pos sealT_e]
 rfl
theorem sealT_l : ∃ a b, comL ⟨0, 0⟩ sealT = [a, flushS, b, flushS] := by
 rw [comL_eq sealT_e, sealT_body]
 exact ⟨_, _, rfl⟩
end Wb
namespace Go.Proofs.YtjhmfljlclajnacDoor
open Go.RowKit Wb
set_option maxRecDepth 100000
set_option maxHeartbeats 8000000
theorem keep_seals (w0 : World) (hF : Sl w0 (flR 0).v 1 (flR 0).cs) :
    Calls Tryd.prog 16 #[] w0 fun e w' => e = .returned (.bool true) ∧ Below w0.heap.size w0 w' := by
 have hC := fun v w' (hb : Below w0.heap.size w0 w') (ht : RTxn w' v sealT) => seal_Commit ⟨0, 0⟩ sealT v w' ht (hF.below hb)
 rw [sealT_e, sealT_r] at hC
 obtain ⟨sa, sb, hsl⟩ := sealT_l
 rw [hsl] at hC
 have X : St [] w0 w0 [] [] := St.start [] w0
 have hRT : ∀ w' g, Blk w' g [.int .i64 4].toArray 3 → RTxn w' (.agg #[.int .i64 1, .slice none 0 0, .slice none 0 0, .slice (some ⟨g, 0, none⟩) 1 1, .bool false, .int .i64 0, .bool false, .int .i64 0, .bool false, .int .i64 0]) sealT := fun w' g hk =>
  ⟨_, _, _, rfl, RL.nil _ _, RL.nil _ _, ⟨some ⟨g, 0, none⟩, 1, rfl, by decide, by decide, .inr ⟨g, 0, rfl, fun j u hj => by
   rw [Nat.zero_add, hk.cell j]
   simpa [sealT, intC] using hj⟩⟩, by decide, by decide, by decide⟩
 simp only [Ring.val] at hC
 replace hC := hid hC
 replace hRT := hid hRT
 go_enter Tryd.func16, Tryd.ntmps16
 go_upto_region 2 with (first
  | (refine ZcL ?_) | (refine ZcS ?_; clear X; intro w X) | (refine ZcA ?_; clear X; intro g w X)
  | (refine at_build rfl ?_; go_loud (refine m_build1 rfl rfl Zev (by rfl) (by rfl) X ?_; intro g w2 X2; replace X := X2; clear X2; (simp only [Act.put, zA, zB, zC, zD, zE, zF, zG, Nat.reduceAdd])))
  | (go_at_call 17; go_loud ((with_reducible refine (hC.out _ _ X.below (hRT.out _ _ X.k0)).mono ?_); rintro e w1 ⟨va, rfl, hoa, hb1⟩; obtain ⟨la, lc, rfl, _⟩ := own_base stpC_flat hoa (Nat.zero_lt_succ _); replace X := X.addOwn hb1 hoa; clear hb1 hoa)))
 obtain ⟨bz, oz, hbz, c0, _⟩ := RL.at3 (fun x : Stp => .int .i64 x.kind) (fun x => .int .i64 x.at_) (fun x => .string x.text) (fun _ => rfl) X.r0 (k := 3) (Nat.lt_succ_self 3)
 cases hbz
 have c0 : _ = some (Value.int .i64 2) := c0
 go_wp2_with (first
  | (refine ZdL ?_) | (refine ZdS ?_; clear X; intro w X) | (refine ZdA ?_; clear X; intro g w X))
 go_ret
 exact ⟨rfl, X.below⟩
end Go.Proofs.YtjhmfljlclajnacDoor
namespace Go.Proofs.YtjhmfljlclajnacDoor
open Go.ChangeShapes Go.WideShapes Go.ChangeAt Go.RowKit Wb
noncomputable def laidWorld (os : Os) : World :=
 { World.holding Tryd.prog os ⟨#[], #[], []⟩ with heap := (World.holding Tryd.prog os ⟨#[], #[], []⟩).heap.modify 0 fun
     | .cells _ t frozen => .cells #[.int .i64 2, .int .i64 0, .string ⟨#[]⟩] t frozen
     | o => o }
end Go.Proofs.YtjhmfljlclajnacDoor
namespace Go.Proofs.YtjhmfljlclajnacDoor
open Go.ChangeShapes Go.WideShapes Go.ChangeAt Go.RowKit Wb
set_option maxRecDepth 100000
theorem flush_laid {W : World} (hL : laidMetH Tryd.prog [("wastebook/seal.flush", .agg [.lit (.int .i64 2), .lit (.int .i64 0), .lit (.string [])])] W) :
    Sl W (flR 0).v 1 (flR 0).cs := by
 have h : laidMet Tryd.prog [("wastebook/seal.flush", .agg [.lit (.int .i64 2), .lit (.int .i64 0), .lit (.string [])])] W := hL
 obtain ⟨ps, ⟨g', t', cs, fuel, p, q, hg', ht', hvar, hd, _, _⟩, _⟩ := h
 have hg : Tryd.prog.globalNamed "wastebook/seal.flush" = some 0 := by kernel_rfl
 have hty : (Tryd.prog.globals[0]?).map (·.type) = some 84 := by kernel_rfl
 obtain rfl := Option.some.inj (hg.symm.trans hg')
 obtain rfl := Option.some.inj (hty.symm.trans ht')
 have hcs : cs.toList = [.int .i64 2, .int .i64 0, .string ⟨#[]⟩] := by
  obtain ⟨xs, m, _, hx, hl, hln, hg⟩ := DataW.trod_struct Tryd.underlying84 hd
  have hl3 : cs.toList.length = 3 := hl.trans (by kernel_rfl)
  generalize cs.toList = ls at *
  match ls, hl3, xs, hln with
  | [u0, u1, u2], _, [y0, y1, y2], _ =>
   have h0 : DataW.trod (fun _ => ()) Tryd.prog W 0 (fun _ => true) false m 3 [u0] = some y0 := hg 0 _ rfl
   have h1 : DataW.trod (fun _ => ()) Tryd.prog W 0 (fun _ => true) false m 3 [u1] = some y1 := hg 1 _ rfl
   have h2 : DataW.trod (fun _ => ()) Tryd.prog W 0 (fun _ => true) false m 9 [u2] = some y2 := hg 2 _ rfl
   obtain ⟨a0, e0, rfl, _⟩ := DataW.trod_int Tryd.underlying3 h0
   obtain ⟨a1, e1, rfl, _⟩ := DataW.trod_int Tryd.underlying3 h1
   obtain ⟨a2, e2, rfl, _⟩ := DataW.trod_string Tryd.underlying9 h2
   simp at e0 e1 e2 hx
   subst e0 e1 e2
   obtain ⟨⟨rfl, rfl, h3⟩, _⟩ := hx
   have : a2 = ⟨#[]⟩ := by
    obtain ⟨⟨l⟩⟩ := a2
    simp at h3
    subst h3
    rfl
   rw [this]
 refine ⟨some ⟨0, 0, none⟩, 1, rfl, Nat.le_refl _, by decide, .inr ⟨0, 0, rfl, fun j u hj => ?_⟩⟩
 have := World.var?_cell hg hvar j
 rw [Nat.zero_add, this]
 have e : cs[j]? = cs.toList[j]? := by simp
 rw [e, hcs]
 exact hj
end Go.Proofs.YtjhmfljlclajnacDoor
namespace Go.Proofs.YtjhmfljlclajnacDoor
open Go.RowKit Wb
set_option maxRecDepth 100000
set_option maxHeartbeats 16000000
theorem stamp_Decode_ok (s : ByteArray) (w : World) (hs : okS s) :
    Calls Tryd.prog 22 #[.string s] w fun e w' => ∃ v, e = .returned (.tuple #[v, .int .i64 (decE s)]) ∧ OMark w.heap.size w' v (decM s) ∧ Below w.heap.size w w' := by
 by_cases k1 : nb s 4 = 1
 ·exact stamp_Decode_1 s w hs k1
 by_cases k2 : nb s 4 = 2
 ·exact stamp_Decode_2 s w hs k2
 by_cases k3 : nb s 4 = 3
 ·exact stamp_Decode_3 s w hs k3
 exact stamp_Decode_4 s w hs ⟨k1, k2, k3⟩
end Go.Proofs.YtjhmfljlclajnacDoor
namespace Go.Proofs.YtjhmfljlclajnacDoor
open Go.RowKit Wb
set_option maxRecDepth 100000
set_option maxHeartbeats 1000000
theorem stamp_Decode_no (s : ByteArray) (w : World) (hs : ¬ okS s) (hz : s.size ≤ 9223372036854775807) :
    Calls Tryd.prog 22 #[.string s] w fun e w' => ∃ v, e = .returned (.tuple #[v, .int .i64 (decE s)]) ∧ OMark w.heap.size w' v (decM s) ∧ Below w.heap.size w w' := by
 have hd : ¬ decOk s := fun h => hs h.1
 obtain ⟨dM, dE⟩ := dec_no hd
 rw [dM, dE]
 have hP := hid (fun w' => OMark.plain w.heap.size w' 0 0 0)
 by_cases h1 : s.size = 32
 ·have e1 : ((s.size : Int) != 32) = false := by rw [h1]; rfl
  have h2 : isEsc s = false := decide_eq_false fun hh => hs ⟨h1, hh⟩
  have e2 := take_isEsc s
  rw [h2] at e2
  have h4 : 4 ≤ s.size := by omega
  clear hs hd dM dE h2 h1
  go_enter Tryd.func22, Tryd.ntmps22
  go_wp2
  refine bodyPost_ret (v := .tuple #[.agg #[.int .i64 0, .int .i64 0, .int .i64 0, .slice none 0 0, .slice none 0 0], .int .i64 1]) (by simp [results, Tryd.results22, go_sem]) rfl ⟨_, rfl, hP.out _, ?_⟩
  exact bal (b0 w) _
 ·have e1 : ((s.size : Int) != 32) = true := bne_iff_ne.2 (by omega)
  clear hs hd dM dE h1
  go_enter Tryd.func22, Tryd.ntmps22
  go_wp2
  refine bodyPost_ret (v := .tuple #[.agg #[.int .i64 0, .int .i64 0, .int .i64 0, .slice none 0 0, .slice none 0 0], .int .i64 1]) (by simp [results, Tryd.results22, go_sem]) rfl ⟨_, rfl, hP.out _, ?_⟩
  exact bal (b0 w) _
end Go.Proofs.YtjhmfljlclajnacDoor
namespace Go.Proofs.YtjhmfljlclajnacDoor
open Go.RowKit Wb
theorem stamp_DecodeO (s : ByteArray) (w : World) (hz : s.size ≤ 9223372036854775807) :
    Calls Tryd.prog 22 #[.string s] w fun e w' => ∃ v, e = .returned (.tuple #[v, .int .i64 (decE s)]) ∧ OMark w.heap.size w' v (decM s) ∧ Below w.heap.size w w' := by
 by_cases h : okS s
 ·exact stamp_Decode_ok s w h
 ·exact stamp_Decode_no s w h hz
end Go.Proofs.YtjhmfljlclajnacDoor
