/- Parts of the proof: LSeW SlTy Fld Chunk ComP SealA RowI TxnA SealB SealC SealD BlkC TxnC. -/
import Derived.Test.YtjhmfljlclajnacDoorKSealWhole3
import Derived.Test.YtjhmfljlclajnacDoorKSealWhole4
import Derived.Test.YtjhmfljlclajnacDoorKSealWhole1
import Derived.Test.YtjhmfljlclajnacDoorKSealWhole0
import Derived.Test.YtjhmfljlclajnacDoorKSealWhole2
import Derived.Shelf.Abstract
import Derived.OwnWalkIn
import Derived.TacticsInMore
import Derived.LoopNIn
import Derived.LoopIn
import Derived.Test.YtjhmfljlclajnacDoorURegCall
import Derived.Deep.LoopGhost
import Derived.Deep.QuietTactic
import Derived.BigQuiet
import Derived.Lib.SmallJoins
import Derived.Deep.CutBlock
import Derived.Deep.DeepCutAuto
import Derived.Test.YtjhmfljlclajnacDoorUEnc
import Derived.Test.YtjhmfljlclajnacDoorUBase
set_option linter.unusedVariables false
set_option linter.unusedSimpArgs false
namespace Wb
open Go Go.RowKit
theorem St.rdNm {S : List Nat} {w0 w : World} {L : List Ent} {R : List Rd} (_ : St S w0 w L R) : ∃ R', R' = R := ⟨_, rfl⟩
theorem St.gs3w {S : List Nat} {w0 w : World} {a b c : Nat} {ca cb cc : List Value} {ta tb tc : TypeId} {L : List Ent} {R : List Rd} (_ : St S w0 w (⟨a, ca, ta⟩ :: ⟨b, cb, tb⟩ :: ⟨c, cc, tc⟩ :: L) R) : ∃ x1 x2 x3, x1 = a ∧ x2 = b ∧ x3 = c := ⟨_, _, _, rfl, rfl, rfl⟩
theorem St.tvM {S : List Nat} {w0 w : World} {L : List Ent} {R : List Rd} (X : St S w0 w L R) {v : Value} {xs : List TV} (hf : ∀ x ∈ xs, x.fits) (h : ∀ r ∈ txR v xs, r ∈ R) {x : TV} (hx : x ∈ xs) : RTxn w (.agg (tvC x).toArray) x.t := by
 have hm := fun r hr => (X.rd r (h r (.tail _ (List.mem_flatMap.2 ⟨x, hx, hr⟩)))).1
 exact ⟨x.m.val, x.d.val, x.r.val, rfl, hm _ (.head _), hm _ (.tail _ (.head _)), hm _ (.tail _ (.tail _ (.head _))), hf x hx⟩
theorem mem2w {α : Type} {a b r : α} {R : List α} (h : r ∈ [a, b]) : r ∈ a :: b :: R := by
 rcases List.mem_cons.1 h with rfl | h
 ·exact .head _
 ·rcases List.mem_singleton.1 h with rfl; exact .tail _ (.head _)
end Wb
namespace Go.Proofs.YtjhmfljlclajnacDoor
open Go.RowKit Wb
set_option maxRecDepth 100000
set_option maxHeartbeats 16000000
theorem tv_same {xs ys : List TV} {fl gl tl : List Txn} (h1 : xs.map (·.t) = fl) (h2 : ys.map (·.t) = gl) (h3 : gl = fl ++ tl) (n : Nat) (h : n < fl.length) : ∃ (_ : n < xs.length) (_ : n < ys.length), alikeP xs[n].t ys[n].t := by
 have e1 := congrArg List.length h1
 have e2 := congrArg List.length h2
 have e3 := congrArg List.length h3
 simp only [List.length_map, List.length_append] at e1 e2 e3
 refine ⟨by omega, by omega, ?_⟩
 have e : xs[n]?.map (·.t) = ys[n]?.map (·.t) := by rw [← List.getElem?_map, ← List.getElem?_map, h1, h2, h3, List.getElem?_append_left h]
 rw [List.getElem?_eq_getElem (show n < xs.length by omega), List.getElem?_eq_getElem (show n < ys.length by omega)] at e
 have e4 : xs[n].t = ys[n].t := Option.some.inj e
 rw [e4]
 exact ⟨rfl, rfl, rfl⟩
theorem tv_last {ys : List TV} {fl gl : List Txn} {u : Txn} (h2 : ys.map (·.t) = gl) (h3 : gl = fl ++ [u]) : ∃ (_ : fl.length < ys.length), ys[fl.length].t = u := by
 have e2 := congrArg List.length h2
 have e3 := congrArg List.length h3
 simp only [List.length_map, List.length_append, List.length_singleton] at e2 e3
 refine ⟨by omega, ?_⟩
 have e : ys[fl.length]?.map (·.t) = some u := by rw [← List.getElem?_map, h2, h3]; simp
 rw [List.getElem?_eq_getElem (show fl.length < ys.length by omega)] at e
 exact Option.some.inj e
theorem tv_row {w : World} {v : Value} {xs : List TV} {k : Nat} (h : RL tvC w v xs) (hk : k < xs.length) : ∃ b off cap, v = .slice (some ⟨b, off, none⟩) xs.length cap := by
 obtain ⟨a, cap, rfl, h1, h2, h3⟩ := h
 rcases h3 with h3 | ⟨b, off, rfl, _⟩
 ·exfalso
  cases xs with
  | nil => exact absurd hk (Nat.not_lt_zero _)
  | cons x r => simp [tvC] at h3
 ·exact ⟨_, _, _, rfl⟩
instance fieldSeA : FieldT Tryd.prog 31 0 0 := ⟨fun _ _ _ => by kernel_rfl⟩
instance fieldSeC : FieldT Tryd.prog 31 2 2 := ⟨fun _ _ _ => by kernel_rfl⟩
theorem law_SealWhole (hDec : ∀ (s : ByteArray) (w : World), s.size ≤ 9223372036854775807 → Calls Tryd.prog 22 #[.string s] w fun e w' => ∃ v, e = .returned (.tuple #[v, .int .i64 (decE s)]) ∧ OMark w.heap.size w' v (decM s) ∧ Below w.heap.size w w')
    (hSc : ∀ (d : Dsk) (v : Value) (w : World), RDisk w v d → Calls Tryd.prog 6 #[v] w fun e w' => ∃ v', e = .returned (.tuple #[v', .int .i64 (scanE d)]) ∧ OFnd w.heap.size 55 46 3 w' v' (scanF d) ∧ Below w.heap.size w w')
    (hSe : ∀ w, Sl w (flR 0).v 1 (flR 0).cs → Calls Tryd.prog 16 #[] w fun e w' => e = .returned (.bool true) ∧ Below w.heap.size w w')
    (hCo : ∀ (r : Ring) (t : Txn) (v : Value) (w : World), RTxn w v t → Sl w (flR 0).v 1 (flR 0).cs → Calls Tryd.prog 17 #[r.val, v] w fun e w' => ∃ v', e = .returned (.tuple #[(comR r t).val, v', .int .i64 (comE r t)]) ∧ Wb.Own stpC w.heap.size 84 3 w' v' (comL r t) ∧ Below w.heap.size w w')
    (d : Dsk) (t : Txn) (steps draw : Int) (v vt : Value) (w0 : World) (hd : RDisk w0 v d) (ht : RTxn w0 vt t) (hF : Sl w0 (flR 0).v 1 (flR 0).cs) :
    Calls Tryd.prog 4 #[v, vt, .int .i64 steps, .int .i64 draw] w0 fun e w' => e = .returned (.bool true) ∧ Below w0.heap.size w0 w' := by
 have hFl := fun v w (h : RDisk w v d) => disk_Flush d v w h
 obtain ⟨as_, cs, aw, cw, rfl, h1, h2, n1, n2⟩ := hd.form
 obtain ⟨vm, vd, vr, rfl, hm, hdt, hr, z1, z2, z3⟩ := ht
 have X : St [] w0 w0 [] (Rd.of cpyC vm t.mt :: Rd.of cpyC vd t.dt :: Rd.of intC vr t.rev :: dskR as_ cs aw cw d) := (((((St.start [] w0).addR0 h2).addR0 h1).addR0 hr).addR0 hdt).addR0 hm
 obtain ⟨am, cm, rfl, _⟩ := hm.form
 obtain ⟨ad, cd, rfl, _⟩ := hdt.form
 obtain ⟨ar, cr, rfl, _⟩ := hr.form
 clear h1 h2 hm hdt hr
 unfold txnV
 obtain ⟨RA, hRA⟩ := X.rdNm
 have mD : ∀ r ∈ dskR as_ cs aw cw d, r ∈ RA := fun r hr => by rw [hRA]; exact .tail _ (.tail _ (.tail _ hr))
 have mM : Rd.of cpyC (.slice am t.mt.length cm) t.mt ∈ RA := by rw [hRA]; exact .head _
 have mT : Rd.of cpyC (.slice ad t.dt.length cd) t.dt ∈ RA := by rw [hRA]; exact .tail _ (.head _)
 have mR : Rd.of intC (.slice ar t.rev.length cr) t.rev ∈ RA := by rw [hRA]; exact .tail _ (.tail _ (.head _))
 rw [← hRA] at X
 clear hRA
 obtain ⟨t1, ht1⟩ : ∃ t1 : Txn, { t with seq := (scanF (flushD d)).next } = t1 := ⟨_, rfl⟩
 have hq1 : t1.seq = (scanF (flushD d)).next := by rw [← ht1]
 have hal : alikeP (logOf t1) t1 := ⟨rfl, rfl, rfl⟩
 have hwp := fun k x e1 e2 e3 => whole_pure (d := d) (t := t1) (k := k) (x := x) e1 e2 e3 hq1
 have hT1 : ∀ (w : World) (L : List Ent) (R : List Rd), St [] w0 w L R → (∀ r ∈ RA, r ∈ R) → RTxn w (.agg #[.int .i64 (scanF (flushD d)).next, .slice am t.mt.length cm, .slice ad t.dt.length cd, .slice ar t.rev.length cr, .bool t.h0.on, .int .i64 t.h0.left, .bool t.h1.on, .int .i64 t.h1.left, .bool t.h2.on, .int .i64 t.h2.left]) t1 :=
  fun w L R X h => by rw [← ht1]; exact ⟨_, _, _, rfl, X.read (h _ mM), X.read (h _ mT), X.read (h _ mR), z1, z2, z3⟩
 clear ht1 hq1 hd
 generalize flushE d = fe at *
 generalize flushD d = D at *
 have hS := fun v w (h : RDisk w v D) => hSc D v w h
 have hL := fun v w (h : RDisk w v D) => keep_later hDec D (scanF D).next v w h
 have hfl := scanF_len2 D
 have hSe2 := fun w (hb : Below w0.heap.size w0 w) => hSe w (hF.below hb)
 have hUs := fun v a cap w (h : RDisk w v D) => keep_used hDec D (scanF D) v a cap w h
 have hCm := fun v w (h : RTxn w v t1) (hb : Below w0.heap.size w0 w) => hCo ⟨(scanF D).at_, usedI D (scanF D)⟩ t1 v w h (hF.below hb)
 simp only [Ring.val] at hCm
 have hKr := fun l v vl w (h : RDisk w v D) (h2 : RL stpC w vl l) hl => keep_run D l v vl w h h2 hl
 obtain ⟨sE, hsE⟩ : ∃ e, scanE D = e := ⟨_, rfl⟩
 obtain ⟨lB, hlB⟩ : ∃ b, laterB D (scanF D).next = b := ⟨_, rfl⟩
 rw [hsE] at hS
 rw [hlB] at hL
 replace hwp := hid hwp; replace hUs := hid hUs; replace hsE := hid hsE; replace hlB := hid hlB; replace hT1 := hid hT1; replace hSe2 := hid hSe2; replace hFl := hid hFl; replace hS := hid hS; replace hL := hid hL; replace mD := hid mD; replace hCm := hid hCm; replace hKr := hid hKr; replace hal := hid hal; replace hSc := hid hSc
 clear hSe hCo hDec mM mT mR z1 z2 z3
 generalize t.mt.length = nm, t.dt.length = nd, t.rev.length = nr at *
 obtain ⟨ts, tm, td, tr, ⟨o0, l0⟩, ⟨o1, l1⟩, ⟨o2, l2⟩⟩ := t
 dsimp only at *
 generalize hFF : scanF D = F at *
 obtain ⟨fl, fn, fa⟩ := F
 dsimp only at *
 replace hFF := hid hFF
 go_enter Tryd.func4, Tryd.ntmps4
 go_upto_region 1 with (first
  | (refine Zbx ?_; clear X; intro g w X))
 go_upto_region 4 with (first
  | go_skip
  | (refine ZyL ?_) | (refine ZyS ?_; clear X; intro w X) | (refine ZyA ?_; clear X; intro g w X)
  | (go_at_call 5; go_loud ((with_reducible refine (hFl.out _ _ (X.dskM n1 n2 mD.out)).mono ?_); rintro e w1 ⟨v1, rfl, hr1, hb1⟩; obtain ⟨as2, cs2, aw2, cw2, rfl, f1, f2, m1, m2⟩ := hr1.form; replace X := (X.call hb1).addDskS f1 f2 (by simp [noStr]); clear hb1 hr1 f1 f2))
  | (go_at_call 6; go_loud ((with_reducible refine (hS.out _ _ (X.dsk m1 m2)).mono ?_); rintro e w2 ⟨v2, rfl, ⟨vt, rfl, of1⟩, hb2⟩; obtain ⟨at1, ct1, rfl⟩ := of1.form; obtain ⟨xs, hxs, hxf, X2⟩ := X.addOTxns hb2 of1; replace X := X2; clear hb2 of1 X2)))
 obtain ⟨g9, g5, g4, rfl, rfl, rfl⟩ := X.gs3w
 obtain ⟨RR, hRR⟩ := X.rdNm
 have mRA : ∀ r ∈ RA, r ∈ RR := fun r hr => by rw [hRR]; exact List.mem_append_right _ (.tail _ (.tail _ hr))
 have mDk : ∀ r ∈ dskR as2 cs2 aw2 cw2 D, r ∈ RR := fun r hr => by rw [hRR]; exact List.mem_append_right _ (mem2w hr)
 have mTx : ∀ r ∈ txR (.slice at1 fl.length ct1) xs, r ∈ RR := fun r hr => by rw [hRR]; exact List.mem_append_left _ hr
 rw [← hRR] at X
 clear hRR hFl hS mD n1 n2
 replace mRA := hid mRA; replace mDk := hid mDk; replace mTx := hid mTx
 by_cases he : sE = 0
 ·subst he
  by_cases hn : fn < 2147483646
  ·have hn2 : decide ((2147483646 : Int) ≤ fn) = false := decide_eq_false (by omega)
   cases lB with
   | true =>
    go_wp2_with (first
     | (refine ZyL ?_) | (refine ZyS ?_; clear X; intro w X) | (refine ZyA ?_; clear X; intro g w X)
     | (go_at_call 16; go_loud ((with_reducible refine (hSe2.out _ X.below).mono ?_); rintro e w1 ⟨rfl, hb1⟩; replace X := X.call hb1; clear hb1))
     | (go_at_call 9; go_loud ((with_reducible refine (hL.out _ _ (X.dskM m1 m2 mDk.out)).mono ?_); rintro e w1 ⟨rfl, hb1⟩; replace X := X.call hb1; clear hb1)))
    go_ret
    exact ⟨rfl, X.below⟩
   | false =>
    have hbd := scan_bounds hsE.out
    rw [hFF.out] at hbd
    have hsp := (scanE_zero hsE.out).2.2.2.1
    have hU := fun v a cap w h => hUs.out v a cap w h hbd.1 hsp
    clear hUs hsp hFF
    generalize usedI D ⟨fl, fn, fa⟩ = us at *
    generalize comR ⟨fa, us⟩ t1 = R2 at *
    obtain ⟨rh, ru⟩ := R2
    dsimp only at *
    have hcok := fun h => (com_ok (r := ⟨fa, us⟩) (t := t1) h).2
    generalize hCE : comE ⟨fa, us⟩ t1 = cE at *
    generalize comL ⟨fa, us⟩ t1 = CL at *
    replace hU := hid hU; replace hcok := hid hcok
    clear hCE
    go_upto_region 6 with (first
     | (refine ZyL ?_) | (refine ZyS ?_; clear X; intro w X) | (refine ZyA ?_; clear X; intro g w X)
     | (go_at_call 16; go_loud ((with_reducible refine (hSe2.out _ X.below).mono ?_); rintro e w1 ⟨rfl, hb1⟩; replace X := X.call hb1; clear hb1))
     | (go_at_call 9; go_loud ((with_reducible refine (hL.out _ _ (X.dskM m1 m2 mDk.out)).mono ?_); rintro e w1 ⟨rfl, hb1⟩; replace X := X.call hb1; clear hb1)))
    clear hSe2 hL
    go_cut [10, 12] (fun s10 s12 wx => ∃ (g11 : Nat) (a3 : Option Addr) (c3 : Nat), s10 = .int .i64 cE ∧ s12 = .slice a3 CL.length c3 ∧ St [] w0 wx [⟨g11, [.int .i64 rh, .int .i64 ru], 57⟩, ⟨g9, [.slice at1 fl.length ct1, .int .i64 fn, .int .i64 fa], 31⟩, ⟨g5, [.int .i64 fn, .slice am nm cm, .slice ad nd cd, .slice ar nr cr, .bool o0, .int .i64 l0, .bool o1, .int .i64 l1, .bool o2, .int .i64 l2], 55⟩, ⟨g4, [.slice as2 D.safe.length cs2, .slice aw2 D.writes.length cw2], 25⟩] (Rd.of stpC (.slice a3 CL.length c3) CL :: RR))
    case first =>
     (refine q_treeS 3 [] [4, 7, 12, 13] [1, 2, 3, 6] (.fork [0, 1, 2, 3, 6] (.fork [4, 5] (.fin [7, 8, 9, 10, 11, 12, 13, 14, 15]) (.fin [12, 7, 8, 9, 10, 11, 13, 14, 15])) (.fin [12, 4, 5, 7, 8, 9, 10, 11, 13, 14, 15])) X ?_; clear X; intro hQ X hL; simp only [zF, zG] at hL; simp only [zF, zG])
     have hQo := hQ
     refine t_fork (fun hQ => ?_) hQo
     (refine Zf ?_)
     (refine Zl ?_)
     (refine Zl ?_)
     (refine Zl ?_)
     (refine Zl ?_)
     refine t_two ?_ ?_
     ·have hQ := hQo
      refine t_fork (fun hQ => ?_) hQo
      (refine q_callS 18 Tryd.func18 (hU.out _ _ _ _ (X.dskM m1 m2 mDk.out)) ?_; rintro e w1 ⟨rfl, hb1⟩; replace X := X.call hb1; clear hb1; refine Zce ?_; clear hL; intro hL)
      (refine Zg ?_)
      refine t_two ?_ ?_
      ·have hQ := hQo
       refine t_fin ?_
       (refine q_callS 17 Tryd.func17 (hCm.out _ _ (hT1.out _ _ _ X mRA.out) X.below) ?_; rintro e w1 ⟨v3, rfl, ho1, hb1⟩; obtain ⟨a3, c3, rfl⟩ := ho1.form; replace X := X.addOwn hb1 ho1; clear hb1 ho1; refine Zce ?_; clear hL; intro hL)
       (refine Zm ?_)
       (refine Zx ?_)
       (refine Zx ?_)
       (refine Zx ?_)
       (refine Zq ?_; clear hL X; intro g w X hL)
       (refine Zs ?_; clear hL X; intro w X hL)
       (refine Za ?_)
       (refine Za ?_)
       refine q_nil ?_
       go_wp2
       go_meet
       exact ⟨_, _, _, rfl, rfl, X⟩
      ·have hQ := hQo
       refine t_fin ?_
       (refine Zq ?_; clear hL X; intro g w X hL)
       (refine q_callS 17 Tryd.func17 (hCm.out _ _ (hT1.out _ _ _ X mRA.out) X.below) ?_; rintro e w1 ⟨v3, rfl, ho1, hb1⟩; obtain ⟨a3, c3, rfl⟩ := ho1.form; replace X := X.addOwn hb1 ho1; clear hb1 ho1; refine Zce ?_; clear hL; intro hL)
       (refine Zm ?_)
       (refine Zx ?_)
       (refine Zx ?_)
       (refine Zx ?_)
       (refine Zs ?_; clear hL X; intro w X hL)
       (refine Za ?_)
       (refine Za ?_)
       refine q_nil ?_
       go_wp2
       go_meet
       exact ⟨_, _, _, rfl, rfl, X⟩
     ·have hQ := hQo
      refine t_fin ?_
      (refine Zq ?_; clear hL X; intro g w X hL)
      (refine q_callS 18 Tryd.func18 (hU.out _ _ _ _ (X.dskM m1 m2 mDk.out)) ?_; rintro e w1 ⟨rfl, hb1⟩; replace X := X.call hb1; clear hb1; refine Zce ?_; clear hL; intro hL)
      (refine Zg ?_)
      (refine q_callS 17 Tryd.func17 (hCm.out _ _ (hT1.out _ _ _ X mRA.out) X.below) ?_; rintro e w1 ⟨v3, rfl, ho1, hb1⟩; obtain ⟨a3, c3, rfl⟩ := ho1.form; replace X := X.addOwn hb1 ho1; clear hb1 ho1; refine Zce ?_; clear hL; intro hL)
      (refine Zm ?_)
      (refine Zx ?_)
      (refine Zx ?_)
      (refine Zx ?_)
      (refine Zs ?_; clear hL X; intro w X hL)
      (refine Za ?_)
      (refine Za ?_)
      refine q_nil ?_
      go_wp2
      go_meet
      exact ⟨_, _, _, rfl, rfl, X⟩
    clear X
    obtain ⟨g11, a3, c3, rfl, rfl, X⟩ := hcut
    clear hU hCm
    by_cases hc : cE = 0
    ·subst hc
     have hlc := hcok.out rfl
     obtain ⟨x, hx, hx0⟩ : ∃ x : Nat, draw % 1099511627776 = x ∧ x < 1099511627776 := ⟨(draw % 1099511627776).toNat, by omega, by omega⟩
     obtain ⟨k, hk, hk0⟩ : ∃ k : Nat, steps % ((CL.length : Int) + 1) = k ∧ k ≤ CL.length := by
      have h1 := Int.emod_nonneg steps (show (CL.length : Int) + 1 ≠ 0 by omega)
      have h2 := Int.emod_lt_of_pos steps (show (0 : Int) < (CL.length : Int) + 1 by omega)
      exact ⟨(steps % ((CL.length : Int) + 1)).toNat, by omega, by omega⟩
     have hP1 := fun w => keep_pick steps ((CL.length : Int) + 1) w (by omega) (by omega)
     have hP2 := fun w => keep_pick draw 1099511627776 w (by decide) (by decide)
     rw [hk] at hP1
     rw [hx] at hP2
     obtain ⟨hT0, hS0, hTx⟩ := hwp.out k x hsE.out hn hlB.out rfl hk0 (by omega)
     have hwk : IntKind.i64.wrap ((CL.length : Int) + 1) = (CL.length : Int) + 1 := IntWalk.i64_in _ (by omega)
     have hRu := fun v vl w (h : RDisk w v D) (h2 : RL stpC w vl (CL.take k)) => hKr.out (CL.take k) v vl w h h2 (by rw [List.length_take]; omega)
     clear hwp hKr hsE hlB hcok hx hk hn hn2 hbd
     generalize runD D (CL.take k) = DT at *
     have hCr := fun v w (h : RDisk w v DT) => disk_Crash DT (x : Int) v w h (by omega)
     rw [hT0] at hCr
     generalize crashD DT (x : Int) = XX at *
     have hS2 := fun v w (h : RDisk w v XX) => hSc.out XX v w h
     rw [hS0] at hS2
     have hgl := scanF_len2 XX
     clear hSc hT0 hS0
     generalize scanF XX = G at *
     obtain ⟨gl, gn, ga⟩ := G
     dsimp only at *
     replace hP1 := hid hP1; replace hP2 := hid hP2; replace hTx := hid hTx; replace hRu := hid hRu; replace hCr := hid hCr; replace hS2 := hid hS2
     obtain ⟨RQ, hRQ⟩ : ∃ RQ, Rd.of stpC (.slice a3 CL.length c3) CL :: RR = RQ := ⟨_, rfl⟩
     have mST : Rd.of stpC (.slice a3 CL.length c3) CL ∈ RQ := by rw [← hRQ]; exact .head _
     replace mDk := fun r hr => (by rw [← hRQ]; exact .tail _ (mDk.out r hr) : r ∈ RQ)
     replace mRA := fun r hr => (by rw [← hRQ]; exact .tail _ (mRA.out r hr) : r ∈ RQ)
     replace mTx := fun r hr => (by rw [← hRQ]; exact .tail _ (mTx.out r hr) : r ∈ RQ)
     rw [hRQ] at X
     clear hRQ
     have hc3 : CL.length ≤ c3 := by obtain ⟨_, _, h1, h2, _⟩ := (X.rd _ mST).1; simp only [Rd.of, Value.slice.injEq] at h1 h2; omega
     have hkc : (k : Int) ≤ (c3 : Int) := by omega
     replace mDk := hid mDk; replace mRA := hid mRA; replace mTx := hid mTx; replace mST := hid mST
     go_upto_region 10 with (first
      | (refine ZyL ?_) | (refine ZyS ?_; clear X; intro w X) | (refine ZyA ?_; clear X; intro g w X)
      | (go_at_call 12; go_loud ((with_reducible refine (hP1.out _).mono ?_); rintro e w1 ⟨rfl, rfl⟩)))
     clear hP1
     go_cut [10, 14] (fun s10 s14 wx => ∃ (g14 : Nat) (as4 aw4 : Option Addr) (cs4 cw4 : Nat), s10 = .int .i64 0 ∧ s14 = .pointer (some ⟨g14, 0, none⟩) ∧ XX.safe.length ≤ 8796093022208 ∧ XX.writes.length ≤ 5864062014805 ∧ St [] w0 wx [⟨g14, [.slice as4 XX.safe.length cs4, .slice aw4 XX.writes.length cw4], 25⟩, ⟨g9, [.slice at1 fl.length ct1, .int .i64 fn, .int .i64 fa], 31⟩, ⟨g5, [.int .i64 fn, .slice am nm cm, .slice ad nd cd, .slice ar nr cr, .bool o0, .int .i64 l0, .bool o1, .int .i64 l1, .bool o2, .int .i64 l2], 55⟩] (dskR as4 cs4 aw4 cw4 XX ++ RQ))
     case first =>
      (refine q_treeS 4 [] [4, 6, 7, 11, 12] [0] (.fork [0, 1, 2, 3, 5] (.fork [4] (.fork [6] (.fin [7, 8, 9, 10, 11, 12, 13]) (.fin [11, 7, 8, 9, 10, 12, 13])) (.fin [11, 6, 7, 8, 9, 10, 12, 13])) (.fin [11, 4, 6, 7, 8, 9, 10, 12, 13])) X ?_; clear X; intro hQ X hL; simp only [zF, zG] at hL; simp only [zF, zG])
      have hQo := hQ
      refine t_fork (fun hQ => ?_) hQo
      (refine Zl ?_)
      (refine Zm ?_)
      (refine Zm ?_)
      (refine Zg ?_)
      (refine Zm ?_)
      refine t_two ?_ ?_
      ·have hQ := hQo
       refine t_fork (fun hQ => ?_) hQo
       (refine q_callS 14 Tryd.func14 (hRu.out _ _ _ (X.dskM m1 m2 mDk.out) (RL.take (X.rd _ mST.out).1 hk0)) ?_; rintro e w1 ⟨v9, rfl, hr1, hb1⟩; obtain ⟨as5, cs5, aw5, cw5, rfl, f1, f2, q1, q2⟩ := hr1.form; replace X := (X.call hb1).addDskS f1 f2 (by simp [noStr]); clear hb1 hr1 f1 f2; refine Zce ?_; clear hL; intro hL)
       refine t_two ?_ ?_
       ·have hQ := hQo
        refine t_fork (fun hQ => ?_) hQo
        (refine q_callS 12 Tryd.func12 (hP2.out _) ?_; rintro e w1 ⟨rfl, rfl⟩; refine Zce ?_; clear hL; intro hL)
        refine t_two ?_ ?_
        ·have hQ := hQo
         refine t_fin ?_
         (refine q_callS 13 Tryd.func13 (hCr.out _ _ (X.dsk q1 q2)) ?_; rintro e w1 ⟨v8, rfl, hr1, hb1⟩; obtain ⟨as4, cs4, aw4, cw4, rfl, f1, f2, m3, m4⟩ := hr1.form; replace X := (X.call hb1).addDskS f1 f2 (by simp [noStr]); clear hb1 hr1 f1 f2; refine Zce ?_; clear hL; intro hL)
         (refine Zm ?_)
         (refine Zx ?_)
         (refine Zx ?_)
         (refine Zq ?_; clear hL X; intro g w X hL)
         (refine Zs ?_; clear hL X; intro w X hL)
         (refine Za ?_)
         refine q_nil ?_
         go_wp2
         go_meet
         exact ⟨_, _, _, _, _, rfl, rfl, m3, m4, X.less (List.Sublist.cons_cons _ (List.Sublist.cons _ (List.Sublist.cons_cons _ (List.Sublist.cons_cons _ (List.Sublist.cons _ (List.nil_sublist _)))))) (fun r hr => (List.mem_append.1 hr).elim (fun h => mem2w h) (fun h => .tail _ (.tail _ (.tail _ (.tail _ h)))))⟩
        ·have hQ := hQo
         refine t_fin ?_
         (refine Zq ?_; clear hL X; intro g w X hL)
         (refine q_callS 13 Tryd.func13 (hCr.out _ _ (X.dsk q1 q2)) ?_; rintro e w1 ⟨v8, rfl, hr1, hb1⟩; obtain ⟨as4, cs4, aw4, cw4, rfl, f1, f2, m3, m4⟩ := hr1.form; replace X := (X.call hb1).addDskS f1 f2 (by simp [noStr]); clear hb1 hr1 f1 f2; refine Zce ?_; clear hL; intro hL)
         (refine Zm ?_)
         (refine Zx ?_)
         (refine Zx ?_)
         (refine Zs ?_; clear hL X; intro w X hL)
         (refine Za ?_)
         refine q_nil ?_
         go_wp2
         go_meet
         exact ⟨_, _, _, _, _, rfl, rfl, m3, m4, X.less (List.Sublist.cons_cons _ (List.Sublist.cons _ (List.Sublist.cons_cons _ (List.Sublist.cons_cons _ (List.Sublist.cons _ (List.nil_sublist _)))))) (fun r hr => (List.mem_append.1 hr).elim (fun h => mem2w h) (fun h => .tail _ (.tail _ (.tail _ (.tail _ h)))))⟩
       ·have hQ := hQo
        refine t_fin ?_
        (refine Zq ?_; clear hL X; intro g w X hL)
        (refine q_callS 12 Tryd.func12 (hP2.out _) ?_; rintro e w1 ⟨rfl, rfl⟩; refine Zce ?_; clear hL; intro hL)
        (refine q_callS 13 Tryd.func13 (hCr.out _ _ (X.dsk q1 q2)) ?_; rintro e w1 ⟨v8, rfl, hr1, hb1⟩; obtain ⟨as4, cs4, aw4, cw4, rfl, f1, f2, m3, m4⟩ := hr1.form; replace X := (X.call hb1).addDskS f1 f2 (by simp [noStr]); clear hb1 hr1 f1 f2; refine Zce ?_; clear hL; intro hL)
        (refine Zm ?_)
        (refine Zx ?_)
        (refine Zx ?_)
        (refine Zs ?_; clear hL X; intro w X hL)
        (refine Za ?_)
        refine q_nil ?_
        go_wp2
        go_meet
        exact ⟨_, _, _, _, _, rfl, rfl, m3, m4, X.less (List.Sublist.cons_cons _ (List.Sublist.cons _ (List.Sublist.cons_cons _ (List.Sublist.cons_cons _ (List.Sublist.cons _ (List.nil_sublist _)))))) (fun r hr => (List.mem_append.1 hr).elim (fun h => mem2w h) (fun h => .tail _ (.tail _ (.tail _ (.tail _ h)))))⟩
      ·have hQ := hQo
       refine t_fin ?_
       (refine Zq ?_; clear hL X; intro g w X hL)
       (refine q_callS 14 Tryd.func14 (hRu.out _ _ _ (X.dskM m1 m2 mDk.out) (RL.take (X.rd _ mST.out).1 hk0)) ?_; rintro e w1 ⟨v9, rfl, hr1, hb1⟩; obtain ⟨as5, cs5, aw5, cw5, rfl, f1, f2, q1, q2⟩ := hr1.form; replace X := (X.call hb1).addDskS f1 f2 (by simp [noStr]); clear hb1 hr1 f1 f2; refine Zce ?_; clear hL; intro hL)
       (refine q_callS 12 Tryd.func12 (hP2.out _) ?_; rintro e w1 ⟨rfl, rfl⟩; refine Zce ?_; clear hL; intro hL)
       (refine q_callS 13 Tryd.func13 (hCr.out _ _ (X.dsk q1 q2)) ?_; rintro e w1 ⟨v8, rfl, hr1, hb1⟩; obtain ⟨as4, cs4, aw4, cw4, rfl, f1, f2, m3, m4⟩ := hr1.form; replace X := (X.call hb1).addDskS f1 f2 (by simp [noStr]); clear hb1 hr1 f1 f2; refine Zce ?_; clear hL; intro hL)
       (refine Zm ?_)
       (refine Zx ?_)
       (refine Zx ?_)
       (refine Zs ?_; clear hL X; intro w X hL)
       (refine Za ?_)
       refine q_nil ?_
       go_wp2
       go_meet
       exact ⟨_, _, _, _, _, rfl, rfl, m3, m4, X.less (List.Sublist.cons_cons _ (List.Sublist.cons _ (List.Sublist.cons_cons _ (List.Sublist.cons_cons _ (List.Sublist.cons _ (List.nil_sublist _)))))) (fun r hr => (List.mem_append.1 hr).elim (fun h => mem2w h) (fun h => .tail _ (.tail _ (.tail _ (.tail _ h)))))⟩
     clear X
     obtain ⟨g14, as4, aw4, cs4, cw4, rfl, rfl, m3, m4, X⟩ := hcut
     clear hRu hCr hP2 hc3 hkc mST mDk hwk
     obtain ⟨tl, htl, hll⟩ : ∃ tl, gl = fl ++ tl ∧ tl.length ≤ 1 := by
      rcases hTx.out with ⟨h, _⟩ | ⟨h, _⟩
      ·exact ⟨[], by rw [h, List.append_nil], Nat.zero_le _⟩
      ·exact ⟨_, h, Nat.le_refl _⟩
     have hlg : gl.length = fl.length + tl.length := by rw [htl, List.length_append]
     have hd1 : decide ((gl.length : Int) < (fl.length : Int)) = false := decide_eq_false (by omega)
     have hd4 : decide (gl.length < fl.length) = false := decide_eq_false (by omega)
     have hd2 : decide ((1 : Int) < (gl.length : Int) - (fl.length : Int)) = false := decide_eq_false (by omega)
     have hd3 : IntKind.i64.wrap ((gl.length : Int) - (fl.length : Int)) = (gl.length : Int) - (fl.length : Int) := IntWalk.i64_in _ (by omega)
     replace htl := hid htl; replace hlg := hid hlg
     go_upto_region 12 with (first
      | (refine ZyL ?_) | (refine ZyS ?_; clear X; intro w X) | (refine ZyA ?_; clear X; intro g w X)
      | (go_at_call 6; go_loud ((with_reducible refine (hS2.out _ _ (X.dskM m3 m4 (fun r hr => List.mem_append_left _ hr))).mono ?_); rintro e w2 ⟨v2, rfl, ⟨vt, rfl, of1⟩, hb2⟩; obtain ⟨at2, ct2, rfl⟩ := of1.form; obtain ⟨ys, hys, hyf, X2⟩ := X.addOTxns hb2 of1; replace X := X2; clear hb2 of1 X2)))
     clear hS2
     go_wp2_with (first
      | (refine ZyL ?_) | (refine ZyS ?_; clear X; intro w X) | (refine ZyA ?_; clear X; intro g w X))
     obtain ⟨g15, g14', g9', rfl, rfl, rfl⟩ := X.gs3w
     obtain ⟨RW, hRW⟩ := X.rdNm
     have mTy : ∀ r ∈ txR (.slice at2 gl.length ct2) ys, r ∈ RW := fun r hr => by rw [hRW]; exact List.mem_append_left _ hr
     replace mTx := fun r hr => (by rw [hRW]; exact List.mem_append_right _ (List.mem_append_right _ (mTx.out r hr)) : r ∈ RW)
     replace mRA := fun r hr => (by rw [hRW]; exact List.mem_append_right _ (List.mem_append_right _ (mRA.out r hr)) : r ∈ RW)
     rw [← hRW] at X
     clear hRW
     replace mTx := hid mTx; replace mTy := hid mTy; replace mRA := hid mRA
     replace X := X.less (List.Sublist.cons_cons _ (List.Sublist.cons _ (List.Sublist.refl _))) (fun r hr => hr)
     clear hd1 hd2 hd3 hd4
     go_loopw [113] (fun i wr => ∃ n : Nat, n ≤ fl.length ∧ i = .int .i64 n ∧ St [] w0 wr [⟨g15, [.slice at2 gl.length ct2, .int .i64 gn, .int .i64 ga], 31⟩, ⟨g9', [.slice at1 fl.length ct1, .int .i64 fn, .int .i64 fa], 31⟩, ⟨g5, [.int .i64 fn, .slice am nm cm, .slice ad nd cd, .slice ar nr cr, .bool o0, .int .i64 l0, .bool o1, .int .i64 l1, .bool o2, .int .i64 l2], 55⟩] RW) (fun i _ => fl.length - (intOf i).toNat)
     case atStart => exact ⟨0, Nat.zero_le _, rfl, X⟩
     case round =>
      clear X
      obtain ⟨n, hn, rfl, X⟩ := hrel
      by_cases hlt : n < fl.length
      ·obtain ⟨k1, k2, hal2⟩ := tv_same hxs hys htl.out n hlt
       obtain ⟨b1, o1', c1', hv1⟩ := tv_row (X.read (mTx.out _ (.head _))) k1
       obtain ⟨b2, o2', c2', hv2⟩ := tv_row (X.read (mTy.out _ (.head _))) k2
       simp only [Value.slice.injEq] at hv1 hv2
       obtain ⟨rfl, _, rfl⟩ := hv1
       obtain ⟨rfl, _, rfl⟩ := hv2
       have mX : Rd.of tvC (.slice (some ⟨b1, o1', none⟩) fl.length ct1) xs ∈ RW := mTx.out _ (.head _)
       have mY : Rd.of tvC (.slice (some ⟨b2, o2', none⟩) gl.length ct2) ys ∈ RW := mTy.out _ (.head _)
       have hlt2 : n < gl.length := by have := hlg.out; omega
       have hAl := fun w (X : St [] w0 w [⟨g15, [.slice (some ⟨b2, o2', none⟩) gl.length ct2, .int .i64 gn, .int .i64 ga], 31⟩, ⟨g9', [.slice (some ⟨b1, o1', none⟩) fl.length ct1, .int .i64 fn, .int .i64 fa], 31⟩, ⟨g5, [.int .i64 fn, .slice am nm cm, .slice ad nd cd, .slice ar nr cr, .bool o0, .int .i64 l0, .bool o1, .int .i64 l1, .bool o2, .int .i64 l2], 55⟩] RW) => keep_alike xs[n].t ys[n].t hal2 _ _ w (X.tvM hxf mTx.out (List.getElem_mem k1)) (X.tvM hyf mTy.out (List.getElem_mem k2))
       replace hAl := hid hAl; replace mX := hid mX; replace mY := hid mY
       clear hal2
       go_upto_region 17 with (first
        | (refine ZyL ?_) | (refine ZyS ?_; clear X; intro w X) | (refine ZyA ?_; clear X; intro g w X))
       (refine q_startS 2 [] [10] [1, 4, 6, 9] [0, 1, 2, 3, 4, 5, 6, 7, 8, 9, 10, 11] X ?_; clear X; intro hQ X hL; simp only [zF, zG] at hL; simp only [zF, zG])
       (refine Zf ?_)
       (refine Zl ?_)
       (refine Zm ?_)
       (refine Zg ?_)
       refine q_elemN (f := tvC) (c := 10) (fun _ => rfl) k1 rfl rfl mX.out Zev rfl rfl X hL hQ ?_
       (simp only [Act.put, zA, zB, zC, zD, zE, zF, zG, Nat.reduceAdd])
       (refine Zf ?_)
       (refine Zl ?_)
       (refine Zm ?_)
       (refine Zg ?_)
       refine q_elemN (f := tvC) (c := 10) (fun _ => rfl) k2 rfl rfl mY.out Zev rfl rfl X hL hQ ?_
       (simp only [Act.put, zA, zB, zC, zD, zE, zF, zG, Nat.reduceAdd])
       (refine q_callS 19 Tryd.func19 (hAl.out _ X) ?_; rintro e w1 ⟨rfl, hb1⟩; replace X := X.call hb1; clear hb1; refine Zce ?_; clear hL; intro hL)
       (refine Zg ?_)
       refine q_nil ?_
       go_wp2
       go_roundw
       case rel => exact ⟨n + 1, by omega, by go_num, X⟩
       case measure => simp [intOf]; omega
      ·obtain rfl : n = fl.length := by omega
       have hwc : IntKind.i64.wrap ((CL.length : Int) - 1) = (CL.length : Int) - 1 := IntWalk.i64_in _ (by omega)
       rcases hTx.out with ⟨hg, hk2⟩ | ⟨hg, hk2⟩
       ·have hgt : decide ((fl.length : Int) < (gl.length : Int)) = false := decide_eq_false (by rw [hg]; omega)
        have hgt2 : decide (fl.length < gl.length) = false := decide_eq_false (by rw [hg]; omega)
        have hk3 : decide ((k : Int) < (CL.length : Int)) = true := decide_eq_true (by omega)
        have hk4 : decide (k < CL.length) = true := decide_eq_true (by omega)
        clear hg hal htl
        go_upto_region 21 with (first
         | (refine ZyL ?_) | (refine ZyS ?_; clear X; intro w X) | (refine ZyA ?_; clear X; intro g w X))
        by_cases hq : (CL.length : Int) - 1 ≤ (k : Int)
        ·have hq2 : decide ((CL.length : Int) - 1 ≤ (k : Int)) = true := decide_eq_true hq
         (refine q_startS 3 [] [11] [4, 6, 9, 10] [0, 1, 2, 3, 4, 5, 6, 7, 8, 9, 10, 11, 12, 13, 14, 15, 16, 17, 18, 19, 20, 21, 22, 23, 24, 25, 26, 27, 28, 29, 30, 31, 32, 33] X ?_; clear X; intro hQ X hL; simp only [zF, zG] at hL; simp only [zF, zG])
         (refine Zm ?_)
         (refine Zg ?_)
         (refine Zm ?_)
         (refine Zk ?_)
         (refine Zk ?_)
         (refine Zk ?_)
         (refine Zk ?_)
         (refine Zk ?_)
         (refine Zk ?_)
         (refine Zk ?_)
         (refine Zk ?_)
         (refine Zk ?_)
         (refine Zg ?_)
         (refine Zm ?_)
         (refine Zm ?_)
         (refine Zm ?_)
         (refine Zg ?_)
         (refine Zg ?_)
         (refine Zm ?_)
         (refine Zk ?_)
         (refine Zg ?_)
         (refine Zg ?_)
         (refine Zm ?_)
         (refine Zm ?_)
         (refine Zm ?_)
         (refine Zg ?_)
         (refine Zg ?_)
         (refine Zg ?_)
         (refine Zm ?_)
         (refine Zk ?_)
         (refine Zk ?_)
         (refine Zg ?_)
         (refine Zg ?_)
         (refine Za ?_)
         refine q_nil ?_
         go_wp2
         go_ret
         exact ⟨rfl, X.below⟩
        ·have hq2 : decide ((CL.length : Int) - 1 ≤ (k : Int)) = false := decide_eq_false hq
         (refine q_startS 3 [] [11] [4, 6, 9, 10] [0, 1, 2, 3, 4, 5, 6, 7, 8, 9, 10, 11, 12, 13, 14, 15, 16, 17, 18, 19, 20, 21, 22, 23, 24, 25, 26, 27, 28, 29, 30, 31, 32, 33] X ?_; clear X; intro hQ X hL; simp only [zF, zG] at hL; simp only [zF, zG])
         (refine Zm ?_)
         (refine Zg ?_)
         (refine Zm ?_)
         (refine Zk ?_)
         (refine Zk ?_)
         (refine Zk ?_)
         (refine Zk ?_)
         (refine Zk ?_)
         (refine Zk ?_)
         (refine Zk ?_)
         (refine Zk ?_)
         (refine Zk ?_)
         (refine Zg ?_)
         (refine Zm ?_)
         (refine Zm ?_)
         (refine Zm ?_)
         (refine Zg ?_)
         (refine Zg ?_)
         (refine Zm ?_)
         (refine Zk ?_)
         (refine Zg ?_)
         (refine Zg ?_)
         (refine Zm ?_)
         (refine Zm ?_)
         (refine Zm ?_)
         (refine Zg ?_)
         (refine Zg ?_)
         (refine Zg ?_)
         (refine Zm ?_)
         (refine Zm ?_)
         (refine Zg ?_)
         (refine Zg ?_)
         (refine Zg ?_)
         (refine Za ?_)
         refine q_nil ?_
         go_wp2
         go_ret
         exact ⟨rfl, X.below⟩
       ·obtain ⟨k2, hlast⟩ := tv_last hys hg
        have hgl2 : gl.length = fl.length + 1 := by rw [hg, List.length_append, List.length_singleton]
        have hgt : decide ((fl.length : Int) < (gl.length : Int)) = true := decide_eq_true (by omega)
        have hgt2 : decide (fl.length < gl.length) = true := decide_eq_true (by omega)
        have hlt2 : fl.length < gl.length := by omega
        have hq2 : decide ((CL.length : Int) - 1 ≤ (k : Int)) = true := decide_eq_true (by omega)
        have hal2 : alikeP ys[fl.length].t t1 := by rw [hlast]; exact hal.out
        obtain ⟨b2, o2', c2', hv2⟩ := tv_row (X.read (mTy.out _ (.head _))) k2
        simp only [Value.slice.injEq] at hv2
        obtain ⟨rfl, _, rfl⟩ := hv2
        have mY : Rd.of tvC (.slice (some ⟨b2, o2', none⟩) gl.length ct2) ys ∈ RW := mTy.out _ (.head _)
        have hAl := fun w (X : St [] w0 w [⟨g15, [.slice (some ⟨b2, o2', none⟩) gl.length ct2, .int .i64 gn, .int .i64 ga], 31⟩, ⟨g9', [.slice at1 fl.length ct1, .int .i64 fn, .int .i64 fa], 31⟩, ⟨g5, [.int .i64 fn, .slice am nm cm, .slice ad nd cd, .slice ar nr cr, .bool o0, .int .i64 l0, .bool o1, .int .i64 l1, .bool o2, .int .i64 l2], 55⟩] RW) => keep_alike ys[fl.length].t t1 hal2 _ _ w (X.tvM hyf mTy.out (List.getElem_mem k2)) (hT1.out _ _ _ X mRA.out)
        replace hAl := hid hAl; replace mY := hid mY; replace hgl2 := hid hgl2
        clear hg htl hal2 hlast
        go_upto_region 21 with (first
         | (refine ZyL ?_) | (refine ZyS ?_; clear X; intro w X) | (refine ZyA ?_; clear X; intro g w X))
        by_cases hp : k < CL.length
        ·have hp2 : decide (k < CL.length) = true := decide_eq_true hp
         have hp3 : decide ((k : Int) < (CL.length : Int)) = true := decide_eq_true (by omega)
         (refine q_startS 3 [] [11] [4, 6, 9, 10] [0, 1, 2, 3, 4, 5, 6, 7, 8, 9, 10, 11, 12, 13, 14, 15, 16, 17, 18, 19, 20, 21, 22, 23, 24, 25, 26, 27, 28, 29, 30, 31, 32, 33] X ?_; clear X; intro hQ X hL; simp only [zF, zG] at hL; simp only [zF, zG])
         (refine Zm ?_)
         (refine Zg ?_)
         (refine Zm ?_)
         (refine Zf ?_)
         (refine Zl ?_)
         (refine Zf ?_)
         (refine Zl ?_)
         (refine Zg ?_)
         (refine Zg ?_)
         refine q_elemN (f := tvC) (c := 10) (fun _ => rfl) k2 rfl rfl mY.out Zev rfl rfl X hL hQ ?_
         (simp only [Act.put, zA, zB, zC, zD, zE, zF, zG, Nat.reduceAdd])
         (refine Zl ?_)
         (refine q_callS 19 Tryd.func19 (hAl.out _ X) ?_; rintro e w1 ⟨rfl, hb1⟩; replace X := X.call hb1; clear hb1; refine Zce ?_; clear hL; intro hL)
         (refine Zg ?_)
         (refine Zm ?_)
         (refine Zm ?_)
         (refine Zm ?_)
         (refine Zg ?_)
         (refine Zg ?_)
         (refine Zm ?_)
         (refine Zk ?_)
         (refine Zg ?_)
         (refine Zg ?_)
         (refine Zm ?_)
         (refine Zm ?_)
         (refine Zm ?_)
         (refine Zg ?_)
         (refine Zg ?_)
         (refine Zg ?_)
         (refine Zm ?_)
         (refine Zk ?_)
         (refine Zk ?_)
         (refine Zg ?_)
         (refine Zg ?_)
         (refine Za ?_)
         refine q_nil ?_
         go_wp2
         go_ret
         exact ⟨rfl, X.below⟩
        ·have hp2 : decide (k < CL.length) = false := decide_eq_false hp
         have hp3 : decide ((k : Int) < (CL.length : Int)) = false := decide_eq_false (by omega)
         (refine q_startS 3 [] [11] [4, 6, 9, 10] [0, 1, 2, 3, 4, 5, 6, 7, 8, 9, 10, 11, 12, 13, 14, 15, 16, 17, 18, 19, 20, 21, 22, 23, 24, 25, 26, 27, 28, 29, 30, 31, 32, 33] X ?_; clear X; intro hQ X hL; simp only [zF, zG] at hL; simp only [zF, zG])
         (refine Zm ?_)
         (refine Zg ?_)
         (refine Zm ?_)
         (refine Zf ?_)
         (refine Zl ?_)
         (refine Zf ?_)
         (refine Zl ?_)
         (refine Zg ?_)
         (refine Zg ?_)
         refine q_elemN (f := tvC) (c := 10) (fun _ => rfl) k2 rfl rfl mY.out Zev rfl rfl X hL hQ ?_
         (simp only [Act.put, zA, zB, zC, zD, zE, zF, zG, Nat.reduceAdd])
         (refine Zl ?_)
         (refine q_callS 19 Tryd.func19 (hAl.out _ X) ?_; rintro e w1 ⟨rfl, hb1⟩; replace X := X.call hb1; clear hb1; refine Zce ?_; clear hL; intro hL)
         (refine Zg ?_)
         (refine Zm ?_)
         (refine Zm ?_)
         (refine Zm ?_)
         (refine Zg ?_)
         (refine Zg ?_)
         (refine Zm ?_)
         (refine Zm ?_)
         (refine Zg ?_)
         (refine Zg ?_)
         (refine Zm ?_)
         (refine Zm ?_)
         (refine Zm ?_)
         (refine Zg ?_)
         (refine Zg ?_)
         (refine Zg ?_)
         (refine Zm ?_)
         (refine Zk ?_)
         (refine Zk ?_)
         (refine Zg ?_)
         (refine Zg ?_)
         (refine Za ?_)
         refine q_nil ?_
         go_wp2
         go_ret
         exact ⟨rfl, X.below⟩
    ·have hc2 : (cE != 0) = true := by simpa using hc
     go_wp2_with (first
      | (refine ZyL ?_) | (refine ZyS ?_; clear X; intro w X) | (refine ZyA ?_; clear X; intro g w X))
     go_ret
     exact ⟨rfl, X.below⟩
  ·have hn2 : decide ((2147483646 : Int) ≤ fn) = true := decide_eq_true (by omega)
   go_wp2_with (first
    | (refine ZyL ?_) | (refine ZyS ?_; clear X; intro w X) | (refine ZyA ?_; clear X; intro g w X)
    | (go_at_call 16; go_loud ((with_reducible refine (hSe2.out _ X.below).mono ?_); rintro e w1 ⟨rfl, hb1⟩; replace X := X.call hb1; clear hb1)))
   go_ret
   exact ⟨rfl, X.below⟩
 ·have he2 : (sE != 0) = true := by simpa using he
  clear he hsE
  go_wp2_with (first
   | (refine ZyL ?_) | (refine ZyS ?_; clear X; intro w X) | (refine ZyA ?_; clear X; intro g w X)
   | (go_at_call 16; go_loud ((with_reducible refine (hSe2.out _ X.below).mono ?_); rintro e w1 ⟨rfl, hb1⟩; replace X := X.call hb1; clear hb1)))
  go_ret
  exact ⟨rfl, X.below⟩
end Go.Proofs.YtjhmfljlclajnacDoor
namespace Go.Proofs.YtjhmfljlclajnacDoor
open Go.RowKit Wb
instance : SlT Tryd.prog 39 84 3 32 := ⟨Elem.mk' (z := .agg #[.int .i64 0, .int .i64 0, .string ⟨#[]⟩]) Tryd.underlying39 (by kernel_rfl) rfl, by decide, by decide, by decide⟩
instance : SlT Tryd.prog 37 46 2 24 := ⟨Elem.mk' (z := .agg #[.int .i64 0, .string ⟨#[]⟩]) Tryd.underlying37 (by kernel_rfl) rfl, by decide, by decide, by decide⟩
instance : SlT Tryd.prog 50 3 1 8 := ⟨Elem.mk' (z := .int .i64 0) Tryd.underlying50 (by kernel_rfl) rfl, by decide, by decide, by decide⟩
instance : SlT Tryd.prog 22 9 1 16 := ⟨Elem.mk' (z := .string ⟨#[]⟩) Tryd.underlying22 (by kernel_rfl) rfl, by decide, by decide, by decide⟩
instance : SlT Tryd.prog 67 103 2 16 := ⟨Elem.mk' (z := .agg #[.int .i64 0, .bool false]) Tryd.underlying67 (by kernel_rfl) rfl, by decide, by decide, by decide⟩
instance : SlT Tryd.prog 29 55 10 128 := ⟨Elem.mk' (z := .agg #[.int .i64 0, .slice none 0 0, .slice none 0 0, .slice none 0 0, .bool false, .int .i64 0, .bool false, .int .i64 0, .bool false, .int .i64 0]) Tryd.underlying29 (by kernel_rfl) rfl, by decide, by decide, by decide⟩
instance : OneT Tryd.prog 93 := ⟨⟨_, Tryd.underlying93, rfl⟩, by kernel_rfl⟩
instance : ZeroT Tryd.prog 93 [.nilFunc] := ⟨by kernel_rfl⟩
instance : OneT Tryd.prog 94 := ⟨⟨_, Tryd.underlying94, rfl⟩, by kernel_rfl⟩
instance : ZeroT Tryd.prog 94 [.nilFunc] := ⟨by kernel_rfl⟩
instance : FieldT Tryd.prog 55 0 0 := ⟨fun _ _ _ => by kernel_rfl⟩
instance : FieldT Tryd.prog 55 1 1 := ⟨fun _ _ _ => by kernel_rfl⟩
instance : FieldT Tryd.prog 55 2 2 := ⟨fun _ _ _ => by kernel_rfl⟩
instance : FieldT Tryd.prog 55 3 3 := ⟨fun _ _ _ => by kernel_rfl⟩
instance : FieldT Tryd.prog 55 4 4 := ⟨fun _ _ _ => by kernel_rfl⟩
instance : FieldT Tryd.prog 52 0 0 := ⟨fun _ _ _ => by kernel_rfl⟩
instance : FieldT Tryd.prog 52 1 1 := ⟨fun _ _ _ => by kernel_rfl⟩
instance : FieldT Tryd.prog 46 0 0 := ⟨fun _ _ _ => by kernel_rfl⟩
instance : FieldT Tryd.prog 46 1 1 := ⟨fun _ _ _ => by kernel_rfl⟩
instance : FieldT Tryd.prog 84 0 0 := ⟨fun _ _ _ => by kernel_rfl⟩
instance : FieldT Tryd.prog 84 1 1 := ⟨fun _ _ _ => by kernel_rfl⟩
instance : FieldT Tryd.prog 84 2 2 := ⟨fun _ _ _ => by kernel_rfl⟩
instance : FieldT Tryd.prog 57 0 0 := ⟨fun _ _ _ => by kernel_rfl⟩
instance : FieldT Tryd.prog 57 1 1 := ⟨fun _ _ _ => by kernel_rfl⟩
instance : FieldT Tryd.prog 31 0 0 := ⟨fun _ _ _ => by kernel_rfl⟩
instance : FieldT Tryd.prog 31 1 1 := ⟨fun _ _ _ => by kernel_rfl⟩
instance : FieldT Tryd.prog 31 2 2 := ⟨fun _ _ _ => by kernel_rfl⟩
instance : FieldT Tryd.prog 25 0 0 := ⟨fun _ _ _ => by kernel_rfl⟩
instance : FieldT Tryd.prog 25 1 1 := ⟨fun _ _ _ => by kernel_rfl⟩
instance : FieldT Tryd.prog 66 0 0 := ⟨fun _ _ _ => by kernel_rfl⟩
instance : FieldT Tryd.prog 66 1 1 := ⟨fun _ _ _ => by kernel_rfl⟩
end Go.Proofs.YtjhmfljlclajnacDoor
namespace Wb
open Go Go.RowKit
def chunkN (n len : Nat) : Nat := (len + n - 1) / n
theorem chunkN_lt {n len k : Nat} (hn : 0 < n) : k < chunkN n len ↔ k * n < len := by
 unfold chunkN
 rw [Nat.lt_iff_add_one_le, Nat.le_div_iff_mul_le hn, Nat.succ_mul]
 omega
def chunkV (b off c n len k : Nat) : Value := .slice (some ⟨b, off + k * n * c, none⟩) (min n (len - k * n)) (min n (len - k * n))
def chunkL (b off c n len : Nat) : List Value := (List.range (chunkN n len)).map (chunkV b off c n len)
end Wb
namespace Go.Proofs.YtjhmfljlclajnacDoor
open Go.RowKit Wb
set_option maxRecDepth 100000
set_option maxHeartbeats 8000000
attribute [local go_sem] Oper.semAt_some
theorem chunkC_iter (b off cap len n gs gn : Nat) (hn : 0 < n) (h1 : n ≤ 1000) (h2 : len ≤ 1000000) (hc : len ≤ cap) (w : World) (hs : w.cell? ⟨gs, 0, none⟩ = some (.slice (some ⟨b, off, none⟩) len cap)) (hk : w.cell? ⟨gn, 0, none⟩ = some (.int .i64 n)) :
    Iter Tryd.prog 55 #[.pointer (some ⟨gs, 0, none⟩), .pointer (some ⟨gn, 0, none⟩)] (chunkL b off 2 n len) [gs, gn] w := by
 intro l J W hB hJ hY h0
 have hxl : (chunkL b off 2 n len).length = chunkN n len := by simp [chunkL]
 have hlt := fun k => chunkN_lt (len := len) (k := k) hn
 have hsW : W.cell? ⟨gs, 0, none⟩ = some (.slice (some ⟨b, off, none⟩) len cap) := (World.cell?_of_block (hB gs (by simp))).trans hs
 have hnW : W.cell? ⟨gn, 0, none⟩ = some (.int .i64 n) := (World.cell?_of_block (hB gn (by simp))).trans hk
 have hY' : ∀ k, k < chunkN n len → ∀ A, J k A → YieldAt FW 0 Tryd.prog l #[chunkV b off 2 n len k] A fun e A' => e = .returned (.bool true) ∧ J (k + 1) A' ∧ A.heap.size ≤ A'.heap.size ∧ ∀ b ∈ [gs, gn], A'.heap[b]? = A.heap[b]? := fun k hk A hA => by
  have := hY k (by rw [hxl]; exact hk) A hA
  simpa [chunkL] using this
 rw [hxl]
 clear hY
 have hY := hY'
 clear hY' hxl
 replace hJ := hid hJ; replace hY := hid hY; replace hlt := hid hlt
 clear hB hs hk
 refine callsIn_of_wp Tryd.func55 rfl trivial ?_ rfl
 simp only [Tryd.ntmps55, List.size_toArray, List.length_cons, List.length_nil, Nat.reduceAdd, Nat.reduceSub, Array.replicate_succ, Array.replicate_zero, List.push_toArray, List.append_toArray, List.nil_append, List.cons_append]
 gi_wp2
 gi_loopw [4] (fun i wr => ∃ k : Nat, k ≤ chunkN n len ∧ i = .int .i64 ((k * n : Nat) : Int) ∧ J k wr ∧ wr.cell? ⟨gs, 0, none⟩ = some (.slice (some ⟨b, off, none⟩) len cap) ∧ wr.cell? ⟨gn, 0, none⟩ = some (.int .i64 n)) (fun i _ => len + n - (intOf i).toNat)
 case atStart => exact ⟨0, Nat.zero_le _, by simp, h0, hsW, hnW⟩
 case round =>
  clear hsW hnW
  obtain ⟨k, hk, rfl, hJk, hs, hn2⟩ := hrel
  by_cases hkl : k * n < len
  ·have hkN := (hlt.out k).2 hkl
   have q1 : (k : Int) * (n : Int) < (len : Int) := by exact_mod_cast hkl
   gi_wp2
   refine (wpIn_wide (n := 0)).2 ?_
   go_region
   obtain ⟨fn, tmps, assign, body, hy, hR⟩ := hY.out k hkN wr.drew (hJ.out _ _ _ hJk (b0 wr).drew)
   simp only [chunkV, Nat.mul_one] at hy
   obtain ⟨m, hm⟩ : ∃ m, m = min n (len - k * n) := ⟨_, rfl⟩
   have hif : (if len - k * n < n then ((len - k * n : Nat) : Int) else (n : Int)) = (m : Int) := by
    rw [hm]; split <;> omega
   first
    | rw [hif]
    | rw [show min (n : Int) ((len - k * n : Nat) : Int) = (m : Int) by rw [hm]; omega]
   rw [← hm] at hy
   have m1 : k * n + m ≤ len := by omega
   have m2 : k * n + m ≤ cap := by omega
   have m3 : ¬ m = 0 := by omega
   have hs2 : wr.drew.cell? ⟨gs, 0, none⟩ = some (.slice (some ⟨b, off, none⟩) len cap) := hs
   have hn3 : wr.drew.cell? ⟨gn, 0, none⟩ = some (.int .i64 n) := hn2
   clear hif hm
   generalize wr.drew = wd at *
   gi_wp2
   refine ⟨rfl, hR.mono ?_⟩
   rintro e W3 ⟨rfl, hJ3, hz3, hB3⟩
   have hs3 := (World.cell?_of_block (w := wd) (a := ⟨gs, 0, none⟩) (hB3 gs (by simp))).trans hs2
   have hn4 := (World.cell?_of_block (w := wd) (a := ⟨gn, 0, none⟩) (hB3 gn (by simp))).trans hn3
   gi_wp2
   go_roundw
   case rel => exact ⟨k + 1, by omega, by rw [Nat.succ_mul]; simp, hJ3, hs3, hn4⟩
   case measure => simp [intOf]; omega
  ·obtain rfl : k = chunkN n len := Nat.le_antisymm hk (Nat.le_of_not_lt fun h => hkl ((hlt.out k).1 h))
   have q1 : ¬ ((chunkN n len : Nat) : Int) * (n : Int) < (len : Int) := by exact_mod_cast hkl
   gi_wp2
   go_end0
   exact ⟨⟨_, rfl⟩, hJk⟩
theorem chunkC_nil (a : Option Addr) (cap gs gn : Nat) (n : Int) (w : World) (hs : w.cell? ⟨gs, 0, none⟩ = some (.slice a 0 cap)) (hk : w.cell? ⟨gn, 0, none⟩ = some (.int .i64 n)) :
    Iter Tryd.prog 55 #[.pointer (some ⟨gs, 0, none⟩), .pointer (some ⟨gn, 0, none⟩)] [] [gs, gn] w := by
 intro l J W hB hJ hY h0
 have hsW : W.cell? ⟨gs, 0, none⟩ = some (.slice a 0 cap) := (World.cell?_of_block (hB gs (by simp))).trans hs
 clear hB hs hk hY hJ
 refine callsIn_of_wp Tryd.func55 rfl trivial ?_ rfl
 simp only [Tryd.ntmps55, List.size_toArray, List.length_cons, List.length_nil, Nat.reduceAdd, Nat.reduceSub, Array.replicate_succ, Array.replicate_zero, List.push_toArray, List.append_toArray, List.nil_append, List.cons_append]
 gi_wp2
 gi_loopw [4] (fun i wr => i = .int .i64 0 ∧ J 0 wr ∧ wr.cell? ⟨gs, 0, none⟩ = some (.slice a 0 cap)) (fun _ _ => 0)
 case atStart => exact ⟨rfl, h0, hsW⟩
 case round =>
  clear hsW
  obtain ⟨rfl, hJk, hs⟩ := hrel
  gi_wp2
  go_end0
  exact ⟨⟨_, rfl⟩, hJk⟩
theorem chunkC (a : Option Addr) (len cap n : Nat) (nI : Int) (hI : nI = n) (hn : 0 < n) (h2 : n ≤ 1000) {S : List Nat} {w0 w : World} {L : List Ent} {R : List Rd} (X : St S w0 w L R) :
    Calls Tryd.prog 37 #[.slice a len cap, .int .i64 nI] w fun e w' => ∃ gs gn, e = .returned (.func (.func 55) #[] #[.pointer (some ⟨gs, 0, none⟩), .pointer (some ⟨gn, 0, none⟩)]) ∧ St S w0 w' (⟨gn, [.int .i64 n], 3⟩ :: ⟨gs, [.slice a len cap], 37⟩ :: L) R := by
 subst hI
 have q : ¬ ((n : Int) < 1) := by omega
 go_enter Tryd.func37, Tryd.ntmps37
 go_wp2_with (first
  | (refine ZcL ?_) | (refine ZcS ?_; clear X; intro w X) | (refine ZcA ?_; clear X; intro g w X))
 go_ret
 exact ⟨_, _, rfl, X⟩
theorem chunkI_iter (b off cap len n gs gn : Nat) (hn : 0 < n) (h1 : n ≤ 1000) (h2 : len ≤ 1000000) (hc : len ≤ cap) (w : World) (hs : w.cell? ⟨gs, 0, none⟩ = some (.slice (some ⟨b, off, none⟩) len cap)) (hk : w.cell? ⟨gn, 0, none⟩ = some (.int .i64 n)) :
    Iter Tryd.prog 54 #[.pointer (some ⟨gs, 0, none⟩), .pointer (some ⟨gn, 0, none⟩)] (chunkL b off 1 n len) [gs, gn] w := by
 intro l J W hB hJ hY h0
 have hxl : (chunkL b off 1 n len).length = chunkN n len := by simp [chunkL]
 have hlt := fun k => chunkN_lt (len := len) (k := k) hn
 have hsW : W.cell? ⟨gs, 0, none⟩ = some (.slice (some ⟨b, off, none⟩) len cap) := (World.cell?_of_block (hB gs (by simp))).trans hs
 have hnW : W.cell? ⟨gn, 0, none⟩ = some (.int .i64 n) := (World.cell?_of_block (hB gn (by simp))).trans hk
 have hY' : ∀ k, k < chunkN n len → ∀ A, J k A → YieldAt FW 0 Tryd.prog l #[chunkV b off 1 n len k] A fun e A' => e = .returned (.bool true) ∧ J (k + 1) A' ∧ A.heap.size ≤ A'.heap.size ∧ ∀ b ∈ [gs, gn], A'.heap[b]? = A.heap[b]? := fun k hk A hA => by
  have := hY k (by rw [hxl]; exact hk) A hA
  simpa [chunkL] using this
 rw [hxl]
 clear hY
 have hY := hY'
 clear hY' hxl
 replace hJ := hid hJ; replace hY := hid hY; replace hlt := hid hlt
 clear hB hs hk
 refine callsIn_of_wp Tryd.func54 rfl trivial ?_ rfl
 simp only [Tryd.ntmps54, List.size_toArray, List.length_cons, List.length_nil, Nat.reduceAdd, Nat.reduceSub, Array.replicate_succ, Array.replicate_zero, List.push_toArray, List.append_toArray, List.nil_append, List.cons_append]
 gi_wp2
 gi_loopw [4] (fun i wr => ∃ k : Nat, k ≤ chunkN n len ∧ i = .int .i64 ((k * n : Nat) : Int) ∧ J k wr ∧ wr.cell? ⟨gs, 0, none⟩ = some (.slice (some ⟨b, off, none⟩) len cap) ∧ wr.cell? ⟨gn, 0, none⟩ = some (.int .i64 n)) (fun i _ => len + n - (intOf i).toNat)
 case atStart => exact ⟨0, Nat.zero_le _, by simp, h0, hsW, hnW⟩
 case round =>
  clear hsW hnW
  obtain ⟨k, hk, rfl, hJk, hs, hn2⟩ := hrel
  by_cases hkl : k * n < len
  ·have hkN := (hlt.out k).2 hkl
   have q1 : (k : Int) * (n : Int) < (len : Int) := by exact_mod_cast hkl
   gi_wp2
   refine (wpIn_wide (n := 0)).2 ?_
   go_region
   obtain ⟨fn, tmps, assign, body, hy, hR⟩ := hY.out k hkN wr.drew (hJ.out _ _ _ hJk (b0 wr).drew)
   simp only [chunkV, Nat.mul_one] at hy
   obtain ⟨m, hm⟩ : ∃ m, m = min n (len - k * n) := ⟨_, rfl⟩
   have hif : (if len - k * n < n then ((len - k * n : Nat) : Int) else (n : Int)) = (m : Int) := by
    rw [hm]; split <;> omega
   first
    | rw [hif]
    | rw [show min (n : Int) ((len - k * n : Nat) : Int) = (m : Int) by rw [hm]; omega]
   rw [← hm] at hy
   have m1 : k * n + m ≤ len := by omega
   have m2 : k * n + m ≤ cap := by omega
   have m3 : ¬ m = 0 := by omega
   have hs2 : wr.drew.cell? ⟨gs, 0, none⟩ = some (.slice (some ⟨b, off, none⟩) len cap) := hs
   have hn3 : wr.drew.cell? ⟨gn, 0, none⟩ = some (.int .i64 n) := hn2
   clear hif hm
   generalize wr.drew = wd at *
   gi_wp2
   refine ⟨rfl, hR.mono ?_⟩
   rintro e W3 ⟨rfl, hJ3, hz3, hB3⟩
   have hs3 := (World.cell?_of_block (w := wd) (a := ⟨gs, 0, none⟩) (hB3 gs (by simp))).trans hs2
   have hn4 := (World.cell?_of_block (w := wd) (a := ⟨gn, 0, none⟩) (hB3 gn (by simp))).trans hn3
   gi_wp2
   go_roundw
   case rel => exact ⟨k + 1, by omega, by rw [Nat.succ_mul]; simp, hJ3, hs3, hn4⟩
   case measure => simp [intOf]; omega
  ·obtain rfl : k = chunkN n len := Nat.le_antisymm hk (Nat.le_of_not_lt fun h => hkl ((hlt.out k).1 h))
   have q1 : ¬ ((chunkN n len : Nat) : Int) * (n : Int) < (len : Int) := by exact_mod_cast hkl
   gi_wp2
   go_end0
   exact ⟨⟨_, rfl⟩, hJk⟩
theorem chunkI_nil (a : Option Addr) (cap gs gn : Nat) (n : Int) (w : World) (hs : w.cell? ⟨gs, 0, none⟩ = some (.slice a 0 cap)) (hk : w.cell? ⟨gn, 0, none⟩ = some (.int .i64 n)) :
    Iter Tryd.prog 54 #[.pointer (some ⟨gs, 0, none⟩), .pointer (some ⟨gn, 0, none⟩)] [] [gs, gn] w := by
 intro l J W hB hJ hY h0
 have hsW : W.cell? ⟨gs, 0, none⟩ = some (.slice a 0 cap) := (World.cell?_of_block (hB gs (by simp))).trans hs
 clear hB hs hk hY hJ
 refine callsIn_of_wp Tryd.func54 rfl trivial ?_ rfl
 simp only [Tryd.ntmps54, List.size_toArray, List.length_cons, List.length_nil, Nat.reduceAdd, Nat.reduceSub, Array.replicate_succ, Array.replicate_zero, List.push_toArray, List.append_toArray, List.nil_append, List.cons_append]
 gi_wp2
 gi_loopw [4] (fun i wr => i = .int .i64 0 ∧ J 0 wr ∧ wr.cell? ⟨gs, 0, none⟩ = some (.slice a 0 cap)) (fun _ _ => 0)
 case atStart => exact ⟨rfl, h0, hsW⟩
 case round =>
  clear hsW
  obtain ⟨rfl, hJk, hs⟩ := hrel
  gi_wp2
  go_end0
  exact ⟨⟨_, rfl⟩, hJk⟩
theorem chunkI (a : Option Addr) (len cap n : Nat) (nI : Int) (hI : nI = n) (hn : 0 < n) (h2 : n ≤ 1000) {S : List Nat} {w0 w : World} {L : List Ent} {R : List Rd} (X : St S w0 w L R) :
    Calls Tryd.prog 36 #[.slice a len cap, .int .i64 nI] w fun e w' => ∃ gs gn, e = .returned (.func (.func 54) #[] #[.pointer (some ⟨gs, 0, none⟩), .pointer (some ⟨gn, 0, none⟩)]) ∧ St S w0 w' (⟨gn, [.int .i64 n], 3⟩ :: ⟨gs, [.slice a len cap], 50⟩ :: L) R := by
 subst hI
 have q : ¬ ((n : Int) < 1) := by omega
 go_enter Tryd.func36, Tryd.ntmps36
 go_wp2_with (first
  | (refine ZcL ?_) | (refine ZcS ?_; clear X; intro w X) | (refine ZcA ?_; clear X; intro g w X))
 go_ret
 exact ⟨_, _, rfl, X⟩
end Go.Proofs.YtjhmfljlclajnacDoor
namespace Wb
open Go Go.RowKit
def logS (r : Ring) (t : Txn) (j : Nat) : List Stp := List.zipWith atW (places r.head j) ((logT t).take j)
theorem logS_zero (r : Ring) (t : Txn) : logS r t 0 = [] := rfl
theorem logS_succ {r : Ring} {t : Txn} {j : Nat} {s : ByteArray} (h : (logT t)[j]? = some s) : logS r t (j + 1) = logS r t j ++ [atW ((r.head + j) % 24) s] := by
 obtain ⟨hj, hs⟩ := List.getElem?_eq_some_iff.1 h
 unfold logS
 rw [places_succ, List.take_succ_eq_append_getElem hj, hs, List.zipWith_append (by rw [places_len, List.length_take]; omega)]
 rfl
theorem logS_len {r : Ring} {t : Txn} {j : Nat} (h : j ≤ (logT t).length) : (logS r t j).length = j := by
 unfold logS
 rw [List.length_zipWith, places_len, List.length_take]; omega
theorem logT_len (t : Txn) : (logT t).length = (bodyT t).length + 1 := by unfold logT; rw [List.length_append]; rfl
theorem logS_body (r : Ring) (t : Txn) : logS r t (bodyT t).length = List.zipWith atW (places r.head (bodyT t).length) (bodyT t) := by
 unfold logS logT
 rw [List.take_append_of_le_length (Nat.le_refl _), List.take_length]
def partJ (t : Txn) (k : Nat) : Nat := (revL t.seq t.rev).length + (if k = 0 then 0 else if k = 1 then (partL t.seq (t.mt.take 10)).length else (partL t.seq (t.mt.take 10)).length + (partL t.seq (t.mt.drop 10)).length)
def partM (t : Txn) (k : Nat) : List Cpy := (t.mt.drop (k * 10)).take 10
theorem revL_len (q : Int) (r : List Int) : (revL q r).length = if r = [] then 0 else 1 := by unfold revL; split <;> rfl
theorem partM0 (t : Txn) : partM t 0 = t.mt.take 10 := rfl
theorem partM1 {t : Txn} (h : t.mt.length ≤ 12) : partM t 1 = t.mt.drop 10 := by
 unfold partM
 rw [List.take_of_length_le (by rw [List.length_drop]; omega)]
theorem logT_rev {t : Txn} (h : t.rev ≠ []) : (logT t)[0]? = some (markS (listM t.seq t.rev)) := by
 unfold logT bodyT revL
 rw [if_neg h]; rfl
theorem logT_part {t : Txn} (hm : t.mt.length ≤ 12) {k i : Nat} (hk : k < 2) {s : ByteArray} (h : (partL t.seq (partM t k))[i]? = some s) : (logT t)[partJ t k + i]? = some s := by
 unfold logT bodyT partJ
 rw [List.getElem?_append_left]
 ·rw [Nat.add_assoc, List.getElem?_append_right (Nat.le_add_right _ _), Nat.add_sub_cancel_left]
  obtain rfl | rfl : k = 0 ∨ k = 1 := by omega
  ·rw [if_pos rfl, Nat.zero_add, ← partM0]
   rw [List.getElem?_append_left (List.getElem?_eq_some_iff.1 h).1]; exact h
  ·rw [if_neg (by decide), if_pos rfl, List.getElem?_append_right (Nat.le_add_right _ _), Nat.add_sub_cancel_left, ← partM1 hm]; exact h
 ·have := (List.getElem?_eq_some_iff.1 h).1
  rw [List.length_append, List.length_append]
  obtain rfl | rfl : k = 0 ∨ k = 1 := by omega
  ·rw [partM0] at this; rw [if_pos rfl]; omega
  ·rw [partM1 hm] at this; rw [if_neg (by decide), if_pos rfl]; omega
theorem partL_head {q : Int} {p : List Cpy} (h : p ≠ []) : (partL q p)[0]? = some (markS (descM q p)) := by unfold partL; rw [if_neg h]; rfl
theorem partL_copy {q : Int} {p : List Cpy} {i : Nat} (h : i < p.length) : (partL q p)[1 + i]? = some (escS p[i].text) := by
 unfold partL
 rw [if_neg (by intro e; subst e; exact absurd h (Nat.not_lt_zero _)), Nat.add_comm, List.getElem?_cons_succ, List.getElem?_map]
 simp [h]
theorem partJ_next {t : Txn} (hm : t.mt.length ≤ 12) {k : Nat} (hk : k * 10 < t.mt.length) : partJ t (k + 1) = partJ t k + (1 + (partM t k).length) := by
 have hk2 : k < 2 := by omega
 unfold partJ
 obtain rfl | rfl : k = 0 ∨ k = 1 := by omega
 ·rw [if_neg (by decide), if_pos rfl, if_pos rfl, partL_len, partM0, if_neg]
  ·omega
  ·intro h
   have := congrArg List.length h
   rw [List.length_take] at this
   rw [List.length_nil] at this; omega
 ·rw [if_neg (by decide), if_neg (by decide), if_neg (by decide), if_pos rfl, partL_len t.seq (t.mt.drop 10), partM1 hm, if_neg]
  ·omega
  ·intro h
   have := congrArg List.length h
   rw [List.length_drop] at this
   rw [List.length_nil] at this; omega
theorem partM_len {t : Txn} (k : Nat) : (partM t k).length = min 10 (t.mt.length - k * 10) := by unfold partM; rw [List.length_take, List.length_drop]
theorem bodyT_end {t : Txn} (hm : t.mt.length ≤ 12) : (bodyT t).length = partJ t (chunkN 10 t.mt.length) := by
 have h2 : (t.mt.drop 10 = []) ↔ t.mt.length ≤ 10 := by rw [← List.length_eq_zero_iff, List.length_drop]; omega
 have hc : chunkN 10 t.mt.length = if t.mt.length = 0 then 0 else if t.mt.length ≤ 10 then 1 else 2 := by
  unfold chunkN
  split
  ·omega
  ·split <;> omega
 rw [hc]
 unfold bodyT partJ
 rw [List.length_append, List.length_append]
 by_cases h0 : t.mt.length = 0
 ·rw [if_pos h0, if_pos rfl]
  have e : t.mt = [] := List.length_eq_zero_iff.1 h0
  rw [e]; rfl
 ·rw [if_neg h0]
  by_cases h1 : t.mt.length ≤ 10
  ·rw [if_pos h1, if_neg (by decide), if_pos rfl, h2.2 h1]
   have : (partL t.seq []).length = 0 := rfl
   rw [this]; omega
  ·rw [if_neg h1, if_neg (by decide), if_neg (by decide)]
theorem partJ_bound {t : Txn} (hm : t.mt.length ≤ 12) {k : Nat} (hk : k * 10 < t.mt.length) : partJ t k + (1 + (partM t k).length) ≤ (bodyT t).length := by
 rw [bodyT_end hm]
 have h1 := partJ_next hm hk
 have hc := fun j => chunkN_lt (n := 10) (len := t.mt.length) (k := j) (by decide)
 have hk1 := (hc k).2 hk
 have h2 := hc (k + 1)
 have h3 := hc (k + 2)
 by_cases hk2 : (k + 1) * 10 < t.mt.length
 ·have h4 := partJ_next hm hk2
  have : chunkN 10 t.mt.length = k + 1 + 1 := by omega
  rw [this, h4, h1]; omega
 ·have : chunkN 10 t.mt.length = k + 1 := by omega
  rw [this, h1]; omega
theorem partJ_low {t : Txn} (hm : t.mt.length ≤ 12) : partJ t 0 ≤ (bodyT t).length := by
 by_cases hz : 0 < t.mt.length
 ·have := partJ_bound hm (k := 0) (by omega); omega
 ·have : chunkN 10 t.mt.length = 0 := by unfold chunkN; omega
  rw [bodyT_end hm, this]; exact Nat.le_refl _
theorem dataS_len {t : Txn} (h : t.dt.length ≤ 12) : (dataS t).length ≤ 13 := by
 unfold dataS
 rw [List.length_append, List.length_map]
 have : (if t.dt = [] then ([] : List Stp) else [flushS]).length ≤ 1 := by split <;> simp
 omega
theorem comL_eq {r : Ring} {t : Txn} (h : comE r t = 0) : comL r t = dataS t ++ (logS r t (bodyT t).length ++ ((if (bodyT t).length = 0 then [] else [flushS]) ++ [atW ((r.head + ((bodyT t).length : Int)) % 24) (markS (comM t.seq)), flushS])) := by
 unfold comL
 rw [if_pos h, logS_body]
 congr 3
 by_cases hz : bodyT t = []
 ·rw [if_pos hz, if_pos (by rw [hz]; rfl)]
 ·rw [if_neg hz, if_neg (by rw [List.length_eq_zero_iff]; exact hz)]
theorem dataS_eq (t : Txn) : t.dt.map goS ++ (if 0 < t.dt.length then [flushS] else []) = dataS t := by
 unfold dataS
 congr 1
 by_cases h : t.dt = []
 ·rw [if_pos h, if_neg (by rw [h]; decide)]
 ·rw [if_neg h, if_pos (List.length_pos_iff.2 h)]
structure ComF (r : Ring) (t : Txn) (nb : Nat) (DS : List Stp) (LS : Nat → List Stp) (pj : Nat → Nat) (pm : Nat → List Cpy) : Prop where
 l0 : LS 0 = []
 lr : t.rev ≠ [] → LS 1 = LS 0 ++ [atW ((r.head + ((0 : Nat) : Int)) % 24) (markS (listM t.seq t.rev))]
 lp : ∀ k, k * 10 < t.mt.length → ∀ i s, (partL t.seq (pm k))[i]? = some s → LS (pj k + i + 1) = LS (pj k + i) ++ [atW ((r.head + ((pj k + i : Nat) : Int)) % 24) s]
 j0 : pj 0 = (revL t.seq t.rev).length
 jn : ∀ k, k * 10 < t.mt.length → pj (k + 1) = pj k + (1 + (pm k).length)
 je : nb = pj (chunkN 10 t.mt.length)
 ml : ∀ k, (pm k).length = min 10 (t.mt.length - k * 10)
 md : ∀ k, pm k = (t.mt.drop (k * 10)).take 10
 ll : ∀ j, j ≤ nb + 1 → (LS j).length = j
 dl : DS.length ≤ 13
 cd : comL r t = DS ++ (LS nb ++ ((if nb = 0 then [] else [flushS]) ++ [atW ((r.head + (nb : Int)) % 24) (markS (comM t.seq)), flushS]))
 ds : t.dt.map goS ++ (if 0 < t.dt.length then [flushS] else []) = DS
 bk : ∀ k, k * 10 < t.mt.length → pj k + (1 + (pm k).length) ≤ nb
 b0 : pj 0 ≤ nb
theorem comF {r : Ring} {t : Txn} (hm : t.mt.length ≤ 12) (hd : t.dt.length ≤ 12) (hc : comE r t = 0) : ∃ DS LS pj pm, ComF r t (bodyT t).length DS LS pj pm :=
 ⟨dataS t, logS r t, partJ t, partM t, logS_zero r t, fun h => logS_succ (j := 0) (logT_rev h), fun k hk i s hs => logS_succ (logT_part hm (by omega) hs), rfl, fun k hk => partJ_next hm hk, bodyT_end hm, partM_len, fun _ => rfl,
  fun j hj => logS_len (by rw [logT_len]; exact hj), dataS_len hd, comL_eq hc, dataS_eq t, fun k hk => partJ_bound hm hk, partJ_low hm⟩
end Wb
namespace Go.Proofs.YtjhmfljlclajnacDoor
open Go.RowKit Wb
set_option maxRecDepth 100000
set_option maxHeartbeats 8000000
theorem seal_write (p : Int) (s : ByteArray) (w : World) :
    Calls Tryd.prog 27 #[.int .i64 p, .string s] w fun e w' => e = .returned (.agg #[.int .i64 1, .int .i64 p, .string s]) ∧ Below w.heap.size w w' := by
 have X := St.start [] w
 go_enter Tryd.func27, Tryd.ntmps27
 go_wp2_with (first
  | (refine ZcL ?_) | (refine ZcS ?_; clear X; intro w X) | (refine ZcA ?_; clear X; intro g w X))
 exact m_ret1 rfl (.tmp rfl rfl) X (.head _) rfl rfl ⟨rfl, X.below⟩
end Go.Proofs.YtjhmfljlclajnacDoor
namespace Wb
open Go Go.RowKit
section
variable {α : Type} {f : α → List Value} {base : Nat} {e : TypeId} {c : Nat} {w w' : World} {v : Value} {l : List α}
def KeptI (p : α → Bool) (l : List α) (j i : Nat) (lk : List α) : Prop :=
 lk.length = l.length ∧ i = ((l.take j).filter p).length ∧ lk.take i = (l.take j).filter p ∧ lk.drop j = l.drop j
theorem KeptI.skip {p : α → Bool} {j i : Nat} {lk : List α} (h : KeptI p l j i lk) (hj : j < l.length) (hp : p l[j] = false) : KeptI p l (j + 1) i lk := by
 obtain ⟨h1, h2, h3, h4⟩ := h
 have h5 : (l.take (j + 1)).filter p = (l.take j).filter p := by rw [List.take_succ_eq_append_getElem hj, List.filter_append, List.filter_cons, if_neg (by rw [hp]; simp), List.filter_nil, List.append_nil]
 exact ⟨h1, by rw [h5, ← h2], by rw [h5, ← h3], by rw [← List.drop_drop, h4, List.drop_drop]⟩
theorem KeptI.start {p : α → Bool} {k : Nat} (hk : k < l.length) (h : ∀ i (hi : i < l.length), i < k → p l[i] = true) (hp : p l[k] = false) : KeptI p l (k + 1) k l := by
 have h5 : (l.take k).filter p = l.take k := List.filter_eq_self.2 (fun x hx => by
  obtain ⟨i, hi, rfl⟩ := List.getElem_of_mem hx
  rw [List.length_take] at hi
  rw [List.getElem_take]
  exact h i (by omega) (by omega))
 refine KeptI.skip ⟨rfl, ?_, ?_, rfl⟩ hk hp
 ·rw [h5, List.length_take]; omega
 ·rw [h5]
theorem KeptI.done {p : α → Bool} {j i : Nat} {lk : List α} (h : KeptI p l j i lk) (hj : l.length ≤ j) : lk.take i = l.filter p ∧ i = (l.filter p).length := by
 obtain ⟨h1, h2, h3, h4⟩ := h
 rw [List.take_of_length_le hj] at h2 h3
 exact ⟨h3, h2⟩
end
end Wb
namespace Go.Proofs.YtjhmfljlclajnacDoor
open Go.RowKit Wb
set_option maxRecDepth 100000
set_option maxHeartbeats 4000000
theorem txn_block (b : Int) (w : World) : Calls Tryd.prog 47 #[.int .i64 b] w fun e w' => e = .returned (.bool (isBlk b)) ∧ w = w' := by
 by_cases h0 : 0 ≤ b
 ·by_cases h1 : b < 12
  ·have hv : isBlk b = true := decide_eq_true ⟨h0, h1⟩
   rw [hv]
   go_enter Tryd.func47, Tryd.ntmps47
   go_wp2
   go_ret
   exact ⟨rfl, rfl⟩
  ·have hv : isBlk b = false := decide_eq_false fun hh => h1 hh.2
   rw [hv]
   go_enter Tryd.func47, Tryd.ntmps47
   go_wp2
   go_ret
   exact ⟨rfl, rfl⟩
 ·have hv : isBlk b = false := decide_eq_false fun hh => h0 hh.1
  rw [hv]
  go_enter Tryd.func47, Tryd.ntmps47
  go_wp2
  go_ret
  exact ⟨rfl, rfl⟩
theorem txn_find1 (c : Cpy) (b : Int) (w : World) : Calls Tryd.prog 69 #[.agg #[.int .i64 c.block, .string c.text], .int .i64 b] w fun e w' => e = .returned (.int .i64 (cmpI c.block b)) ∧ Below w.heap.size w w' := by
 obtain ⟨x, s⟩ := c
 have k0 := Blk.new w #[.int .i64 x, .string s] 46
 have c0 := k0.cell 0; have c1 := k0.cell 1
 simp only [Zga, Zgb, Zgc] at c0 c1
 dsimp only
 by_cases h1 : x < b
 ·rw [cmpI_lt h1]
  go_enter Tryd.func69, Tryd.ntmps69
  go_wp2
  go_ret
  exact ⟨rfl, bal (b0 w) _⟩
 ·by_cases h2 : b < x
  ·rw [cmpI_gt h2]
   go_enter Tryd.func69, Tryd.ntmps69
   go_wp2
   go_ret
   exact ⟨rfl, bal (b0 w) _⟩
  ·have h3 : x = b := by omega
   rw [cmpI_eq h3]
   subst h3
   go_enter Tryd.func69, Tryd.ntmps69
   go_wp2
   go_ret
   exact ⟨rfl, bal (b0 w) _⟩
theorem slices_BinarySearchC (l : List Cpy) (b : Int) (v : Value) (w : World) (hs : rise (blks l) = true) (h : RL cpyC w v l) (hl : l.length ≤ 5864062014805) :
    Calls Tryd.prog 68 #[v, .int .i64 b, .func (.func 69) #[] #[]] w fun e w' => e = .returned (.tuple #[.int .i64 (posB l b : Nat), .bool (hasB l b)]) ∧ Below w.heap.size w w' := by
 obtain ⟨a, cap, rfl, _⟩ := h.form
 have hr := hid (rises hs)
 have hpo := hid (fun i h0 h1 h2 => pos_of (l := l) (b := b) (i := i) h0 h1 h2)
 have hha := hid (fun i h1 h2 => has_of (l := l) (b := b) (i := i) hr.out h1 h2)
 generalize posB l b = p at *
 generalize hasB l b = hb at *
 have hC := fun c w => txn_find1 c b w
 replace h := hid h; replace hC := hid hC
 clear hs
 go_enter Tryd.func68, Tryd.ntmps68
 go_wp2
 go_loopg [9, 10] l.length (fun kx s9 s10 wr => ∃ lo hi : Nat, s9 = .int .i64 lo ∧ s10 = .int .i64 hi ∧ lo ≤ hi ∧ hi ≤ l.length ∧ hi - lo ≤ kx ∧ Below w.heap.size w wr ∧ Hid (∀ k (hk : k < l.length), k < lo → l[k].block < b) ∧ Hid (∀ k (hk : k < l.length), hi ≤ k → b ≤ l[k].block))
 case atStart => exact ⟨0, l.length, rfl, rfl, Nat.zero_le _, Nat.le_refl _, by omega, b0 w, hid (fun k _ hk => absurd hk (Nat.not_lt_zero k)), hid (fun k hk h2 => by omega)⟩
 case round =>
  obtain ⟨lo, hi, rfl, rfl, hlh, hin, hg, nx, i1, i2⟩ := hrel
  by_cases hlt : lo < hi
  ·have hm : (lo + hi) / 2 < l.length := by omega
   obtain ⟨b1, o1, rfl, c0, c1⟩ := RL.at2 (fun x => .int .i64 x.block) (fun x => .string x.text) (fun _ => rfl) (h.out.below nx) hm
   have j1 := hid (fun (hh : l[(lo + hi) / 2].block < b) => (show ∀ k (hk : k < l.length), k < (lo + hi) / 2 + 1 → l[k].block < b from fun k hk hk2 => by
    by_cases e : k = (lo + hi) / 2
    ·subst e; exact hh
    ·have := hr.out _ hm k (by omega); omega))
   have j2 := hid (fun (hh : b ≤ l[(lo + hi) / 2].block) => (show ∀ k (hk : k < l.length), (lo + hi) / 2 ≤ k → b ≤ l[k].block from fun k hk hk2 => by
    by_cases e : k = (lo + hi) / 2
    ·subst e; exact hh
    ·have := hr.out k hk _ (show (lo + hi) / 2 < k by omega); omega))
   generalize l[(lo + hi) / 2] = x at *
   have hCx := hC.out x
   by_cases hx : x.block < b
   ·rw [cmpI_lt hx] at hCx
    replace j1 := hid (j1.out hx)
    replace hCx := hid hCx
    clear j2
    go_wp2_with (go_at_call 69; go_loud ((with_reducible refine (hCx.out _).mono ?_); rintro e w1 ⟨rfl, hb1⟩))
    go_roundg (hi - ((lo + hi) / 2 + 1))
    case measure => omega
    case rel => exact ⟨(lo + hi) / 2 + 1, hi, by rw [show ((lo : Int) + (hi : Int)) / 2 + 1 = (((lo + hi) / 2 + 1 : Nat) : Int) by omega], rfl, by omega, hin, Nat.le_refl _, bgo nx hb1, j1, i2⟩
   ·have hnn : ¬ cmpI x.block b < 0 := by
      by_cases h2 : b < x.block
      · rw [cmpI_gt h2]; decide
      · rw [cmpI_eq (by omega)]; decide
    generalize cmpI x.block b = cv at *
    replace j2 := hid (j2.out (by omega))
    replace hCx := hid hCx
    clear j1 hx
    go_wp2_with (go_at_call 69; go_loud ((with_reducible refine (hCx.out _).mono ?_); rintro e w1 ⟨rfl, hb1⟩))
    go_roundg ((lo + hi) / 2 - lo)
    case measure => omega
    case rel => exact ⟨lo, (lo + hi) / 2, rfl, by rw [show ((lo : Int) + (hi : Int)) / 2 = (((lo + hi) / 2 : Nat) : Int) by omega], by omega, by omega, Nat.le_refl _, bgo nx hb1, i1, j2⟩
  ·obtain rfl : hi = lo := by omega
   have hp := hid (hpo.out hi hin i1.out i2.out)
   have hh := hid (hha.out hi i1.out i2.out)
   by_cases hn : hi < l.length
   ·obtain ⟨b1, o1, rfl, c0, c1⟩ := RL.at2 (fun x => .int .i64 x.block) (fun x => .string x.text) (fun _ => rfl) (h.out.below nx) hn
    have hge := i2.out hi hn (Nat.le_refl _)
    have hh2 : hb = true ↔ l[hi].block = b := ⟨fun h => (hh.out.1 h).2, fun h => hh.out.2 ⟨hn, h⟩⟩
    clear i1 i2 hh
    generalize l[hi] = x at *
    have hCx := hC.out x
    by_cases hx : x.block = b
    ·have hv := hid (hh2.2 hx)
     rw [cmpI_eq hx] at hCx
     replace hCx := hid hCx
     clear hx hge hh2
     go_wp2_with (go_at_call 69; go_loud ((with_reducible refine (hCx.out _).mono ?_); rintro e w1 ⟨rfl, hb1⟩))
     go_ret2
     exact ⟨by rw [hp.out, hv.out]; rfl, bgo nx hb1⟩
    ·have hv := hid (show hb = false by
       cases hbv : hb with
       | false => rfl
       | true => exact absurd (hh2.1 hbv) hx)
     rw [cmpI_gt (by omega)] at hCx
     replace hCx := hid hCx
     clear hx hge hh2
     go_wp2_with (go_at_call 69; go_loud ((with_reducible refine (hCx.out _).mono ?_); rintro e w1 ⟨rfl, hb1⟩))
     go_ret2
     exact ⟨by rw [hp.out, hv.out]; rfl, bgo nx hb1⟩
   ·have hv := hid (show hb = false by
      cases hbv : hb with
      | false => rfl
      | true => obtain ⟨h1, _⟩ := hh.out.1 hbv; omega)
    clear hh i1 i2
    go_wp2
    go_ret2
    exact ⟨by rw [hp.out, hv.out]; rfl, nx⟩
theorem txn_find (l : List Cpy) (b : Int) (v : Value) (w : World) (hs : rise (blks l) = true) (h : RL cpyC w v l) (hl : l.length ≤ 5864062014805) :
    Calls Tryd.prog 60 #[v, .int .i64 b] w fun e w' => e = .returned (.tuple #[.int .i64 (posB l b : Nat), .bool (hasB l b)]) ∧ Below w.heap.size w w' := by
 have hB := hid (slices_BinarySearchC l b v w hs h hl)
 obtain ⟨a, cap, rfl, _⟩ := h.form
 generalize posB l b = p at *
 clear h hs
 go_enter Tryd.func60, Tryd.ntmps60
 go_wp2_with (go_at_call 68; go_loud ((with_reducible refine hB.out.mono ?_); rintro e w1 ⟨rfl, hb1⟩))
 go_ret2
 exact ⟨rfl, hb1⟩
theorem txn_has (l : List Cpy) (b : Int) (v : Value) (w : World) (hs : rise (blks l) = true) (h : RL cpyC w v l) (hl : l.length ≤ 5864062014805) :
    Calls Tryd.prog 48 #[v, .int .i64 b] w fun e w' => e = .returned (.bool (hasB l b)) ∧ Below w.heap.size w w' := by
 have hB := hid (txn_find l b v w hs h hl)
 obtain ⟨a, cap, rfl, _⟩ := h.form
 clear h hs
 go_enter Tryd.func48, Tryd.ntmps48
 go_wp2_with (go_at_call 60; go_loud ((with_reducible refine hB.out.mono ?_); rintro e w1 ⟨rfl, hb1⟩))
 go_ret
 exact ⟨rfl, hb1⟩
end Go.Proofs.YtjhmfljlclajnacDoor
namespace Wb
open Go Go.RowKit
theorem OwnM.own {α : Type} {f : α → List Value} {e : TypeId} {c : Nat} {v : Value} {l : List α} {M L T : List Ent} {w0 w : World} {R : List Rd} (hF : Flat f c) (h : OwnM f e c v l M) (X : St [] w0 w (L ++ (M ++ T)) R) : Own f w0.heap.size e c w v l := by
 rcases h with ⟨rfl, rfl, rfl⟩ | ⟨g, cap, rest, rfl, h1, h2, h3, rfl⟩
 ·exact Own.nil _ _ _ _ _
 ·have hk := X.blk ⟨g, l.flatMap f ++ rest, e⟩ (by simp)
  have ho := X.own ⟨g, l.flatMap f ++ rest, e⟩ (by simp)
  refine ⟨flat_len hF.len l, .inr ⟨g, cap, _, rfl, ho.resolve_left (fun h => by cases h), hk, h1, h2, ?_, ?_⟩⟩
  ·simpa using h3
  ·rw [← flat_len hF.len l]; simp
theorem map_take {α β : Type} {f : α → β} {l : List α} {k : Nat} (hk : k < l.length) : (l.take (k + 1)).map f = (l.take k).map f ++ [f l[k]] := by
 rw [List.take_succ_eq_append_getElem hk, List.map_append]; rfl
end Wb
namespace Go.Proofs.YtjhmfljlclajnacDoor
open Go.RowKit Wb
set_option maxRecDepth 100000
set_option maxHeartbeats 8000000
theorem seal_log (s : ByteArray) (p : Int) (hp : 0 ≤ p ∧ p < 24) {S : List Nat} {w0 w : World} {A M T : List Ent} {R : List Rd} {g12 g10 ga k m c n n' cap : Nat} {cs : List Value} {v : Value} {l : List Stp}
    (X : St S w0 w (⟨g12, [v], 39⟩ :: ⟨g10, [.slice (some ⟨ga, k, none⟩) m c], 50⟩ :: (A ++ (M ++ T))) R) (hO : OwnM stpC 84 3 v l M) (hR : ⟨.slice (some ⟨ga, 0, none⟩) n' cap, n, cs⟩ ∈ R) (hk : cs[k]? = some (.int .i64 p)) (hm : 0 < m) (hmc : m ≤ c) (hl : l.length ≤ 1000) :
    Calls Tryd.prog 34 #[.string s, .pointer (some ⟨g12, 0, none⟩), .pointer (some ⟨g10, 0, none⟩)] w fun e w' => ∃ u v' at' M', e = .returned u ∧ OwnM stpC 84 3 v' (l ++ [atW p s]) M' ∧ (1 < m → at' = .slice (some ⟨ga, k + 1, none⟩) (m - 1) (c - 1)) ∧
      St S w0 w' (⟨g12, [v'], 39⟩ :: ⟨g10, [at'], 50⟩ :: (A ++ (M' ++ T))) R := by
 obtain ⟨hp0, hp1⟩ := hp
 have hW := fun x s w => seal_write x s w
 have hgo : [atW p s].flatMap stpC = [.int .i64 1, .int .i64 (1 + p), .string s] := rfl
 have h40 : l.length + 1 ≤ 1099511627776 := by omega
 obtain ⟨ao, co, rfl⟩ := hO.form
 have m1 : 1 ≤ m := hm
 have c1 : 1 ≤ c := by omega
 have hwr : IntKind.i64.wrap (1 + p) = 1 + p := IntWalk.i64_in _ (by omega)
 replace hW := hid hW
 go_enter Tryd.func34, Tryd.ntmps34
 go_wp2
 (refine q_startS 2 [9] [6, 7, 8, 9] [0, 1, 3] [0, 1, 2, 3, 4, 5, 6, 7, 8, 9] X ?_; clear X; intro hQ X hL; simp only [zF, zG] at hL; simp only [zF, zG])
 (refine Zl ?_)
 (refine Zl ?_)
 (refine Zg ?_)
 (refine q_cell0 rfl rfl Zev hR hk rfl rfl X hL hQ ?_; (simp only [Act.put, zA, zB, zC, zD, zE, zF, zG, Nat.reduceAdd]))
 (refine Zg ?_)
 (refine Zm ?_)
 (refine q_callS 27 Tryd.func27 (hW.out _ _ _) ?_; rintro e w1 ⟨rfl, hb1⟩; replace X := X.call hb1; clear hb1; refine Zce ?_; clear hL; intro hL)
 (refine q_build1 rfl rfl Zev (by rfl) (by rfl) X hL rfl rfl ?_; intro g w X2 hL2; replace X := X2; replace hL := hL2; clear X2 hL2; (simp only [Act.put, zA, zB, zC, zD, zE, zF, zG, Nat.reduceAdd]))
 (refine q_app (M := M) (T := T) (n := 1) (_ :: _ :: A) rfl rfl [atW p s] stpC_flat X hO Zev Zev hgo rfl h40 hL (.cons_cons _ (.cons_cons _ (List.nil_sublist _))) rfl rfl ?_; intro a2 c2 w2 M2 hO2 X2 hL2; replace X := X2; replace hL := hL2; clear X2 hL2; (simp only [Act.put, zA, zB, zC, zD, zE, zF, zG, Nat.reduceAdd]))
 (refine Zb ?_; clear X; intro w X)
 refine q_nil ?_
 go_wp2_with (first
  | (refine ZcL ?_) | (refine ZcS ?_; clear X; intro w X) | (refine ZcA ?_; clear X; intro g w X))
 all_goals exact bodyPost_end (results_none rfl _ _ _) rfl ⟨⟨_, rfl⟩, _, _, _, hO2, fun h => (by first | rfl | (exfalso; omega) | (rw [if_neg (by omega)])), X⟩
theorem seal_mark (kd at_ : Int) (x0 q : Int) (vt vb : Value) (mk : Mrk) (p : Int) (hp : 0 ≤ p ∧ p < 24) {S : List Nat} {w0 w : World} {A M T : List Ent} {R : List Rd} {g12 g10 g15 g3 ga k m c n n' cap : Nat} {cs tcs : List Value} {t3 : TypeId} {v : Value} {l : List Stp}
    (hmk : ∀ w' L', St S w0 w' L' R → RMark w' (.agg #[.int .i64 kd, .int .i64 q, .int .i64 at_, vt, vb]) mk)
    (X : St S w0 w (⟨g12, [v], 39⟩ :: ⟨g10, [.slice (some ⟨ga, k, none⟩) m c], 50⟩ :: ⟨g15, [.func (.func 34) #[] #[.pointer (some ⟨g12, 0, none⟩), .pointer (some ⟨g10, 0, none⟩)]], 93⟩ :: ⟨g3, .int .i64 q :: tcs, t3⟩ :: (A ++ (M ++ T))) R) (hO : OwnM stpC 84 3 v l M) (hR : ⟨.slice (some ⟨ga, 0, none⟩) n' cap, n, cs⟩ ∈ R) (hk : cs[k]? = some (.int .i64 p)) (hm : 0 < m) (hmc : m ≤ c) (hl : l.length ≤ 1000) :
    Calls Tryd.prog 35 #[.agg #[.int .i64 kd, .int .i64 x0, .int .i64 at_, vt, vb], .pointer (some ⟨g3, 0, none⟩), .pointer (some ⟨g15, 0, none⟩)] w fun e w' => ∃ u v' at' M', e = .returned u ∧ OwnM stpC 84 3 v' (l ++ [atW p (markS mk)]) M' ∧ (1 < m → at' = .slice (some ⟨ga, k + 1, none⟩) (m - 1) (c - 1)) ∧
      St S w0 w' (⟨g12, [v'], 39⟩ :: ⟨g10, [at'], 50⟩ :: ⟨g15, [.func (.func 34) #[] #[.pointer (some ⟨g12, 0, none⟩), .pointer (some ⟨g10, 0, none⟩)]], 93⟩ :: ⟨g3, .int .i64 q :: tcs, t3⟩ :: (A ++ (M' ++ T))) R := by
 have hE := fun w' L' (X' : St S w0 w' L' R) => stamp_Encode mk _ w' (hmk w' L' X')
 have hL := fun s w (X : St S w0 w (⟨g12, [v], 39⟩ :: ⟨g10, [.slice (some ⟨ga, k, none⟩) m c], 50⟩ :: ⟨g15, [.func (.func 34) #[] #[.pointer (some ⟨g12, 0, none⟩), .pointer (some ⟨g10, 0, none⟩)]], 93⟩ :: ⟨g3, .int .i64 q :: tcs, t3⟩ :: (A ++ (M ++ T))) R) => seal_log s p hp (A := ⟨g15, [.func (.func 34) #[] #[.pointer (some ⟨g12, 0, none⟩), .pointer (some ⟨g10, 0, none⟩)]], 93⟩ :: ⟨g3, .int .i64 q :: tcs, t3⟩ :: A) X hO hR hk hm hmc hl
 generalize markS mk = ms at *
 generalize markE mk = me at *
 replace hE := hid hE; replace hL := hid hL; replace hR := hid hR; replace hk := hid hk
 clear hmk
 go_enter Tryd.func35, Tryd.ntmps35
 go_wp2_with (first
  | (refine ZcL ?_) | (refine ZcS ?_; clear X; intro w X) | (refine ZcA ?_; clear X; intro g w X)
  | (go_at_call 24; go_loud ((with_reducible refine (hE.out _ _ X).mono ?_); rintro e w1 ⟨rfl, hb1⟩; replace X := X.call hb1; clear hb1))
  | (go_at_call 34; go_loud ((with_reducible refine (hL.out _ _ X.tail).mono ?_); rintro e w1 ⟨u, v2, at2, M2, rfl, hO2, hat, X2⟩; replace X := X2; clear X2)))
 exact bodyPost_end (results_none rfl _ _ _) rfl ⟨_, _, _, _, rfl, hO2, hat, X⟩
end Go.Proofs.YtjhmfljlclajnacDoor
namespace Wb
open Go Go.RowKit
theorem Blk.c10 {w : World} {g : Nat} {a0 a1 a2 a3 a4 a5 a6 a7 a8 a9 : Value} {T : TypeId} (k : Blk w g #[a0, a1, a2, a3, a4, a5, a6, a7, a8, a9] T) :
    w.cell? ⟨g, 0, none⟩ = some a0 ∧ w.cell? ⟨g, 1, none⟩ = some a1 ∧ w.cell? ⟨g, 2, none⟩ = some a2 ∧ w.cell? ⟨g, 3, none⟩ = some a3 ∧ w.cell? ⟨g, 4, none⟩ = some a4 ∧ w.cell? ⟨g, 5, none⟩ = some a5 ∧ w.cell? ⟨g, 6, none⟩ = some a6 ∧ w.cell? ⟨g, 7, none⟩ = some a7 ∧ w.cell? ⟨g, 8, none⟩ = some a8 ∧ w.cell? ⟨g, 9, none⟩ = some a9 :=
 ⟨k.cell 0, k.cell 1, k.cell 2, k.cell 3, k.cell 4, k.cell 5, k.cell 6, k.cell 7, k.cell 8, k.cell 9⟩
def stepC (l : List Cpy) (k : Nat) : Prop := ∀ (hk : k < l.length), isBlk l[k].block = true ∧ l[k].text.size = 32 ∧ (∀ (h : 0 < k), l[k - 1].block < l[k].block)
theorem copies_iff (l : List Cpy) : copiesB l = true ↔ ∀ k, k < l.length → stepC l k := by
 unfold copiesB
 rw [Bool.and_eq_true, rise_iff, List.all_eq_true]
 have hg : ∀ j (hj : j < l.length), (blks l).getD j 0 = l[j].block := fun j hj => by simp [blks, hj]
 have hlen : (blks l).length = l.length := by simp [blks]
 constructor
 ·rintro ⟨h1, h2⟩ k hk hk2
  have := h1 k (by omega)
  unfold riseAt at this
  rw [hg k hk] at this
  refine ⟨decide_eq_true ⟨this.1, this.2.1⟩, of_decide_eq_true (h2 _ (List.getElem_mem hk)), fun h => ?_⟩
  have h3 := this.2.2 h
  rw [hg (k - 1) (by omega)] at h3
  exact h3
 ·intro h
  refine ⟨fun k hk => ?_, fun x hx => ?_⟩
  ·have hk2 : k < l.length := by omega
   obtain ⟨g1, g2, g3⟩ := h k hk2 hk2
   have g1 := of_decide_eq_true g1
   unfold riseAt
   rw [hg k hk2]
   refine ⟨g1.1, g1.2, fun h0 => ?_⟩
   rw [hg (k - 1) (by omega)]
   exact g3 h0
  ·obtain ⟨k, hk, rfl⟩ := List.mem_iff_getElem.1 hx
   exact decide_eq_true (h k hk hk).2.1
theorem copies_bad {l : List Cpy} {k : Nat} (hk : k < l.length) (h : ¬ stepC l k) : copiesB l = false := by
 rw [← Bool.not_eq_true, copies_iff]
 exact fun hh => h (hh k hk)
def hndC (h : Hnd) : List Value := [.bool h.on, .int .i64 h.left]
end Wb
namespace Go.Proofs.YtjhmfljlclajnacDoor
open Go.RowKit Wb
set_option maxRecDepth 100000
set_option maxHeartbeats 4000000
theorem txn_copies (l : List Cpy) (v : Value) (w : World) (h : RL cpyC w v l) (hl : l.length ≤ 5864062014805) :
    Calls Tryd.prog 46 #[v] w fun e w' => e = .returned (.bool (copiesB l)) ∧ Below w.heap.size w w' := by
 obtain ⟨a, cap, rfl, _⟩ := h.form
 have hci := copies_iff l
 have hno := fun k hk hh => copies_bad (l := l) (k := k) hk hh
 have hB := fun b w => txn_block b w
 generalize copiesB l = cb at *
 replace h := hid h; replace hci := hid hci; replace hno := hid hno; replace hB := hid hB
 go_enter Tryd.func46, Tryd.ntmps46
 go_wp2
 go_loopw [3, 4, 7] (fun _ _ i wr => ∃ k : Nat, k ≤ l.length ∧ i = .int .i64 k ∧ Hid (∀ j, j < k → stepC l j) ∧ Below w.heap.size w wr) (fun _ _ i _ => l.length - (intOf i).toNat)
 case atStart => exact ⟨0, Nat.zero_le _, rfl, hid (fun j hj => absurd hj (Nat.not_lt_zero j)), b0 w⟩
 case round =>
  obtain ⟨k, hk, rfl, hall, nx⟩ := hrel
  by_cases hlt : k < l.length
  ·obtain ⟨b1, o1, rfl, d0, d1⟩ := RL.at2 (fun x => .int .i64 x.block) (fun x => .string x.text) (fun _ => rfl) (h.out.below nx) hlt
   have hsk := hid (show isBlk l[k].block = true → l[k].text.size = 32 → (∀ (h : 0 < k), l[k - 1].block < l[k].block) → ∀ j, j < k + 1 → stepC l j from fun h1 h2 h3 j hj => by
    by_cases e : j = k
    ·subst e; exact fun _ => ⟨h1, h2, h3⟩
    ·exact hall.out j (by omega))
   have hnk := hid (show ¬ (isBlk l[k].block = true ∧ l[k].text.size = 32 ∧ (∀ (h : 0 < k), l[k - 1].block < l[k].block)) → cb = false from fun h => hno.out k hlt (fun hh => h (hh hlt)))
   have hBk := hB.out l[k].block
   by_cases hb : isBlk l[k].block = true
   ·rw [hb] at hBk
    by_cases hs : l[k].text.size = 32
    ·have hs2 : ((l[k].text.size : Int) != 32) = false := by rw [hs]; rfl
     rcases Nat.eq_zero_or_pos k with hk0 | hk0
     ·subst hk0
      have hs3 := hid (hsk.out hb hs (fun h => absurd h (Nat.lt_irrefl 0)))
      simp only [Nat.zero_mul, Nat.add_zero] at d0 d1
      clear hsk hnk hs hb hall
      replace hBk := hid hBk
      generalize l[0] = x at *
      obtain ⟨xb, xt⟩ := x
      dsimp only at *
      have kx := Blk.new wr #[.int .i64 xb, .string xt] 46
      have x0 := kx.cell 0; have x1 := kx.cell 1
      simp only [Zga, Zgb, Zgc] at x0 x1
      go_wp2
      refine wp_region_below (by kernel_rfl) (by kernel_rfl) ?_
      repeat (go_big_quiet_step ((go_at_call 47; exact BW.call_same (hBk.out _))))
      refine wpQuiet_nil ?_
      intro _ hw'
      obtain ⟨⟨wq, hq⟩, rfl⟩ := hw'
      go_wp2
      go_roundw
      case rel => exact ⟨1, by omega, by go_num, hs3, (bal nx _).trans (hq.mono (by have := nx.size; simp; omega))⟩
      case measure => simp [intOf]; omega
     ·obtain ⟨j, rfl⟩ : ∃ j, k = j + 1 := ⟨k - 1, by omega⟩
      have hlj : j < l.length := by omega
      obtain ⟨b2, off2, hbb, d2, d3⟩ := RL.at2 (fun x => .int .i64 x.block) (fun x => .string x.text) (fun _ => rfl) (h.out.below nx) hlj
      simp only [Option.some.injEq, Addr.mk.injEq] at hbb
      obtain ⟨rfl, rfl, _⟩ := hbb
      have e1 : j + 1 - 1 = j := by omega
      by_cases hlt2 : l[j].block < l[j + 1].block
      ·have hs3 := hid (hsk.out hb hs (fun h => hlt2))
       clear hsk hnk hs hb hall
       replace hBk := hid hBk
       generalize l[j + 1] = x at *
       generalize l[j] = y at *
       obtain ⟨xb, xt⟩ := x
       obtain ⟨yb, yt⟩ := y
       dsimp only at *
       have kx := Blk.new wr #[.int .i64 xb, .string xt] 46
       have x0 := kx.cell 0; have x1 := kx.cell 1
       simp only [Zga, Zgb, Zgc] at x0 x1
       have lt1 := World.block_lt_of_cell? _ _ d2
       dsimp only at lt1
       go_wp2
       refine wp_region_below (by kernel_rfl) (by kernel_rfl) ?_
       repeat (go_big_quiet_step ((go_at_call 47; exact BW.call_same (hBk.out _))))
       refine wpQuiet_nil ?_
       intro _ hw'
       obtain ⟨⟨wq, hq⟩, rfl⟩ := hw'
       go_wp2
       go_roundw
       case rel => exact ⟨j + 1 + 1, by omega, by go_num, hs3, (bal nx _).trans (hq.mono (by have := nx.size; simp; omega))⟩
       case measure => simp [intOf]; omega
      ·have hv := hnk.out (fun hh => hlt2 (hh.2.2 (by omega)))
       subst hv
       clear hsk hnk hs hb hall
       replace hBk := hid hBk
       generalize l[j + 1] = x at *
       generalize l[j] = y at *
       obtain ⟨xb, xt⟩ := x
       obtain ⟨yb, yt⟩ := y
       dsimp only at *
       have kx := Blk.new wr #[.int .i64 xb, .string xt] 46
       have x0 := kx.cell 0; have x1 := kx.cell 1
       simp only [Zga, Zgb, Zgc] at x0 x1
       have lt1 := World.block_lt_of_cell? _ _ d2
       dsimp only at lt1
       go_wp2
       refine wp_region_below (by kernel_rfl) (by kernel_rfl) ?_
       repeat (go_big_quiet_step ((go_at_call 47; exact BW.call_same (hBk.out _))))
       refine wpQuiet_nil ?_
       intro _ hw'
       obtain ⟨⟨wq, hq⟩, rfl⟩ := hw'
       go_wp2
       go_ret
       exact ⟨rfl, (bal nx _).trans (hq.mono (by have := nx.size; simp; omega))⟩
    ·have hv := hnk.out (fun hh => hs hh.2.1)
     subst hv
     have hs2 : ((l[k].text.size : Int) != 32) = true := bne_iff_ne.2 (by omega)
     clear hsk hnk hs hb hall
     replace hBk := hid hBk
     generalize l[k] = x at *
     obtain ⟨xb, xt⟩ := x
     dsimp only at *
     have kx := Blk.new wr #[.int .i64 xb, .string xt] 46
     have x0 := kx.cell 0; have x1 := kx.cell 1
     simp only [Zga, Zgb, Zgc] at x0 x1
     go_wp2
     refine wp_region_below (by kernel_rfl) (by kernel_rfl) ?_
     repeat (go_big_quiet_step ((go_at_call 47; exact BW.call_same (hBk.out _))))
     refine wpQuiet_nil ?_
     intro _ hw'
     obtain ⟨⟨wq, hq⟩, rfl⟩ := hw'
     go_wp2
     go_ret
     exact ⟨rfl, (bal nx _).trans (hq.mono (by have := nx.size; simp; omega))⟩
   ·have hv := hnk.out (fun hh => hb hh.1)
    subst hv
    rw [Bool.not_eq_true] at hb
    rw [hb] at hBk
    clear hsk hnk hb hall
    replace hBk := hid hBk
    generalize l[k] = x at *
    obtain ⟨xb, xt⟩ := x
    dsimp only at *
    have kx := Blk.new wr #[.int .i64 xb, .string xt] 46
    have x0 := kx.cell 0; have x1 := kx.cell 1
    simp only [Zga, Zgb, Zgc] at x0 x1
    go_wp2
    refine wp_region_below (by kernel_rfl) (by kernel_rfl) ?_
    repeat (go_big_quiet_step ((go_at_call 47; exact BW.call_same (hBk.out _))))
    refine wpQuiet_nil ?_
    intro _ hw'
    obtain ⟨⟨wq, hq⟩, rfl⟩ := hw'
    go_wp2
    go_ret
    exact ⟨rfl, (bal nx _).trans (hq.mono (by have := nx.size; simp; omega))⟩
  ·have hv := hci.out.2 (fun j hj => hall.out j (by omega))
   subst hv
   clear hall
   go_wp2
   go_ret
   exact ⟨rfl, nx⟩
end Go.Proofs.YtjhmfljlclajnacDoor
