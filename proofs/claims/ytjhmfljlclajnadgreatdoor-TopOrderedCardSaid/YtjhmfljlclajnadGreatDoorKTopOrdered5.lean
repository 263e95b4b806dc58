/- Parts of the proof: JwC SlTy JwD JwE JrQ JwF Bld5. -/
import Derived.Test.YtjhmfljlclajnadGreatDoorKTopOrdered4
set_option linter.unusedVariables false
set_option linter.unusedSimpArgs false
set_option maxRecDepth 100000
set_option maxHeartbeats 40000000
namespace Go.Proofs.YtjhmfljlclajnadGreatDoor
open Go.RowKit Wb
theorem _root_.Wb.InvJ.off' {j : Jn} (h : InvJ j) (hd : j.down = true) (hw : j.work = 0) : DnI j.disk j.last /\ j.found = fnd0 := by
 cases h with
 | idle hd0 => rw [hd0] at hd; cases hd
 | sealing d r us k hd0 => rw [hd0] at hd; cases hd
 | homing d k hd0 => rw [hd0] at hd; cases hd
 | off hj hu => exact ⟨hu, by rw [hj]; rfl⟩
 | rising d k hj => rw [hj] at hw; cases hw
theorem jr_begin (K : JK) {S : List Nat} {w0 w : World} {L : List Ent} {R : List Rd} {gj : Nat} {j : Jn} {M : List Ent} {Rj : List Rd} (F : JF gj j M Rj) (X : St S w0 w (M ++ L) (Rj ++ R)) (hF : flR 0 ∈ R) :
    Calls Tryz.prog 26 #[.pointer (some ⟨gj, 0, none⟩)] w fun e w' => ∃ M' Rj', e = .returned (.int .i64 (beginJ j).2) /\ JF gj (beginJ j).1 M' Rj' /\ St S w0 w' (M' ++ L) (Rj' ++ R) := by
 obtain ⟨v, ds, fs, MD, MU, hm, rfl, rfl⟩ := F
 have hsz := hm.inv.sz hm.sz
 have hdk := hsz.dk
 rw [List.cons_append] at X
 unfold jCells at X
 by_cases hd : j.down = false
 ·have hJ : beginJ j = (j, 9) := by unfold beginJ; rw [if_pos (.inl hd)]
  rw [hJ]
  dsimp only
  go_enter Tryz.func26, Tryz.ntmps26
  go_wp2_with (first
   | (refine ZhL ?_) | (refine ZhS ?_; clear X; intro w X) | (refine ZhA ?_; clear X; intro g w X))
  go_ret
  exact ⟨_, _, rfl, ⟨v, ds, fs, MD, MU, hm, rfl, rfl⟩, X⟩
 ·have hdt : j.down = true := by simpa using hd
  by_cases hw : j.work = 0
  ·obtain ⟨hdn, hfd⟩ := hm.inv.off' hdt hw
   obtain ⟨e1, e2, e3, e4, e5⟩ := hdn.scan
   have hJ : beginJ j = ({ j with found := scanF j.disk, steps := checkL (newestL (scanF j.disk).txns) (scanF j.disk).at_ (scanF j.disk).next, work := 3 }, 0) := by unfold beginJ; rw [if_neg (by rw [hdt, hw]; simp), if_neg (by rw [e1]; decide), if_neg (by rw [e3]; decide)]
   have hI := inv_begin hm.inv
   rw [hJ] at hI ⊢
   dsimp only at hI ⊢
   have hw2 : (j.work != 0) = false := by simpa using hw
   have hg := newestL_copies e2
   obtain ⟨b1, b2⟩ := scan_bounds e1
   have hck := (chk_ok hg b1 b2).2
   have hSc := fun v w (h : RDisk w v j.disk) => K.scan j.disk v w h
   rw [e1] at hSc
   have hRp := fun v w (h : RTxns w v (scanF j.disk).txns) => K.replay (scanF j.disk).txns e2 v w h
   have hCk := fun v w (h : RL cpyC w v (newestL (scanF j.disk).txns)) hF => K.check (newestL (scanF j.disk).txns) (scanF j.disk).at_ (scanF j.disk).next v w h (by have := copies_len hg; omega) hF
   rw [e3] at hCk
   clear hJ hd hw e1 e2 e3 e4 hg b1 b2 hdn
   generalize checkL (newestL (scanF j.disk).txns) (scanF j.disk).at_ (scanF j.disk).next = ST at *
   generalize newestL (scanF j.disk).txns = NL at *
   generalize scanF j.disk = FF at *
   obtain ⟨fl, fn, fa⟩ := FF
   dsimp only at *
   replace hSc := hid hSc; replace hRp := hid hRp; replace hCk := hid hCk; replace hI := hid hI; replace hck := hid hck; replace hm := hid hm; replace hsz := hid hsz; replace hfd := hid hfd
   go_enter Tryz.func26, Tryz.ntmps26
   go_upto_region 7 with (first
    | (refine ZhL ?_) | (refine ZhS ?_; clear X; intro w X) | (refine ZhA ?_; clear X; intro g w X)
    | (go_at_call 49; ((with_reducible refine (hSc.out _ _ (X.jDisk hdk (fun r hr => List.mem_append_left _ hr))).mono ?_); rintro e w2 ⟨vt, rfl, of1, hb2⟩; obtain ⟨at1, ct1, rfl⟩ := of1.form; obtain ⟨xs, hxs, hxf, X2⟩ := X.addOTxns hb2 of1; replace X := X2; clear hb2 of1 X2)))
   have hxl : xs.length <= 1099511627744 := by have := congrArg List.length hxs; simp at this; omega
   (refine q_startS 1 [] [3, 8, 14] [2, 5, 7] [0, 1, 2, 4, 5, 6, 7, 3, 8, 9, 10, 11, 12, 13, 14, 15] X ?_; clear X; intro hQ X hL; simp only [zF, zG] at hL; simp only [zF, zG])
   refine Zm ?_
   refine Zf ?_
   refine Zl ?_
   refine Zf ?_
   refine Zl ?_
   refine Zf ?_
   refine Zl ?_
   (refine q_callS 51 Tryz.func51 (hRp.out _ _ (by have hq := X.txns hxf hxl (fun r hr => List.mem_append_left _ hr); rw [hxs] at hq; exact hq)) ?_; rintro e w1 ⟨v1, rfl, ho1, hb1⟩; obtain ⟨a1, c1, rfl⟩ := ho1.form; replace X := X.addOwn hb1 ho1; clear hb1 ho1; refine Zce ?_; clear hL; intro hL)
   (refine q_callS 50 Tryz.func50 (hCk.out _ _ X.r0 (X.rd _ (List.Mem.tail _ (List.mem_append_right _ (List.mem_append_right _ hF)))).1) ?_; rintro e w1 ⟨v3, rfl, ho1, hb1⟩; obtain ⟨a3, c3, rfl⟩ := ho1.form; replace X := X.addOwn hb1 ho1; clear hb1 ho1; refine Zce ?_; clear hL; intro hL)
   refine Zm ?_
   refine Zx ?_
   refine Zx ?_
   refine Zn ?_
   refine Zf ?_
   (refine Zs ?_; clear hL X; intro w X hL)
   refine Za ?_
   refine q_nil ?_
   go_wp2_with (first
    | (refine ZhL ?_) | (refine ZhS ?_; clear X; intro w X) | (refine ZhA ?_; clear X; intro g w X))
   go_ret
   refine ⟨_, _, rfl, ⟨{ v with st := ⟨a3, c3⟩, ft := ⟨at1, ct1⟩ }, ds, xs, MD, MU, ⟨hm.out.dn, hm.out.us, hm.out.dmap, hxs, hm.out.dfit, hxf, hI.out, ⟨e5, ?_⟩⟩, rfl, rfl⟩, ?_⟩
   ·have := hck.out
    show ST.length <= 100
    omega
   ·exact (X.sub (List.sublist_cons_self _ _)).rds (jRds_sub (.tail _ (.tail _ (List.mem_append_right _ Zfl))) (.tail _ (.tail _ (List.mem_append_right _ Zfl))) (.tail _ (.tail _ (List.mem_append_right _ Zfl))) (.tail _ (.tail _ (List.mem_append_right _ Zfl))) (.tail _ (.tail _ (List.mem_append_right _ Zfl))) (.tail _ (.tail _ (List.mem_append_right _ Zfl))) (.tail _ (.tail _ (List.mem_append_right _ Zfl))) (.tail _ (.tail _ (List.mem_append_right _ Zfl))) (.head _) (.tail _ (.tail _ (.head _))) (fun r hr => .tail _ (.tail _ (List.mem_append_left _ (.tail _ hr)))) (fun r hr => .tail _ (.tail _ (List.mem_append_right _ (inD_in r hr)))) (fun r hr => .tail _ (.tail _ (List.mem_append_right _ (List.mem_append_right _ hr)))))
  ·have hJ : beginJ j = (j, 9) := by unfold beginJ; rw [if_pos (.inr hw)]
   rw [hJ]
   dsimp only
   have hw2 : (j.work != 0) = true := by simpa using hw
   clear hw hd
   go_enter Tryz.func26, Tryz.ntmps26
   go_wp2_with (first
    | (refine ZhL ?_) | (refine ZhS ?_; clear X; intro w X) | (refine ZhA ?_; clear X; intro g w X))
   go_ret
   exact ⟨_, _, rfl, ⟨v, ds, fs, MD, MU, hm, rfl, rfl⟩, X⟩
instance : SlT Tryz.prog 67 118 3 32 := ⟨Elem.mk' (z := .agg #[.int .i64 0, .int .i64 0, .string ⟨#[]⟩]) Tryz.underlying67 (by kernel_rfl) rfl, by decide, by decide, by decide⟩
instance : SlT Tryz.prog 37 63 2 24 := ⟨Elem.mk' (z := .agg #[.int .i64 0, .string ⟨#[]⟩]) Tryz.underlying37 (by kernel_rfl) rfl, by decide, by decide, by decide⟩
instance : SlT Tryz.prog 38 3 1 8 := ⟨Elem.mk' (z := .int .i64 0) Tryz.underlying38 (by kernel_rfl) rfl, by decide, by decide, by decide⟩
instance : SlT Tryz.prog 55 9 1 16 := ⟨Elem.mk' (z := .string ⟨#[]⟩) Tryz.underlying55 (by kernel_rfl) rfl, by decide, by decide, by decide⟩
instance : SlT Tryz.prog 86 136 2 16 := ⟨Elem.mk' (z := .agg #[.int .i64 0, .bool false]) Tryz.underlying86 (by kernel_rfl) rfl, by decide, by decide, by decide⟩
instance : SlT Tryz.prog 65 43 10 128 := ⟨Elem.mk' (z := .agg #[.int .i64 0, .slice none 0 0, .slice none 0 0, .slice none 0 0, .bool false, .int .i64 0, .bool false, .int .i64 0, .bool false, .int .i64 0]) Tryz.underlying65 (by kernel_rfl) rfl, by decide, by decide, by decide⟩
instance : OneT Tryz.prog 164 := ⟨⟨_, Tryz.underlying164, rfl⟩, by kernel_rfl⟩
instance : ZeroT Tryz.prog 164 [.nilFunc] := ⟨by kernel_rfl⟩
instance : OneT Tryz.prog 165 := ⟨⟨_, Tryz.underlying165, rfl⟩, by kernel_rfl⟩
instance : ZeroT Tryz.prog 165 [.nilFunc] := ⟨by kernel_rfl⟩
theorem jr_noC (c : Int) (w : World) :
    Calls Tryz.prog 53 #[.int .i64 c] w fun e w' => e = .returned (.agg #[.int .i64 c, .int .i64 0, .string ⟨#[]⟩]) /\ Below w.heap.size w w' := by
 have X : St [] w w [] [] := St.start [] w
 go_enter Tryz.func53, Tryz.ntmps53
 go_wp2_with (first
  | (refine ZyL ?_) | (refine ZyS ?_; clear X; intro w X) | (refine ZyA ?_; clear X; intro g w X))
 exact m_ret1 rfl (.tmp rfl rfl) X (.head _) rfl rfl ⟨rfl, X.below⟩
theorem jr_commit (K : JK) {S : List Nat} {w0 w : World} {L : List Ent} {R : List Rd} {gj : Nat} {j : Jn} {M : List Ent} {Rj : List Rd} (F : JF gj j M Rj) (X : St S w0 w (M ++ L) (Rj ++ R)) (hF : flR 0 ∈ R) (hd : j.down = false) :
    Calls Tryz.prog 28 #[.pointer (some ⟨gj, 0, none⟩)] w fun e w' => ∃ M' Rj', e = .returned (commitJ j).2.val /\ JF gj (commitJ j).1 M' Rj' /\ St S w0 w' (M' ++ L) (Rj' ++ R) := by
 obtain ⟨v, ds, fs, MD, MU, hm, rfl, rfl⟩ := F
 have hsz := hm.inv.sz hm.sz
 rw [List.cons_append] at X
 unfold jCells at X
 have hNo := fun c w => jr_noC c w
 have hOp := fun v w h => K.opn j.now v w h
 by_cases hw : j.work = 0
 ·have hw2 : (j.work != 0) = false := by simpa using hw
  have hwn : ¬ j.work ≠ 0 := not_not_intro hw
  clear hw
  cases ho : openB j.now with
  | true =>
   have hJ : commitJ j = (j, noR 9) := by unfold commitJ; rw [if_pos (.inr ho)]
   rw [hJ]
   rw [ho] at hOp
   clear ho hwn hJ
   replace hNo := hid hNo; replace hOp := hid hOp; replace hsz := hid hsz; replace hm := hid hm
   go_enter Tryz.func28, Tryz.ntmps28
   go_wp2_with (first
    | (refine ZyL ?_) | (refine ZyS ?_; clear X; intro w X) | (refine ZyA ?_; clear X; intro g w X)
    | (go_at_call 53; ((with_reducible refine (hNo.out _ _).mono ?_); rintro e w1 ⟨rfl, hb1⟩; replace X := X.call hb1; clear hb1))
    | (go_at_call 54; ((with_reducible refine (hOp.out _ _ (X.jNow hsz.out (fun r hr => List.mem_append_left _ hr))).mono ?_); rintro e w1 ⟨rfl, hb1⟩; replace X := X.call hb1; clear hb1)))
   exact m_ret1 rfl (.tmp rfl rfl) X (.tail _ (.head _)) rfl rfl ⟨_, _, rfl, ⟨v, ds, fs, MD, MU, hm.out, rfl, rfl⟩, X.sub (List.Sublist.cons _ (List.sublist_cons_self _ _))⟩
  | false =>
   have hl := hsz.now
   rw [ho] at hOp
   have hwo : ¬ (j.work ≠ 0 \/ openB j.now = true) := fun h => h.elim hwn (by rw [ho]; decide)
   clear hwn
   by_cases h0 : j.now.mt.length + j.now.dt.length + j.now.rev.length = 0
   ·have hJ : commitJ j = (j, noR 4) := by unfold commitJ; rw [if_neg hwo, if_pos h0]
    rw [hJ]
    have e1 : (((j.now.mt.length : Int) + (j.now.dt.length : Int) + (j.now.rev.length : Int)) == 0) = true := by simp; omega
    clear ho hwo hJ h0
    replace hNo := hid hNo; replace hOp := hid hOp; replace hsz := hid hsz; replace hm := hid hm
    go_enter Tryz.func28, Tryz.ntmps28
    go_wp2_with (first
          | (refine ZyL ?_) | (refine ZyS ?_; clear X; intro w X) | (refine ZyA ?_; clear X; intro g w X)
          | (go_at_call 53; ((with_reducible refine (hNo.out _ _).mono ?_); rintro e w1 ⟨rfl, hb1⟩; replace X := X.call hb1; clear hb1))
          | (go_at_call 54; ((with_reducible refine (hOp.out _ _ (X.jNow hsz.out (fun r hr => List.mem_append_left _ hr))).mono ?_); rintro e w1 ⟨rfl, hb1⟩; replace X := X.call hb1; clear hb1)))
    exact m_ret1 rfl (.tmp rfl rfl) X (.tail _ (.head _)) rfl rfl ⟨_, _, rfl, ⟨v, ds, fs, MD, MU, hm.out, rfl, rfl⟩, X.sub (List.Sublist.cons _ (List.sublist_cons_self _ _))⟩
   ·have e1 : (((j.now.mt.length : Int) + (j.now.dt.length : Int) + (j.now.rev.length : Int)) == 0) = false := beq_eq_false_iff_ne.2 (by omega)
    by_cases hq : 2147483646 <= j.now.seq
    ·have hJ : commitJ j = (j, noR 11) := by unfold commitJ; rw [if_neg hwo, if_neg h0, if_pos hq]
     rw [hJ]
     clear ho hwo hJ h0
     replace hNo := hid hNo; replace hOp := hid hOp; replace hsz := hid hsz; replace hm := hid hm
     go_enter Tryz.func28, Tryz.ntmps28
     go_wp2_with (first
         | (refine ZyL ?_) | (refine ZyS ?_; clear X; intro w X) | (refine ZyA ?_; clear X; intro g w X)
         | (go_at_call 53; ((with_reducible refine (hNo.out _ _).mono ?_); rintro e w1 ⟨rfl, hb1⟩; replace X := X.call hb1; clear hb1))
         | (go_at_call 54; ((with_reducible refine (hOp.out _ _ (X.jNow hsz.out (fun r hr => List.mem_append_left _ hr))).mono ?_); rintro e w1 ⟨rfl, hb1⟩; replace X := X.call hb1; clear hb1)))
     exact m_ret1 rfl (.tmp rfl rfl) X (.tail _ (.head _)) rfl rfl ⟨_, _, rfl, ⟨v, ds, fs, MD, MU, hm.out, rfl, rfl⟩, X.sub (List.Sublist.cons _ (List.sublist_cons_self _ _))⟩
    ·have hCm := fun v w h hF => K.com j.ring j.now v w h hF
     unfold Ring.val at hCm
     by_cases hc : comE j.ring j.now = 0
     ·have hJ : commitJ j = ({ j with used := j.used ++ [(comR j.ring j.now).used - j.ring.used], ring := comR j.ring j.now, sealed := j.now, steps := comL j.ring j.now, work := 1, now := txn0 (j.now.seq + 1) }, ⟨0, j.now.seq, ⟨#[]⟩⟩) := by unfold commitJ; rw [if_neg hwo, if_neg h0, if_neg hq, if_neg (not_not_intro hc)]
      have hI := inv_commit hd hm.inv
      rw [hJ] at hI ⊢
      dsimp only at hI ⊢
      rw [hc] at hCm
      have hcl := (com_ok hc).2
      obtain ⟨g1, g, g3, g4, g5, g6⟩ := comE_zero hc
      obtain ⟨u1, u2⟩ := comR_used hc
      have u3 := (goodR_iff _).1 u1
      have hwr : IntKind.i64.wrap ((comR j.ring j.now).used - j.ring.used) = (comR j.ring j.now).used - j.ring.used := IntWalk.i64_in _ (by omega)
      have hws : IntKind.i64.wrap (j.now.seq + 1) = j.now.seq + 1 := IntWalk.i64_in _ (by have := g.seq; omega)
      have hul := hsz.used
      clear ho hwo hJ h0 g1 g g3 g4 g5 g6 u1 u2 u3 hc
      generalize comR j.ring j.now = cr at *
      generalize comL j.ring j.now = ST at *
      replace hNo := hid hNo; replace hOp := hid hOp; replace hsz := hid hsz; replace hm := hid hm; replace hCm := hid hCm; replace hI := hid hI; replace hcl := hid hcl
      rw [List.append_assoc] at X
      go_enter Tryz.func28, Tryz.ntmps28
      go_upto_region 9 with (first
            | (refine ZyL ?_) | (refine ZyS ?_; clear X; intro w X) | (refine ZyA ?_; clear X; intro g w X)
            | (go_at_call 53; ((with_reducible refine (hNo.out _ _).mono ?_); rintro e w1 ⟨rfl, hb1⟩; replace X := X.call hb1; clear hb1))
            | (go_at_call 54; ((with_reducible refine (hOp.out _ _ (X.jNow hsz.out (fun r hr => List.mem_append_left _ hr))).mono ?_); rintro e w1 ⟨rfl, hb1⟩; replace X := X.call hb1; clear hb1)))
      (refine q_treeS 3 [] [5, 10, 11] [3, 4] (.fork [0, 1, 2, 3, 4] (.fin [5, 6, 7, 8, 9, 10, 11, 12, 13]) (.fin [10, 5, 6, 7, 8, 9, 11, 12, 13])) X ?_; clear X; intro hQ X hL; simp only [zF, zG] at hL; simp only [zF, zG])
      refine t_fork (fun _ => ?_) hQ
      refine Zm ?_
      refine Zn ?_
      refine Zf ?_
      refine Zl ?_
      refine Zl ?_
      refine t_two ?_ ?_
      ·refine t_fin ?_
       (refine q_callS 55 Tryz.func55 (hCm.out _ _ (X.jNow hsz.out (fun r hr => List.mem_append_left _ hr)) (X.rd _ (List.mem_append_right _ hF)).1) ?_; rintro e w1 ⟨v3, rfl, ho1, hb1⟩; obtain ⟨a3, c3, rfl⟩ := ho1.form; replace X := X.addOwn hb1 ho1; clear hb1 ho1; refine Zce ?_; clear hL; intro hL)
       refine Zm ?_
       refine Zx ?_
       refine Zx ?_
       refine Zx ?_
       (refine Zq ?_; clear hL X; intro g w X hL)
       (refine Zs ?_; clear hL X; intro w X hL)
       refine Za ?_
       refine Za ?_
       refine q_nil ?_
       go_upto_region 12 with (first
        | (refine ZyL ?_) | (refine ZyS ?_; clear X; intro w X) | (refine ZyA ?_; clear X; intro g w X))
       (refine q_startS 4 [17] [13, 14, 17] [4, 6, 11] [0, 1, 2, 3, 4, 5, 6, 7, 8, 9, 10, 11, 12, 13, 14, 15, 16, 17] X ?_; clear X; intro hQ X hL; simp only [zF, zG] at hL; simp only [zF, zG])
       refine Zm ?_
       refine Zm ?_
       refine Zn ?_
       refine Zf ?_
       refine Zl ?_
       refine Zf ?_
       refine Zl ?_
       refine Zm ?_
       refine Zn ?_
       refine Zf ?_
       refine Zf ?_
       refine Zl ?_
       refine Zg ?_
       (refine q_build1 rfl rfl Zev (by rfl) (by rfl) X hL rfl rfl ?_; intro g w X2 hL2; replace X := X2; replace hL := hL2; clear X2 hL2; (simp only [Act.put, zA, zB, zC, zD, zE, zF, zG, Nat.reduceAdd]))
       refine q_appO (_ :: _ :: _ :: _ :: MD) rfl rfl (cr.used - j.ring.used) intC_flat X hL hm.out.us Zev Zev rfl (by omega) Zsu rfl rfl ?_
       intro a5 c5 w5 MU5 hO5 X2 hL2
       replace X := X2
       replace hL := hL2
       clear X2 hL2
       simp only [List.cons_append] at X hL
       (simp only [Act.put, zA, zB, zC, zD, zE, zF, zG, Nat.reduceAdd])
       refine Zn ?_
       refine Zf ?_
       (refine Zb ?_; clear X; intro w X)
       refine q_nil ?_
       go_upto_region 13 with (first
        | (refine ZyL ?_) | (refine ZyS ?_; clear X; intro w X) | (refine ZyA ?_; clear X; intro g w X))
       (refine q_startS 2 [] [9, 12, 15, 18] [4, 5] [0, 1, 2, 3, 4, 5, 6, 7, 8, 9, 10, 11, 12, 13, 14, 15, 16, 17, 18] X ?_; clear X; intro hQ X hL; simp only [zF, zG] at hL; simp only [zF, zG])
       refine Zm ?_
       refine Zm ?_
       refine Zm ?_
       refine Zm ?_
       refine Zl ?_
       refine Zl ?_
       refine Zm ?_
       refine Zn ?_
       refine Zf ?_
       (refine Zs ?_; clear hL X; intro w X hL)
       refine Zn ?_
       refine Zf ?_
       (refine Zs ?_; clear hL X; intro w X hL)
       refine Zn ?_
       refine Zf ?_
       (refine Zs ?_; clear hL X; intro w X hL)
       refine Zn ?_
       refine Zf ?_
       (refine Zs ?_; clear hL X; intro w X hL)
       refine q_nil ?_
       go_wp2_with (first
        | (refine ZyL ?_) | (refine ZyS ?_; clear X; intro w X) | (refine ZyA ?_; clear X; intro g w X))
       have hul2 : (j.used ++ [cr.used - j.ring.used]).length = j.used.length + 1 := by simp
       rw [<- hul2] at hO5 X
       refine m_ret1 rfl (.tmp rfl rfl) X (.tail _ (.tail _ (.head _))) rfl rfl ⟨_, _, rfl, ⟨{ v with st := ⟨a3, c3⟩, us := ⟨a5, c5⟩, nm := nilAC, nd := nilAC, nr := nilAC, sm := v.nm, sd := v.nd, sr := v.nr }, ds, fs, MD, MU5, ⟨hm.out.dn, hO5, hm.out.dmap, hm.out.fmap, hm.out.dfit, hm.out.ffit, hI.out, ⟨hm.out.sz.1, hcl.out⟩⟩, rfl, rfl⟩, ?_⟩
       rw [List.cons_append, List.append_assoc]
       exact (X.addNil.sub (List.Sublist.cons _ (List.Sublist.cons _ (List.sublist_cons_self _ _)))).rds (jRds_sub Zfl Zfl Zfl Zfl Zfl Zfl Zfl Zfl Zfl Zfl (fun r hr => .tail _ (.tail _ (inF_in r hr))) (fun r hr => .tail _ (.tail _ (inD_in r hr))) (fun r hr => .tail _ (.tail _ (List.mem_append_right _ hr))))
      ·refine t_fin ?_
       (refine Zq ?_; clear hL X; intro g w X hL)
       (refine q_callS 55 Tryz.func55 (hCm.out _ _ (X.jNow hsz.out (fun r hr => List.mem_append_left _ hr)) (X.rd _ (List.mem_append_right _ hF)).1) ?_; rintro e w1 ⟨v3, rfl, ho1, hb1⟩; obtain ⟨a3, c3, rfl⟩ := ho1.form; replace X := X.addOwn hb1 ho1; clear hb1 ho1; refine Zce ?_; clear hL; intro hL)
       refine Zm ?_
       refine Zx ?_
       refine Zx ?_
       refine Zx ?_
       (refine Zs ?_; clear hL X; intro w X hL)
       refine Za ?_
       refine Za ?_
       refine q_nil ?_
       go_upto_region 12 with (first
        | (refine ZyL ?_) | (refine ZyS ?_; clear X; intro w X) | (refine ZyA ?_; clear X; intro g w X))
       (refine q_startS 4 [17] [13, 14, 17] [4, 6, 11] [0, 1, 2, 3, 4, 5, 6, 7, 8, 9, 10, 11, 12, 13, 14, 15, 16, 17] X ?_; clear X; intro hQ X hL; simp only [zF, zG] at hL; simp only [zF, zG])
       refine Zm ?_
       refine Zm ?_
       refine Zn ?_
       refine Zf ?_
       refine Zl ?_
       refine Zf ?_
       refine Zl ?_
       refine Zm ?_
       refine Zn ?_
       refine Zf ?_
       refine Zf ?_
       refine Zl ?_
       refine Zg ?_
       (refine q_build1 rfl rfl Zev (by rfl) (by rfl) X hL rfl rfl ?_; intro g w X2 hL2; replace X := X2; replace hL := hL2; clear X2 hL2; (simp only [Act.put, zA, zB, zC, zD, zE, zF, zG, Nat.reduceAdd]))
       refine q_appO (_ :: _ :: _ :: _ :: MD) rfl rfl (cr.used - j.ring.used) intC_flat X hL hm.out.us Zev Zev rfl (by omega) Zsu rfl rfl ?_
       intro a5 c5 w5 MU5 hO5 X2 hL2
       replace X := X2
       replace hL := hL2
       clear X2 hL2
       simp only [List.cons_append] at X hL
       (simp only [Act.put, zA, zB, zC, zD, zE, zF, zG, Nat.reduceAdd])
       refine Zn ?_
       refine Zf ?_
       (refine Zb ?_; clear X; intro w X)
       refine q_nil ?_
       go_upto_region 13 with (first
        | (refine ZyL ?_) | (refine ZyS ?_; clear X; intro w X) | (refine ZyA ?_; clear X; intro g w X))
       (refine q_startS 2 [] [9, 12, 15, 18] [4, 5] [0, 1, 2, 3, 4, 5, 6, 7, 8, 9, 10, 11, 12, 13, 14, 15, 16, 17, 18] X ?_; clear X; intro hQ X hL; simp only [zF, zG] at hL; simp only [zF, zG])
       refine Zm ?_
       refine Zm ?_
       refine Zm ?_
       refine Zm ?_
       refine Zl ?_
       refine Zl ?_
       refine Zm ?_
       refine Zn ?_
       refine Zf ?_
       (refine Zs ?_; clear hL X; intro w X hL)
       refine Zn ?_
       refine Zf ?_
       (refine Zs ?_; clear hL X; intro w X hL)
       refine Zn ?_
       refine Zf ?_
       (refine Zs ?_; clear hL X; intro w X hL)
       refine Zn ?_
       refine Zf ?_
       (refine Zs ?_; clear hL X; intro w X hL)
       refine q_nil ?_
       go_wp2_with (first
        | (refine ZyL ?_) | (refine ZyS ?_; clear X; intro w X) | (refine ZyA ?_; clear X; intro g w X))
       have hul2 : (j.used ++ [cr.used - j.ring.used]).length = j.used.length + 1 := by simp
       rw [<- hul2] at hO5 X
       refine m_ret1 rfl (.tmp rfl rfl) X (.tail _ (.tail _ (.head _))) rfl rfl ⟨_, _, rfl, ⟨{ v with st := ⟨a3, c3⟩, us := ⟨a5, c5⟩, nm := nilAC, nd := nilAC, nr := nilAC, sm := v.nm, sd := v.nd, sr := v.nr }, ds, fs, MD, MU5, ⟨hm.out.dn, hO5, hm.out.dmap, hm.out.fmap, hm.out.dfit, hm.out.ffit, hI.out, ⟨hm.out.sz.1, hcl.out⟩⟩, rfl, rfl⟩, ?_⟩
       rw [List.cons_append, List.append_assoc]
       exact (X.addNil.sub (List.Sublist.cons _ (List.Sublist.cons _ (List.sublist_cons_self _ _)))).rds (jRds_sub Zfl Zfl Zfl Zfl Zfl Zfl Zfl Zfl Zfl Zfl (fun r hr => .tail _ (.tail _ (inF_in r hr))) (fun r hr => .tail _ (.tail _ (inD_in r hr))) (fun r hr => .tail _ (.tail _ (List.mem_append_right _ hr))))
     ·have hJ : commitJ j = (j, noR (comE j.ring j.now)) := by unfold commitJ; rw [if_neg hwo, if_neg h0, if_neg hq, if_pos hc]
      rw [hJ]
      have hc2 : (comE j.ring j.now != 0) = true := by simpa using hc
      clear ho hwo hJ h0 hc
      generalize comR j.ring j.now = cr at *
      generalize comL j.ring j.now = ST at *
      generalize comE j.ring j.now = cE at *
      replace hNo := hid hNo; replace hOp := hid hOp; replace hsz := hid hsz; replace hm := hid hm; replace hCm := hid hCm
      go_enter Tryz.func28, Tryz.ntmps28
      go_upto_region 9 with (first
            | (refine ZyL ?_) | (refine ZyS ?_; clear X; intro w X) | (refine ZyA ?_; clear X; intro g w X)
            | (go_at_call 53; ((with_reducible refine (hNo.out _ _).mono ?_); rintro e w1 ⟨rfl, hb1⟩; replace X := X.call hb1; clear hb1))
            | (go_at_call 54; ((with_reducible refine (hOp.out _ _ (X.jNow hsz.out (fun r hr => List.mem_append_left _ hr))).mono ?_); rintro e w1 ⟨rfl, hb1⟩; replace X := X.call hb1; clear hb1)))
      (refine q_treeS 3 [] [5, 10, 11] [3, 4] (.fork [0, 1, 2, 3, 4] (.fin [5, 6, 7, 8, 9, 10, 11, 12, 13]) (.fin [10, 5, 6, 7, 8, 9, 11, 12, 13])) X ?_; clear X; intro hQ X hL; simp only [zF, zG] at hL; simp only [zF, zG])
      refine t_fork (fun _ => ?_) hQ
      refine Zm ?_
      refine Zn ?_
      refine Zf ?_
      refine Zl ?_
      refine Zl ?_
      refine t_two ?_ ?_
      ·refine t_fin ?_
       (refine q_callS 55 Tryz.func55 (hCm.out _ _ (X.jNow hsz.out (fun r hr => List.mem_append_left _ hr)) (X.rd _ (List.mem_append_right _ hF)).1) ?_; rintro e w1 ⟨v3, rfl, ho1, hb1⟩; obtain ⟨a3, c3, rfl⟩ := ho1.form; replace X := X.addOwn hb1 ho1; clear hb1 ho1; refine Zce ?_; clear hL; intro hL)
       refine Zm ?_
       refine Zx ?_
       refine Zx ?_
       refine Zx ?_
       (refine Zq ?_; clear hL X; intro g w X hL)
       (refine Zs ?_; clear hL X; intro w X hL)
       refine Za ?_
       refine Za ?_
       refine q_nil ?_
       go_wp2_with (first
        | (refine ZyL ?_) | (refine ZyS ?_; clear X; intro w X) | (refine ZyA ?_; clear X; intro g w X)
        | (go_at_call 53; ((with_reducible refine (hNo.out _ _).mono ?_); rintro e w1 ⟨rfl, hb1⟩; replace X := X.call hb1; clear hb1)))
       exact m_ret1 rfl (.tmp rfl rfl) X (.tail _ (.tail _ (.head _))) rfl rfl ⟨_, _, rfl, ⟨v, ds, fs, MD, MU, hm.out, rfl, rfl⟩, (X.sub (List.Sublist.cons _ (List.Sublist.cons _ (List.sublist_cons_self _ _)))).rds (fun r hr => .tail _ hr)⟩
      ·refine t_fin ?_
       (refine Zq ?_; clear hL X; intro g w X hL)
       (refine q_callS 55 Tryz.func55 (hCm.out _ _ (X.jNow hsz.out (fun r hr => List.mem_append_left _ hr)) (X.rd _ (List.mem_append_right _ hF)).1) ?_; rintro e w1 ⟨v3, rfl, ho1, hb1⟩; obtain ⟨a3, c3, rfl⟩ := ho1.form; replace X := X.addOwn hb1 ho1; clear hb1 ho1; refine Zce ?_; clear hL; intro hL)
       refine Zm ?_
       refine Zx ?_
       refine Zx ?_
       refine Zx ?_
       (refine Zs ?_; clear hL X; intro w X hL)
       refine Za ?_
       refine Za ?_
       refine q_nil ?_
       go_wp2_with (first
        | (refine ZyL ?_) | (refine ZyS ?_; clear X; intro w X) | (refine ZyA ?_; clear X; intro g w X)
        | (go_at_call 53; ((with_reducible refine (hNo.out _ _).mono ?_); rintro e w1 ⟨rfl, hb1⟩; replace X := X.call hb1; clear hb1)))
       exact m_ret1 rfl (.tmp rfl rfl) X (.tail _ (.tail _ (.head _))) rfl rfl ⟨_, _, rfl, ⟨v, ds, fs, MD, MU, hm.out, rfl, rfl⟩, (X.sub (List.Sublist.cons _ (List.Sublist.cons _ (List.sublist_cons_self _ _)))).rds (fun r hr => .tail _ hr)⟩
 ·have hJ : commitJ j = (j, noR 9) := by unfold commitJ; rw [if_pos (.inl hw)]
  rw [hJ]
  have hw2 : (j.work != 0) = true := by simpa using hw
  clear hw hJ
  replace hNo := hid hNo; replace hOp := hid hOp; replace hsz := hid hsz; replace hm := hid hm
  go_enter Tryz.func28, Tryz.ntmps28
  go_wp2_with (first
   | (refine ZyL ?_) | (refine ZyS ?_; clear X; intro w X) | (refine ZyA ?_; clear X; intro g w X)
   | (go_at_call 53; ((with_reducible refine (hNo.out _ _).mono ?_); rintro e w1 ⟨rfl, hb1⟩; replace X := X.call hb1; clear hb1)))
  exact m_ret1 rfl (.tmp rfl rfl) X (.tail _ (.head _)) rfl rfl ⟨_, _, rfl, ⟨v, ds, fs, MD, MU, hm.out, rfl, rfl⟩, X.sub (List.Sublist.cons _ (List.sublist_cons_self _ _))⟩
theorem jr_rise {S : List Nat} {w0 w : World} {LL : List Ent} {RR : List Rd} {gj : Nat} {j : Jn} {v : JV} {fs : List TV} (X : St S w0 w (⟨gj, jCells v j, 71⟩ :: LL) RR)
    (hft : Rd.of tvC (.slice v.ft.a j.found.txns.length v.ft.c) fs ∈ RR) (hin : ∀ r ∈ inR fs, r ∈ RR) (hfm : fs.map (·.t) = j.found.txns) (hfl : fs.length <= 25) (hgd : ∀ t ∈ j.found.txns, goodT t = true) (hnx : 1 <= j.found.next /\ j.found.next <= 2147483647) :
    Calls Tryz.prog 52 #[.pointer (some ⟨gj, 0, none⟩)] w fun e w' => ∃ u, e = .returned u /\ St S w0 w' (⟨gj, jCells (zeroV v.sf v.wr) (riseJ j), 71⟩ :: LL) RR := by
 have hlen : j.found.txns.length = fs.length := by rw [<- hfm, List.length_map]
 have hwr : IntKind.i64.wrap (j.found.next - 1) = j.found.next - 1 := IntWalk.i64_in _ (by omega)
 unfold jCells at X
 go_enter Tryz.func52, Tryz.ntmps52
 go_wp2_with (first
  | (refine ZyL ?_) | (refine ZyS ?_; clear X; intro w X) | (refine ZyA ?_; clear X; intro g w X))
 obtain ⟨g3, g2, rfl, rfl⟩ := X.nm2
 go_loopw [15] (fun i wr => ∃ k : Nat, k <= 12 /\ i = .int .i64 k /\ St S w0 wr (⟨g3, arrL (oneF k), 66⟩ :: ⟨g2, [.slice v.ft.a j.found.txns.length v.ft.c, .int .i64 j.found.next, .int .i64 j.found.at_], 69⟩ :: ⟨gj, jCells v j, 71⟩ :: LL) RR) (fun i _ => 12 - (intOf i).toNat)
 case atStart => exact ⟨0, Nat.zero_le _, rfl, X⟩
 case round =>
  clear X
  obtain ⟨k, hk, rfl, X⟩ := hrel
  by_cases hlt : k < 12
  ·go_wp2_with (first
     | (refine at_mem rfl ?_; refine at_store rfl ?_; refine c_store1 rfl _ _ _ rfl rfl Zev X rfl rfl Zpv ?_; intro w X2; replace X := X2; clear X2; (simp only [Act.put, zA, zB, zC, zD, zE, zF, zG, Nat.reduceAdd])))
   rw [upd_arr _ hlt, oneF_step] at X
   go_roundw
   case rel => exact ⟨k + 1, by omega, by go_num, X⟩
   case measure => simp [intOf]; omega
  ·obtain rfl : k = 12 := by omega
   have X9 := X
   rw [oneF_full] at X9
   clear X
   have X := X9
   clear X9
   rw [hlen] at X
   go_wp2_with (first
    | (refine ZyL ?_) | (refine ZyS ?_; clear X; intro w X) | (refine ZyA ?_; clear X; intro g w X))
   go_loopw [24] (fun i wr => ∃ k : Nat, k <= fs.length /\ i = .int .i64 k /\ St S w0 wr (⟨g3, arrL (riseR (j.found.txns.take k)), 66⟩ :: ⟨g2, [.slice v.ft.a fs.length v.ft.c, .int .i64 j.found.next, .int .i64 j.found.at_], 69⟩ :: ⟨gj, jCells v j, 71⟩ :: LL) RR) (fun i _ => fs.length - (intOf i).toNat)
   case atStart => exact ⟨0, Nat.zero_le _, rfl, X⟩
   case round =>
    clear X
    obtain ⟨k, hk, rfl, X⟩ := hrel
    by_cases hlt : k < fs.length
    ·rw [hlen] at hft
     have hltt : k < j.found.txns.length := by omega
     have hst := riseR_step hltt
     have hte : j.found.txns[k] = fs[k].t := by simp only [<- hfm, List.getElem_map]
     have hgk := good_blks (hgd _ (List.getElem_mem hltt))
     rw [hte] at hst hgk
     obtain ⟨b4, off4, hb4, c0, c1, c2, c3, c4, c5, c6, c7, c8, c9⟩ := RL.atTV (X.read hft) hlt
     obtain ⟨e1, e2, e3⟩ := inR_mem hlt
     have e1 := hin _ e1
     have e3 := hin _ e3
     have e2 := hin _ e2
     obtain ⟨am, cm, hm1, _⟩ := (X.read e1).form
     obtain ⟨ar, cr, hr1, _⟩ := (X.read e3).form
     obtain ⟨ad, cd, hd1, _⟩ := (X.read e2).form
     rw [hm1] at e1 c1
     rw [hr1] at e3 c3
     rw [hd1] at c2
     clear e2 hd1
     rw [hb4] at X ⊢
     have hte0 := hte
     clear hte hm1 hr1
     have hfit : (fs[k]).t.rev.length <= 17592186044160 /\ (fs[k]).t.mt.length <= 5864062014805 := ⟨by have := good_lens (hgd _ (List.getElem_mem hltt)); rw [hte0] at this; omega, by have := good_lens (hgd _ (List.getElem_mem hltt)); rw [hte0] at this; omega⟩
     clear hte0
     generalize fs[k].t = t at *
     generalize riseR (j.found.txns.take k) = f0 at *
     generalize hrn : riseR (j.found.txns.take (k + 1)) = fN at *
     replace hrn := hid hrn; replace hst := hid hst; replace hgk := hid hgk
     go_wp2_with (first
      | (refine ZyL ?_) | (refine ZyS ?_; clear X; intro w X) | (refine ZyA ?_; clear X; intro g w X))
     obtain ⟨g6, rfl⟩ := X.nm1
     clear c0 c1 c2 c3 c4 c5 c6 c7 c8 c9
     have hgr := hgk.out.1
     have hgm := hgk.out.2
     have hl1 : t.rev.length <= 17592186044160 := hfit.1
     have hl2 : t.mt.length <= 5864062014805 := hfit.2
     go_loopw [31] (fun i w2 => ∃ m : Nat, m <= t.rev.length /\ i = .int .i64 m /\ St S w0 w2 (⟨g6, [.int .i64 t.seq, .slice am t.mt.length cm, .slice ad t.dt.length cd, .slice ar t.rev.length cr, .bool t.h0.on, .int .i64 t.h0.left, .bool t.h1.on, .int .i64 t.h1.left, .bool t.h2.on, .int .i64 t.h2.left], 43⟩ :: ⟨g3, arrL (rvF12 f0 (t.rev.take m)), 66⟩ :: ⟨g2, [.slice (some ⟨b4, off4, none⟩) fs.length v.ft.c, .int .i64 j.found.next, .int .i64 j.found.at_], 69⟩ :: ⟨gj, jCells v j, 71⟩ :: LL) RR) (fun i _ => t.rev.length - (intOf i).toNat)
     case atStart => exact ⟨0, Nat.zero_le _, rfl, X⟩
     case round =>
      clear X
      obtain ⟨m, hm, rfl, X⟩ := hrel
      by_cases hmlt : m < t.rev.length
      ·obtain ⟨b5, off5, hb5, d0⟩ := RL.at1 (fun x : Int => .int .i64 x) (fun _ => rfl) (X.read e3) hmlt
       have hs2 := rvF12_step f0 hmlt
       have hbb := hgr _ (List.getElem_mem hmlt)
       generalize t.rev[m] = x at *
       obtain ⟨xn, rfl⟩ : ∃ xn : Nat, x = xn := ⟨x.toNat, by omega⟩
       have hx12 : xn < 12 := by omega
       rw [hb5] at X ⊢
       replace hs2 := hid hs2
       generalize hfn : rvF12 f0 (t.rev.take (m + 1)) = fn2 at *
       generalize rvF12 f0 (t.rev.take m) = fo2 at *
       replace hfn := hid hfn
       go_wp2_with (first
        | (refine at_mem rfl ?_; refine at_store rfl ?_; refine c_store1 rfl _ _ _ rfl rfl Zev X rfl rfl Zpv ?_; intro w X2; replace X := X2; clear X2; (simp only [Act.put, zA, zB, zC, zD, zE, zF, zG, Nat.reduceAdd])))
       rw [upd_arr _ hx12, <- hs2.out, <- hfn.out] at X
       go_roundw
       case rel => exact ⟨m + 1, by omega, by go_num, X⟩
       case measure => simp [intOf]; omega
      ·obtain rfl : m = t.rev.length := by omega
       rw [List.take_length] at X
       have hst1 := hst.out
       generalize rvF12 f0 t.rev = f1 at *
       clear hst
       go_wp2_with (first
        | (refine ZyL ?_) | (refine ZyS ?_; clear X; intro w X) | (refine ZyA ?_; clear X; intro g w X))
       have X9 := X.sub (List.sublist_cons_self _ _)
       clear X
       have X := X9
       clear X9
       go_loopw [41] (fun i w2 => ∃ m : Nat, m <= t.mt.length /\ i = .int .i64 m /\ St S w0 w2 (⟨g3, arrL (mtF12 f1 (t.mt.take m)), 66⟩ :: ⟨g2, [.slice (some ⟨b4, off4, none⟩) fs.length v.ft.c, .int .i64 j.found.next, .int .i64 j.found.at_], 69⟩ :: ⟨gj, jCells v j, 71⟩ :: LL) RR) (fun i _ => t.mt.length - (intOf i).toNat)
       case atStart => exact ⟨0, Nat.zero_le _, rfl, X⟩
       case round =>
        clear X
        obtain ⟨m, hm, rfl, X⟩ := hrel
        by_cases hmlt : m < t.mt.length
        ·obtain ⟨b5, off5, hb5, d0, d1⟩ := RL.at2 (fun x : Cpy => .int .i64 x.block) (fun x => .string x.text) (fun _ => rfl) (X.read e1) hmlt
         have hs2 := mtF12_step f1 hmlt
         have hbb := hgm _ (List.getElem_mem hmlt)
         obtain ⟨⟨x, tx⟩, hx⟩ : ∃ y, t.mt[m] = y := ⟨_, rfl⟩
         rw [hx] at d0 d1 hs2 hbb
         clear hx
         dsimp only at d0 d1 hs2 hbb
         obtain ⟨xn, rfl⟩ : ∃ xn : Nat, x = xn := ⟨x.toNat, by omega⟩
         have hx12 : xn < 12 := by omega
         rw [hb5]
         replace hs2 := hid hs2
         generalize hfn : mtF12 f1 (t.mt.take (m + 1)) = fn2 at *
         generalize mtF12 f1 (t.mt.take m) = fo2 at *
         replace hfn := hid hfn
         go_upto_region 18 with (first
          | (refine ZyL ?_) | (refine ZyS ?_; clear X; intro w X) | (refine ZyA ?_; clear X; intro g w X))
         go_wp2_with (first
          | (refine ZyL ?_) | (refine ZyS ?_; clear X; intro w X) | (refine ZyA ?_; clear X; intro g w X)
          | (refine at_mem rfl ?_; refine at_store rfl ?_; refine c_store1 rfl _ _ _ rfl rfl Zev X rfl rfl Zpv ?_; intro w X2; replace X := X2; clear X2; (simp only [Act.put, zA, zB, zC, zD, zE, zF, zG, Nat.reduceAdd])))
         rw [upd_arr _ hx12, <- hs2.out, <- hfn.out] at X
         go_roundw
         case rel => exact ⟨m + 1, by omega, by go_num, X.sub (List.sublist_cons_self _ _)⟩
         case measure => simp [intOf]; omega
        ·obtain rfl : m = t.mt.length := by omega
         rw [List.take_length, <- hst1, <- hrn.out] at X
         go_wp2
         go_roundw
         case rel => exact ⟨k + 1, by omega, by go_num, X⟩
         case measure => simp [intOf]; omega
    ·obtain rfl : k = fs.length := by omega
     rw [<- hlen, List.take_length, hlen] at X
     unfold jCells at X
     go_upto_region 21 with (first
      | (refine ZyL ?_) | (refine ZyS ?_; clear X; intro w X) | (refine ZyA ?_; clear X; intro g w X))
     (refine q_startS 3 [21] [21] [4, 6, 9, 12, 14, 18] [0, 1, 2, 3, 4, 5, 6, 7, 8, 9, 10, 11, 12, 13, 14, 15, 16, 17, 18, 19, 20, 21] X ?_; clear X; intro hQ X hL; simp only [zF, zG] at hL; simp only [zF, zG])
     refine Zm ?_
     refine Zm ?_
     refine Zn ?_
     refine Zf ?_
     refine Zl ?_
     refine Zf ?_
     refine Zl ?_
     refine Zg ?_
     refine Zf ?_
     refine Zl ?_
     refine Zg ?_
     refine Zf ?_
     refine Zl ?_
     refine Zg ?_
     refine Zl ?_
     refine Zm ?_
     refine Zn ?_
     refine Zf ?_
     refine Zl ?_
     refine Zg ?_
     refine Zn ?_
     (refine Zb ?_; clear X; intro w X)
     refine q_nil ?_
     exact bodyPost_end (results_none rfl _ _ _) rfl ⟨_, rfl, X.sub (List.Sublist.cons _ (List.sublist_cons_self _ _))⟩
end Go.Proofs.YtjhmfljlclajnadGreatDoor
namespace Wb
open Go Go.RowKit
section
variable {TJ Tt Ti : TypeId} {S : List Nat} {w0 w : World} {gj : Nat} {v : JV} {j : Jn} {ds fs : List TV} {MD MU L : List Ent} {R R1 : List Rd} {e : Ending} {u : Value}
theorem JMk (A : List Ent) (X : St S w0 w (A ++ (⟨gj, jCells v j, TJ⟩ :: (MD ++ (MU ++ L)))) R1) (hm : JFm Tt Ti v j ds fs MD MU) (hr : ∀ r ∈ jRds v j ds fs ++ R, r ∈ R1) : ∃ M' Rj', JForm TJ Tt Ti gj j M' Rj' /\ St S w0 w (M' ++ L) (Rj' ++ R) :=
 ⟨_, _, ⟨v, ds, fs, MD, MU, hm, rfl, rfl⟩, by rw [List.cons_append, List.append_assoc]; exact (X.sub (List.sublist_append_right _ _)).rds hr⟩
theorem JMk1 (A : List Ent) (X : St S w0 w (A ++ (⟨gj, jCells v j, TJ⟩ :: (MD ++ (MU ++ L)))) R1) (hm : JFm Tt Ti v j ds fs MD MU) (hr : ∀ r ∈ jRds v j ds fs ++ R, r ∈ R1) (he : e = .returned u) : ∃ M' Rj', e = .returned u /\ JForm TJ Tt Ti gj j M' Rj' /\ St S w0 w (M' ++ L) (Rj' ++ R) :=
 let ⟨a, b, c, d⟩ := JMk A X hm hr
 ⟨a, b, he, c, d⟩
theorem JMk2 (A : List Ent) (X : St S w0 w (A ++ (⟨gj, jCells v j, TJ⟩ :: (MD ++ (MU ++ L)))) R1) (hm : JFm Tt Ti v j ds fs MD MU) (hr : ∀ r ∈ jRds v j ds fs ++ R, r ∈ R1) (he : e = .returned u) : e = .returned u /\ ∃ M' Rj', JForm TJ Tt Ti gj j M' Rj' /\ St S w0 w (M' ++ L) (Rj' ++ R) := ⟨he, JMk A X hm hr⟩
end
end Wb
namespace Go.Proofs.YtjhmfljlclajnadGreatDoor
open Go.RowKit Wb
theorem _root_.Wb.step_eq {j : Jn} {s : Stp} {r : List Stp} (hw : j.work ≠ 0) (hs : j.steps = s :: r) (he : stepE j.disk s = 0) : stepJ j = if r = [] then endJ { j with disk := stepD j.disk s, steps := [] } else ({ j with disk := stepD j.disk s, steps := r }, noR 0) := by
 unfold stepJ
 rw [if_neg hw, hs]
 dsimp only
 rw [if_neg (by rw [he]; decide)]
theorem jr_step (K : JK) {S : List Nat} {w0 w : World} {L : List Ent} {R : List Rd} {gj : Nat} {j : Jn} {M : List Ent} {Rj : List Rd} (F : JF gj j M Rj) (X : St S w0 w (M ++ L) (Rj ++ R)) :
    Calls Tryz.prog 27 #[.pointer (some ⟨gj, 0, none⟩)] w fun e w' => ∃ M' Rj', e = .returned (stepJ j).2.val /\ JF gj (stepJ j).1 M' Rj' /\ St S w0 w' (M' ++ L) (Rj' ++ R) := by
 obtain ⟨v, ds, fs, MD, MU, hm, rfl, rfl⟩ := F
 have hsz := hm.inv.sz hm.sz
 have hdk := hsz.dk
 rw [List.cons_append, List.append_assoc] at X
 unfold jCells at X
 by_cases hw : j.work = 0
 ·have hJ : stepJ j = (j, noR 4) := by unfold stepJ; rw [if_pos hw]
  rw [hJ]
  have hw2 : (j.work == 0) = true := by simpa using hw
  clear hw hJ
  go_enter Tryz.func27, Tryz.ntmps27
  go_wp2_with (first
   | (refine ZyL ?_) | (refine ZyS ?_; clear X; intro w X) | (refine ZyA ?_; clear X; intro g w X))
  exact m_ret1 rfl (.tmp rfl rfl) X (.head _) rfl rfl ⟨_, _, rfl, ⟨v, ds, fs, MD, MU, hm, rfl, rfl⟩, by rw [List.cons_append, List.append_assoc]; exact X.sub (List.sublist_cons_self _ _)⟩
 ·obtain ⟨s, r, hs, he⟩ := inv_steps hm.inv hw
  have hJ := step_eq hw hs he
  have hI := inv_step hm.inv
  have hwk := inv_work hm.inv hw
  have hw2 : (j.work == 0) = false := beq_eq_false_iff_ne.2 hw
  have hrl : r.length <= 100 := by have := hm.sz.2; rw [hs, List.length_cons] at this; omega
  have mst : Rd.of stpC (.slice v.st.a j.steps.length v.st.c) j.steps ∈ jRds v j ds fs ++ R := Zfl
  have hl : j.steps.length = r.length + 1 := by rw [hs]; rfl
  rw [hs] at mst
  obtain ⟨b, off, hb, _⟩ := RL.at3 (fun x : Stp => .int .i64 x.kind) (fun x => .int .i64 x.at_) (fun x => .string x.text) (fun _ => rfl) (X.read mst) (k := 0) (Nat.zero_lt_succ _)
  have hcap : r.length + 1 <= v.st.c := by obtain ⟨_, _, h1, h2, _⟩ := (X.rd _ mst).1; simp only [Rd.of, Value.slice.injEq, List.length_cons] at h1 h2; omega
  have hmx : v.st.c - 1 <= maxLen := by obtain ⟨_, _, h1, _, h3, _⟩ := (X.rd _ mst).1; simp only [Rd.of, Value.slice.injEq] at h1; omega
  rw [hb] at mst X
  rw [hl] at X
  rw [hJ] at hI ⊢
  clear hJ hw hl hb
  obtain ⟨sk, sa, tx⟩ := s
  have hFl := fun v w (h : RDisk w v j.disk) => K.flush j.disk v w h
  have hPu := fun v w (h : RDisk w v j.disk) => K.put j.disk sa tx v w h
  unfold stepE at he
  unfold stepD at hI ⊢
  dsimp only at he hI ⊢
  by_cases hk : sk = 2
  ·have hk2 : (sk == 2) = true := by simpa using hk
   rw [if_pos hk] at he hI ⊢
   rw [he] at hFl
   clear hPu hk he
   generalize flushD j.disk = D at *
   cases r with
   | cons x r =>
    rw [if_neg (by simp)] at hI ⊢
    clear hwk
    rw [List.length_cons] at X hcap hrl
    replace hFl := hid hFl; replace hI := hid hI; replace hm := hid hm; replace hsz := hid hsz
    go_enter Tryz.func27, Tryz.ntmps27
    go_upto_region 3 with (first
     | (refine ZyL ?_) | (refine ZyS ?_; clear X; intro w X) | (refine ZyA ?_; clear X; intro g w X))
    obtain ⟨b2, off2, hb2, d0, d1, d2⟩ := RL.at3 (fun x : Stp => .int .i64 x.kind) (fun x => .int .i64 x.at_) (fun x => .string x.text) (fun _ => rfl) (X.read mst) (k := 0) (Nat.zero_lt_succ _)
    cases hb2
    simp only [List.getElem_cons_zero, Nat.zero_mul, Nat.add_zero] at d0 d1 d2
    go_wp2_with (first
     | (refine ZyL ?_) | (refine ZyS ?_; clear X; intro w X) | (refine ZyA ?_; clear X; intro g w X)
     | (go_at_call 37; ((with_reducible refine (hFl.out _ _ (X.jDisk hdk (fun r hr => List.mem_append_left _ hr))).mono ?_); rintro e w1 ⟨v1, rfl, hr1, hn1, hb1⟩; obtain ⟨as2, cs2, aw2, cw2, rfl, X2⟩ := X.addNewD hb1 hn1 (fun r hr => List.mem_append_left _ (jRds_dsk r hr)); replace X := X2; clear X2 hb1 hn1 hr1)))
    all_goals
     have X9 := X.addDrop (c := 3) (fun _ => rfl) (.tail _ (.tail _ mst))
     refine m_ret1 rfl (.tmp rfl rfl) X (.tail _ (.head _)) rfl rfl ?_
     first
      | exact ⟨_, _, rfl, ⟨{ v with sf := ⟨as2, cs2⟩, wr := ⟨aw2, cw2⟩, st := ⟨some ⟨b, off + 3, none⟩, v.st.c - 1⟩ }, ds, fs, MD, MU, ⟨hm.out.dn, hm.out.us, hm.out.dmap, hm.out.fmap, hm.out.dfit, hm.out.ffit, hI.out, ⟨hm.out.sz.1, hrl⟩⟩, rfl, rfl⟩, (by rw [List.cons_append, List.append_assoc]; refine St.rds (X9.sub (List.Sublist.cons _ (List.sublist_cons_self _ _))) ?_; exact jRds_sub Zfl Zfl Zfl Zfl Zfl Zfl Zfl Zfl Zfl Zfl (fun r hr => .tail _ (.tail _ (.tail _ (inF_in r hr)))) (fun r hr => .tail _ (.tail _ (.tail _ (inD_in r hr)))) (fun r hr => .tail _ (.tail _ (.tail _ (List.mem_append_right _ hr)))))⟩
      | exact ⟨rfl, _, _, ⟨{ v with sf := ⟨as2, cs2⟩, wr := ⟨aw2, cw2⟩, st := ⟨some ⟨b, off + 3, none⟩, v.st.c - 1⟩ }, ds, fs, MD, MU, ⟨hm.out.dn, hm.out.us, hm.out.dmap, hm.out.fmap, hm.out.dfit, hm.out.ffit, hI.out, ⟨hm.out.sz.1, hrl⟩⟩, rfl, rfl⟩, (by rw [List.cons_append, List.append_assoc]; refine St.rds (X9.sub (List.Sublist.cons _ (List.sublist_cons_self _ _))) ?_; exact jRds_sub Zfl Zfl Zfl Zfl Zfl Zfl Zfl Zfl Zfl Zfl (fun r hr => .tail _ (.tail _ (.tail _ (inF_in r hr)))) (fun r hr => .tail _ (.tail _ (.tail _ (inD_in r hr)))) (fun r hr => .tail _ (.tail _ (.tail _ (List.mem_append_right _ hr)))))⟩
   | nil =>
    rw [if_pos rfl] at hI ⊢
    have hLL : L.Sublist (MD ++ (MU ++ L)) := (List.sublist_append_right _ _).trans (List.sublist_append_right _ _)
    simp only [List.length_nil, Nat.zero_add] at X hcap
    rcases hwk with h1 | ⟨h2, hp, hul, hne⟩ | ⟨h3, hgd, hnx⟩
    ·unfold endJ at hI ⊢
     dsimp only at hI ⊢
     rw [if_pos h1] at hI ⊢
     dsimp only at hI ⊢
     have hw3 : (j.work == 1) = true := by rw [h1]; rfl
     clear h1
     have hdl : ds.length = j.done.length := by rw [<- hm.dmap, List.length_map]
     have hdb := hsz.done
     have hsf := hsz.sealed
     replace hFl := hid hFl; replace hI := hid hI; replace hm := hid hm; replace hsz := hid hsz
     go_enter Tryz.func27, Tryz.ntmps27
     go_upto_region 3 with (first
      | (refine ZyL ?_) | (refine ZyS ?_; clear X; intro w X) | (refine ZyA ?_; clear X; intro g w X))
     obtain ⟨b2, off2, hb2, d0, d1, d2⟩ := RL.at3 (fun x : Stp => .int .i64 x.kind) (fun x => .int .i64 x.at_) (fun x => .string x.text) (fun _ => rfl) (X.read mst) (k := 0) (Nat.zero_lt_succ _)
     cases hb2
     simp only [List.getElem_cons_zero, Nat.zero_mul, Nat.add_zero] at d0 d1 d2
     go_upto_region 18 with (first
      | (refine ZyL ?_) | (refine ZyS ?_; clear X; intro w X) | (refine ZyA ?_; clear X; intro g w X)
      | (go_at_call 37; ((with_reducible refine (hFl.out _ _ (X.jDisk hdk (fun r hr => List.mem_append_left _ hr))).mono ?_); rintro e w1 ⟨v1, rfl, hr1, hn1, hb1⟩; obtain ⟨as2, cs2, aw2, cw2, rfl, X2⟩ := X.addNewD hb1 hn1 (fun r hr => List.mem_append_left _ (jRds_dsk r hr)); replace X := X2; clear X2 hb1 hn1 hr1)))
     all_goals
      (refine q_startS 3 [13] [9, 10, 13] [4, 8] [0, 1, 2, 3, 4, 5, 6, 7, 8, 9, 10, 11, 12, 13] X ?_; clear X; intro hQ X hL; simp only [zF, zG] at hL; simp only [zF, zG])
      refine Zm ?_
      refine Zm ?_
      refine Zn ?_
      refine Zf ?_
      refine Zl ?_
      refine Zm ?_
      refine Zn ?_
      refine Zf ?_
      refine Zl ?_
      (refine q_build1 rfl rfl Zev (by rfl) (by rfl) X hL rfl rfl ?_; intro g w X2 hL2; replace X := X2; replace hL := hL2; clear X2 hL2; (simp only [Act.put, zA, zB, zC, zD, zE, zF, zG, Nat.reduceAdd]))
      refine q_appO (_ :: _ :: _ :: []) rfl rfl (⟨j.sealed, ⟨v.sm.a, j.sealed.mt.length, v.sm.c⟩, ⟨v.sd.a, j.sealed.dt.length, v.sd.c⟩, ⟨v.sr.a, j.sealed.rev.length, v.sr.c⟩⟩ : TV) tvC_flat X hL hm.out.dn Zev Zev rfl (by omega) Zsu rfl rfl ?_
      intro a5 c5 w5 MD5 hO5 X2 hL2
      replace X := X2
      replace hL := hL2
      clear X2 hL2
      simp only [List.cons_append, List.nil_append] at X hL
      (simp only [Act.put, zA, zB, zC, zD, zE, zF, zG, Nat.reduceAdd])
      refine Zn ?_
      refine Zf ?_
      (refine Zb ?_; clear X; intro w X)
      refine q_nil ?_
      go_wp2_with (first
       | (refine ZyL ?_) | (refine ZyS ?_; clear X; intro w X) | (refine ZyA ?_; clear X; intro g w X))
      all_goals
       have hdl2 : ds.length + 1 = (j.done ++ [j.sealed]).length := by simp [hdl]
       rw [hdl2] at hO5 X
       refine m_ret1 rfl (.tmp rfl rfl) X (.tail _ (.head _)) rfl rfl ?_
       first
        | exact JMk1 (v := ⟨⟨as2, cs2⟩, ⟨aw2, cw2⟩, v.nm, v.nd, v.nr, nilAC, nilAC, nilAC, ⟨a5, c5⟩, v.us, ⟨_, v.st.c - 1⟩, v.ft⟩) [_, _] (X.addEmpty _ hmx).addNil ⟨hO5, hm.out.us, by rw [List.map_append, hm.out.dmap]; rfl, hm.out.fmap, fit_snoc hm.out.dfit (⟨by show j.sealed.mt.length <= _; omega, by show j.sealed.dt.length <= _; omega, by show j.sealed.rev.length <= _; omega⟩), hm.out.ffit, hI.out, ⟨hm.out.sz.1, Nat.zero_le _⟩⟩ (jRds_sub Zfl Zfl Zfl Zfl Zfl Zfl Zfl Zfl (.tail _ (.head _)) Zfl (fun r hr => .tail _ (.tail _ (.tail _ (.tail _ (inF_in r hr))))) (in_snoc (y := (⟨j.sealed, ⟨v.sm.a, j.sealed.mt.length, v.sm.c⟩, ⟨v.sd.a, j.sealed.dt.length, v.sd.c⟩, ⟨v.sr.a, j.sealed.rev.length, v.sr.c⟩⟩ : TV)) (fun r hr => .tail _ (.tail _ (.tail _ (.tail _ (inD_in r hr))))) Zfl Zfl Zfl) (fun r hr => .tail _ (.tail _ (.tail _ (.tail _ (List.mem_append_right _ hr)))))) rfl
        | exact JMk2 (v := ⟨⟨as2, cs2⟩, ⟨aw2, cw2⟩, v.nm, v.nd, v.nr, nilAC, nilAC, nilAC, ⟨a5, c5⟩, v.us, ⟨_, v.st.c - 1⟩, v.ft⟩) [_, _] (X.addEmpty _ hmx).addNil ⟨hO5, hm.out.us, by rw [List.map_append, hm.out.dmap]; rfl, hm.out.fmap, fit_snoc hm.out.dfit (⟨by show j.sealed.mt.length <= _; omega, by show j.sealed.dt.length <= _; omega, by show j.sealed.rev.length <= _; omega⟩), hm.out.ffit, hI.out, ⟨hm.out.sz.1, Nat.zero_le _⟩⟩ (jRds_sub Zfl Zfl Zfl Zfl Zfl Zfl Zfl Zfl (.tail _ (.head _)) Zfl (fun r hr => .tail _ (.tail _ (.tail _ (.tail _ (inF_in r hr))))) (in_snoc (y := (⟨j.sealed, ⟨v.sm.a, j.sealed.mt.length, v.sm.c⟩, ⟨v.sd.a, j.sealed.dt.length, v.sd.c⟩, ⟨v.sr.a, j.sealed.rev.length, v.sr.c⟩⟩ : TV)) (fun r hr => .tail _ (.tail _ (.tail _ (.tail _ (inD_in r hr))))) Zfl Zfl Zfl) (fun r hr => .tail _ (.tail _ (.tail _ (.tail _ (List.mem_append_right _ hr)))))) rfl
    ·unfold endJ at hI ⊢
     dsimp only at hI ⊢
     rw [if_neg (by rw [h2]; decide), if_pos h2] at hI ⊢
     dsimp only at hI ⊢
     have hw3 : (j.work == 1) = false := by rw [h2]; rfl
     have hw4 : (j.work == 2) = true := by rw [h2]; rfl
     clear h2
     have hdr : j.done.drop j.pending.toNat = [] := by rw [hp, Int.toNat_natCast, List.drop_length]
     have hur : j.used.drop j.pending.toNat = [] := by rw [hp, Int.toNat_natCast, <- hul, List.drop_length]
     rw [hdr, hur] at hI ⊢
     clear hdr hur
     have hdl : ds.length = j.done.length := by rw [<- hm.dmap, List.length_map]
     obtain ⟨bd, od, hbd, hnd, hcd, hO5⟩ := hm.dn.drop tvC_flat (by omega)
     obtain ⟨bu, ou, hbu, hnu, hcu, hO6⟩ := hm.us.drop intC_flat (by omega)
     rw [hbd, hbu, hp, hul] at X
     rw [hul] at hO6 hcu
     have hdb := hsz.done
     clear hbd hbu hul hdl hnd hnu
     replace hp := hid hp
     replace hO5 := hid hO5; replace hO6 := hid hO6
     replace hFl := hid hFl; replace hI := hid hI; replace hm := hid hm; replace hsz := hid hsz
     go_enter Tryz.func27, Tryz.ntmps27
     go_upto_region 3 with (first
      | (refine ZyL ?_) | (refine ZyS ?_; clear X; intro w X) | (refine ZyA ?_; clear X; intro g w X))
     obtain ⟨b2, off2, hb2, d0, d1, d2⟩ := RL.at3 (fun x : Stp => .int .i64 x.kind) (fun x => .int .i64 x.at_) (fun x => .string x.text) (fun _ => rfl) (X.read mst) (k := 0) (Nat.zero_lt_succ _)
     cases hb2
     simp only [List.getElem_cons_zero, Nat.zero_mul, Nat.add_zero] at d0 d1 d2
     go_upto_region 22 with (first
      | (refine ZyL ?_) | (refine ZyS ?_; clear X; intro w X) | (refine ZyA ?_; clear X; intro g w X)
      | (go_at_call 37; ((with_reducible refine (hFl.out _ _ (X.jDisk hdk (fun r hr => List.mem_append_left _ hr))).mono ?_); rintro e w1 ⟨v1, rfl, hr1, hn1, hb1⟩; obtain ⟨as2, cs2, aw2, cw2, rfl, X2⟩ := X.addNewD hb1 hn1 (fun r hr => List.mem_append_left _ (jRds_dsk r hr)); replace X := X2; clear X2 hb1 hn1 hr1)))
     all_goals
      (refine q_startS 3 [27, 30, 33] [27, 30, 33] [6, 10, 14, 19, 23] [0, 1, 2, 3, 4, 5, 6, 7, 8, 9, 10, 11, 12, 13, 14, 15, 16, 17, 18, 19, 20, 21, 22, 23, 24, 25, 26, 27, 28, 29, 30, 31, 32, 33] X ?_; clear X; intro hQ X hL; simp only [zF, zG] at hL; simp only [zF, zG])
      refine Zm ?_
      refine Zm ?_
      refine Zm ?_
      refine Zm ?_
      refine Zn ?_
      refine Zf ?_
      refine Zl ?_
      refine Zm ?_
      refine Zn ?_
      refine Zf ?_
      refine Zl ?_
      refine Zm ?_
      refine Zn ?_
      refine Zf ?_
      refine Zl ?_
      refine Zg ?_
      refine Zm ?_
      refine Zn ?_
      refine Zf ?_
      refine Zl ?_
      refine Zm ?_
      refine Zn ?_
      refine Zf ?_
      refine Zl ?_
      refine Zg ?_
      refine Zn ?_
      refine Zf ?_
      (refine Zb ?_; clear X; intro w X)
      refine Zn ?_
      refine Zf ?_
      (refine Zb ?_; clear X; intro w X)
      refine Zn ?_
      refine Zf ?_
      (refine Zb ?_; clear X; intro w X)
      refine q_nil ?_
      go_wp2_with (first
       | (refine ZyL ?_) | (refine ZyS ?_; clear X; intro w X) | (refine ZyA ?_; clear X; intro g w X))
      all_goals
       rw [<- hp.out] at X
       refine m_ret1 rfl (.tmp rfl rfl) X (.tail _ (.head _)) rfl rfl ?_
       first
        | exact JMk1 (v := ⟨⟨as2, cs2⟩, ⟨aw2, cw2⟩, v.nm, v.nd, v.nr, v.sm, v.sd, v.sr, ⟨_, v.dn.c - j.done.length⟩, ⟨_, v.us.c - j.done.length⟩, ⟨_, v.st.c - 1⟩, v.ft⟩) [_, _] (X.addEmpty _ hmx).addNil ⟨hO5.out _ (by (dsimp only; generalize instDecidableEqNat v.dn.c j.done.length = dd; cases dd <;> first | exact .inl rfl | exact .inr ⟨by omega, rfl⟩)), hO6.out _ (by (dsimp only; rw [Nat.mul_one]; generalize instDecidableEqNat v.us.c j.done.length = dd; cases dd <;> first | exact .inl rfl | exact .inr ⟨by omega, rfl⟩)), rfl, hm.out.fmap, (fun x hx => by cases hx), hm.out.ffit, hI.out, ⟨hm.out.sz.1, Nat.zero_le _⟩⟩ (jRds_sub Zfl Zfl Zfl Zfl Zfl Zfl Zfl Zfl (.tail _ (.head _)) Zfl (fun r hr => .tail _ (.tail _ (.tail _ (.tail _ (inF_in r hr))))) (fun r hr => by cases hr) (fun r hr => .tail _ (.tail _ (.tail _ (.tail _ (List.mem_append_right _ hr)))))) rfl
        | exact JMk2 (v := ⟨⟨as2, cs2⟩, ⟨aw2, cw2⟩, v.nm, v.nd, v.nr, v.sm, v.sd, v.sr, ⟨_, v.dn.c - j.done.length⟩, ⟨_, v.us.c - j.done.length⟩, ⟨_, v.st.c - 1⟩, v.ft⟩) [_, _] (X.addEmpty _ hmx).addNil ⟨hO5.out _ (by (dsimp only; generalize instDecidableEqNat v.dn.c j.done.length = dd; cases dd <;> first | exact .inl rfl | exact .inr ⟨by omega, rfl⟩)), hO6.out _ (by (dsimp only; rw [Nat.mul_one]; generalize instDecidableEqNat v.us.c j.done.length = dd; cases dd <;> first | exact .inl rfl | exact .inr ⟨by omega, rfl⟩)), rfl, hm.out.fmap, (fun x hx => by cases hx), hm.out.ffit, hI.out, ⟨hm.out.sz.1, Nat.zero_le _⟩⟩ (jRds_sub Zfl Zfl Zfl Zfl Zfl Zfl Zfl Zfl (.tail _ (.head _)) Zfl (fun r hr => .tail _ (.tail _ (.tail _ (.tail _ (inF_in r hr))))) (fun r hr => by cases hr) (fun r hr => .tail _ (.tail _ (.tail _ (.tail _ (List.mem_append_right _ hr)))))) rfl
    ·unfold endJ at hI ⊢
     dsimp only at hI ⊢
     rw [if_neg (by rw [h3]; decide), if_neg (by rw [h3]; decide), if_pos h3] at hI ⊢
     dsimp only at hI ⊢
     have hw3 : (j.work == 1) = false := by rw [h3]; rfl
     have hw4 : (j.work == 2) = false := by rw [h3]; rfl
     have hw5 : (j.work == 3) = true := by rw [h3]; rfl
     clear h3
     have hfl : fs.length <= 25 := by have := hsz.found; rw [<- hm.fmap, List.length_map] at this; exact this
     replace hFl := hid hFl; replace hI := hid hI; replace hm := hid hm; replace hsz := hid hsz
     go_enter Tryz.func27, Tryz.ntmps27
     go_upto_region 3 with (first
      | (refine ZyL ?_) | (refine ZyS ?_; clear X; intro w X) | (refine ZyA ?_; clear X; intro g w X))
     obtain ⟨b2, off2, hb2, d0, d1, d2⟩ := RL.at3 (fun x : Stp => .int .i64 x.kind) (fun x => .int .i64 x.at_) (fun x => .string x.text) (fun _ => rfl) (X.read mst) (k := 0) (Nat.zero_lt_succ _)
     cases hb2
     simp only [List.getElem_cons_zero, Nat.zero_mul, Nat.add_zero] at d0 d1 d2
     go_upto_region 24 with (first
      | (refine ZyL ?_) | (refine ZyS ?_; clear X; intro w X) | (refine ZyA ?_; clear X; intro g w X)
      | (go_at_call 37; ((with_reducible refine (hFl.out _ _ (X.jDisk hdk (fun r hr => List.mem_append_left _ hr))).mono ?_); rintro e w1 ⟨v1, rfl, hr1, hn1, hb1⟩; obtain ⟨as2, cs2, aw2, cw2, rfl, X2⟩ := X.addNewD hb1 hn1 (fun r hr => List.mem_append_left _ (jRds_dsk r hr)); replace X := X2; clear X2 hb1 hn1 hr1)))
     all_goals
      have Xp := X.perm ((List.perm_append_comm (l₁ := [_, _]) (l₂ := [_])).append_right _)
      have hRi := hid (jr_rise (v := ⟨⟨as2, cs2⟩, ⟨aw2, cw2⟩, v.nm, v.nd, v.nr, v.sm, v.sd, v.sr, v.dn, v.us, ⟨_, v.st.c - 1⟩, v.ft⟩) (j := { j with disk := D, steps := [], work := 0 }) (fs := fs) Xp Zfl (fun r hr => .tail _ (.tail _ (inF_in r hr))) hm.out.fmap hfl hgd hnx)
      go_wp2_with (first
       | (refine ZyL ?_) | (refine ZyS ?_; clear X; intro w X) | (refine ZyA ?_; clear X; intro g w X)
       | (go_at_call 52; ((with_reducible refine (hRi.out).mono ?_); rintro e w1 ⟨u, rfl, X2⟩; replace X := X2.perm ((List.perm_append_comm (l₁ := [_]) (l₂ := [_, _])).append_right _); clear X2 Xp)))
      all_goals
       (try simp only [List.cons_append, List.nil_append] at X)
       refine m_ret1 rfl (.tmp rfl rfl) X (.tail _ (.head _)) rfl rfl ?_
       first
        | exact ⟨_, _, rfl, ⟨zeroV ⟨as2, cs2⟩ ⟨aw2, cw2⟩, [], [], [], [], ⟨.nil _ _ _, .nil _ _ _, rfl, rfl, (fun x hx => by cases hx), (fun x hx => by cases hx), hI.out, ⟨Nat.zero_le _, Nat.zero_le _⟩⟩, rfl, rfl⟩, X.jZero rfl rfl rfl rfl (List.Sublist.cons _ (List.Sublist.cons _ (List.Sublist.cons_cons _ hLL))) (fun r hr => List.mem_append_right _ hr)⟩
        | exact ⟨rfl, _, _, ⟨zeroV ⟨as2, cs2⟩ ⟨aw2, cw2⟩, [], [], [], [], ⟨.nil _ _ _, .nil _ _ _, rfl, rfl, (fun x hx => by cases hx), (fun x hx => by cases hx), hI.out, ⟨Nat.zero_le _, Nat.zero_le _⟩⟩, rfl, rfl⟩, X.jZero rfl rfl rfl rfl (List.Sublist.cons _ (List.Sublist.cons _ (List.Sublist.cons_cons _ hLL))) (fun r hr => List.mem_append_right _ hr)⟩
  ·have hk2 : (sk == 2) = false := beq_eq_false_iff_ne.2 hk
   rw [if_neg hk] at he hI ⊢
   rw [he] at hPu
   clear hFl hk he
   generalize putD j.disk sa tx = D at *
   cases r with
   | cons x r =>
    rw [if_neg (by simp)] at hI ⊢
    clear hwk
    rw [List.length_cons] at X hcap hrl
    replace hPu := hid hPu; replace hI := hid hI; replace hm := hid hm; replace hsz := hid hsz
    go_enter Tryz.func27, Tryz.ntmps27
    go_upto_region 3 with (first
     | (refine ZyL ?_) | (refine ZyS ?_; clear X; intro w X) | (refine ZyA ?_; clear X; intro g w X))
    obtain ⟨b2, off2, hb2, d0, d1, d2⟩ := RL.at3 (fun x : Stp => .int .i64 x.kind) (fun x => .int .i64 x.at_) (fun x => .string x.text) (fun _ => rfl) (X.read mst) (k := 0) (Nat.zero_lt_succ _)
    cases hb2
    simp only [List.getElem_cons_zero, Nat.zero_mul, Nat.add_zero] at d0 d1 d2
    go_upto_region 7 with (first
     | (refine ZyL ?_) | (refine ZyS ?_; clear X; intro w X) | (refine ZyA ?_; clear X; intro g w X))
    (refine q_startS 3 [15] [9, 15] [4, 6, 8] [0, 1, 2, 3, 4, 5, 6, 7, 8, 9, 10, 11, 12, 13, 14, 15, 16] X ?_; clear X; intro hQ X hL; simp only [zF, zG] at hL; simp only [zF, zG])
    refine Zm ?_
    refine Zm ?_
    refine Zn ?_
    refine Zf ?_
    refine Zl ?_
    refine Zf ?_
    refine Zl ?_
    refine Zf ?_
    refine Zl ?_
    (refine q_callS 36 Tryz.func36 (hPu.out _ _ (X.jDisk hdk (fun r hr => List.mem_append_left _ hr))) ?_; rintro e w1 ⟨v1, rfl, hr1, hn1, hb1⟩; obtain ⟨as2, cs2, aw2, cw2, rfl, X2⟩ := X.addNewD hb1 hn1 (fun r hr => List.mem_append_left _ (jRds_dsk r hr)); replace X := X2; clear X2 hb1 hn1 hr1; refine Zce ?_; clear hL; intro hL)
    refine Zm ?_
    refine Zx ?_
    refine Zx ?_
    refine Zn ?_
    refine Zf ?_
    (refine Zb ?_; clear X; intro w X)
    refine Za ?_
    refine q_nil ?_
    go_wp2_with (first
     | (refine ZyL ?_) | (refine ZyS ?_; clear X; intro w X) | (refine ZyA ?_; clear X; intro g w X))
    all_goals
     have X9 := X.addDrop (c := 3) (fun _ => rfl) (.tail _ (.tail _ mst))
     refine m_ret1 rfl (.tmp rfl rfl) X (.tail _ (.head _)) rfl rfl ?_
     first
      | exact ⟨_, _, rfl, ⟨{ v with sf := ⟨as2, cs2⟩, wr := ⟨aw2, cw2⟩, st := ⟨some ⟨b, off + 3, none⟩, v.st.c - 1⟩ }, ds, fs, MD, MU, ⟨hm.out.dn, hm.out.us, hm.out.dmap, hm.out.fmap, hm.out.dfit, hm.out.ffit, hI.out, ⟨hm.out.sz.1, hrl⟩⟩, rfl, rfl⟩, (by rw [List.cons_append, List.append_assoc]; refine St.rds (X9.sub (List.Sublist.cons _ (List.sublist_cons_self _ _))) ?_; exact jRds_sub Zfl Zfl Zfl Zfl Zfl Zfl Zfl Zfl Zfl Zfl (fun r hr => .tail _ (.tail _ (.tail _ (inF_in r hr)))) (fun r hr => .tail _ (.tail _ (.tail _ (inD_in r hr)))) (fun r hr => .tail _ (.tail _ (.tail _ (List.mem_append_right _ hr)))))⟩
      | exact ⟨rfl, _, _, ⟨{ v with sf := ⟨as2, cs2⟩, wr := ⟨aw2, cw2⟩, st := ⟨some ⟨b, off + 3, none⟩, v.st.c - 1⟩ }, ds, fs, MD, MU, ⟨hm.out.dn, hm.out.us, hm.out.dmap, hm.out.fmap, hm.out.dfit, hm.out.ffit, hI.out, ⟨hm.out.sz.1, hrl⟩⟩, rfl, rfl⟩, (by rw [List.cons_append, List.append_assoc]; refine St.rds (X9.sub (List.Sublist.cons _ (List.sublist_cons_self _ _))) ?_; exact jRds_sub Zfl Zfl Zfl Zfl Zfl Zfl Zfl Zfl Zfl Zfl (fun r hr => .tail _ (.tail _ (.tail _ (inF_in r hr)))) (fun r hr => .tail _ (.tail _ (.tail _ (inD_in r hr)))) (fun r hr => .tail _ (.tail _ (.tail _ (List.mem_append_right _ hr)))))⟩
   | nil =>
    rw [if_pos rfl] at hI ⊢
    have hLL : L.Sublist (MD ++ (MU ++ L)) := (List.sublist_append_right _ _).trans (List.sublist_append_right _ _)
    simp only [List.length_nil, Nat.zero_add] at X hcap
    rcases hwk with h1 | ⟨h2, hp, hul, hne⟩ | ⟨h3, hgd, hnx⟩
    ·unfold endJ at hI ⊢
     dsimp only at hI ⊢
     rw [if_pos h1] at hI ⊢
     dsimp only at hI ⊢
     have hw3 : (j.work == 1) = true := by rw [h1]; rfl
     clear h1
     have hdl : ds.length = j.done.length := by rw [<- hm.dmap, List.length_map]
     have hdb := hsz.done
     have hsf := hsz.sealed
     replace hPu := hid hPu; replace hI := hid hI; replace hm := hid hm; replace hsz := hid hsz
     go_enter Tryz.func27, Tryz.ntmps27
     go_upto_region 3 with (first
      | (refine ZyL ?_) | (refine ZyS ?_; clear X; intro w X) | (refine ZyA ?_; clear X; intro g w X))
     obtain ⟨b2, off2, hb2, d0, d1, d2⟩ := RL.at3 (fun x : Stp => .int .i64 x.kind) (fun x => .int .i64 x.at_) (fun x => .string x.text) (fun _ => rfl) (X.read mst) (k := 0) (Nat.zero_lt_succ _)
     cases hb2
     simp only [List.getElem_cons_zero, Nat.zero_mul, Nat.add_zero] at d0 d1 d2
     go_upto_region 7 with (first
      | (refine ZyL ?_) | (refine ZyS ?_; clear X; intro w X) | (refine ZyA ?_; clear X; intro g w X))
     (refine q_startS 3 [15] [9, 15] [4, 6, 8] [0, 1, 2, 3, 4, 5, 6, 7, 8, 9, 10, 11, 12, 13, 14, 15, 16] X ?_; clear X; intro hQ X hL; simp only [zF, zG] at hL; simp only [zF, zG])
     refine Zm ?_
     refine Zm ?_
     refine Zn ?_
     refine Zf ?_
     refine Zl ?_
     refine Zf ?_
     refine Zl ?_
     refine Zf ?_
     refine Zl ?_
     (refine q_callS 36 Tryz.func36 (hPu.out _ _ (X.jDisk hdk (fun r hr => List.mem_append_left _ hr))) ?_; rintro e w1 ⟨v1, rfl, hr1, hn1, hb1⟩; obtain ⟨as2, cs2, aw2, cw2, rfl, X2⟩ := X.addNewD hb1 hn1 (fun r hr => List.mem_append_left _ (jRds_dsk r hr)); replace X := X2; clear X2 hb1 hn1 hr1; refine Zce ?_; clear hL; intro hL)
     refine Zm ?_
     refine Zx ?_
     refine Zx ?_
     refine Zn ?_
     refine Zf ?_
     (refine Zb ?_; clear X; intro w X)
     refine Za ?_
     refine q_nil ?_
     go_upto_region 18 with (first
      | (refine ZyL ?_) | (refine ZyS ?_; clear X; intro w X) | (refine ZyA ?_; clear X; intro g w X))
     all_goals
      (refine q_startS 3 [13] [9, 10, 13] [4, 8] [0, 1, 2, 3, 4, 5, 6, 7, 8, 9, 10, 11, 12, 13] X ?_; clear X; intro hQ X hL; simp only [zF, zG] at hL; simp only [zF, zG])
      refine Zm ?_
      refine Zm ?_
      refine Zn ?_
      refine Zf ?_
      refine Zl ?_
      refine Zm ?_
      refine Zn ?_
      refine Zf ?_
      refine Zl ?_
      (refine q_build1 rfl rfl Zev (by rfl) (by rfl) X hL rfl rfl ?_; intro g w X2 hL2; replace X := X2; replace hL := hL2; clear X2 hL2; (simp only [Act.put, zA, zB, zC, zD, zE, zF, zG, Nat.reduceAdd]))
      refine q_appO (_ :: _ :: _ :: []) rfl rfl (⟨j.sealed, ⟨v.sm.a, j.sealed.mt.length, v.sm.c⟩, ⟨v.sd.a, j.sealed.dt.length, v.sd.c⟩, ⟨v.sr.a, j.sealed.rev.length, v.sr.c⟩⟩ : TV) tvC_flat X hL hm.out.dn Zev Zev rfl (by omega) Zsu rfl rfl ?_
      intro a5 c5 w5 MD5 hO5 X2 hL2
      replace X := X2
      replace hL := hL2
      clear X2 hL2
      simp only [List.cons_append, List.nil_append] at X hL
      (simp only [Act.put, zA, zB, zC, zD, zE, zF, zG, Nat.reduceAdd])
      refine Zn ?_
      refine Zf ?_
      (refine Zb ?_; clear X; intro w X)
      refine q_nil ?_
      go_wp2_with (first
       | (refine ZyL ?_) | (refine ZyS ?_; clear X; intro w X) | (refine ZyA ?_; clear X; intro g w X))
      all_goals
       have hdl2 : ds.length + 1 = (j.done ++ [j.sealed]).length := by simp [hdl]
       rw [hdl2] at hO5 X
       refine m_ret1 rfl (.tmp rfl rfl) X (.tail _ (.head _)) rfl rfl ?_
       first
        | exact JMk1 (v := ⟨⟨as2, cs2⟩, ⟨aw2, cw2⟩, v.nm, v.nd, v.nr, nilAC, nilAC, nilAC, ⟨a5, c5⟩, v.us, ⟨_, v.st.c - 1⟩, v.ft⟩) [_, _] (X.addEmpty _ hmx).addNil ⟨hO5, hm.out.us, by rw [List.map_append, hm.out.dmap]; rfl, hm.out.fmap, fit_snoc hm.out.dfit (⟨by show j.sealed.mt.length <= _; omega, by show j.sealed.dt.length <= _; omega, by show j.sealed.rev.length <= _; omega⟩), hm.out.ffit, hI.out, ⟨hm.out.sz.1, Nat.zero_le _⟩⟩ (jRds_sub Zfl Zfl Zfl Zfl Zfl Zfl Zfl Zfl (.tail _ (.head _)) Zfl (fun r hr => .tail _ (.tail _ (.tail _ (.tail _ (inF_in r hr))))) (in_snoc (y := (⟨j.sealed, ⟨v.sm.a, j.sealed.mt.length, v.sm.c⟩, ⟨v.sd.a, j.sealed.dt.length, v.sd.c⟩, ⟨v.sr.a, j.sealed.rev.length, v.sr.c⟩⟩ : TV)) (fun r hr => .tail _ (.tail _ (.tail _ (.tail _ (inD_in r hr))))) Zfl Zfl Zfl) (fun r hr => .tail _ (.tail _ (.tail _ (.tail _ (List.mem_append_right _ hr)))))) rfl
        | exact JMk2 (v := ⟨⟨as2, cs2⟩, ⟨aw2, cw2⟩, v.nm, v.nd, v.nr, nilAC, nilAC, nilAC, ⟨a5, c5⟩, v.us, ⟨_, v.st.c - 1⟩, v.ft⟩) [_, _] (X.addEmpty _ hmx).addNil ⟨hO5, hm.out.us, by rw [List.map_append, hm.out.dmap]; rfl, hm.out.fmap, fit_snoc hm.out.dfit (⟨by show j.sealed.mt.length <= _; omega, by show j.sealed.dt.length <= _; omega, by show j.sealed.rev.length <= _; omega⟩), hm.out.ffit, hI.out, ⟨hm.out.sz.1, Nat.zero_le _⟩⟩ (jRds_sub Zfl Zfl Zfl Zfl Zfl Zfl Zfl Zfl (.tail _ (.head _)) Zfl (fun r hr => .tail _ (.tail _ (.tail _ (.tail _ (inF_in r hr))))) (in_snoc (y := (⟨j.sealed, ⟨v.sm.a, j.sealed.mt.length, v.sm.c⟩, ⟨v.sd.a, j.sealed.dt.length, v.sd.c⟩, ⟨v.sr.a, j.sealed.rev.length, v.sr.c⟩⟩ : TV)) (fun r hr => .tail _ (.tail _ (.tail _ (.tail _ (inD_in r hr))))) Zfl Zfl Zfl) (fun r hr => .tail _ (.tail _ (.tail _ (.tail _ (List.mem_append_right _ hr)))))) rfl
    ·unfold endJ at hI ⊢
     dsimp only at hI ⊢
     rw [if_neg (by rw [h2]; decide), if_pos h2] at hI ⊢
     dsimp only at hI ⊢
     have hw3 : (j.work == 1) = false := by rw [h2]; rfl
     have hw4 : (j.work == 2) = true := by rw [h2]; rfl
     clear h2
     have hdr : j.done.drop j.pending.toNat = [] := by rw [hp, Int.toNat_natCast, List.drop_length]
     have hur : j.used.drop j.pending.toNat = [] := by rw [hp, Int.toNat_natCast, <- hul, List.drop_length]
     rw [hdr, hur] at hI ⊢
     clear hdr hur
     have hdl : ds.length = j.done.length := by rw [<- hm.dmap, List.length_map]
     obtain ⟨bd, od, hbd, hnd, hcd, hO5⟩ := hm.dn.drop tvC_flat (by omega)
     obtain ⟨bu, ou, hbu, hnu, hcu, hO6⟩ := hm.us.drop intC_flat (by omega)
     rw [hbd, hbu, hp, hul] at X
     rw [hul] at hO6 hcu
     have hdb := hsz.done
     clear hbd hbu hul hdl hnd hnu
     replace hp := hid hp
     replace hO5 := hid hO5; replace hO6 := hid hO6
     replace hPu := hid hPu; replace hI := hid hI; replace hm := hid hm; replace hsz := hid hsz
     go_enter Tryz.func27, Tryz.ntmps27
     go_upto_region 3 with (first
      | (refine ZyL ?_) | (refine ZyS ?_; clear X; intro w X) | (refine ZyA ?_; clear X; intro g w X))
     obtain ⟨b2, off2, hb2, d0, d1, d2⟩ := RL.at3 (fun x : Stp => .int .i64 x.kind) (fun x => .int .i64 x.at_) (fun x => .string x.text) (fun _ => rfl) (X.read mst) (k := 0) (Nat.zero_lt_succ _)
     cases hb2
     simp only [List.getElem_cons_zero, Nat.zero_mul, Nat.add_zero] at d0 d1 d2
     go_upto_region 7 with (first
      | (refine ZyL ?_) | (refine ZyS ?_; clear X; intro w X) | (refine ZyA ?_; clear X; intro g w X))
     (refine q_startS 3 [15] [9, 15] [4, 6, 8] [0, 1, 2, 3, 4, 5, 6, 7, 8, 9, 10, 11, 12, 13, 14, 15, 16] X ?_; clear X; intro hQ X hL; simp only [zF, zG] at hL; simp only [zF, zG])
     refine Zm ?_
     refine Zm ?_
     refine Zn ?_
     refine Zf ?_
     refine Zl ?_
     refine Zf ?_
     refine Zl ?_
     refine Zf ?_
     refine Zl ?_
     (refine q_callS 36 Tryz.func36 (hPu.out _ _ (X.jDisk hdk (fun r hr => List.mem_append_left _ hr))) ?_; rintro e w1 ⟨v1, rfl, hr1, hn1, hb1⟩; obtain ⟨as2, cs2, aw2, cw2, rfl, X2⟩ := X.addNewD hb1 hn1 (fun r hr => List.mem_append_left _ (jRds_dsk r hr)); replace X := X2; clear X2 hb1 hn1 hr1; refine Zce ?_; clear hL; intro hL)
     refine Zm ?_
     refine Zx ?_
     refine Zx ?_
     refine Zn ?_
     refine Zf ?_
     (refine Zb ?_; clear X; intro w X)
     refine Za ?_
     refine q_nil ?_
     go_upto_region 22 with (first
      | (refine ZyL ?_) | (refine ZyS ?_; clear X; intro w X) | (refine ZyA ?_; clear X; intro g w X))
     all_goals
      (refine q_startS 3 [27, 30, 33] [27, 30, 33] [6, 10, 14, 19, 23] [0, 1, 2, 3, 4, 5, 6, 7, 8, 9, 10, 11, 12, 13, 14, 15, 16, 17, 18, 19, 20, 21, 22, 23, 24, 25, 26, 27, 28, 29, 30, 31, 32, 33] X ?_; clear X; intro hQ X hL; simp only [zF, zG] at hL; simp only [zF, zG])
      refine Zm ?_
      refine Zm ?_
      refine Zm ?_
      refine Zm ?_
      refine Zn ?_
      refine Zf ?_
      refine Zl ?_
      refine Zm ?_
      refine Zn ?_
      refine Zf ?_
      refine Zl ?_
      refine Zm ?_
      refine Zn ?_
      refine Zf ?_
      refine Zl ?_
      refine Zg ?_
      refine Zm ?_
      refine Zn ?_
      refine Zf ?_
      refine Zl ?_
      refine Zm ?_
      refine Zn ?_
      refine Zf ?_
      refine Zl ?_
      refine Zg ?_
      refine Zn ?_
      refine Zf ?_
      (refine Zb ?_; clear X; intro w X)
      refine Zn ?_
      refine Zf ?_
      (refine Zb ?_; clear X; intro w X)
      refine Zn ?_
      refine Zf ?_
      (refine Zb ?_; clear X; intro w X)
      refine q_nil ?_
      go_wp2_with (first
       | (refine ZyL ?_) | (refine ZyS ?_; clear X; intro w X) | (refine ZyA ?_; clear X; intro g w X))
      all_goals
       rw [<- hp.out] at X
       refine m_ret1 rfl (.tmp rfl rfl) X (.tail _ (.head _)) rfl rfl ?_
       first
        | exact JMk1 (v := ⟨⟨as2, cs2⟩, ⟨aw2, cw2⟩, v.nm, v.nd, v.nr, v.sm, v.sd, v.sr, ⟨_, v.dn.c - j.done.length⟩, ⟨_, v.us.c - j.done.length⟩, ⟨_, v.st.c - 1⟩, v.ft⟩) [_, _] (X.addEmpty _ hmx).addNil ⟨hO5.out _ (by (dsimp only; generalize instDecidableEqNat v.dn.c j.done.length = dd; cases dd <;> first | exact .inl rfl | exact .inr ⟨by omega, rfl⟩)), hO6.out _ (by (dsimp only; rw [Nat.mul_one]; generalize instDecidableEqNat v.us.c j.done.length = dd; cases dd <;> first | exact .inl rfl | exact .inr ⟨by omega, rfl⟩)), rfl, hm.out.fmap, (fun x hx => by cases hx), hm.out.ffit, hI.out, ⟨hm.out.sz.1, Nat.zero_le _⟩⟩ (jRds_sub Zfl Zfl Zfl Zfl Zfl Zfl Zfl Zfl (.tail _ (.head _)) Zfl (fun r hr => .tail _ (.tail _ (.tail _ (.tail _ (inF_in r hr))))) (fun r hr => by cases hr) (fun r hr => .tail _ (.tail _ (.tail _ (.tail _ (List.mem_append_right _ hr)))))) rfl
        | exact JMk2 (v := ⟨⟨as2, cs2⟩, ⟨aw2, cw2⟩, v.nm, v.nd, v.nr, v.sm, v.sd, v.sr, ⟨_, v.dn.c - j.done.length⟩, ⟨_, v.us.c - j.done.length⟩, ⟨_, v.st.c - 1⟩, v.ft⟩) [_, _] (X.addEmpty _ hmx).addNil ⟨hO5.out _ (by (dsimp only; generalize instDecidableEqNat v.dn.c j.done.length = dd; cases dd <;> first | exact .inl rfl | exact .inr ⟨by omega, rfl⟩)), hO6.out _ (by (dsimp only; rw [Nat.mul_one]; generalize instDecidableEqNat v.us.c j.done.length = dd; cases dd <;> first | exact .inl rfl | exact .inr ⟨by omega, rfl⟩)), rfl, hm.out.fmap, (fun x hx => by cases hx), hm.out.ffit, hI.out, ⟨hm.out.sz.1, Nat.zero_le _⟩⟩ (jRds_sub Zfl Zfl Zfl Zfl Zfl Zfl Zfl Zfl (.tail _ (.head _)) Zfl (fun r hr => .tail _ (.tail _ (.tail _ (.tail _ (inF_in r hr))))) (fun r hr => by cases hr) (fun r hr => .tail _ (.tail _ (.tail _ (.tail _ (List.mem_append_right _ hr)))))) rfl
    ·unfold endJ at hI ⊢
     dsimp only at hI ⊢
     rw [if_neg (by rw [h3]; decide), if_neg (by rw [h3]; decide), if_pos h3] at hI ⊢
     dsimp only at hI ⊢
     have hw3 : (j.work == 1) = false := by rw [h3]; rfl
     have hw4 : (j.work == 2) = false := by rw [h3]; rfl
     have hw5 : (j.work == 3) = true := by rw [h3]; rfl
     clear h3
     have hfl : fs.length <= 25 := by have := hsz.found; rw [<- hm.fmap, List.length_map] at this; exact this
     replace hPu := hid hPu; replace hI := hid hI; replace hm := hid hm; replace hsz := hid hsz
     go_enter Tryz.func27, Tryz.ntmps27
     go_upto_region 3 with (first
      | (refine ZyL ?_) | (refine ZyS ?_; clear X; intro w X) | (refine ZyA ?_; clear X; intro g w X))
     obtain ⟨b2, off2, hb2, d0, d1, d2⟩ := RL.at3 (fun x : Stp => .int .i64 x.kind) (fun x => .int .i64 x.at_) (fun x => .string x.text) (fun _ => rfl) (X.read mst) (k := 0) (Nat.zero_lt_succ _)
     cases hb2
     simp only [List.getElem_cons_zero, Nat.zero_mul, Nat.add_zero] at d0 d1 d2
     go_upto_region 7 with (first
      | (refine ZyL ?_) | (refine ZyS ?_; clear X; intro w X) | (refine ZyA ?_; clear X; intro g w X))
     (refine q_startS 3 [15] [9, 15] [4, 6, 8] [0, 1, 2, 3, 4, 5, 6, 7, 8, 9, 10, 11, 12, 13, 14, 15, 16] X ?_; clear X; intro hQ X hL; simp only [zF, zG] at hL; simp only [zF, zG])
     refine Zm ?_
     refine Zm ?_
     refine Zn ?_
     refine Zf ?_
     refine Zl ?_
     refine Zf ?_
     refine Zl ?_
     refine Zf ?_
     refine Zl ?_
     (refine q_callS 36 Tryz.func36 (hPu.out _ _ (X.jDisk hdk (fun r hr => List.mem_append_left _ hr))) ?_; rintro e w1 ⟨v1, rfl, hr1, hn1, hb1⟩; obtain ⟨as2, cs2, aw2, cw2, rfl, X2⟩ := X.addNewD hb1 hn1 (fun r hr => List.mem_append_left _ (jRds_dsk r hr)); replace X := X2; clear X2 hb1 hn1 hr1; refine Zce ?_; clear hL; intro hL)
     refine Zm ?_
     refine Zx ?_
     refine Zx ?_
     refine Zn ?_
     refine Zf ?_
     (refine Zb ?_; clear X; intro w X)
     refine Za ?_
     refine q_nil ?_
     go_upto_region 24 with (first
      | (refine ZyL ?_) | (refine ZyS ?_; clear X; intro w X) | (refine ZyA ?_; clear X; intro g w X))
     all_goals
      have Xp := X.perm ((List.perm_append_comm (l₁ := [_, _]) (l₂ := [_])).append_right _)
      have hRi := hid (jr_rise (v := ⟨⟨as2, cs2⟩, ⟨aw2, cw2⟩, v.nm, v.nd, v.nr, v.sm, v.sd, v.sr, v.dn, v.us, ⟨_, v.st.c - 1⟩, v.ft⟩) (j := { j with disk := D, steps := [], work := 0 }) (fs := fs) Xp Zfl (fun r hr => .tail _ (.tail _ (inF_in r hr))) hm.out.fmap hfl hgd hnx)
      go_wp2_with (first
       | (refine ZyL ?_) | (refine ZyS ?_; clear X; intro w X) | (refine ZyA ?_; clear X; intro g w X)
       | (go_at_call 52; ((with_reducible refine (hRi.out).mono ?_); rintro e w1 ⟨u, rfl, X2⟩; replace X := X2.perm ((List.perm_append_comm (l₁ := [_]) (l₂ := [_, _])).append_right _); clear X2 Xp)))
      all_goals
       (try simp only [List.cons_append, List.nil_append] at X)
       refine m_ret1 rfl (.tmp rfl rfl) X (.tail _ (.head _)) rfl rfl ?_
       first
        | exact ⟨_, _, rfl, ⟨zeroV ⟨as2, cs2⟩ ⟨aw2, cw2⟩, [], [], [], [], ⟨.nil _ _ _, .nil _ _ _, rfl, rfl, (fun x hx => by cases hx), (fun x hx => by cases hx), hI.out, ⟨Nat.zero_le _, Nat.zero_le _⟩⟩, rfl, rfl⟩, X.jZero rfl rfl rfl rfl (List.Sublist.cons _ (List.Sublist.cons _ (List.Sublist.cons_cons _ hLL))) (fun r hr => List.mem_append_right _ hr)⟩
        | exact ⟨rfl, _, _, ⟨zeroV ⟨as2, cs2⟩ ⟨aw2, cw2⟩, [], [], [], [], ⟨.nil _ _ _, .nil _ _ _, rfl, rfl, (fun x hx => by cases hx), (fun x hx => by cases hx), hI.out, ⟨Nat.zero_le _, Nat.zero_le _⟩⟩, rfl, rfl⟩, X.jZero rfl rfl rfl rfl (List.Sublist.cons _ (List.Sublist.cons _ (List.Sublist.cons_cons _ hLL))) (fun r hr => List.mem_append_right _ hr)⟩
end Go.Proofs.YtjhmfljlclajnadGreatDoor
namespace Wb
open Go Go.RowKit
section
variable {P : Program} {ops : Array Oper} {Q : Exit -> Act -> World -> Prop} {L0 : List Ent} {R0 : List Rd} {brk eff lds : List Nat} {i : Nat} {r : List Nat} {o : Oper} {a : Act} {S : List Nat} {w0 w : World} {L : List Ent} {R : List Rd}
theorem exec_build5 {t e : TypeId} {bytes : Nat} [hT : SlT P t e 1 bytes] {x0 x1 x2 x3 x4 : Operand} (ho : o.op = .buildSlice t 5 #[(0, x0), (1, x1), (2, x2), (3, x3), (4, x4)]) {v0 v1 v2 v3 v4 : Value} (h0 : EvR a x0 v0) (h1 : EvR a x1 v1) (h2 : EvR a x2 v2) (h3 : EvR a x3 v3) (h4 : EvR a x4 v4)
    (c0 : v0.cells = #[v0]) (c1 : v1.cells = #[v1]) (c2 : v2.cells = #[v2]) (c3 : v3.cells = #[v3]) (c4 : v4.cells = #[v4]) :
    (execOp a.eval o).run P w = .ok (.value (.slice (some ⟨w.heap.size, 0, none⟩) 5 5)) (w.alloc (.cells #[v0, v1, v2, v3, v4] e)) := by
 have hr := run_build (w := w) hT.elem hT.pos [[v0], [v1], [v2], [v3], [v4]] [v0, v1, v2, v3, v4] (by simp [c0, c1, c2, c3, c4]) (by simp) (by simp) (by simp)
 simp at hr
 unfold execOp
 simp [ho, h0.eval, h1.eval, h2.eval, h3.eval, h4.eval, hr]
theorem q_build5 {t e : TypeId} {bytes : Nat} {x0 x1 x2 x3 x4 : Operand} (hi : oAt ops i = some o) (ho : o.op = .buildSlice t 5 #[(0, x0), (1, x1), (2, x2), (3, x3), (4, x4)]) [hT : SlT P t e 1 bytes] {v0 v1 v2 v3 v4 : Value} (h0 : EvR a x0 v0) (h1 : EvR a x1 v1) (h2 : EvR a x2 v2) (h3 : EvR a x3 v3) (h4 : EvR a x4 v4)
    (c0 : v0.cells = #[v0]) (c1 : v1.cells = #[v1]) (c2 : v2.cells = #[v2]) (c3 : v3.cells = #[v3]) (c4 : v4.cells = #[v4]) (X : St S w0 w L R) (hL : Under L0 R0 L R) (he : eff.contains i = true) (hw : Region.wanted o (yielded ops a.tmps) = true)
    (h : ∀ g w', St S w0 w' (⟨g, [v0, v1, v2, v3, v4], e⟩ :: L) R -> Under L0 R0 (⟨g, [v0, v1, v2, v3, v4], e⟩ :: L) R -> SQ P ops Q L0 R0 brk eff lds r (a.put o.dst (.slice (some ⟨g, 0, none⟩) 5 5)) w') : SQ P ops Q L0 R0 brk eff lds (i :: r) a w :=
 q_eff hi he hw fun K hk => by
  have hL' : Under L0 R0 ((⟨w.heap.size, [v0, v1, v2, v3, v4], e⟩ : Ent) :: L) R := ⟨hL.l.cons _, hL.r⟩
  unfold Oper.wp
  rw [exec_build5 ho h0 h1 h2 h3 h4 c0 c1 c2 c3 c4]
  exact hk _ _ (fun _ _ => (X.alloc [v0, v1, v2, v3, v4] e).keeps hL') (h _ _ (X.alloc [v0, v1, v2, v3, v4] e) hL')
end
end Wb
