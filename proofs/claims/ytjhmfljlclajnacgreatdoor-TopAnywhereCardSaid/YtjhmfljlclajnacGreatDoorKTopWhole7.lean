/- Parts of the proof: JwE JwF Bld5 JwG JnS. -/
import Derived.Test.YtjhmfljlclajnacGreatDoorKTopWhole6
set_option linter.unusedVariables false
set_option linter.unusedSimpArgs false
set_option maxRecDepth 100000
set_option maxHeartbeats 40000000
namespace Go.Proofs.YtjhmfljlclajnacGreatDoor
open Go.RowKit Wb
theorem jr_rise {S : List Nat} {w0 w : World} {LL : List Ent} {RR : List Rd} {gj : Nat} {j : Jn} {v : JV} {fs : List TV} (X : St S w0 w (⟨gj, jCells v j, 82⟩ :: LL) RR)
    (hft : Rd.of tvC (.slice v.ft.a j.found.txns.length v.ft.c) fs ∈ RR) (hin : ∀ r ∈ inR fs, r ∈ RR) (hfm : fs.map (·.t) = j.found.txns) (hfl : fs.length <= 25) (hgd : ∀ t ∈ j.found.txns, goodT t = true) (hnx : 1 <= j.found.next /\ j.found.next <= 2147483647) :
    Calls Tryz.prog 78 #[.pointer (some ⟨gj, 0, none⟩)] w fun e w' => ∃ u, e = .returned u /\ St S w0 w' (⟨gj, jCells (zeroV v.sf v.wr) (riseJ j), 82⟩ :: LL) RR := by
 have hlen : j.found.txns.length = fs.length := by rw [<- hfm, List.length_map]
 have hwr : IntKind.i64.wrap (j.found.next - 1) = j.found.next - 1 := IntWalk.i64_in _ (by omega)
 unfold jCells at X
 go_enter Tryz.func78, Tryz.ntmps78
 go_wp2_with (first
  | (refine ZyL ?_) | (refine ZyS ?_; clear X; intro w X) | (refine ZyA ?_; clear X; intro g w X))
 obtain ⟨g3, g2, rfl, rfl⟩ := X.nm2
 go_loopw [15] (fun i wr => ∃ k : Nat, k <= 12 /\ i = .int .i64 k /\ St S w0 wr (⟨g3, arrL (oneF k), 58⟩ :: ⟨g2, [.slice v.ft.a j.found.txns.length v.ft.c, .int .i64 j.found.next, .int .i64 j.found.at_], 61⟩ :: ⟨gj, jCells v j, 82⟩ :: LL) RR) (fun i _ => 12 - (intOf i).toNat)
 case atStart => exact ⟨0, Nat.zero_le _, rfl, X⟩
 case round =>
  clear X
  obtain ⟨k, hk, rfl, X⟩ := hrel
  by_cases hlt : k < 12
  ·go_wp2_with (first
     | (refine at_mem rfl ?_; refine at_store rfl ?_; refine c_store1 rfl _ _ _ rfl rfl Zev X rfl rfl Zpv ?_; intro w X2; replace X := X2; clear X2; (simp only [Act.put, zA, zB, zC, zD, zE, zF, zG, Nat.reduceAdd])))
   rw [upd_arr _ hlt, oneF_step] at X
   go_roundw
   case rel => exact ⟨k + 1, by omega, by go_num, X⟩
   case measure => simp [intOf]; omega
  ·obtain rfl : k = 12 := by omega
   have X9 := X
   rw [oneF_full] at X9
   clear X
   have X := X9
   clear X9
   rw [hlen] at X
   go_wp2_with (first
    | (refine ZyL ?_) | (refine ZyS ?_; clear X; intro w X) | (refine ZyA ?_; clear X; intro g w X))
   go_loopw [24] (fun i wr => ∃ k : Nat, k <= fs.length /\ i = .int .i64 k /\ St S w0 wr (⟨g3, arrL (riseR (j.found.txns.take k)), 58⟩ :: ⟨g2, [.slice v.ft.a fs.length v.ft.c, .int .i64 j.found.next, .int .i64 j.found.at_], 61⟩ :: ⟨gj, jCells v j, 82⟩ :: LL) RR) (fun i _ => fs.length - (intOf i).toNat)
   case atStart => exact ⟨0, Nat.zero_le _, rfl, X⟩
   case round =>
    clear X
    obtain ⟨k, hk, rfl, X⟩ := hrel
    by_cases hlt : k < fs.length
    ·rw [hlen] at hft
     have hltt : k < j.found.txns.length := by omega
     have hst := riseR_step hltt
     have hte : j.found.txns[k] = fs[k].t := by simp only [<- hfm, List.getElem_map]
     have hgk := good_blks (hgd _ (List.getElem_mem hltt))
     rw [hte] at hst hgk
     obtain ⟨b4, off4, hb4, c0, c1, c2, c3, c4, c5, c6, c7, c8, c9⟩ := RL.atTV (X.read hft) hlt
     obtain ⟨e1, e2, e3⟩ := inR_mem hlt
     have e1 := hin _ e1
     have e3 := hin _ e3
     have e2 := hin _ e2
     obtain ⟨am, cm, hm1, _⟩ := (X.read e1).form
     obtain ⟨ar, cr, hr1, _⟩ := (X.read e3).form
     obtain ⟨ad, cd, hd1, _⟩ := (X.read e2).form
     rw [hm1] at e1 c1
     rw [hr1] at e3 c3
     rw [hd1] at c2
     clear e2 hd1
     rw [hb4] at X ⊢
     have hte0 := hte
     clear hte hm1 hr1
     have hfit : (fs[k]).t.rev.length <= 17592186044160 /\ (fs[k]).t.mt.length <= 5864062014805 := ⟨by have := good_lens (hgd _ (List.getElem_mem hltt)); rw [hte0] at this; omega, by have := good_lens (hgd _ (List.getElem_mem hltt)); rw [hte0] at this; omega⟩
     clear hte0
     generalize fs[k].t = t at *
     generalize riseR (j.found.txns.take k) = f0 at *
     generalize hrn : riseR (j.found.txns.take (k + 1)) = fN at *
     replace hrn := hid hrn; replace hst := hid hst; replace hgk := hid hgk
     go_wp2_with (first
      | (refine ZyL ?_) | (refine ZyS ?_; clear X; intro w X) | (refine ZyA ?_; clear X; intro g w X))
     obtain ⟨g6, rfl⟩ := X.nm1
     clear c0 c1 c2 c3 c4 c5 c6 c7 c8 c9
     have hgr := hgk.out.1
     have hgm := hgk.out.2
     have hl1 : t.rev.length <= 17592186044160 := hfit.1
     have hl2 : t.mt.length <= 5864062014805 := hfit.2
     go_loopw [31] (fun i w2 => ∃ m : Nat, m <= t.rev.length /\ i = .int .i64 m /\ St S w0 w2 (⟨g6, [.int .i64 t.seq, .slice am t.mt.length cm, .slice ad t.dt.length cd, .slice ar t.rev.length cr, .bool t.h0.on, .int .i64 t.h0.left, .bool t.h1.on, .int .i64 t.h1.left, .bool t.h2.on, .int .i64 t.h2.left], 40⟩ :: ⟨g3, arrL (rvF12 f0 (t.rev.take m)), 58⟩ :: ⟨g2, [.slice (some ⟨b4, off4, none⟩) fs.length v.ft.c, .int .i64 j.found.next, .int .i64 j.found.at_], 61⟩ :: ⟨gj, jCells v j, 82⟩ :: LL) RR) (fun i _ => t.rev.length - (intOf i).toNat)
     case atStart => exact ⟨0, Nat.zero_le _, rfl, X⟩
     case round =>
      clear X
      obtain ⟨m, hm, rfl, X⟩ := hrel
      by_cases hmlt : m < t.rev.length
      ·obtain ⟨b5, off5, hb5, d0⟩ := RL.at1 (fun x : Int => .int .i64 x) (fun _ => rfl) (X.read e3) hmlt
       have hs2 := rvF12_step f0 hmlt
       have hbb := hgr _ (List.getElem_mem hmlt)
       generalize t.rev[m] = x at *
       obtain ⟨xn, rfl⟩ : ∃ xn : Nat, x = xn := ⟨x.toNat, by omega⟩
       have hx12 : xn < 12 := by omega
       rw [hb5] at X ⊢
       replace hs2 := hid hs2
       generalize hfn : rvF12 f0 (t.rev.take (m + 1)) = fn2 at *
       generalize rvF12 f0 (t.rev.take m) = fo2 at *
       replace hfn := hid hfn
       go_wp2_with (first
        | (refine at_mem rfl ?_; refine at_store rfl ?_; refine c_store1 rfl _ _ _ rfl rfl Zev X rfl rfl Zpv ?_; intro w X2; replace X := X2; clear X2; (simp only [Act.put, zA, zB, zC, zD, zE, zF, zG, Nat.reduceAdd])))
       rw [upd_arr _ hx12, <- hs2.out, <- hfn.out] at X
       go_roundw
       case rel => exact ⟨m + 1, by omega, by go_num, X⟩
       case measure => simp [intOf]; omega
      ·obtain rfl : m = t.rev.length := by omega
       rw [List.take_length] at X
       have hst1 := hst.out
       generalize rvF12 f0 t.rev = f1 at *
       clear hst
       go_wp2_with (first
        | (refine ZyL ?_) | (refine ZyS ?_; clear X; intro w X) | (refine ZyA ?_; clear X; intro g w X))
       have X9 := X.sub (List.sublist_cons_self _ _)
       clear X
       have X := X9
       clear X9
       go_loopw [41] (fun i w2 => ∃ m : Nat, m <= t.mt.length /\ i = .int .i64 m /\ St S w0 w2 (⟨g3, arrL (mtF12 f1 (t.mt.take m)), 58⟩ :: ⟨g2, [.slice (some ⟨b4, off4, none⟩) fs.length v.ft.c, .int .i64 j.found.next, .int .i64 j.found.at_], 61⟩ :: ⟨gj, jCells v j, 82⟩ :: LL) RR) (fun i _ => t.mt.length - (intOf i).toNat)
       case atStart => exact ⟨0, Nat.zero_le _, rfl, X⟩
       case round =>
        clear X
        obtain ⟨m, hm, rfl, X⟩ := hrel
        by_cases hmlt : m < t.mt.length
        ·obtain ⟨b5, off5, hb5, d0, d1⟩ := RL.at2 (fun x : Cpy => .int .i64 x.block) (fun x => .string x.text) (fun _ => rfl) (X.read e1) hmlt
         have hs2 := mtF12_step f1 hmlt
         have hbb := hgm _ (List.getElem_mem hmlt)
         obtain ⟨⟨x, tx⟩, hx⟩ : ∃ y, t.mt[m] = y := ⟨_, rfl⟩
         rw [hx] at d0 d1 hs2 hbb
         clear hx
         dsimp only at d0 d1 hs2 hbb
         obtain ⟨xn, rfl⟩ : ∃ xn : Nat, x = xn := ⟨x.toNat, by omega⟩
         have hx12 : xn < 12 := by omega
         rw [hb5]
         replace hs2 := hid hs2
         generalize hfn : mtF12 f1 (t.mt.take (m + 1)) = fn2 at *
         generalize mtF12 f1 (t.mt.take m) = fo2 at *
         replace hfn := hid hfn
         go_upto_region 18 with (first
          | (refine ZyL ?_) | (refine ZyS ?_; clear X; intro w X) | (refine ZyA ?_; clear X; intro g w X))
         go_wp2_with (first
          | (refine ZyL ?_) | (refine ZyS ?_; clear X; intro w X) | (refine ZyA ?_; clear X; intro g w X)
          | (refine at_mem rfl ?_; refine at_store rfl ?_; refine c_store1 rfl _ _ _ rfl rfl Zev X rfl rfl Zpv ?_; intro w X2; replace X := X2; clear X2; (simp only [Act.put, zA, zB, zC, zD, zE, zF, zG, Nat.reduceAdd])))
         rw [upd_arr _ hx12, <- hs2.out, <- hfn.out] at X
         go_roundw
         case rel => exact ⟨m + 1, by omega, by go_num, X.sub (List.sublist_cons_self _ _)⟩
         case measure => simp [intOf]; omega
        ·obtain rfl : m = t.mt.length := by omega
         rw [List.take_length, <- hst1, <- hrn.out] at X
         go_wp2
         go_roundw
         case rel => exact ⟨k + 1, by omega, by go_num, X⟩
         case measure => simp [intOf]; omega
    ·obtain rfl : k = fs.length := by omega
     rw [<- hlen, List.take_length, hlen] at X
     unfold jCells at X
     go_upto_region 21 with (first
      | (refine ZyL ?_) | (refine ZyS ?_; clear X; intro w X) | (refine ZyA ?_; clear X; intro g w X))
     (refine q_startS 3 [21] [21] [4, 6, 9, 12, 14, 18] [0, 1, 2, 3, 4, 5, 6, 7, 8, 9, 10, 11, 12, 13, 14, 15, 16, 17, 18, 19, 20, 21] X ?_; clear X; intro hQ X hL; simp only [zF, zG] at hL; simp only [zF, zG])
     refine Zm ?_
     refine Zm ?_
     refine Zn ?_
     refine Zf ?_
     refine Zl ?_
     refine Zf ?_
     refine Zl ?_
     refine Zg ?_
     refine Zf ?_
     refine Zl ?_
     refine Zg ?_
     refine Zf ?_
     refine Zl ?_
     refine Zg ?_
     refine Zl ?_
     refine Zm ?_
     refine Zn ?_
     refine Zf ?_
     refine Zl ?_
     refine Zg ?_
     refine Zn ?_
     (refine Zb ?_; clear X; intro w X)
     refine q_nil ?_
     exact bodyPost_end (results_none rfl _ _ _) rfl ⟨_, rfl, X.sub (List.Sublist.cons _ (List.sublist_cons_self _ _))⟩
theorem _root_.Wb.step_eq {j : Jn} {s : Stp} {r : List Stp} (hw : j.work ≠ 0) (hs : j.steps = s :: r) (he : stepE j.disk s = 0) : stepJ j = if r = [] then endJ { j with disk := stepD j.disk s, steps := [] } else ({ j with disk := stepD j.disk s, steps := r }, noR 0) := by
 unfold stepJ
 rw [if_neg hw, hs]
 dsimp only
 rw [if_neg (by rw [he]; decide)]
theorem jr_step (K : JK) {S : List Nat} {w0 w : World} {L : List Ent} {R : List Rd} {gj : Nat} {j : Jn} {M : List Ent} {Rj : List Rd} (F : JF gj j M Rj) (X : St S w0 w (M ++ L) (Rj ++ R)) :
    Calls Tryz.prog 37 #[.pointer (some ⟨gj, 0, none⟩)] w fun e w' => ∃ M' Rj', e = .returned (stepJ j).2.val /\ JF gj (stepJ j).1 M' Rj' /\ St S w0 w' (M' ++ L) (Rj' ++ R) := by
 obtain ⟨v, ds, fs, MD, MU, hm, rfl, rfl⟩ := F
 have hsz := hm.inv.sz hm.sz
 have hdk := hsz.dk
 rw [List.cons_append, List.append_assoc] at X
 unfold jCells at X
 by_cases hw : j.work = 0
 ·have hJ : stepJ j = (j, noR 4) := by unfold stepJ; rw [if_pos hw]
  rw [hJ]
  have hw2 : (j.work == 0) = true := by simpa using hw
  clear hw hJ
  go_enter Tryz.func37, Tryz.ntmps37
  go_wp2_with (first
   | (refine ZyL ?_) | (refine ZyS ?_; clear X; intro w X) | (refine ZyA ?_; clear X; intro g w X))
  exact m_ret1 rfl (.tmp rfl rfl) X (.head _) rfl rfl ⟨_, _, rfl, ⟨v, ds, fs, MD, MU, hm, rfl, rfl⟩, by rw [List.cons_append, List.append_assoc]; exact X.sub (List.sublist_cons_self _ _)⟩
 ·obtain ⟨s, r, hs, he⟩ := inv_steps hm.inv hw
  have hJ := step_eq hw hs he
  have hI := inv_step hm.inv
  have hwk := inv_work hm.inv hw
  have hw2 : (j.work == 0) = false := beq_eq_false_iff_ne.2 hw
  have hrl : r.length <= 100 := by have := hm.sz.2; rw [hs, List.length_cons] at this; omega
  have mst : Rd.of stpC (.slice v.st.a j.steps.length v.st.c) j.steps ∈ jRds v j ds fs ++ R := Zfl
  have hl : j.steps.length = r.length + 1 := by rw [hs]; rfl
  rw [hs] at mst
  obtain ⟨b, off, hb, _⟩ := RL.at3 (fun x : Stp => .int .i64 x.kind) (fun x => .int .i64 x.at_) (fun x => .string x.text) (fun _ => rfl) (X.read mst) (k := 0) (Nat.zero_lt_succ _)
  have hcap : r.length + 1 <= v.st.c := by obtain ⟨_, _, h1, h2, _⟩ := (X.rd _ mst).1; simp only [Rd.of, Value.slice.injEq, List.length_cons] at h1 h2; omega
  have hmx : v.st.c - 1 <= maxLen := by obtain ⟨_, _, h1, _, h3, _⟩ := (X.rd _ mst).1; simp only [Rd.of, Value.slice.injEq] at h1; omega
  rw [hb] at mst X
  rw [hl] at X
  rw [hJ] at hI ⊢
  clear hJ hw hl hb
  obtain ⟨sk, sa, tx⟩ := s
  have hFl := fun v w (h : RDisk w v j.disk) => K.flush j.disk v w h
  have hPu := fun v w (h : RDisk w v j.disk) => K.put j.disk sa tx v w h
  unfold stepE at he
  unfold stepD at hI ⊢
  dsimp only at he hI ⊢
  by_cases hk : sk = 2
  ·have hk2 : (sk == 2) = true := by simpa using hk
   rw [if_pos hk] at he hI ⊢
   rw [he] at hFl
   clear hPu hk he
   generalize flushD j.disk = D at *
   cases r with
   | cons x r =>
    rw [if_neg (by simp)] at hI ⊢
    clear hwk
    rw [List.length_cons] at X hcap hrl
    replace hFl := hid hFl; replace hI := hid hI; replace hm := hid hm; replace hsz := hid hsz
    go_enter Tryz.func37, Tryz.ntmps37
    go_upto_region 3 with (first
     | (refine ZyL ?_) | (refine ZyS ?_; clear X; intro w X) | (refine ZyA ?_; clear X; intro g w X))
    obtain ⟨b2, off2, hb2, d0, d1, d2⟩ := RL.at3 (fun x : Stp => .int .i64 x.kind) (fun x => .int .i64 x.at_) (fun x => .string x.text) (fun _ => rfl) (X.read mst) (k := 0) (Nat.zero_lt_succ _)
    cases hb2
    simp only [List.getElem_cons_zero, Nat.zero_mul, Nat.add_zero] at d0 d1 d2
    go_wp2_with (first
     | (refine ZyL ?_) | (refine ZyS ?_; clear X; intro w X) | (refine ZyA ?_; clear X; intro g w X)
     | (go_at_call 63; ((with_reducible refine (hFl.out _ _ (X.jDisk hdk (fun r hr => List.mem_append_left _ hr))).mono ?_); rintro e w1 ⟨v1, rfl, hr1, hn1, hb1⟩; obtain ⟨as2, cs2, aw2, cw2, rfl, X2⟩ := X.addNewD hb1 hn1 (fun r hr => List.mem_append_left _ (jRds_dsk r hr)); replace X := X2; clear X2 hb1 hn1 hr1)))
    all_goals
     have X9 := X.addDrop (c := 3) (fun _ => rfl) (.tail _ (.tail _ mst))
     refine m_ret1 rfl (.tmp rfl rfl) X (.tail _ (.head _)) rfl rfl ?_
     first
      | exact ⟨_, _, rfl, ⟨{ v with sf := ⟨as2, cs2⟩, wr := ⟨aw2, cw2⟩, st := ⟨some ⟨b, off + 3, none⟩, v.st.c - 1⟩ }, ds, fs, MD, MU, ⟨hm.out.dn, hm.out.us, hm.out.dmap, hm.out.fmap, hm.out.dfit, hm.out.ffit, hI.out, ⟨hm.out.sz.1, hrl⟩⟩, rfl, rfl⟩, (by rw [List.cons_append, List.append_assoc]; refine St.rds (X9.sub (List.Sublist.cons _ (List.sublist_cons_self _ _))) ?_; exact jRds_sub Zfl Zfl Zfl Zfl Zfl Zfl Zfl Zfl Zfl Zfl (fun r hr => .tail _ (.tail _ (.tail _ (inF_in r hr)))) (fun r hr => .tail _ (.tail _ (.tail _ (inD_in r hr)))) (fun r hr => .tail _ (.tail _ (.tail _ (List.mem_append_right _ hr)))))⟩
      | exact ⟨rfl, _, _, ⟨{ v with sf := ⟨as2, cs2⟩, wr := ⟨aw2, cw2⟩, st := ⟨some ⟨b, off + 3, none⟩, v.st.c - 1⟩ }, ds, fs, MD, MU, ⟨hm.out.dn, hm.out.us, hm.out.dmap, hm.out.fmap, hm.out.dfit, hm.out.ffit, hI.out, ⟨hm.out.sz.1, hrl⟩⟩, rfl, rfl⟩, (by rw [List.cons_append, List.append_assoc]; refine St.rds (X9.sub (List.Sublist.cons _ (List.sublist_cons_self _ _))) ?_; exact jRds_sub Zfl Zfl Zfl Zfl Zfl Zfl Zfl Zfl Zfl Zfl (fun r hr => .tail _ (.tail _ (.tail _ (inF_in r hr)))) (fun r hr => .tail _ (.tail _ (.tail _ (inD_in r hr)))) (fun r hr => .tail _ (.tail _ (.tail _ (List.mem_append_right _ hr)))))⟩
   | nil =>
    rw [if_pos rfl] at hI ⊢
    have hLL : L.Sublist (MD ++ (MU ++ L)) := (List.sublist_append_right _ _).trans (List.sublist_append_right _ _)
    simp only [List.length_nil, Nat.zero_add] at X hcap
    rcases hwk with h1 | ⟨h2, hp, hul, hne⟩ | ⟨h3, hgd, hnx⟩
    ·unfold endJ at hI ⊢
     dsimp only at hI ⊢
     rw [if_pos h1] at hI ⊢
     dsimp only at hI ⊢
     have hw3 : (j.work == 1) = true := by rw [h1]; rfl
     clear h1
     have hdl : ds.length = j.done.length := by rw [<- hm.dmap, List.length_map]
     have hdb := hsz.done
     have hsf := hsz.sealed
     replace hFl := hid hFl; replace hI := hid hI; replace hm := hid hm; replace hsz := hid hsz
     go_enter Tryz.func37, Tryz.ntmps37
     go_upto_region 3 with (first
      | (refine ZyL ?_) | (refine ZyS ?_; clear X; intro w X) | (refine ZyA ?_; clear X; intro g w X))
     obtain ⟨b2, off2, hb2, d0, d1, d2⟩ := RL.at3 (fun x : Stp => .int .i64 x.kind) (fun x => .int .i64 x.at_) (fun x => .string x.text) (fun _ => rfl) (X.read mst) (k := 0) (Nat.zero_lt_succ _)
     cases hb2
     simp only [List.getElem_cons_zero, Nat.zero_mul, Nat.add_zero] at d0 d1 d2
     go_upto_region 18 with (first
      | (refine ZyL ?_) | (refine ZyS ?_; clear X; intro w X) | (refine ZyA ?_; clear X; intro g w X)
      | (go_at_call 63; ((with_reducible refine (hFl.out _ _ (X.jDisk hdk (fun r hr => List.mem_append_left _ hr))).mono ?_); rintro e w1 ⟨v1, rfl, hr1, hn1, hb1⟩; obtain ⟨as2, cs2, aw2, cw2, rfl, X2⟩ := X.addNewD hb1 hn1 (fun r hr => List.mem_append_left _ (jRds_dsk r hr)); replace X := X2; clear X2 hb1 hn1 hr1)))
     all_goals
      (refine q_startS 3 [13] [9, 10, 13] [4, 8] [0, 1, 2, 3, 4, 5, 6, 7, 8, 9, 10, 11, 12, 13] X ?_; clear X; intro hQ X hL; simp only [zF, zG] at hL; simp only [zF, zG])
      refine Zm ?_
      refine Zm ?_
      refine Zn ?_
      refine Zf ?_
      refine Zl ?_
      refine Zm ?_
      refine Zn ?_
      refine Zf ?_
      refine Zl ?_
      (refine q_build1 rfl rfl Zev (by rfl) (by rfl) X hL rfl rfl ?_; intro g w X2 hL2; replace X := X2; replace hL := hL2; clear X2 hL2; (simp only [Act.put, zA, zB, zC, zD, zE, zF, zG, Nat.reduceAdd]))
      refine q_appO (_ :: _ :: _ :: []) rfl rfl (⟨j.sealed, ⟨v.sm.a, j.sealed.mt.length, v.sm.c⟩, ⟨v.sd.a, j.sealed.dt.length, v.sd.c⟩, ⟨v.sr.a, j.sealed.rev.length, v.sr.c⟩⟩ : TV) tvC_flat X hL hm.out.dn Zev Zev rfl (by omega) Zsu rfl rfl ?_
      intro a5 c5 w5 MD5 hO5 X2 hL2
      replace X := X2
      replace hL := hL2
      clear X2 hL2
      simp only [List.cons_append, List.nil_append] at X hL
      (simp only [Act.put, zA, zB, zC, zD, zE, zF, zG, Nat.reduceAdd])
      refine Zn ?_
      refine Zf ?_
      (refine Zb ?_; clear X; intro w X)
      refine q_nil ?_
      go_wp2_with (first
       | (refine ZyL ?_) | (refine ZyS ?_; clear X; intro w X) | (refine ZyA ?_; clear X; intro g w X))
      all_goals
       have hdl2 : ds.length + 1 = (j.done ++ [j.sealed]).length := by simp [hdl]
       rw [hdl2] at hO5 X
       refine m_ret1 rfl (.tmp rfl rfl) X (.tail _ (.head _)) rfl rfl ?_
       first
        | exact JMk1 (v := ⟨⟨as2, cs2⟩, ⟨aw2, cw2⟩, v.nm, v.nd, v.nr, nilAC, nilAC, nilAC, ⟨a5, c5⟩, v.us, ⟨_, v.st.c - 1⟩, v.ft⟩) [_, _] (X.addEmpty _ hmx).addNil ⟨hO5, hm.out.us, by rw [List.map_append, hm.out.dmap]; rfl, hm.out.fmap, fit_snoc hm.out.dfit (⟨by show j.sealed.mt.length <= _; omega, by show j.sealed.dt.length <= _; omega, by show j.sealed.rev.length <= _; omega⟩), hm.out.ffit, hI.out, ⟨hm.out.sz.1, Nat.zero_le _⟩⟩ (jRds_sub Zfl Zfl Zfl Zfl Zfl Zfl Zfl Zfl (.tail _ (.head _)) Zfl (fun r hr => .tail _ (.tail _ (.tail _ (.tail _ (inF_in r hr))))) (in_snoc (y := (⟨j.sealed, ⟨v.sm.a, j.sealed.mt.length, v.sm.c⟩, ⟨v.sd.a, j.sealed.dt.length, v.sd.c⟩, ⟨v.sr.a, j.sealed.rev.length, v.sr.c⟩⟩ : TV)) (fun r hr => .tail _ (.tail _ (.tail _ (.tail _ (inD_in r hr))))) Zfl Zfl Zfl) (fun r hr => .tail _ (.tail _ (.tail _ (.tail _ (List.mem_append_right _ hr)))))) rfl
        | exact JMk2 (v := ⟨⟨as2, cs2⟩, ⟨aw2, cw2⟩, v.nm, v.nd, v.nr, nilAC, nilAC, nilAC, ⟨a5, c5⟩, v.us, ⟨_, v.st.c - 1⟩, v.ft⟩) [_, _] (X.addEmpty _ hmx).addNil ⟨hO5, hm.out.us, by rw [List.map_append, hm.out.dmap]; rfl, hm.out.fmap, fit_snoc hm.out.dfit (⟨by show j.sealed.mt.length <= _; omega, by show j.sealed.dt.length <= _; omega, by show j.sealed.rev.length <= _; omega⟩), hm.out.ffit, hI.out, ⟨hm.out.sz.1, Nat.zero_le _⟩⟩ (jRds_sub Zfl Zfl Zfl Zfl Zfl Zfl Zfl Zfl (.tail _ (.head _)) Zfl (fun r hr => .tail _ (.tail _ (.tail _ (.tail _ (inF_in r hr))))) (in_snoc (y := (⟨j.sealed, ⟨v.sm.a, j.sealed.mt.length, v.sm.c⟩, ⟨v.sd.a, j.sealed.dt.length, v.sd.c⟩, ⟨v.sr.a, j.sealed.rev.length, v.sr.c⟩⟩ : TV)) (fun r hr => .tail _ (.tail _ (.tail _ (.tail _ (inD_in r hr))))) Zfl Zfl Zfl) (fun r hr => .tail _ (.tail _ (.tail _ (.tail _ (List.mem_append_right _ hr)))))) rfl
    ·unfold endJ at hI ⊢
     dsimp only at hI ⊢
     rw [if_neg (by rw [h2]; decide), if_pos h2] at hI ⊢
     dsimp only at hI ⊢
     have hw3 : (j.work == 1) = false := by rw [h2]; rfl
     have hw4 : (j.work == 2) = true := by rw [h2]; rfl
     clear h2
     have hdr : j.done.drop j.pending.toNat = [] := by rw [hp, Int.toNat_natCast, List.drop_length]
     have hur : j.used.drop j.pending.toNat = [] := by rw [hp, Int.toNat_natCast, <- hul, List.drop_length]
     rw [hdr, hur] at hI ⊢
     clear hdr hur
     have hdl : ds.length = j.done.length := by rw [<- hm.dmap, List.length_map]
     obtain ⟨bd, od, hbd, hnd, hcd, hO5⟩ := hm.dn.drop tvC_flat (by omega)
     obtain ⟨bu, ou, hbu, hnu, hcu, hO6⟩ := hm.us.drop intC_flat (by omega)
     rw [hbd, hbu, hp, hul] at X
     rw [hul] at hO6 hcu
     have hdb := hsz.done
     clear hbd hbu hul hdl hnd hnu
     replace hp := hid hp
     replace hO5 := hid hO5; replace hO6 := hid hO6
     replace hFl := hid hFl; replace hI := hid hI; replace hm := hid hm; replace hsz := hid hsz
     go_enter Tryz.func37, Tryz.ntmps37
     go_upto_region 3 with (first
      | (refine ZyL ?_) | (refine ZyS ?_; clear X; intro w X) | (refine ZyA ?_; clear X; intro g w X))
     obtain ⟨b2, off2, hb2, d0, d1, d2⟩ := RL.at3 (fun x : Stp => .int .i64 x.kind) (fun x => .int .i64 x.at_) (fun x => .string x.text) (fun _ => rfl) (X.read mst) (k := 0) (Nat.zero_lt_succ _)
     cases hb2
     simp only [List.getElem_cons_zero, Nat.zero_mul, Nat.add_zero] at d0 d1 d2
     go_upto_region 22 with (first
      | (refine ZyL ?_) | (refine ZyS ?_; clear X; intro w X) | (refine ZyA ?_; clear X; intro g w X)
      | (go_at_call 63; ((with_reducible refine (hFl.out _ _ (X.jDisk hdk (fun r hr => List.mem_append_left _ hr))).mono ?_); rintro e w1 ⟨v1, rfl, hr1, hn1, hb1⟩; obtain ⟨as2, cs2, aw2, cw2, rfl, X2⟩ := X.addNewD hb1 hn1 (fun r hr => List.mem_append_left _ (jRds_dsk r hr)); replace X := X2; clear X2 hb1 hn1 hr1)))
     all_goals
      (refine q_startS 3 [27, 30, 33] [27, 30, 33] [6, 10, 14, 19, 23] [0, 1, 2, 3, 4, 5, 6, 7, 8, 9, 10, 11, 12, 13, 14, 15, 16, 17, 18, 19, 20, 21, 22, 23, 24, 25, 26, 27, 28, 29, 30, 31, 32, 33] X ?_; clear X; intro hQ X hL; simp only [zF, zG] at hL; simp only [zF, zG])
      refine Zm ?_
      refine Zm ?_
      refine Zm ?_
      refine Zm ?_
      refine Zn ?_
      refine Zf ?_
      refine Zl ?_
      refine Zm ?_
      refine Zn ?_
      refine Zf ?_
      refine Zl ?_
      refine Zm ?_
      refine Zn ?_
      refine Zf ?_
      refine Zl ?_
      refine Zg ?_
      refine Zm ?_
      refine Zn ?_
      refine Zf ?_
      refine Zl ?_
      refine Zm ?_
      refine Zn ?_
      refine Zf ?_
      refine Zl ?_
      refine Zg ?_
      refine Zn ?_
      refine Zf ?_
      (refine Zb ?_; clear X; intro w X)
      refine Zn ?_
      refine Zf ?_
      (refine Zb ?_; clear X; intro w X)
      refine Zn ?_
      refine Zf ?_
      (refine Zb ?_; clear X; intro w X)
      refine q_nil ?_
      go_wp2_with (first
       | (refine ZyL ?_) | (refine ZyS ?_; clear X; intro w X) | (refine ZyA ?_; clear X; intro g w X))
      all_goals
       rw [<- hp.out] at X
       refine m_ret1 rfl (.tmp rfl rfl) X (.tail _ (.head _)) rfl rfl ?_
       first
        | exact JMk1 (v := ⟨⟨as2, cs2⟩, ⟨aw2, cw2⟩, v.nm, v.nd, v.nr, v.sm, v.sd, v.sr, ⟨_, v.dn.c - j.done.length⟩, ⟨_, v.us.c - j.done.length⟩, ⟨_, v.st.c - 1⟩, v.ft⟩) [_, _] (X.addEmpty _ hmx).addNil ⟨hO5.out _ (by (dsimp only; generalize instDecidableEqNat v.dn.c j.done.length = dd; cases dd <;> first | exact .inl rfl | exact .inr ⟨by omega, rfl⟩)), hO6.out _ (by (dsimp only; rw [Nat.mul_one]; generalize instDecidableEqNat v.us.c j.done.length = dd; cases dd <;> first | exact .inl rfl | exact .inr ⟨by omega, rfl⟩)), rfl, hm.out.fmap, (fun x hx => by cases hx), hm.out.ffit, hI.out, ⟨hm.out.sz.1, Nat.zero_le _⟩⟩ (jRds_sub Zfl Zfl Zfl Zfl Zfl Zfl Zfl Zfl (.tail _ (.head _)) Zfl (fun r hr => .tail _ (.tail _ (.tail _ (.tail _ (inF_in r hr))))) (fun r hr => by cases hr) (fun r hr => .tail _ (.tail _ (.tail _ (.tail _ (List.mem_append_right _ hr)))))) rfl
        | exact JMk2 (v := ⟨⟨as2, cs2⟩, ⟨aw2, cw2⟩, v.nm, v.nd, v.nr, v.sm, v.sd, v.sr, ⟨_, v.dn.c - j.done.length⟩, ⟨_, v.us.c - j.done.length⟩, ⟨_, v.st.c - 1⟩, v.ft⟩) [_, _] (X.addEmpty _ hmx).addNil ⟨hO5.out _ (by (dsimp only; generalize instDecidableEqNat v.dn.c j.done.length = dd; cases dd <;> first | exact .inl rfl | exact .inr ⟨by omega, rfl⟩)), hO6.out _ (by (dsimp only; rw [Nat.mul_one]; generalize instDecidableEqNat v.us.c j.done.length = dd; cases dd <;> first | exact .inl rfl | exact .inr ⟨by omega, rfl⟩)), rfl, hm.out.fmap, (fun x hx => by cases hx), hm.out.ffit, hI.out, ⟨hm.out.sz.1, Nat.zero_le _⟩⟩ (jRds_sub Zfl Zfl Zfl Zfl Zfl Zfl Zfl Zfl (.tail _ (.head _)) Zfl (fun r hr => .tail _ (.tail _ (.tail _ (.tail _ (inF_in r hr))))) (fun r hr => by cases hr) (fun r hr => .tail _ (.tail _ (.tail _ (.tail _ (List.mem_append_right _ hr)))))) rfl
    ·unfold endJ at hI ⊢
     dsimp only at hI ⊢
     rw [if_neg (by rw [h3]; decide), if_neg (by rw [h3]; decide), if_pos h3] at hI ⊢
     dsimp only at hI ⊢
     have hw3 : (j.work == 1) = false := by rw [h3]; rfl
     have hw4 : (j.work == 2) = false := by rw [h3]; rfl
     have hw5 : (j.work == 3) = true := by rw [h3]; rfl
     clear h3
     have hfl : fs.length <= 25 := by have := hsz.found; rw [<- hm.fmap, List.length_map] at this; exact this
     replace hFl := hid hFl; replace hI := hid hI; replace hm := hid hm; replace hsz := hid hsz
     go_enter Tryz.func37, Tryz.ntmps37
     go_upto_region 3 with (first
      | (refine ZyL ?_) | (refine ZyS ?_; clear X; intro w X) | (refine ZyA ?_; clear X; intro g w X))
     obtain ⟨b2, off2, hb2, d0, d1, d2⟩ := RL.at3 (fun x : Stp => .int .i64 x.kind) (fun x => .int .i64 x.at_) (fun x => .string x.text) (fun _ => rfl) (X.read mst) (k := 0) (Nat.zero_lt_succ _)
     cases hb2
     simp only [List.getElem_cons_zero, Nat.zero_mul, Nat.add_zero] at d0 d1 d2
     go_upto_region 24 with (first
      | (refine ZyL ?_) | (refine ZyS ?_; clear X; intro w X) | (refine ZyA ?_; clear X; intro g w X)
      | (go_at_call 63; ((with_reducible refine (hFl.out _ _ (X.jDisk hdk (fun r hr => List.mem_append_left _ hr))).mono ?_); rintro e w1 ⟨v1, rfl, hr1, hn1, hb1⟩; obtain ⟨as2, cs2, aw2, cw2, rfl, X2⟩ := X.addNewD hb1 hn1 (fun r hr => List.mem_append_left _ (jRds_dsk r hr)); replace X := X2; clear X2 hb1 hn1 hr1)))
     all_goals
      have Xp := X.perm ((List.perm_append_comm (l₁ := [_, _]) (l₂ := [_])).append_right _)
      have hRi := hid (jr_rise (v := ⟨⟨as2, cs2⟩, ⟨aw2, cw2⟩, v.nm, v.nd, v.nr, v.sm, v.sd, v.sr, v.dn, v.us, ⟨_, v.st.c - 1⟩, v.ft⟩) (j := { j with disk := D, steps := [], work := 0 }) (fs := fs) Xp Zfl (fun r hr => .tail _ (.tail _ (inF_in r hr))) hm.out.fmap hfl hgd hnx)
      go_wp2_with (first
       | (refine ZyL ?_) | (refine ZyS ?_; clear X; intro w X) | (refine ZyA ?_; clear X; intro g w X)
       | (go_at_call 78; ((with_reducible refine (hRi.out).mono ?_); rintro e w1 ⟨u, rfl, X2⟩; replace X := X2.perm ((List.perm_append_comm (l₁ := [_]) (l₂ := [_, _])).append_right _); clear X2 Xp)))
      all_goals
       (try simp only [List.cons_append, List.nil_append] at X)
       refine m_ret1 rfl (.tmp rfl rfl) X (.tail _ (.head _)) rfl rfl ?_
       first
        | exact ⟨_, _, rfl, ⟨zeroV ⟨as2, cs2⟩ ⟨aw2, cw2⟩, [], [], [], [], ⟨.nil _ _ _, .nil _ _ _, rfl, rfl, (fun x hx => by cases hx), (fun x hx => by cases hx), hI.out, ⟨Nat.zero_le _, Nat.zero_le _⟩⟩, rfl, rfl⟩, X.jZero rfl rfl rfl rfl (List.Sublist.cons _ (List.Sublist.cons _ (List.Sublist.cons_cons _ hLL))) (fun r hr => List.mem_append_right _ hr)⟩
        | exact ⟨rfl, _, _, ⟨zeroV ⟨as2, cs2⟩ ⟨aw2, cw2⟩, [], [], [], [], ⟨.nil _ _ _, .nil _ _ _, rfl, rfl, (fun x hx => by cases hx), (fun x hx => by cases hx), hI.out, ⟨Nat.zero_le _, Nat.zero_le _⟩⟩, rfl, rfl⟩, X.jZero rfl rfl rfl rfl (List.Sublist.cons _ (List.Sublist.cons _ (List.Sublist.cons_cons _ hLL))) (fun r hr => List.mem_append_right _ hr)⟩
  ·have hk2 : (sk == 2) = false := beq_eq_false_iff_ne.2 hk
   rw [if_neg hk] at he hI ⊢
   rw [he] at hPu
   clear hFl hk he
   generalize putD j.disk sa tx = D at *
   cases r with
   | cons x r =>
    rw [if_neg (by simp)] at hI ⊢
    clear hwk
    rw [List.length_cons] at X hcap hrl
    replace hPu := hid hPu; replace hI := hid hI; replace hm := hid hm; replace hsz := hid hsz
    go_enter Tryz.func37, Tryz.ntmps37
    go_upto_region 3 with (first
     | (refine ZyL ?_) | (refine ZyS ?_; clear X; intro w X) | (refine ZyA ?_; clear X; intro g w X))
    obtain ⟨b2, off2, hb2, d0, d1, d2⟩ := RL.at3 (fun x : Stp => .int .i64 x.kind) (fun x => .int .i64 x.at_) (fun x => .string x.text) (fun _ => rfl) (X.read mst) (k := 0) (Nat.zero_lt_succ _)
    cases hb2
    simp only [List.getElem_cons_zero, Nat.zero_mul, Nat.add_zero] at d0 d1 d2
    go_upto_region 7 with (first
     | (refine ZyL ?_) | (refine ZyS ?_; clear X; intro w X) | (refine ZyA ?_; clear X; intro g w X))
    (refine q_startS 3 [15] [9, 15] [4, 6, 8] [0, 1, 2, 3, 4, 5, 6, 7, 8, 9, 10, 11, 12, 13, 14, 15, 16] X ?_; clear X; intro hQ X hL; simp only [zF, zG] at hL; simp only [zF, zG])
    refine Zm ?_
    refine Zm ?_
    refine Zn ?_
    refine Zf ?_
    refine Zl ?_
    refine Zf ?_
    refine Zl ?_
    refine Zf ?_
    refine Zl ?_
    (refine q_callS 62 Tryz.func62 (hPu.out _ _ (X.jDisk hdk (fun r hr => List.mem_append_left _ hr))) ?_; rintro e w1 ⟨v1, rfl, hr1, hn1, hb1⟩; obtain ⟨as2, cs2, aw2, cw2, rfl, X2⟩ := X.addNewD hb1 hn1 (fun r hr => List.mem_append_left _ (jRds_dsk r hr)); replace X := X2; clear X2 hb1 hn1 hr1; refine Zce ?_; clear hL; intro hL)
    refine Zm ?_
    refine Zx ?_
    refine Zx ?_
    refine Zn ?_
    refine Zf ?_
    (refine Zb ?_; clear X; intro w X)
    refine Za ?_
    refine q_nil ?_
    go_wp2_with (first
     | (refine ZyL ?_) | (refine ZyS ?_; clear X; intro w X) | (refine ZyA ?_; clear X; intro g w X))
    all_goals
     have X9 := X.addDrop (c := 3) (fun _ => rfl) (.tail _ (.tail _ mst))
     refine m_ret1 rfl (.tmp rfl rfl) X (.tail _ (.head _)) rfl rfl ?_
     first
      | exact ⟨_, _, rfl, ⟨{ v with sf := ⟨as2, cs2⟩, wr := ⟨aw2, cw2⟩, st := ⟨some ⟨b, off + 3, none⟩, v.st.c - 1⟩ }, ds, fs, MD, MU, ⟨hm.out.dn, hm.out.us, hm.out.dmap, hm.out.fmap, hm.out.dfit, hm.out.ffit, hI.out, ⟨hm.out.sz.1, hrl⟩⟩, rfl, rfl⟩, (by rw [List.cons_append, List.append_assoc]; refine St.rds (X9.sub (List.Sublist.cons _ (List.sublist_cons_self _ _))) ?_; exact jRds_sub Zfl Zfl Zfl Zfl Zfl Zfl Zfl Zfl Zfl Zfl (fun r hr => .tail _ (.tail _ (.tail _ (inF_in r hr)))) (fun r hr => .tail _ (.tail _ (.tail _ (inD_in r hr)))) (fun r hr => .tail _ (.tail _ (.tail _ (List.mem_append_right _ hr)))))⟩
      | exact ⟨rfl, _, _, ⟨{ v with sf := ⟨as2, cs2⟩, wr := ⟨aw2, cw2⟩, st := ⟨some ⟨b, off + 3, none⟩, v.st.c - 1⟩ }, ds, fs, MD, MU, ⟨hm.out.dn, hm.out.us, hm.out.dmap, hm.out.fmap, hm.out.dfit, hm.out.ffit, hI.out, ⟨hm.out.sz.1, hrl⟩⟩, rfl, rfl⟩, (by rw [List.cons_append, List.append_assoc]; refine St.rds (X9.sub (List.Sublist.cons _ (List.sublist_cons_self _ _))) ?_; exact jRds_sub Zfl Zfl Zfl Zfl Zfl Zfl Zfl Zfl Zfl Zfl (fun r hr => .tail _ (.tail _ (.tail _ (inF_in r hr)))) (fun r hr => .tail _ (.tail _ (.tail _ (inD_in r hr)))) (fun r hr => .tail _ (.tail _ (.tail _ (List.mem_append_right _ hr)))))⟩
   | nil =>
    rw [if_pos rfl] at hI ⊢
    have hLL : L.Sublist (MD ++ (MU ++ L)) := (List.sublist_append_right _ _).trans (List.sublist_append_right _ _)
    simp only [List.length_nil, Nat.zero_add] at X hcap
    rcases hwk with h1 | ⟨h2, hp, hul, hne⟩ | ⟨h3, hgd, hnx⟩
    ·unfold endJ at hI ⊢
     dsimp only at hI ⊢
     rw [if_pos h1] at hI ⊢
     dsimp only at hI ⊢
     have hw3 : (j.work == 1) = true := by rw [h1]; rfl
     clear h1
     have hdl : ds.length = j.done.length := by rw [<- hm.dmap, List.length_map]
     have hdb := hsz.done
     have hsf := hsz.sealed
     replace hPu := hid hPu; replace hI := hid hI; replace hm := hid hm; replace hsz := hid hsz
     go_enter Tryz.func37, Tryz.ntmps37
     go_upto_region 3 with (first
      | (refine ZyL ?_) | (refine ZyS ?_; clear X; intro w X) | (refine ZyA ?_; clear X; intro g w X))
     obtain ⟨b2, off2, hb2, d0, d1, d2⟩ := RL.at3 (fun x : Stp => .int .i64 x.kind) (fun x => .int .i64 x.at_) (fun x => .string x.text) (fun _ => rfl) (X.read mst) (k := 0) (Nat.zero_lt_succ _)
     cases hb2
     simp only [List.getElem_cons_zero, Nat.zero_mul, Nat.add_zero] at d0 d1 d2
     go_upto_region 7 with (first
      | (refine ZyL ?_) | (refine ZyS ?_; clear X; intro w X) | (refine ZyA ?_; clear X; intro g w X))
     (refine q_startS 3 [15] [9, 15] [4, 6, 8] [0, 1, 2, 3, 4, 5, 6, 7, 8, 9, 10, 11, 12, 13, 14, 15, 16] X ?_; clear X; intro hQ X hL; simp only [zF, zG] at hL; simp only [zF, zG])
     refine Zm ?_
     refine Zm ?_
     refine Zn ?_
     refine Zf ?_
     refine Zl ?_
     refine Zf ?_
     refine Zl ?_
     refine Zf ?_
     refine Zl ?_
     (refine q_callS 62 Tryz.func62 (hPu.out _ _ (X.jDisk hdk (fun r hr => List.mem_append_left _ hr))) ?_; rintro e w1 ⟨v1, rfl, hr1, hn1, hb1⟩; obtain ⟨as2, cs2, aw2, cw2, rfl, X2⟩ := X.addNewD hb1 hn1 (fun r hr => List.mem_append_left _ (jRds_dsk r hr)); replace X := X2; clear X2 hb1 hn1 hr1; refine Zce ?_; clear hL; intro hL)
     refine Zm ?_
     refine Zx ?_
     refine Zx ?_
     refine Zn ?_
     refine Zf ?_
     (refine Zb ?_; clear X; intro w X)
     refine Za ?_
     refine q_nil ?_
     go_upto_region 18 with (first
      | (refine ZyL ?_) | (refine ZyS ?_; clear X; intro w X) | (refine ZyA ?_; clear X; intro g w X))
     all_goals
      (refine q_startS 3 [13] [9, 10, 13] [4, 8] [0, 1, 2, 3, 4, 5, 6, 7, 8, 9, 10, 11, 12, 13] X ?_; clear X; intro hQ X hL; simp only [zF, zG] at hL; simp only [zF, zG])
      refine Zm ?_
      refine Zm ?_
      refine Zn ?_
      refine Zf ?_
      refine Zl ?_
      refine Zm ?_
      refine Zn ?_
      refine Zf ?_
      refine Zl ?_
      (refine q_build1 rfl rfl Zev (by rfl) (by rfl) X hL rfl rfl ?_; intro g w X2 hL2; replace X := X2; replace hL := hL2; clear X2 hL2; (simp only [Act.put, zA, zB, zC, zD, zE, zF, zG, Nat.reduceAdd]))
      refine q_appO (_ :: _ :: _ :: []) rfl rfl (⟨j.sealed, ⟨v.sm.a, j.sealed.mt.length, v.sm.c⟩, ⟨v.sd.a, j.sealed.dt.length, v.sd.c⟩, ⟨v.sr.a, j.sealed.rev.length, v.sr.c⟩⟩ : TV) tvC_flat X hL hm.out.dn Zev Zev rfl (by omega) Zsu rfl rfl ?_
      intro a5 c5 w5 MD5 hO5 X2 hL2
      replace X := X2
      replace hL := hL2
      clear X2 hL2
      simp only [List.cons_append, List.nil_append] at X hL
      (simp only [Act.put, zA, zB, zC, zD, zE, zF, zG, Nat.reduceAdd])
      refine Zn ?_
      refine Zf ?_
      (refine Zb ?_; clear X; intro w X)
      refine q_nil ?_
      go_wp2_with (first
       | (refine ZyL ?_) | (refine ZyS ?_; clear X; intro w X) | (refine ZyA ?_; clear X; intro g w X))
      all_goals
       have hdl2 : ds.length + 1 = (j.done ++ [j.sealed]).length := by simp [hdl]
       rw [hdl2] at hO5 X
       refine m_ret1 rfl (.tmp rfl rfl) X (.tail _ (.head _)) rfl rfl ?_
       first
        | exact JMk1 (v := ⟨⟨as2, cs2⟩, ⟨aw2, cw2⟩, v.nm, v.nd, v.nr, nilAC, nilAC, nilAC, ⟨a5, c5⟩, v.us, ⟨_, v.st.c - 1⟩, v.ft⟩) [_, _] (X.addEmpty _ hmx).addNil ⟨hO5, hm.out.us, by rw [List.map_append, hm.out.dmap]; rfl, hm.out.fmap, fit_snoc hm.out.dfit (⟨by show j.sealed.mt.length <= _; omega, by show j.sealed.dt.length <= _; omega, by show j.sealed.rev.length <= _; omega⟩), hm.out.ffit, hI.out, ⟨hm.out.sz.1, Nat.zero_le _⟩⟩ (jRds_sub Zfl Zfl Zfl Zfl Zfl Zfl Zfl Zfl (.tail _ (.head _)) Zfl (fun r hr => .tail _ (.tail _ (.tail _ (.tail _ (inF_in r hr))))) (in_snoc (y := (⟨j.sealed, ⟨v.sm.a, j.sealed.mt.length, v.sm.c⟩, ⟨v.sd.a, j.sealed.dt.length, v.sd.c⟩, ⟨v.sr.a, j.sealed.rev.length, v.sr.c⟩⟩ : TV)) (fun r hr => .tail _ (.tail _ (.tail _ (.tail _ (inD_in r hr))))) Zfl Zfl Zfl) (fun r hr => .tail _ (.tail _ (.tail _ (.tail _ (List.mem_append_right _ hr)))))) rfl
        | exact JMk2 (v := ⟨⟨as2, cs2⟩, ⟨aw2, cw2⟩, v.nm, v.nd, v.nr, nilAC, nilAC, nilAC, ⟨a5, c5⟩, v.us, ⟨_, v.st.c - 1⟩, v.ft⟩) [_, _] (X.addEmpty _ hmx).addNil ⟨hO5, hm.out.us, by rw [List.map_append, hm.out.dmap]; rfl, hm.out.fmap, fit_snoc hm.out.dfit (⟨by show j.sealed.mt.length <= _; omega, by show j.sealed.dt.length <= _; omega, by show j.sealed.rev.length <= _; omega⟩), hm.out.ffit, hI.out, ⟨hm.out.sz.1, Nat.zero_le _⟩⟩ (jRds_sub Zfl Zfl Zfl Zfl Zfl Zfl Zfl Zfl (.tail _ (.head _)) Zfl (fun r hr => .tail _ (.tail _ (.tail _ (.tail _ (inF_in r hr))))) (in_snoc (y := (⟨j.sealed, ⟨v.sm.a, j.sealed.mt.length, v.sm.c⟩, ⟨v.sd.a, j.sealed.dt.length, v.sd.c⟩, ⟨v.sr.a, j.sealed.rev.length, v.sr.c⟩⟩ : TV)) (fun r hr => .tail _ (.tail _ (.tail _ (.tail _ (inD_in r hr))))) Zfl Zfl Zfl) (fun r hr => .tail _ (.tail _ (.tail _ (.tail _ (List.mem_append_right _ hr)))))) rfl
    ·unfold endJ at hI ⊢
     dsimp only at hI ⊢
     rw [if_neg (by rw [h2]; decide), if_pos h2] at hI ⊢
     dsimp only at hI ⊢
     have hw3 : (j.work == 1) = false := by rw [h2]; rfl
     have hw4 : (j.work == 2) = true := by rw [h2]; rfl
     clear h2
     have hdr : j.done.drop j.pending.toNat = [] := by rw [hp, Int.toNat_natCast, List.drop_length]
     have hur : j.used.drop j.pending.toNat = [] := by rw [hp, Int.toNat_natCast, <- hul, List.drop_length]
     rw [hdr, hur] at hI ⊢
     clear hdr hur
     have hdl : ds.length = j.done.length := by rw [<- hm.dmap, List.length_map]
     obtain ⟨bd, od, hbd, hnd, hcd, hO5⟩ := hm.dn.drop tvC_flat (by omega)
     obtain ⟨bu, ou, hbu, hnu, hcu, hO6⟩ := hm.us.drop intC_flat (by omega)
     rw [hbd, hbu, hp, hul] at X
     rw [hul] at hO6 hcu
     have hdb := hsz.done
     clear hbd hbu hul hdl hnd hnu
     replace hp := hid hp
     replace hO5 := hid hO5; replace hO6 := hid hO6
     replace hPu := hid hPu; replace hI := hid hI; replace hm := hid hm; replace hsz := hid hsz
     go_enter Tryz.func37, Tryz.ntmps37
     go_upto_region 3 with (first
      | (refine ZyL ?_) | (refine ZyS ?_; clear X; intro w X) | (refine ZyA ?_; clear X; intro g w X))
     obtain ⟨b2, off2, hb2, d0, d1, d2⟩ := RL.at3 (fun x : Stp => .int .i64 x.kind) (fun x => .int .i64 x.at_) (fun x => .string x.text) (fun _ => rfl) (X.read mst) (k := 0) (Nat.zero_lt_succ _)
     cases hb2
     simp only [List.getElem_cons_zero, Nat.zero_mul, Nat.add_zero] at d0 d1 d2
     go_upto_region 7 with (first
      | (refine ZyL ?_) | (refine ZyS ?_; clear X; intro w X) | (refine ZyA ?_; clear X; intro g w X))
     (refine q_startS 3 [15] [9, 15] [4, 6, 8] [0, 1, 2, 3, 4, 5, 6, 7, 8, 9, 10, 11, 12, 13, 14, 15, 16] X ?_; clear X; intro hQ X hL; simp only [zF, zG] at hL; simp only [zF, zG])
     refine Zm ?_
     refine Zm ?_
     refine Zn ?_
     refine Zf ?_
     refine Zl ?_
     refine Zf ?_
     refine Zl ?_
     refine Zf ?_
     refine Zl ?_
     (refine q_callS 62 Tryz.func62 (hPu.out _ _ (X.jDisk hdk (fun r hr => List.mem_append_left _ hr))) ?_; rintro e w1 ⟨v1, rfl, hr1, hn1, hb1⟩; obtain ⟨as2, cs2, aw2, cw2, rfl, X2⟩ := X.addNewD hb1 hn1 (fun r hr => List.mem_append_left _ (jRds_dsk r hr)); replace X := X2; clear X2 hb1 hn1 hr1; refine Zce ?_; clear hL; intro hL)
     refine Zm ?_
     refine Zx ?_
     refine Zx ?_
     refine Zn ?_
     refine Zf ?_
     (refine Zb ?_; clear X; intro w X)
     refine Za ?_
     refine q_nil ?_
     go_upto_region 22 with (first
      | (refine ZyL ?_) | (refine ZyS ?_; clear X; intro w X) | (refine ZyA ?_; clear X; intro g w X))
     all_goals
      (refine q_startS 3 [27, 30, 33] [27, 30, 33] [6, 10, 14, 19, 23] [0, 1, 2, 3, 4, 5, 6, 7, 8, 9, 10, 11, 12, 13, 14, 15, 16, 17, 18, 19, 20, 21, 22, 23, 24, 25, 26, 27, 28, 29, 30, 31, 32, 33] X ?_; clear X; intro hQ X hL; simp only [zF, zG] at hL; simp only [zF, zG])
      refine Zm ?_
      refine Zm ?_
      refine Zm ?_
      refine Zm ?_
      refine Zn ?_
      refine Zf ?_
      refine Zl ?_
      refine Zm ?_
      refine Zn ?_
      refine Zf ?_
      refine Zl ?_
      refine Zm ?_
      refine Zn ?_
      refine Zf ?_
      refine Zl ?_
      refine Zg ?_
      refine Zm ?_
      refine Zn ?_
      refine Zf ?_
      refine Zl ?_
      refine Zm ?_
      refine Zn ?_
      refine Zf ?_
      refine Zl ?_
      refine Zg ?_
      refine Zn ?_
      refine Zf ?_
      (refine Zb ?_; clear X; intro w X)
      refine Zn ?_
      refine Zf ?_
      (refine Zb ?_; clear X; intro w X)
      refine Zn ?_
      refine Zf ?_
      (refine Zb ?_; clear X; intro w X)
      refine q_nil ?_
      go_wp2_with (first
       | (refine ZyL ?_) | (refine ZyS ?_; clear X; intro w X) | (refine ZyA ?_; clear X; intro g w X))
      all_goals
       rw [<- hp.out] at X
       refine m_ret1 rfl (.tmp rfl rfl) X (.tail _ (.head _)) rfl rfl ?_
       first
        | exact JMk1 (v := ⟨⟨as2, cs2⟩, ⟨aw2, cw2⟩, v.nm, v.nd, v.nr, v.sm, v.sd, v.sr, ⟨_, v.dn.c - j.done.length⟩, ⟨_, v.us.c - j.done.length⟩, ⟨_, v.st.c - 1⟩, v.ft⟩) [_, _] (X.addEmpty _ hmx).addNil ⟨hO5.out _ (by (dsimp only; generalize instDecidableEqNat v.dn.c j.done.length = dd; cases dd <;> first | exact .inl rfl | exact .inr ⟨by omega, rfl⟩)), hO6.out _ (by (dsimp only; rw [Nat.mul_one]; generalize instDecidableEqNat v.us.c j.done.length = dd; cases dd <;> first | exact .inl rfl | exact .inr ⟨by omega, rfl⟩)), rfl, hm.out.fmap, (fun x hx => by cases hx), hm.out.ffit, hI.out, ⟨hm.out.sz.1, Nat.zero_le _⟩⟩ (jRds_sub Zfl Zfl Zfl Zfl Zfl Zfl Zfl Zfl (.tail _ (.head _)) Zfl (fun r hr => .tail _ (.tail _ (.tail _ (.tail _ (inF_in r hr))))) (fun r hr => by cases hr) (fun r hr => .tail _ (.tail _ (.tail _ (.tail _ (List.mem_append_right _ hr)))))) rfl
        | exact JMk2 (v := ⟨⟨as2, cs2⟩, ⟨aw2, cw2⟩, v.nm, v.nd, v.nr, v.sm, v.sd, v.sr, ⟨_, v.dn.c - j.done.length⟩, ⟨_, v.us.c - j.done.length⟩, ⟨_, v.st.c - 1⟩, v.ft⟩) [_, _] (X.addEmpty _ hmx).addNil ⟨hO5.out _ (by (dsimp only; generalize instDecidableEqNat v.dn.c j.done.length = dd; cases dd <;> first | exact .inl rfl | exact .inr ⟨by omega, rfl⟩)), hO6.out _ (by (dsimp only; rw [Nat.mul_one]; generalize instDecidableEqNat v.us.c j.done.length = dd; cases dd <;> first | exact .inl rfl | exact .inr ⟨by omega, rfl⟩)), rfl, hm.out.fmap, (fun x hx => by cases hx), hm.out.ffit, hI.out, ⟨hm.out.sz.1, Nat.zero_le _⟩⟩ (jRds_sub Zfl Zfl Zfl Zfl Zfl Zfl Zfl Zfl (.tail _ (.head _)) Zfl (fun r hr => .tail _ (.tail _ (.tail _ (.tail _ (inF_in r hr))))) (fun r hr => by cases hr) (fun r hr => .tail _ (.tail _ (.tail _ (.tail _ (List.mem_append_right _ hr)))))) rfl
    ·unfold endJ at hI ⊢
     dsimp only at hI ⊢
     rw [if_neg (by rw [h3]; decide), if_neg (by rw [h3]; decide), if_pos h3] at hI ⊢
     dsimp only at hI ⊢
     have hw3 : (j.work == 1) = false := by rw [h3]; rfl
     have hw4 : (j.work == 2) = false := by rw [h3]; rfl
     have hw5 : (j.work == 3) = true := by rw [h3]; rfl
     clear h3
     have hfl : fs.length <= 25 := by have := hsz.found; rw [<- hm.fmap, List.length_map] at this; exact this
     replace hPu := hid hPu; replace hI := hid hI; replace hm := hid hm; replace hsz := hid hsz
     go_enter Tryz.func37, Tryz.ntmps37
     go_upto_region 3 with (first
      | (refine ZyL ?_) | (refine ZyS ?_; clear X; intro w X) | (refine ZyA ?_; clear X; intro g w X))
     obtain ⟨b2, off2, hb2, d0, d1, d2⟩ := RL.at3 (fun x : Stp => .int .i64 x.kind) (fun x => .int .i64 x.at_) (fun x => .string x.text) (fun _ => rfl) (X.read mst) (k := 0) (Nat.zero_lt_succ _)
     cases hb2
     simp only [List.getElem_cons_zero, Nat.zero_mul, Nat.add_zero] at d0 d1 d2
     go_upto_region 7 with (first
      | (refine ZyL ?_) | (refine ZyS ?_; clear X; intro w X) | (refine ZyA ?_; clear X; intro g w X))
     (refine q_startS 3 [15] [9, 15] [4, 6, 8] [0, 1, 2, 3, 4, 5, 6, 7, 8, 9, 10, 11, 12, 13, 14, 15, 16] X ?_; clear X; intro hQ X hL; simp only [zF, zG] at hL; simp only [zF, zG])
     refine Zm ?_
     refine Zm ?_
     refine Zn ?_
     refine Zf ?_
     refine Zl ?_
     refine Zf ?_
     refine Zl ?_
     refine Zf ?_
     refine Zl ?_
     (refine q_callS 62 Tryz.func62 (hPu.out _ _ (X.jDisk hdk (fun r hr => List.mem_append_left _ hr))) ?_; rintro e w1 ⟨v1, rfl, hr1, hn1, hb1⟩; obtain ⟨as2, cs2, aw2, cw2, rfl, X2⟩ := X.addNewD hb1 hn1 (fun r hr => List.mem_append_left _ (jRds_dsk r hr)); replace X := X2; clear X2 hb1 hn1 hr1; refine Zce ?_; clear hL; intro hL)
     refine Zm ?_
     refine Zx ?_
     refine Zx ?_
     refine Zn ?_
     refine Zf ?_
     (refine Zb ?_; clear X; intro w X)
     refine Za ?_
     refine q_nil ?_
     go_upto_region 24 with (first
      | (refine ZyL ?_) | (refine ZyS ?_; clear X; intro w X) | (refine ZyA ?_; clear X; intro g w X))
     all_goals
      have Xp := X.perm ((List.perm_append_comm (l₁ := [_, _]) (l₂ := [_])).append_right _)
      have hRi := hid (jr_rise (v := ⟨⟨as2, cs2⟩, ⟨aw2, cw2⟩, v.nm, v.nd, v.nr, v.sm, v.sd, v.sr, v.dn, v.us, ⟨_, v.st.c - 1⟩, v.ft⟩) (j := { j with disk := D, steps := [], work := 0 }) (fs := fs) Xp Zfl (fun r hr => .tail _ (.tail _ (inF_in r hr))) hm.out.fmap hfl hgd hnx)
      go_wp2_with (first
       | (refine ZyL ?_) | (refine ZyS ?_; clear X; intro w X) | (refine ZyA ?_; clear X; intro g w X)
       | (go_at_call 78; ((with_reducible refine (hRi.out).mono ?_); rintro e w1 ⟨u, rfl, X2⟩; replace X := X2.perm ((List.perm_append_comm (l₁ := [_]) (l₂ := [_, _])).append_right _); clear X2 Xp)))
      all_goals
       (try simp only [List.cons_append, List.nil_append] at X)
       refine m_ret1 rfl (.tmp rfl rfl) X (.tail _ (.head _)) rfl rfl ?_
       first
        | exact ⟨_, _, rfl, ⟨zeroV ⟨as2, cs2⟩ ⟨aw2, cw2⟩, [], [], [], [], ⟨.nil _ _ _, .nil _ _ _, rfl, rfl, (fun x hx => by cases hx), (fun x hx => by cases hx), hI.out, ⟨Nat.zero_le _, Nat.zero_le _⟩⟩, rfl, rfl⟩, X.jZero rfl rfl rfl rfl (List.Sublist.cons _ (List.Sublist.cons _ (List.Sublist.cons_cons _ hLL))) (fun r hr => List.mem_append_right _ hr)⟩
        | exact ⟨rfl, _, _, ⟨zeroV ⟨as2, cs2⟩ ⟨aw2, cw2⟩, [], [], [], [], ⟨.nil _ _ _, .nil _ _ _, rfl, rfl, (fun x hx => by cases hx), (fun x hx => by cases hx), hI.out, ⟨Nat.zero_le _, Nat.zero_le _⟩⟩, rfl, rfl⟩, X.jZero rfl rfl rfl rfl (List.Sublist.cons _ (List.Sublist.cons _ (List.Sublist.cons_cons _ hLL))) (fun r hr => List.mem_append_right _ hr)⟩
end Go.Proofs.YtjhmfljlclajnacGreatDoor
namespace Wb
open Go Go.RowKit
section
variable {P : Program} {ops : Array Oper} {Q : Exit -> Act -> World -> Prop} {L0 : List Ent} {R0 : List Rd} {brk eff lds : List Nat} {i : Nat} {r : List Nat} {o : Oper} {a : Act} {S : List Nat} {w0 w : World} {L : List Ent} {R : List Rd}
theorem exec_build5 {t e : TypeId} {bytes : Nat} [hT : SlT P t e 1 bytes] {x0 x1 x2 x3 x4 : Operand} (ho : o.op = .buildSlice t 5 #[(0, x0), (1, x1), (2, x2), (3, x3), (4, x4)]) {v0 v1 v2 v3 v4 : Value} (h0 : EvR a x0 v0) (h1 : EvR a x1 v1) (h2 : EvR a x2 v2) (h3 : EvR a x3 v3) (h4 : EvR a x4 v4)
    (c0 : v0.cells = #[v0]) (c1 : v1.cells = #[v1]) (c2 : v2.cells = #[v2]) (c3 : v3.cells = #[v3]) (c4 : v4.cells = #[v4]) :
    (execOp a.eval o).run P w = .ok (.value (.slice (some ⟨w.heap.size, 0, none⟩) 5 5)) (w.alloc (.cells #[v0, v1, v2, v3, v4] e)) := by
 have hr := run_build (w := w) hT.elem hT.pos [[v0], [v1], [v2], [v3], [v4]] [v0, v1, v2, v3, v4] (by simp [c0, c1, c2, c3, c4]) (by simp) (by simp) (by simp)
 simp at hr
 unfold execOp
 simp [ho, h0.eval, h1.eval, h2.eval, h3.eval, h4.eval, hr]
theorem q_build5 {t e : TypeId} {bytes : Nat} {x0 x1 x2 x3 x4 : Operand} (hi : oAt ops i = some o) (ho : o.op = .buildSlice t 5 #[(0, x0), (1, x1), (2, x2), (3, x3), (4, x4)]) [hT : SlT P t e 1 bytes] {v0 v1 v2 v3 v4 : Value} (h0 : EvR a x0 v0) (h1 : EvR a x1 v1) (h2 : EvR a x2 v2) (h3 : EvR a x3 v3) (h4 : EvR a x4 v4)
    (c0 : v0.cells = #[v0]) (c1 : v1.cells = #[v1]) (c2 : v2.cells = #[v2]) (c3 : v3.cells = #[v3]) (c4 : v4.cells = #[v4]) (X : St S w0 w L R) (hL : Under L0 R0 L R) (he : eff.contains i = true) (hw : Region.wanted o (yielded ops a.tmps) = true)
    (h : ∀ g w', St S w0 w' (⟨g, [v0, v1, v2, v3, v4], e⟩ :: L) R -> Under L0 R0 (⟨g, [v0, v1, v2, v3, v4], e⟩ :: L) R -> SQ P ops Q L0 R0 brk eff lds r (a.put o.dst (.slice (some ⟨g, 0, none⟩) 5 5)) w') : SQ P ops Q L0 R0 brk eff lds (i :: r) a w :=
 q_eff hi he hw fun K hk => by
  have hL' : Under L0 R0 ((⟨w.heap.size, [v0, v1, v2, v3, v4], e⟩ : Ent) :: L) R := ⟨hL.l.cons _, hL.r⟩
  unfold Oper.wp
  rw [exec_build5 ho h0 h1 h2 h3 h4 c0 c1 c2 c3 c4]
  exact hk _ _ (fun _ _ => (X.alloc [v0, v1, v2, v3, v4] e).keeps hL') (h _ _ (X.alloc [v0, v1, v2, v3, v4] e) hL')
end
theorem InvJ.goods {j : Jn} (h : InvJ j) : ∀ t ∈ j.done, goodT t = true := by
 cases h with
 | idle hd hw hu hn hs => exact hu.log.goods
 | sealing d r us k hd hw hu => exact hu.log.goods
 | homing d k hd hw hu => exact hu.log.goods
 | off hj hu => rw [hj]; intro t ht; cases ht
 | rising d k hj hu hk hdk => rw [hj]; intro t ht; cases ht
theorem nth_roles (v : JV) (j : Jn) {k : Nat} (hk : k < 12) : nth (jCells v j) (27 + k) = some (.int .i64 (j.roles k)) := by
 have h : k = 0 \/ k = 1 \/ k = 2 \/ k = 3 \/ k = 4 \/ k = 5 \/ k = 6 \/ k = 7 \/ k = 8 \/ k = 9 \/ k = 10 \/ k = 11 := by omega
 rcases h with rfl | rfl | rfl | rfl | rfl | rfl | rfl | rfl | rfl | rfl | rfl | rfl <;> rfl
theorem nth_freed (v : JV) (j : Jn) {k : Nat} (hk : k < 12) : nth (jCells v j) (39 + k) = some (.int .i64 (j.freed k)) := by
 have h : k = 0 \/ k = 1 \/ k = 2 \/ k = 3 \/ k = 4 \/ k = 5 \/ k = 6 \/ k = 7 \/ k = 8 \/ k = 9 \/ k = 10 \/ k = 11 := by omega
 rcases h with rfl | rfl | rfl | rfl | rfl | rfl | rfl | rfl | rfl | rfl | rfl | rfl <;> rfl
end Wb
namespace Go.Proofs.YtjhmfljlclajnacGreatDoor
open Go.RowKit Wb
instance : SlT Tryz.prog 113 34 1 24 := ⟨Elem.mk' (z := .slice none 0 0) Tryz.underlying113 (by kernel_rfl) rfl, by decide, by decide, by decide⟩
theorem jr_read (K : JK) {S : List Nat} {w0 w : World} {L : List Ent} {R : List Rd} {gj : Nat} {j : Jn} {M : List Ent} {Rj : List Rd} (F : JF gj j M Rj) (X : St S w0 w (M ++ L) (Rj ++ R)) (b : Int) :
    Calls Tryz.prog 40 #[.pointer (some ⟨gj, 0, none⟩), .int .i64 b] w fun e w' => ∃ M' Rj', e = .returned (readJ j b).val /\ JF gj j M' Rj' /\ St S w0 w' (M' ++ L) (Rj' ++ R) := by
 obtain ⟨v, ds, fs, MD, MU, hm, rfl, rfl⟩ := F
 have hsz := hm.inv.sz hm.sz
 have hdk := hsz.dk
 rw [List.cons_append, List.append_assoc] at X
 unfold jCells at X
 by_cases hb : isBlk b = true
 ·have hb2 : 0 <= b /\ b < 12 := of_decide_eq_true hb
  have hJ : readJ j b = ⟨0, j.roles b, (firstC j b).getD (readD j.disk (25 + b))⟩ := by unfold readJ; rw [if_pos hb]
  rw [hJ]
  clear hJ hb
  obtain ⟨n, rfl⟩ : ∃ n : Nat, b = n := ⟨b.toNat, by omega⟩
  have hn12 : n < 12 := by omega
  clear hb2
  have hro := nth_roles v j hn12
  have hwb : IntKind.i64.wrap (25 + (n : Int)) = 25 + (n : Int) := IntWalk.i64_in _ (by omega)
  have hNw := fun v w (h : RTxns w v j.done) => K.newest j.done hm.inv.goods v w h
  have hnl : (newestL j.done).length <= 5864062014805 := Nat.le_trans (newestL_len _) (by decide)
  have hGt := fun (l : List Cpy) v w (h : RL cpyC w v l) (hl : l.length <= 5864062014805) => K.get l (n : Int) v w h hl
  have hRd := fun v w (h : RDisk w v j.disk) => K.read j.disk (25 + (n : Int)) v w h
  have hfc : firstC j n = (getC j.now.mt (n : Int)).or ((getC j.now.dt (n : Int)).or ((getC j.sealed.mt (n : Int)).or ((getC j.sealed.dt (n : Int)).or (getC (newestL j.done) (n : Int))))) := rfl
  generalize firstC j n = fc at *
  generalize readD j.disk (25 + (n : Int)) = rd at *
  generalize readE j.disk (25 + (n : Int)) = re at *
  generalize newestL j.done = NL at *
  replace hNw := hid hNw; replace hGt := hid hGt; replace hRd := hid hRd; replace hfc := hid hfc; replace hm := hid hm; replace hsz := hid hsz
  go_enter Tryz.func40, Tryz.ntmps40
  go_upto_region 3 with (first
   | (refine ZyL ?_) | (refine ZyS ?_; clear X; intro w X) | (refine ZyA ?_; clear X; intro g w X))
  (refine q_startS 2 [] [24, 25] [4, 9, 14, 19, 23] [0, 1, 2, 3, 4, 5, 6, 7, 8, 9, 10, 11, 12, 13, 14, 15, 16, 17, 18, 19, 20, 21, 22, 23, 27, 24, 25, 26] X ?_; clear X; intro hQ X hL; simp only [zF, zG] at hL; simp only [zF, zG])
  refine Zm ?_
  refine Zn ?_
  refine Zf ?_
  refine Zf ?_
  refine Zl ?_
  refine Zm ?_
  refine Zn ?_
  refine Zf ?_
  refine Zf ?_
  refine Zl ?_
  refine Zm ?_
  refine Zn ?_
  refine Zf ?_
  refine Zf ?_
  refine Zl ?_
  refine Zm ?_
  refine Zn ?_
  refine Zf ?_
  refine Zf ?_
  refine Zl ?_
  refine Zm ?_
  refine Zn ?_
  refine Zf ?_
  refine Zl ?_
  refine Zm ?_
  (refine q_callS 82 Tryz.func82 (hNw.out _ _ (St.jDone (A := [_, _]) (T := MU ++ L) (MU := MU) X hm.out hsz.out (fun r hr => List.mem_append_left _ hr))) ?_; rintro e w1 ⟨v1, rfl, ho1, hb1⟩; obtain ⟨a1, c1, rfl⟩ := ho1.form; replace X := X.addOwn hb1 ho1; clear hb1 ho1; refine Zce ?_; clear hL; intro hL)
  (refine q_build5 rfl rfl Zev Zev Zev Zev Zev rfl rfl rfl rfl rfl X hL rfl rfl ?_; intro g w X2 hL2; replace X := X2; replace hL := hL2; clear X2 hL2; (simp only [Act.put, zA, zB, zC, zD, zE, zF, zG, Nat.reduceAdd]))
  refine Zg ?_
  refine q_nil ?_
  go_wp2_with (first
   | (refine ZyL ?_) | (refine ZyS ?_; clear X; intro w X) | (refine ZyA ?_; clear X; intro g w X))
  have m0 : Rd.of cpyC (.slice v.nm.a j.now.mt.length v.nm.c) j.now.mt ∈ Rd.of cpyC (.slice a1 NL.length c1) NL :: (jRds v j ds fs ++ R) := (.tail _ (List.mem_append_left _ (.tail _ (.tail _ (.head _)))))
  have m1 : Rd.of cpyC (.slice v.nd.a j.now.dt.length v.nd.c) j.now.dt ∈ Rd.of cpyC (.slice a1 NL.length c1) NL :: (jRds v j ds fs ++ R) := (.tail _ (List.mem_append_left _ (.tail _ (.tail _ (.tail _ (.head _))))))
  have m2 : Rd.of cpyC (.slice v.sm.a j.sealed.mt.length v.sm.c) j.sealed.mt ∈ Rd.of cpyC (.slice a1 NL.length c1) NL :: (jRds v j ds fs ++ R) := (.tail _ (List.mem_append_left _ (.tail _ (.tail _ (.tail _ (.tail _ (.tail _ (.head _))))))))
  have m3 : Rd.of cpyC (.slice v.sd.a j.sealed.dt.length v.sd.c) j.sealed.dt ∈ Rd.of cpyC (.slice a1 NL.length c1) NL :: (jRds v j ds fs ++ R) := (.tail _ (List.mem_append_left _ (.tail _ (.tail _ (.tail _ (.tail _ (.tail _ (.tail _ (.head _)))))))))
  have m4 : Rd.of cpyC (.slice a1 NL.length c1) NL ∈ Rd.of cpyC (.slice a1 NL.length c1) NL :: (jRds v j ds fs ++ R) := .head _
  clear hNw
  obtain ⟨g5, g4, rfl, rfl⟩ := X.nm2
  go_loopw [45] (fun i wr => ∃ k : Nat, k <= 5 /\ i = .int .i64 k /\ ((0 < k -> getC j.now.mt (n : Int) = none) /\ (1 < k -> getC j.now.dt (n : Int) = none) /\ (2 < k -> getC j.sealed.mt (n : Int) = none) /\ (3 < k -> getC j.sealed.dt (n : Int) = none) /\ (4 < k -> getC NL (n : Int) = none)) /\ St S w0 wr (⟨g5, [.slice v.nm.a j.now.mt.length v.nm.c, .slice v.nd.a j.now.dt.length v.nd.c, .slice v.sm.a j.sealed.mt.length v.sm.c, .slice v.sd.a j.sealed.dt.length v.sd.c, .slice a1 NL.length c1], 34⟩ :: ⟨g4, [.int .i64 0, .int .i64 0, .string ⟨#[]⟩], 31⟩ :: ⟨gj, jCells v j, 82⟩ :: (MD ++ (MU ++ L))) (Rd.of cpyC (.slice a1 NL.length c1) NL :: (jRds v j ds fs ++ R))) (fun i _ => 5 - (intOf i).toNat)
  case atStart => exact ⟨0, by omega, rfl, ⟨fun h => absurd h (by omega), fun h => absurd h (by omega), fun h => absurd h (by omega), fun h => absurd h (by omega), fun h => absurd h (by omega)⟩, X⟩
  case round =>
   clear X
   obtain ⟨k, hk, rfl, hn, X⟩ := hrel
   unfold jCells at X
   have h5 : k = 0 \/ k = 1 \/ k = 2 \/ k = 3 \/ k = 4 \/ k = 5 := by omega
   rcases h5 with rfl | rfl | rfl | rfl | rfl | rfl
   ·have hg := hGt.out j.now.mt
    clear hn
    cases hq : getC j.now.mt (n : Int) with
    | some s0 =>
     rw [hq] at hg
     have hfs : fc = some s0 := by rw [hfc.out]; simp only [hq]; rfl
     subst hfs
     simp only [Option.getD_some, Option.isSome_some] at hg ⊢
     replace hg := hid hg
     clear hfc hq
     go_wp2_with (first
      | (refine ZyL ?_) | (refine ZyS ?_; clear X; intro w X) | (refine ZyA ?_; clear X; intro g w X)
      | (go_at_call 83; ((with_reducible refine (hg.out _ _ (X.read m0) (by have := hsz.out.now; omega)).mono ?_); rintro e w1 ⟨rfl, hb1⟩; replace X := X.call hb1; clear hb1))
      | (refine at_mem rfl ?_; refine at_load rfl ?_; refine c_load1 rfl _ _ rfl rfl X (by first | exact ReadA.here hro | exact ReadA.there (ReadA.here hro) | exact ReadA.there (ReadA.there (ReadA.here hro))) ?_; (simp only [Act.put, zA, zB, zC, zD, zE, zF, zG, Nat.reduceAdd])))
     refine m_ret1 rfl (.tmp rfl rfl) X (.tail _ (.head _)) rfl rfl ?_
     first
      | exact JMk1 (v := v) [_, _] X hm.out (fun r hr => .tail _ hr) rfl
      | exact JMk2 (v := v) [_, _] X hm.out (fun r hr => .tail _ hr) rfl
    | none =>
     rw [hq] at hg
     simp only [Option.getD_none, Option.isSome_none] at hg
     replace hg := hid hg
     replace hq := hid hq
     go_wp2_with (first
      | (refine ZyL ?_) | (refine ZyS ?_; clear X; intro w X) | (refine ZyA ?_; clear X; intro g w X)
      | (go_at_call 83; ((with_reducible refine (hg.out _ _ (X.read m0) (by have := hsz.out.now; omega)).mono ?_); rintro e w1 ⟨rfl, hb1⟩; replace X := X.call hb1; clear hb1)))
     go_roundw
     case rel => exact ⟨1, by omega, rfl, ⟨fun _ => by first | exact trivial | exact hq.out | rfl, fun h => absurd h (by omega), fun h => absurd h (by omega), fun h => absurd h (by omega), fun h => absurd h (by omega)⟩, X⟩
     case measure => simp [intOf]
   ·have hg := hGt.out j.now.dt
    have h0 := hn.1 (by omega)
    clear hn
    cases hq : getC j.now.dt (n : Int) with
    | some s0 =>
     rw [hq] at hg
     have hfs : fc = some s0 := by rw [hfc.out]; simp only [h0, hq]; rfl
     subst hfs
     simp only [Option.getD_some, Option.isSome_some] at hg ⊢
     replace hg := hid hg
     clear hfc hq
     go_wp2_with (first
      | (refine ZyL ?_) | (refine ZyS ?_; clear X; intro w X) | (refine ZyA ?_; clear X; intro g w X)
      | (go_at_call 83; ((with_reducible refine (hg.out _ _ (X.read m1) (by have := hsz.out.now; omega)).mono ?_); rintro e w1 ⟨rfl, hb1⟩; replace X := X.call hb1; clear hb1))
      | (refine at_mem rfl ?_; refine at_load rfl ?_; refine c_load1 rfl _ _ rfl rfl X (by first | exact ReadA.here hro | exact ReadA.there (ReadA.here hro) | exact ReadA.there (ReadA.there (ReadA.here hro))) ?_; (simp only [Act.put, zA, zB, zC, zD, zE, zF, zG, Nat.reduceAdd])))
     refine m_ret1 rfl (.tmp rfl rfl) X (.tail _ (.head _)) rfl rfl ?_
     first
      | exact JMk1 (v := v) [_, _] X hm.out (fun r hr => .tail _ hr) rfl
      | exact JMk2 (v := v) [_, _] X hm.out (fun r hr => .tail _ hr) rfl
    | none =>
     rw [hq] at hg
     simp only [Option.getD_none, Option.isSome_none] at hg
     replace hg := hid hg
     replace hq := hid hq
     go_wp2_with (first
      | (refine ZyL ?_) | (refine ZyS ?_; clear X; intro w X) | (refine ZyA ?_; clear X; intro g w X)
      | (go_at_call 83; ((with_reducible refine (hg.out _ _ (X.read m1) (by have := hsz.out.now; omega)).mono ?_); rintro e w1 ⟨rfl, hb1⟩; replace X := X.call hb1; clear hb1)))
     go_roundw
     case rel => exact ⟨2, by omega, rfl, ⟨fun _ => h0, fun _ => by first | exact trivial | exact hq.out | rfl, fun h => absurd h (by omega), fun h => absurd h (by omega), fun h => absurd h (by omega)⟩, X⟩
     case measure => simp [intOf]
   ·have hg := hGt.out j.sealed.mt
    have h0 := hn.1 (by omega)
    have h1 := hn.2.1 (by omega)
    clear hn
    cases hq : getC j.sealed.mt (n : Int) with
    | some s0 =>
     rw [hq] at hg
     have hfs : fc = some s0 := by rw [hfc.out]; simp only [h0, h1, hq]; rfl
     subst hfs
     simp only [Option.getD_some, Option.isSome_some] at hg ⊢
     replace hg := hid hg
     clear hfc hq
     go_wp2_with (first
      | (refine ZyL ?_) | (refine ZyS ?_; clear X; intro w X) | (refine ZyA ?_; clear X; intro g w X)
      | (go_at_call 83; ((with_reducible refine (hg.out _ _ (X.read m2) (by have := hsz.out.sealed; omega)).mono ?_); rintro e w1 ⟨rfl, hb1⟩; replace X := X.call hb1; clear hb1))
      | (refine at_mem rfl ?_; refine at_load rfl ?_; refine c_load1 rfl _ _ rfl rfl X (by first | exact ReadA.here hro | exact ReadA.there (ReadA.here hro) | exact ReadA.there (ReadA.there (ReadA.here hro))) ?_; (simp only [Act.put, zA, zB, zC, zD, zE, zF, zG, Nat.reduceAdd])))
     refine m_ret1 rfl (.tmp rfl rfl) X (.tail _ (.head _)) rfl rfl ?_
     first
      | exact JMk1 (v := v) [_, _] X hm.out (fun r hr => .tail _ hr) rfl
      | exact JMk2 (v := v) [_, _] X hm.out (fun r hr => .tail _ hr) rfl
    | none =>
     rw [hq] at hg
     simp only [Option.getD_none, Option.isSome_none] at hg
     replace hg := hid hg
     replace hq := hid hq
     go_wp2_with (first
      | (refine ZyL ?_) | (refine ZyS ?_; clear X; intro w X) | (refine ZyA ?_; clear X; intro g w X)
      | (go_at_call 83; ((with_reducible refine (hg.out _ _ (X.read m2) (by have := hsz.out.sealed; omega)).mono ?_); rintro e w1 ⟨rfl, hb1⟩; replace X := X.call hb1; clear hb1)))
     go_roundw
     case rel => exact ⟨3, by omega, rfl, ⟨fun _ => h0, fun _ => h1, fun _ => by first | exact trivial | exact hq.out | rfl, fun h => absurd h (by omega), fun h => absurd h (by omega)⟩, X⟩
     case measure => simp [intOf]
   ·have hg := hGt.out j.sealed.dt
    have h0 := hn.1 (by omega)
    have h1 := hn.2.1 (by omega)
    have h2 := hn.2.2.1 (by omega)
    clear hn
    cases hq : getC j.sealed.dt (n : Int) with
    | some s0 =>
     rw [hq] at hg
     have hfs : fc = some s0 := by rw [hfc.out]; simp only [h0, h1, h2, hq]; rfl
     subst hfs
     simp only [Option.getD_some, Option.isSome_some] at hg ⊢
     replace hg := hid hg
     clear hfc hq
     go_wp2_with (first
      | (refine ZyL ?_) | (refine ZyS ?_; clear X; intro w X) | (refine ZyA ?_; clear X; intro g w X)
      | (go_at_call 83; ((with_reducible refine (hg.out _ _ (X.read m3) (by have := hsz.out.sealed; omega)).mono ?_); rintro e w1 ⟨rfl, hb1⟩; replace X := X.call hb1; clear hb1))
      | (refine at_mem rfl ?_; refine at_load rfl ?_; refine c_load1 rfl _ _ rfl rfl X (by first | exact ReadA.here hro | exact ReadA.there (ReadA.here hro) | exact ReadA.there (ReadA.there (ReadA.here hro))) ?_; (simp only [Act.put, zA, zB, zC, zD, zE, zF, zG, Nat.reduceAdd])))
     refine m_ret1 rfl (.tmp rfl rfl) X (.tail _ (.head _)) rfl rfl ?_
     first
      | exact JMk1 (v := v) [_, _] X hm.out (fun r hr => .tail _ hr) rfl
      | exact JMk2 (v := v) [_, _] X hm.out (fun r hr => .tail _ hr) rfl
    | none =>
     rw [hq] at hg
     simp only [Option.getD_none, Option.isSome_none] at hg
     replace hg := hid hg
     replace hq := hid hq
     go_wp2_with (first
      | (refine ZyL ?_) | (refine ZyS ?_; clear X; intro w X) | (refine ZyA ?_; clear X; intro g w X)
      | (go_at_call 83; ((with_reducible refine (hg.out _ _ (X.read m3) (by have := hsz.out.sealed; omega)).mono ?_); rintro e w1 ⟨rfl, hb1⟩; replace X := X.call hb1; clear hb1)))
     go_roundw
     case rel => exact ⟨4, by omega, rfl, ⟨fun _ => h0, fun _ => h1, fun _ => h2, fun _ => by first | exact trivial | exact hq.out | rfl, fun h => absurd h (by omega)⟩, X⟩
     case measure => simp [intOf]
   ·have hg := hGt.out NL
    have h0 := hn.1 (by omega)
    have h1 := hn.2.1 (by omega)
    have h2 := hn.2.2.1 (by omega)
    have h3 := hn.2.2.2.1 (by omega)
    clear hn
    cases hq : getC NL (n : Int) with
    | some s0 =>
     rw [hq] at hg
     have hfs : fc = some s0 := by rw [hfc.out]; simp only [h0, h1, h2, h3, hq]; rfl
     subst hfs
     simp only [Option.getD_some, Option.isSome_some] at hg ⊢
     replace hg := hid hg
     clear hfc hq
     go_wp2_with (first
      | (refine ZyL ?_) | (refine ZyS ?_; clear X; intro w X) | (refine ZyA ?_; clear X; intro g w X)
      | (go_at_call 83; ((with_reducible refine (hg.out _ _ (X.read m4) hnl).mono ?_); rintro e w1 ⟨rfl, hb1⟩; replace X := X.call hb1; clear hb1))
      | (refine at_mem rfl ?_; refine at_load rfl ?_; refine c_load1 rfl _ _ rfl rfl X (by first | exact ReadA.here hro | exact ReadA.there (ReadA.here hro) | exact ReadA.there (ReadA.there (ReadA.here hro))) ?_; (simp only [Act.put, zA, zB, zC, zD, zE, zF, zG, Nat.reduceAdd])))
     refine m_ret1 rfl (.tmp rfl rfl) X (.tail _ (.head _)) rfl rfl ?_
     first
      | exact JMk1 (v := v) [_, _] X hm.out (fun r hr => .tail _ hr) rfl
      | exact JMk2 (v := v) [_, _] X hm.out (fun r hr => .tail _ hr) rfl
    | none =>
     rw [hq] at hg
     simp only [Option.getD_none, Option.isSome_none] at hg
     replace hg := hid hg
     replace hq := hid hq
     go_wp2_with (first
      | (refine ZyL ?_) | (refine ZyS ?_; clear X; intro w X) | (refine ZyA ?_; clear X; intro g w X)
      | (go_at_call 83; ((with_reducible refine (hg.out _ _ (X.read m4) hnl).mono ?_); rintro e w1 ⟨rfl, hb1⟩; replace X := X.call hb1; clear hb1)))
     go_roundw
     case rel => exact ⟨5, by omega, rfl, ⟨fun _ => h0, fun _ => h1, fun _ => h2, fun _ => h3, fun _ => by first | exact trivial | exact hq.out | rfl⟩, X⟩
     case measure => simp [intOf]
   ·have h0 := hn.1 (by omega)
    have h1 := hn.2.1 (by omega)
    have h2 := hn.2.2.1 (by omega)
    have h3 := hn.2.2.2.1 (by omega)
    have h4 := hn.2.2.2.2 (by omega)
    clear hn
    have hfs : fc = none := by rw [hfc.out]; simp only [h0, h1, h2, h3, h4]; rfl
    subst hfs
    (try simp only [Option.getD_none])
    clear hfc h0 h1 h2 h3 h4
    go_wp2_with (first
     | (refine ZyL ?_) | (refine ZyS ?_; clear X; intro w X) | (refine ZyA ?_; clear X; intro g w X)
     | (go_at_call 67; ((with_reducible refine (hRd.out _ _ (X.jDisk hdk (fun r hr => List.Mem.tail _ (List.mem_append_left _ hr)))).mono ?_); rintro e w1 ⟨rfl, hb1⟩; replace X := X.call hb1; clear hb1))
     | (refine at_mem rfl ?_; refine at_load rfl ?_; refine c_load1 rfl _ _ rfl rfl X (by first | exact ReadA.here hro | exact ReadA.there (ReadA.here hro) | exact ReadA.there (ReadA.there (ReadA.here hro))) ?_; (simp only [Act.put, zA, zB, zC, zD, zE, zF, zG, Nat.reduceAdd])))
    refine m_ret1 rfl (.tmp rfl rfl) X (.tail _ (.head _)) rfl rfl ?_
    first
     | exact JMk1 (v := v) [_, _] X hm.out (fun r hr => .tail _ hr) rfl
     | exact JMk2 (v := v) [_, _] X hm.out (fun r hr => .tail _ hr) rfl
 ·have hJ : readJ j b = noR 4 := by unfold readJ; rw [if_neg hb]
  rw [hJ]
  have hb2 : ¬ (0 <= b /\ b < 12) := fun h => hb (decide_eq_true h)
  clear hJ hb
  by_cases hlt : b < 0
  ·go_enter Tryz.func40, Tryz.ntmps40
   go_wp2_with (first
    | (refine ZyL ?_) | (refine ZyS ?_; clear X; intro w X) | (refine ZyA ?_; clear X; intro g w X))
   refine m_ret1 rfl (.tmp rfl rfl) X (.head _) rfl rfl ?_
   first
    | exact JMk1 (v := v) [_] X hm (fun r hr => hr) rfl
    | exact JMk2 (v := v) [_] X hm (fun r hr => hr) rfl
  ·have hge : (12 : Int) <= b := by omega
   go_enter Tryz.func40, Tryz.ntmps40
   go_wp2_with (first
    | (refine ZyL ?_) | (refine ZyS ?_; clear X; intro w X) | (refine ZyA ?_; clear X; intro g w X))
   refine m_ret1 rfl (.tmp rfl rfl) X (.head _) rfl rfl ?_
   first
    | exact JMk1 (v := v) [_] X hm (fun r hr => hr) rfl
    | exact JMk2 (v := v) [_] X hm (fun r hr => hr) rfl
end Go.Proofs.YtjhmfljlclajnacGreatDoor
namespace Wb
open Go Go.RowKit
theorem inv_seen {j : Jn} (h : InvJ j) : goodR j.ring = true /\ (j.down = false -> goodT j.now = true /\ j.last < j.now.seq) := by
 cases h with
 | idle hd hw hu hn hs => exact ⟨hu.ring, fun _ => ⟨hn.good, by rw [hn.seq]; omega⟩⟩
 | sealing d r us k hd hw hu hn he hq hq2 hr hus hk hdk hst => exact ⟨by rw [hr]; exact (comR_used he).1, fun _ => ⟨hn.good, by rw [hn.seq]; omega⟩⟩
 | homing d k hd hw hu hn hs hp ha hk hdk hst => exact ⟨hu.ring, fun _ => ⟨hn.good, by rw [hn.seq]; omega⟩⟩
 | off hj hu => rw [hj]; exact ⟨(by decide : goodR ⟨0, 0⟩ = true), fun h => by cases h⟩
 | rising d k hj hu hk hdk => rw [hj]; exact ⟨(by decide : goodR ⟨0, 0⟩ = true), fun h => by cases h⟩
end Wb
